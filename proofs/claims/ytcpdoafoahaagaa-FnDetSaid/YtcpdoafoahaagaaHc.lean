/- DERIVED. What the functions compute, and that they do. -/
import Derived.Test.YtcpdoafoahaagaaHb

set_option linter.all false
set_option linter.unusedVariables false
set_option linter.unusedSimpArgs false

namespace Go.Ev
open Go Go.Proofs Go.RowKit Go.Shelf
def f147 (n : Nat) (a0 : Bool) : Option Int :=
 bif a0 then
  some 1
 else
  some 0
def f147_E (n : Nat) : Ent := ⟨147, [.bool], [hI], fun x => f147 n x⟩
def f147_D (α : Type) (n : Nat) : D3 α := { reg := [], join := [], loop := [] }
theorem f147_ents (α : Type) (n : Nat) : AllS Try.prog (entsOf (f147_D α n).reg) := trivial
theorem f147_d (α : Type) (n : Nat) : D3.OK Try.prog (tyOf Try.prog) ⟨4, []⟩ (f147_D α n) (bodyOf Try.f147) :=
 D3.OK.mk3 (f147_ents α n) (show loopsOf (bodyOf Try.f147) = [] by kernel_rfl) trivial
theorem f147_ok (n : Nat) : (f147_E n).Sound Try.prog :=
 fn_ok (tyOf_ok _) prog_fol (f147_D _ n) (show Try.prog.funcs[147]? = some Try.f147 by kernel_rfl) (by kernel_rfl) (show Try.f147.body = some (bodyOf Try.f147) by kernel_rfl) rfl rfl (Nat.le_of_ble_eq_true rfl) (f147_d _ n) (by intro x; kernel_rfl) 

def f123_L4B {α : Type} (n : Nat) (s0 s1 : LI) (s5 : Int) (f : LI → LI → Int → Option α) (k0 : Int → Option α) (k1 : Unit → Option α) : Option α :=
 bif (decide (s5 ≥ 0)) then
  gd (decide (0 ≤ s5) && decide (s5 < (s0.length : Int))) (
   gd (decide (0 ≤ s5) && decide (s5 < (s1.length : Int))) (
    bif ((s0.getD s5.toNat 0) != (s1.getD s5.toNat 0)) then
     gd (decide (0 ≤ s5) && decide (s5 < (s0.length : Int))) (
      gd (decide (0 ≤ s5) && decide (s5 < (s1.length : Int))) (
       ob (f147 n (decide ((s0.getD s5.toNat 0) > (s1.getD s5.toNat 0)))) fun r_2 =>
       k0 (W ((W (2 * r_2)) - 1))))
    else
     f s0 s1 (W (s5 - 1))))
 else
  k1 ()
abbrev f123_L4H : Tm := ⟨[(0, .d hIs), (1, .d hIs), (5, .d hI)], [], [], []⟩
abbrev f123_L4X0 : Tm := ⟨[(4, .d hI)], [], [], []⟩
abbrev f123_L4X1 : Tm := ⟨[], [], [], []⟩
abbrev f123_L4O : List (Exit × Tm) := [(.ret, f123_L4X0), (.exit 0, f123_L4X1)]
def f123_L4U {α : Type} (n : Nat) (v : f123_L4H.den) (f : f123_L4H.den → Option α) (ks : KS α f123_L4O) : Option α := f123_L4B n v.1.1 v.1.2.1 v.1.2.2.1 (fun s0 s1 s5 => f ((s0, s1, s5, ()), ())) (fun w0 => ks.1 ((w0, ()), ())) (fun _ => ks.2.1 ((), ()))
def f123_L4 {α : Type} (n m : Nat) (s0 s1 : LI) (s5 : Int) (k0 : Int → Option α) (k1 : Unit → Option α) : Option α := rounds (f123_L4U n) m ((s0, s1, s5, ()), ()) (fun w => k0 w.1.1, fun w => k1 (), ())
theorem f123_L4_0 {α n s0 s1 s5 k0 k1} : f123_L4 (α := α) n 0 s0 s1 s5 k0 k1 = none := rfl
theorem f123_L4_s {α n m s0 s1 s5 k0 k1} : f123_L4 (α := α) n (m + 1) s0 s1 s5 k0 k1 = f123_L4B n s0 s1 s5 (fun s0 s1 s5 => f123_L4 n m s0 s1 s5 k0 k1) k0 k1 := rfl
def f123 (n : Nat) (a0 a1 : LI) : Option Int :=
 bif ((a0.length : Int) != (a1.length : Int)) then
  ob (f147 n (decide ((a0.length : Int) > (a1.length : Int)))) fun r_1 =>
  some (W ((W (2 * r_1)) - 1))
 else
  f123_L4 n n a0 a1 (W ((a0.length : Int) - 1))
   (fun z_3 => (
    some z_3))
   (fun (_ : Unit) => (
    some 0))
def f123_E (n : Nat) : Ent := ⟨123, [hIs, hIs], [hI], fun x => f123 n x.1 x.2⟩
def f123_D (α : Type) (n : Nat) : D3 α := { reg := [(2, ⟨0, [], [(5, { ent := some (f147_E n) })]⟩), (6, ⟨8, [], []⟩), (7, ⟨8, [], [(9, { ent := some (f147_E n) })]⟩)], join := [], loop := [(4, ⟨f123_L4H, f123_L4O, rounds (f123_L4U n) n⟩)] }
theorem f123_ents (α : Type) (n : Nat) : AllS Try.prog (entsOf (f123_D α n).reg) := ⟨f147_ok n, f147_ok n, trivial⟩
theorem f123_L4_d (α : Type) (n : Nat) : D3.OK Try.prog (tyOf Try.prog) ⟨47, []⟩ (f123_D α n) ((bodyOf Try.f123).at [1, 1, 0, 1, 0, 0]) :=
 D3.OK.mk3 (f123_ents α n) (show loopsOf ((bodyOf Try.f123).at [1, 1, 0, 1, 0, 0]) = [] by kernel_rfl) trivial
theorem f123_L4_ok (α : Type) (n : Nat) : LO.Sound (α := α) Try.prog ⟨47, []⟩ ⟨f123_L4H, f123_L4O, rounds (f123_L4U n) n⟩ (.loop ((bodyOf Try.f123).at [1, 1, 0, 1, 0, 0])) :=
 loop_ok (tyOf_ok _) prog_fol (f123_L4U n) (f123_L4_d α n) (by intro v f ks; kernel_rfl) n
theorem f123_d (α : Type) (n : Nat) : D3.OK Try.prog (tyOf Try.prog) ⟨47, []⟩ (f123_D α n) (bodyOf Try.f123) :=
 D3.OK.mk3 (f123_ents α n) (show loopsOf (bodyOf Try.f123) = [(4, (.loop ((bodyOf Try.f123).at [1, 1, 0, 1, 0, 0])))] by kernel_rfl) ⟨look_sound rfl (f123_L4_ok α n), trivial⟩
theorem f123_ok (n : Nat) : (f123_E n).Sound Try.prog :=
 fn_ok (tyOf_ok _) prog_fol (f123_D _ n) (show Try.prog.funcs[123]? = some Try.f123 by kernel_rfl) (by kernel_rfl) (show Try.f123.body = some (bodyOf Try.f123) by kernel_rfl) rfl rfl (Nat.le_of_ble_eq_true rfl) (f123_d _ n) (by intro x; kernel_rfl) 

def f126_L7B {α : Type} (n : Nat) (s0 s1 : LI) (s6 s7 s8 : Int) (b16 : LI) (f : LI → LI → Int → Int → Int → LI → Option α) (k0 : LI → LI → Int → LI → Option α) : Option α :=
 let J_3 := fun (_ : Unit) => (
  gd (decide (0 ≤ (W (s6 + s8))) && decide ((W (s6 + s8)) < (b16.length : Int))) (
   gd (decide ((W (s6 + s8)).toNat < b16.length)) (
    let J_2 := fun (y_1 : Int) => (
     gd (decide (0 ≤ (W (s6 + s8))) && decide ((W (s6 + s8)) < (b16.length : Int))) (
      gd (decide ((W (s6 + s8)).toNat < b16.length)) (
       f s0 s1 s6 (W (Int.tdiv y_1 10000)) (W (s8 + 1)) (b16.set ((W (s6 + s8)).toNat) (Int.tmod y_1 10000)))))
    bif (decide (s8 < (s1.length : Int))) then
     gd (decide (0 ≤ s6) && decide (s6 < (s0.length : Int))) (
      gd (decide (0 ≤ s8) && decide (s8 < (s1.length : Int))) (
       J_2 (W ((W ((b16.getD ((W (s6 + s8)).toNat) 0) + s7)) + (W ((s0.getD s6.toNat 0) * (s1.getD s8.toNat 0)))))))
    else
     J_2 (W ((b16.getD ((W (s6 + s8)).toNat) 0) + s7)))))
 bif (decide (s8 < (s1.length : Int))) then
  J_3 ()
 else
  bif (decide (s7 > 0)) then
   J_3 ()
  else
   k0 s0 s1 s6 b16
abbrev f126_L7H : Tm := ⟨[(0, .d hIs), (1, .d hIs), (5, .k (.hw 16)), (6, .d hI), (7, .d hI), (8, .d hI)], [(16, .arr 3 hI false)], [], []⟩
abbrev f126_L7X0 : Tm := ⟨[(0, .d hIs), (1, .d hIs), (5, .k (.hw 16)), (6, .d hI)], [(16, .arr 3 hI false)], [], []⟩
abbrev f126_L7O : List (Exit × Tm) := [(.exit 2, f126_L7X0)]
def f126_L7U {α : Type} (n : Nat) (v : f126_L7H.den) (f : f126_L7H.den → Option α) (ks : KS α f126_L7O) : Option α := f126_L7B n v.1.1 v.1.2.1 v.1.2.2.2.1 v.1.2.2.2.2.1 v.1.2.2.2.2.2.1 v.2.1 (fun s0 s1 s6 s7 s8 b16 => f ((s0, s1, (), s6, s7, s8, ()), (b16, ()))) (fun w0 w1 w2 w3 => ks.1 ((w0, w1, (), w2, ()), (w3, ())))
def f126_L7 {α : Type} (n m : Nat) (s0 s1 : LI) (s6 s7 s8 : Int) (b16 : LI) (k0 : LI → LI → Int → LI → Option α) : Option α := rounds (f126_L7U n) m ((s0, s1, (), s6, s7, s8, ()), (b16, ())) (fun w => k0 w.1.1 w.1.2.1 w.1.2.2.2.1 w.2.1, ())
theorem f126_L7_0 {α n s0 s1 s6 s7 s8 b16 k0} : f126_L7 (α := α) n 0 s0 s1 s6 s7 s8 b16 k0 = none := rfl
theorem f126_L7_s {α n m s0 s1 s6 s7 s8 b16 k0} : f126_L7 (α := α) n (m + 1) s0 s1 s6 s7 s8 b16 k0 = f126_L7B n s0 s1 s6 s7 s8 b16 (fun s0 s1 s6 s7 s8 b16 => f126_L7 n m s0 s1 s6 s7 s8 b16 k0) k0 := rfl
def f126_L3B {α : Type} (n : Nat) (s0 s1 : LI) (s6 : Int) (b16 : LI) (f : LI → LI → Int → LI → Option α) (k0 : LI → Option α) : Option α :=
 bif (decide (s6 < (s0.length : Int))) then
  f126_L7 n n s0 s1 s6 0 0 b16
   (fun z_1 z_2 z_3 z_4 => (
    f z_1 z_2 (W (z_3 + 1)) z_4))
 else
  k0 b16
abbrev f126_L3H : Tm := ⟨[(0, .d hIs), (1, .d hIs), (5, .k (.hw 16)), (6, .d hI)], [(16, .arr 3 hI false)], [], []⟩
abbrev f126_L3X0 : Tm := ⟨[(5, .k (.hw 16))], [(16, .arr 3 hI false)], [], []⟩
abbrev f126_L3O : List (Exit × Tm) := [(.exit 0, f126_L3X0)]
def f126_L3U {α : Type} (n : Nat) (v : f126_L3H.den) (f : f126_L3H.den → Option α) (ks : KS α f126_L3O) : Option α := f126_L3B n v.1.1 v.1.2.1 v.1.2.2.2.1 v.2.1 (fun s0 s1 s6 b16 => f ((s0, s1, (), s6, ()), (b16, ()))) (fun w0 => ks.1 (((), ()), (w0, ())))
def f126_L3 {α : Type} (n m : Nat) (s0 s1 : LI) (s6 : Int) (b16 : LI) (k0 : LI → Option α) : Option α := rounds (f126_L3U n) m ((s0, s1, (), s6, ()), (b16, ())) (fun w => k0 w.2.1, ())
theorem f126_L3_0 {α n s0 s1 s6 b16 k0} : f126_L3 (α := α) n 0 s0 s1 s6 b16 k0 = none := rfl
theorem f126_L3_s {α n m s0 s1 s6 b16 k0} : f126_L3 (α := α) n (m + 1) s0 s1 s6 b16 k0 = f126_L3B n s0 s1 s6 b16 (fun s0 s1 s6 b16 => f126_L3 n m s0 s1 s6 b16 k0) k0 := rfl
abbrev f126_J9 : Tm := ⟨[(0, .d hIs), (1, .d hIs), (5, .k (.hw 16)), (6, .d hI), (7, .d hI), (8, .d hI)], [(16, .arr 3 hI false)], [], []⟩
abbrev f126_J12 : Tm := ⟨[(0, .d hIs), (1, .d hIs), (5, .k (.hw 16)), (6, .d hI), (8, .d hI), (9, .d hI)], [(16, .arr 3 hI false)], [], []⟩
def f126 (n : Nat) (a0 a1 : LI) : Option LI :=
 gd (decide (0 ≤ (W ((W ((a0.length : Int) + (a1.length : Int))) + 1))) && decide ((W ((W ((a0.length : Int) + (a1.length : Int))) + 1)) ≤ 4611686018427387904) && decide ((8 : Int) * (W ((W ((a0.length : Int) + (a1.length : Int))) + 1)) ≤ 281474976710656)) (
  f126_L3 n n a0 a1 0 (List.replicate ((W ((W ((a0.length : Int) + (a1.length : Int))) + 1)).toNat) 0)
   (fun z_5 => (
    ob (f149 n z_5) fun r_6 =>
    some r_6)))
def f126_E (n : Nat) : Ent := ⟨126, [hIs, hIs], [hIs], fun x => f126 n x.1 x.2⟩
def f126_D (α : Type) (n : Nat) : D3 α := { reg := [(11, ⟨10, [], []⟩), (14, ⟨0, [], [(1, { ent := some (f149_E n), fz := [(65, hIs)] })]⟩)], join := [(9, f126_J9), (12, f126_J12)], loop := [(7, ⟨f126_L7H, f126_L7O, rounds (f126_L7U n) n⟩), (3, ⟨f126_L3H, f126_L3O, rounds (f126_L3U n) n⟩)] }
theorem f126_ents (α : Type) (n : Nat) : AllS Try.prog (entsOf (f126_D α n).reg) := ⟨f149_ok n, trivial⟩
theorem f126_L7_d (α : Type) (n : Nat) : D3.OK Try.prog (tyOf Try.prog) ⟨67, []⟩ (f126_D α n) ((bodyOf Try.f126).at [1, 1, 0, 1, 0, 0, 1, 0, 0, 1, 1, 0, 0]) :=
 D3.OK.mk3 (f126_ents α n) (show loopsOf ((bodyOf Try.f126).at [1, 1, 0, 1, 0, 0, 1, 0, 0, 1, 1, 0, 0]) = [] by kernel_rfl) trivial
theorem f126_L7_ok (α : Type) (n : Nat) : LO.Sound (α := α) Try.prog ⟨67, []⟩ ⟨f126_L7H, f126_L7O, rounds (f126_L7U n) n⟩ (.loop ((bodyOf Try.f126).at [1, 1, 0, 1, 0, 0, 1, 0, 0, 1, 1, 0, 0])) :=
 loop_ok (tyOf_ok _) prog_fol (f126_L7U n) (f126_L7_d α n) (by intro v f ks; kernel_rfl) n
theorem f126_L3_d (α : Type) (n : Nat) : D3.OK Try.prog (tyOf Try.prog) ⟨67, []⟩ (f126_D α n) ((bodyOf Try.f126).at [1, 1, 0, 1, 0, 0]) :=
 D3.OK.mk3 (f126_ents α n) (show loopsOf ((bodyOf Try.f126).at [1, 1, 0, 1, 0, 0]) = [(7, (.loop ((bodyOf Try.f126).at [1, 1, 0, 1, 0, 0, 1, 0, 0, 1, 1, 0, 0])))] by kernel_rfl) ⟨look_sound rfl (f126_L7_ok α n), trivial⟩
theorem f126_L3_ok (α : Type) (n : Nat) : LO.Sound (α := α) Try.prog ⟨67, []⟩ ⟨f126_L3H, f126_L3O, rounds (f126_L3U n) n⟩ (.loop ((bodyOf Try.f126).at [1, 1, 0, 1, 0, 0])) :=
 loop_ok (tyOf_ok _) prog_fol (f126_L3U n) (f126_L3_d α n) (by intro v f ks; kernel_rfl) n
theorem f126_d (α : Type) (n : Nat) : D3.OK Try.prog (tyOf Try.prog) ⟨67, []⟩ (f126_D α n) (bodyOf Try.f126) :=
 D3.OK.mk3 (f126_ents α n) (show loopsOf (bodyOf Try.f126) = [(3, (.loop ((bodyOf Try.f126).at [1, 1, 0, 1, 0, 0])))] by kernel_rfl) ⟨look_sound rfl (f126_L3_ok α n), trivial⟩
theorem f126_ok (n : Nat) : (f126_E n).Sound Try.prog :=
 fn_ok (tyOf_ok _) prog_fol (f126_D _ n) (show Try.prog.funcs[126]? = some Try.f126 by kernel_rfl) (by kernel_rfl) (show Try.f126.body = some (bodyOf Try.f126) by kernel_rfl) rfl rfl (Nat.le_of_ble_eq_true rfl) (f126_d _ n) (by intro x; kernel_rfl) 

def f151_L4B {α : Type} (n : Nat) (s0 s1 : LI) (s6 s7 : Int) (b9 : LI) (f : LI → LI → Int → Int → LI → Option α) (k0 : LI → Option α) : Option α :=
 bif (decide (s7 < (s0.length : Int))) then
  gd (decide (0 ≤ s7) && decide (s7 < (s0.length : Int))) (
   let J_3 := fun (y_1 : Int) => (
    ob (f147 n (decide (y_1 < 0))) fun r_2 =>
    gd (decide ((b9.length + 1) * 8 ≤ 140737488355328)) (
     f s0 s1 r_2 (W (s7 + 1)) (b9 ++ [(W (y_1 + (W (r_2 * 10000))))])))
   bif (decide (s7 < (s1.length : Int))) then
    gd (decide (0 ≤ s7) && decide (s7 < (s1.length : Int))) (
     J_3 (W ((W ((s0.getD s7.toNat 0) - s6)) - (s1.getD s7.toNat 0))))
   else
    J_3 (W ((s0.getD s7.toNat 0) - s6)))
 else
  k0 b9
abbrev f151_L4H : Tm := ⟨[(0, .d hIs), (1, .d hIs), (5, .k (.hw 9)), (6, .d hI), (7, .d hI)], [(9, .arr 3 hI false)], [40], []⟩
abbrev f151_L4X0 : Tm := ⟨[(5, .k (.hw 9))], [(9, .arr 3 hI false)], [], []⟩
abbrev f151_L4O : List (Exit × Tm) := [(.exit 0, f151_L4X0)]
def f151_L4U {α : Type} (n : Nat) (v : f151_L4H.den) (f : f151_L4H.den → Option α) (ks : KS α f151_L4O) : Option α := f151_L4B n v.1.1 v.1.2.1 v.1.2.2.2.1 v.1.2.2.2.2.1 v.2.1 (fun s0 s1 s6 s7 b9 => f ((s0, s1, (), s6, s7, ()), (b9, ()))) (fun w0 => ks.1 (((), ()), (w0, ())))
def f151_L4 {α : Type} (n m : Nat) (s0 s1 : LI) (s6 s7 : Int) (b9 : LI) (k0 : LI → Option α) : Option α := rounds (f151_L4U n) m ((s0, s1, (), s6, s7, ()), (b9, ())) (fun w => k0 w.2.1, ())
theorem f151_L4_0 {α n s0 s1 s6 s7 b9 k0} : f151_L4 (α := α) n 0 s0 s1 s6 s7 b9 k0 = none := rfl
theorem f151_L4_s {α n m s0 s1 s6 s7 b9 k0} : f151_L4 (α := α) n (m + 1) s0 s1 s6 s7 b9 k0 = f151_L4B n s0 s1 s6 s7 b9 (fun s0 s1 s6 s7 b9 => f151_L4 n m s0 s1 s6 s7 b9 k0) k0 := rfl
abbrev f151_J9 : Tm := ⟨[(0, .d hIs), (1, .d hIs), (5, .k (.hw 9)), (7, .d hI), (8, .d hI)], [(9, .arr 3 hI false)], [], []⟩
def f151 (n : Nat) (a0 a1 : LI) : Option LI :=
 f151_L4 n n a0 a1 0 0 []
  (fun z_4 => (
   ob (f149 n z_4) fun r_5 =>
   some r_5))
def f151_E (n : Nat) : Ent := ⟨151, [hIs, hIs], [hIs], fun x => f151 n x.1 x.2⟩
def f151_D (α : Type) (n : Nat) : D3 α := { reg := [(1, ⟨0, [], [(0, { sh := some hI })]⟩), (9, ⟨0, [], [(2, { ent := some (f147_E n) })]⟩), (10, ⟨0, [], [(5, { sh := some hI })]⟩), (11, ⟨0, [], [(1, { ent := some (f149_E n), fz := [(42, hIs)] })]⟩)], join := [(9, f151_J9)], loop := [(4, ⟨f151_L4H, f151_L4O, rounds (f151_L4U n) n⟩)] }
theorem f151_ents (α : Type) (n : Nat) : AllS Try.prog (entsOf (f151_D α n).reg) := ⟨f147_ok n, f149_ok n, trivial⟩
theorem f151_L4_d (α : Type) (n : Nat) : D3.OK Try.prog (tyOf Try.prog) ⟨44, []⟩ (f151_D α n) ((bodyOf Try.f151).at [1, 1, 1, 0, 1, 0, 0]) :=
 D3.OK.mk3 (f151_ents α n) (show loopsOf ((bodyOf Try.f151).at [1, 1, 1, 0, 1, 0, 0]) = [] by kernel_rfl) trivial
theorem f151_L4_ok (α : Type) (n : Nat) : LO.Sound (α := α) Try.prog ⟨44, []⟩ ⟨f151_L4H, f151_L4O, rounds (f151_L4U n) n⟩ (.loop ((bodyOf Try.f151).at [1, 1, 1, 0, 1, 0, 0])) :=
 loop_ok (tyOf_ok _) prog_fol (f151_L4U n) (f151_L4_d α n) (by intro v f ks; kernel_rfl) n
theorem f151_d (α : Type) (n : Nat) : D3.OK Try.prog (tyOf Try.prog) ⟨44, []⟩ (f151_D α n) (bodyOf Try.f151) :=
 D3.OK.mk3 (f151_ents α n) (show loopsOf (bodyOf Try.f151) = [(4, (.loop ((bodyOf Try.f151).at [1, 1, 1, 0, 1, 0, 0])))] by kernel_rfl) ⟨look_sound rfl (f151_L4_ok α n), trivial⟩
theorem f151_ok (n : Nat) : (f151_E n).Sound Try.prog :=
 fn_ok (tyOf_ok _) prog_fol (f151_D _ n) (show Try.prog.funcs[151]? = some Try.f151 by kernel_rfl) (by kernel_rfl) (show Try.f151.body = some (bodyOf Try.f151) by kernel_rfl) rfl rfl (Nat.le_of_ble_eq_true rfl) (f151_d _ n) (by intro x; kernel_rfl) 

def f148_L10B {α : Type} (n : Nat) (s0 s1 s7 : LI) (s8 s9 s10 : Int) (b14 : LI) (f : LI → LI → LI → Int → Int → Int → LI → Option α) (k0 : LI → LI → LI → Int → Int → LI → Option α) : Option α :=
 bif (decide ((W (s10 - s9)) > 1)) then
  ob (f111 n (W (Int.tdiv (W (s9 + s10)) 2))) fun r_3 =>
  ob (f126 n s1 r_3) fun r_4 =>
  ob (f123 n r_4 s7) fun r_5 =>
  bif (decide (r_5 ≤ 0)) then
   f s0 s1 s7 s8 (W (Int.tdiv (W (s9 + s10)) 2)) s10 b14
  else
   f s0 s1 s7 s8 s9 (W (Int.tdiv (W (s9 + s10)) 2)) b14
 else
  k0 s0 s1 s7 s8 s9 b14
abbrev f148_L10H : Tm := ⟨[(0, .d hIs), (1, .d hIs), (6, .k (.hw 14)), (7, .d hIs), (8, .d hI), (9, .d hI), (10, .d hI)], [(14, .arr 3 hI false)], [27], []⟩
abbrev f148_L10X0 : Tm := ⟨[(0, .d hIs), (1, .d hIs), (6, .k (.hw 14)), (7, .d hIs), (8, .d hI), (9, .d hI)], [(14, .arr 3 hI false)], [], []⟩
abbrev f148_L10O : List (Exit × Tm) := [(.exit 2, f148_L10X0)]
def f148_L10U {α : Type} (n : Nat) (v : f148_L10H.den) (f : f148_L10H.den → Option α) (ks : KS α f148_L10O) : Option α := f148_L10B n v.1.1 v.1.2.1 v.1.2.2.2.1 v.1.2.2.2.2.1 v.1.2.2.2.2.2.1 v.1.2.2.2.2.2.2.1 v.2.1 (fun s0 s1 s7 s8 s9 s10 b14 => f ((s0, s1, (), s7, s8, s9, s10, ()), (b14, ()))) (fun w0 w1 w2 w3 w4 w5 => ks.1 ((w0, w1, (), w2, w3, w4, ()), (w5, ())))
def f148_L10 {α : Type} (n m : Nat) (s0 s1 s7 : LI) (s8 s9 s10 : Int) (b14 : LI) (k0 : LI → LI → LI → Int → Int → LI → Option α) : Option α := rounds (f148_L10U n) m ((s0, s1, (), s7, s8, s9, s10, ()), (b14, ())) (fun w => k0 w.1.1 w.1.2.1 w.1.2.2.2.1 w.1.2.2.2.2.1 w.1.2.2.2.2.2.1 w.2.1, ())
theorem f148_L10_0 {α n s0 s1 s7 s8 s9 s10 b14 k0} : f148_L10 (α := α) n 0 s0 s1 s7 s8 s9 s10 b14 k0 = none := rfl
theorem f148_L10_s {α n m s0 s1 s7 s8 s9 s10 b14 k0} : f148_L10 (α := α) n (m + 1) s0 s1 s7 s8 s9 s10 b14 k0 = f148_L10B n s0 s1 s7 s8 s9 s10 b14 (fun s0 s1 s7 s8 s9 s10 b14 => f148_L10 n m s0 s1 s7 s8 s9 s10 b14 k0) k0 := rfl
def f148_L4B {α : Type} (n : Nat) (s0 s1 s7 : LI) (s8 : Int) (b14 : LI) (f : LI → LI → LI → Int → LI → Option α) (k0 : LI → LI → Option α) : Option α :=
 bif (decide (s8 ≥ 0)) then
  gd (decide (0 ≤ s8) && decide (s8 < (s0.length : Int))) (
   gd (decide ((1 + s7.length) * 8 ≤ 140737488355328)) (
    ob (f149 n ([(s0.getD s8.toNat 0)] ++ s7)) fun r_1 =>
    ob (f123 n r_1 s1) fun r_2 =>
    bif (decide (r_2 < 0)) then
     f s0 s1 r_1 (W (s8 - 1)) b14
    else
     f148_L10 n n s0 s1 r_1 s8 0 10000 b14
      (fun z_3 z_4 z_5 z_6 z_7 z_8 => (
       gd (decide (0 ≤ z_6) && decide (z_6 < (z_8.length : Int))) (
        gd (decide (z_6.toNat < z_8.length)) (
         ob (f111 n z_7) fun r_9 =>
         ob (f126 n z_4 r_9) fun r_10 =>
         ob (f151 n z_5 r_10) fun r_11 =>
         f z_3 z_4 r_11 (W (z_6 - 1)) (z_8.set z_6.toNat z_7)))))))
 else
  k0 s7 b14
abbrev f148_L4H : Tm := ⟨[(0, .d hIs), (1, .d hIs), (6, .k (.hw 14)), (7, .d hIs), (8, .d hI)], [(14, .arr 3 hI false)], [15, 27], [(7, hIs)]⟩
abbrev f148_L4X0 : Tm := ⟨[(6, .k (.hw 14)), (7, .d hIs)], [(14, .arr 3 hI false)], [], []⟩
abbrev f148_L4O : List (Exit × Tm) := [(.exit 0, f148_L4X0)]
def f148_L4U {α : Type} (n : Nat) (v : f148_L4H.den) (f : f148_L4H.den → Option α) (ks : KS α f148_L4O) : Option α := f148_L4B n v.1.1 v.1.2.1 v.1.2.2.2.1 v.1.2.2.2.2.1 v.2.1 (fun s0 s1 s7 s8 b14 => f ((s0, s1, (), s7, s8, ()), (b14, ()))) (fun w0 w1 => ks.1 (((), w0, ()), (w1, ())))
def f148_L4 {α : Type} (n m : Nat) (s0 s1 s7 : LI) (s8 : Int) (b14 : LI) (k0 : LI → LI → Option α) : Option α := rounds (f148_L4U n) m ((s0, s1, (), s7, s8, ()), (b14, ())) (fun w => k0 w.1.2.1 w.2.1, ())
theorem f148_L4_0 {α n s0 s1 s7 s8 b14 k0} : f148_L4 (α := α) n 0 s0 s1 s7 s8 b14 k0 = none := rfl
theorem f148_L4_s {α n m s0 s1 s7 s8 b14 k0} : f148_L4 (α := α) n (m + 1) s0 s1 s7 s8 b14 k0 = f148_L4B n s0 s1 s7 s8 b14 (fun s0 s1 s7 s8 b14 => f148_L4 n m s0 s1 s7 s8 b14 k0) k0 := rfl
def f148 (n : Nat) (a0 a1 : LI) : Option (LI × LI) :=
 gd (decide (0 ≤ (a0.length : Int)) && decide ((a0.length : Int) ≤ 4611686018427387904) && decide ((8 : Int) * (a0.length : Int) ≤ 281474976710656)) (
  f148_L4 n n a0 a1 [] (W ((a0.length : Int) - 1)) (List.replicate ((a0.length : Int).toNat) 0)
   (fun z_12 z_13 => (
    ob (f149 n z_13) fun r_14 =>
    some (r_14, z_12))))
def f148_E (n : Nat) : Ent := ⟨148, [hIs, hIs], [hIs, hIs], fun x => f148 n x.1 x.2⟩
def f148_D (α : Type) (n : Nat) : D3 α := { reg := [(2, ⟨0, [], [(0, { sh := some hI })]⟩), (6, ⟨0, [], [(4, { sh := some hI }), (7, { ent := some (f149_E n), fz := [(29, hIs)] })]⟩), (7, ⟨0, [], [(2, { ent := some (f123_E n) })]⟩), (12, ⟨0, [], [(2, { ent := some (f111_E n) }), (3, { ent := some (f126_E n) }), (5, { ent := some (f123_E n) })]⟩), (16, ⟨0, [], [(3, { ent := some (f111_E n) }), (4, { ent := some (f126_E n) }), (5, { ent := some (f151_E n) })]⟩), (17, ⟨0, [], [(1, { ent := some (f149_E n), fz := [(62, hIs)] })]⟩)], join := [], loop := [(10, ⟨f148_L10H, f148_L10O, rounds (f148_L10U n) n⟩), (4, ⟨f148_L4H, f148_L4O, rounds (f148_L4U n) n⟩)] }
theorem f148_ents (α : Type) (n : Nat) : AllS Try.prog (entsOf (f148_D α n).reg) := ⟨f149_ok n, f123_ok n, f111_ok n, f126_ok n, f123_ok n, f111_ok n, f126_ok n, f151_ok n, f149_ok n, trivial⟩
theorem f148_L10_d (α : Type) (n : Nat) : D3.OK Try.prog (tyOf Try.prog) ⟨65, []⟩ (f148_D α n) ((bodyOf Try.f148).at [1, 1, 1, 0, 1, 0, 0, 1, 0, 0, 1, 1, 1, 1, 0, 0, 0]) :=
 D3.OK.mk3 (f148_ents α n) (show loopsOf ((bodyOf Try.f148).at [1, 1, 1, 0, 1, 0, 0, 1, 0, 0, 1, 1, 1, 1, 0, 0, 0]) = [] by kernel_rfl) trivial
theorem f148_L10_ok (α : Type) (n : Nat) : LO.Sound (α := α) Try.prog ⟨65, []⟩ ⟨f148_L10H, f148_L10O, rounds (f148_L10U n) n⟩ (.loop ((bodyOf Try.f148).at [1, 1, 1, 0, 1, 0, 0, 1, 0, 0, 1, 1, 1, 1, 0, 0, 0])) :=
 loop_ok (tyOf_ok _) prog_fol (f148_L10U n) (f148_L10_d α n) (by intro v f ks; kernel_rfl) n
theorem f148_L4_d (α : Type) (n : Nat) : D3.OK Try.prog (tyOf Try.prog) ⟨65, []⟩ (f148_D α n) ((bodyOf Try.f148).at [1, 1, 1, 0, 1, 0, 0]) :=
 D3.OK.mk3 (f148_ents α n) (show loopsOf ((bodyOf Try.f148).at [1, 1, 1, 0, 1, 0, 0]) = [(10, (.loop ((bodyOf Try.f148).at [1, 1, 1, 0, 1, 0, 0, 1, 0, 0, 1, 1, 1, 1, 0, 0, 0])))] by kernel_rfl) ⟨look_sound rfl (f148_L10_ok α n), trivial⟩
theorem f148_L4_ok (α : Type) (n : Nat) : LO.Sound (α := α) Try.prog ⟨65, []⟩ ⟨f148_L4H, f148_L4O, rounds (f148_L4U n) n⟩ (.loop ((bodyOf Try.f148).at [1, 1, 1, 0, 1, 0, 0])) :=
 loop_ok (tyOf_ok _) prog_fol (f148_L4U n) (f148_L4_d α n) (by intro v f ks; kernel_rfl) n
theorem f148_d (α : Type) (n : Nat) : D3.OK Try.prog (tyOf Try.prog) ⟨65, []⟩ (f148_D α n) (bodyOf Try.f148) :=
 D3.OK.mk3 (f148_ents α n) (show loopsOf (bodyOf Try.f148) = [(4, (.loop ((bodyOf Try.f148).at [1, 1, 1, 0, 1, 0, 0])))] by kernel_rfl) ⟨look_sound rfl (f148_L4_ok α n), trivial⟩
theorem f148_ok (n : Nat) : (f148_E n).Sound Try.prog :=
 fn_ok (tyOf_ok _) prog_fol (f148_D _ n) (show Try.prog.funcs[148]? = some Try.f148 by kernel_rfl) (by kernel_rfl) (show Try.f148.body = some (bodyOf Try.f148) by kernel_rfl) rfl rfl (Nat.le_of_ble_eq_true rfl) (f148_d _ n) (by intro x; kernel_rfl) 

def f124_L1B {α : Type} (n : Nat) (s0 s1 : LI) (f : LI → LI → Option α) (k0 : LI → Option α) : Option α :=
 bif (decide ((s1.length : Int) > 0)) then
  ob (f148 n s0 s1) fun r_1 =>
  f s1 r_1.2
 else
  k0 s0
abbrev f124_L1H : Tm := ⟨[(0, .d hIs), (1, .d hIs)], [], [], []⟩
abbrev f124_L1X0 : Tm := ⟨[(0, .d hIs)], [], [], []⟩
abbrev f124_L1O : List (Exit × Tm) := [(.exit 0, f124_L1X0)]
def f124_L1U {α : Type} (n : Nat) (v : f124_L1H.den) (f : f124_L1H.den → Option α) (ks : KS α f124_L1O) : Option α := f124_L1B n v.1.1 v.1.2.1 (fun s0 s1 => f ((s0, s1, ()), ())) (fun w0 => ks.1 ((w0, ()), ()))
def f124_L1 {α : Type} (n m : Nat) (s0 s1 : LI) (k0 : LI → Option α) : Option α := rounds (f124_L1U n) m ((s0, s1, ()), ()) (fun w => k0 w.1.1, ())
theorem f124_L1_0 {α n s0 s1 k0} : f124_L1 (α := α) n 0 s0 s1 k0 = none := rfl
theorem f124_L1_s {α n m s0 s1 k0} : f124_L1 (α := α) n (m + 1) s0 s1 k0 = f124_L1B n s0 s1 (fun s0 s1 => f124_L1 n m s0 s1 k0) k0 := rfl
def f124 (n : Nat) (a0 a1 : LI) : Option LI :=
 f124_L1 n n a0 a1
  (fun z_2 => (
   gd (decide ((0 + z_2.length) * 8 ≤ 140737488355328)) (
    some z_2)))
def f124_E (n : Nat) : Ent := ⟨124, [hIs, hIs], [hIs], fun x => f124 n x.1 x.2⟩
def f124_D (α : Type) (n : Nat) : D3 α := { reg := [(2, ⟨0, [], [(2, { ent := some (f148_E n) })]⟩), (5, ⟨0, [], [(0, { sh := some hI })]⟩)], join := [], loop := [(1, ⟨f124_L1H, f124_L1O, rounds (f124_L1U n) n⟩)] }
theorem f124_ents (α : Type) (n : Nat) : AllS Try.prog (entsOf (f124_D α n).reg) := ⟨f148_ok n, trivial⟩
theorem f124_L1_d (α : Type) (n : Nat) : D3.OK Try.prog (tyOf Try.prog) ⟨21, []⟩ (f124_D α n) ((bodyOf Try.f124).at [1, 0, 0, 0]) :=
 D3.OK.mk3 (f124_ents α n) (show loopsOf ((bodyOf Try.f124).at [1, 0, 0, 0]) = [] by kernel_rfl) trivial
theorem f124_L1_ok (α : Type) (n : Nat) : LO.Sound (α := α) Try.prog ⟨21, []⟩ ⟨f124_L1H, f124_L1O, rounds (f124_L1U n) n⟩ (.loop ((bodyOf Try.f124).at [1, 0, 0, 0])) :=
 loop_ok (tyOf_ok _) prog_fol (f124_L1U n) (f124_L1_d α n) (by intro v f ks; kernel_rfl) n
theorem f124_d (α : Type) (n : Nat) : D3.OK Try.prog (tyOf Try.prog) ⟨21, []⟩ (f124_D α n) (bodyOf Try.f124) :=
 D3.OK.mk3 (f124_ents α n) (show loopsOf (bodyOf Try.f124) = [(1, (.loop ((bodyOf Try.f124).at [1, 0, 0, 0])))] by kernel_rfl) ⟨look_sound rfl (f124_L1_ok α n), trivial⟩
theorem f124_ok (n : Nat) : (f124_E n).Sound Try.prog :=
 fn_ok (tyOf_ok _) prog_fol (f124_D _ n) (show Try.prog.funcs[124]? = some Try.f124 by kernel_rfl) (by kernel_rfl) (show Try.f124.body = some (bodyOf Try.f124) by kernel_rfl) rfl rfl (Nat.le_of_ble_eq_true rfl) (f124_d _ n) (by intro x; kernel_rfl) 

abbrev f86_J3 : Tm := ⟨[(1, .k (.hp 1 0 0))], [(1, .var 31 true false [.d .bool, .d hIs, .d hIs])], [], []⟩
def f86 (n : Nat) (a0 : Rq) : Option Bool :=
 let J_5 := fun (_ : Unit) => (
  ob (f124 n a0.2.1 a0.2.2) fun r_3 =>
  ob (f123 n r_3 [1]) fun r_4 =>
  some (r_4 == 0))
 ob (f122 n a0.2.1) fun r_1 =>
 bif (!r_1) then
  some false
 else
  ob (f122 n a0.2.2) fun r_2 =>
  bif (!r_2) then
   some false
  else
   bif ((a0.2.2.length : Int) == 0) then
    some false
   else
    bif ((a0.2.1.length : Int) == 0) then
     bif a0.1 then
      some false
     else
      J_5 ()
    else
     J_5 ()
def f86_E (n : Nat) : Ent := ⟨86, [hR], [.bool], fun x => f86 n x⟩
def f86_D (α : Type) (n : Nat) : D3 α := { reg := [(1, ⟨0, [], [(2, { ent := some (f122_E n) }), (7, { ent := some (f122_E n) })]⟩), (3, ⟨0, [], [(4, { ent := some (f124_E n) }), (5, { sh := some hI }), (6, { ent := some (f123_E n) })]⟩)], join := [(3, f86_J3)], loop := [] }
theorem f86_ents (α : Type) (n : Nat) : AllS Try.prog (entsOf (f86_D α n).reg) := ⟨f122_ok n, f122_ok n, f124_ok n, f123_ok n, trivial⟩
theorem f86_d (α : Type) (n : Nat) : D3.OK Try.prog (tyOf Try.prog) ⟨37, []⟩ (f86_D α n) (bodyOf Try.f86) :=
 D3.OK.mk3 (f86_ents α n) (show loopsOf (bodyOf Try.f86) = [] by kernel_rfl) trivial
theorem f86_ok (n : Nat) : (f86_E n).Sound Try.prog :=
 fn_ok (tyOf_ok _) prog_fol (f86_D _ n) (show Try.prog.funcs[86]? = some Try.f86 by kernel_rfl) (by kernel_rfl) (show Try.f86.body = some (bodyOf Try.f86) by kernel_rfl) rfl rfl (Nat.le_of_ble_eq_true rfl) (f86_d _ n) (by intro x; kernel_rfl) 

def f41_L6B {α : Type} (n : Nat) (s0 : LR) (s5 : Int) (f : LR → Int → Option α) (k0 : Bool → Option α) (k1 : Unit → Option α) : Option α :=
 bif (decide (s5 < (s0.length : Int))) then
  gd (decide (0 ≤ s5) && decide (s5 < (s0.length : Int))) (
   let x_2 := s0.getD s5.toNat (false, [], [])
   ob (f86 n x_2) fun r_3 =>
   bif (!r_3) then
    k0 false
   else
    f s0 (W (s5 + 1)))
 else
  k1 ()
abbrev f41_L6H : Tm := ⟨[(0, .d hRs), (5, .d hI)], [], [], []⟩
abbrev f41_L6X0 : Tm := ⟨[(4, .d .bool)], [], [], []⟩
abbrev f41_L6X1 : Tm := ⟨[], [], [], []⟩
abbrev f41_L6O : List (Exit × Tm) := [(.ret, f41_L6X0), (.exit 0, f41_L6X1)]
def f41_L6U {α : Type} (n : Nat) (v : f41_L6H.den) (f : f41_L6H.den → Option α) (ks : KS α f41_L6O) : Option α := f41_L6B n v.1.1 v.1.2.1 (fun s0 s5 => f ((s0, s5, ()), ())) (fun w0 => ks.1 ((w0, ()), ())) (fun _ => ks.2.1 ((), ()))
def f41_L6 {α : Type} (n m : Nat) (s0 : LR) (s5 : Int) (k0 : Bool → Option α) (k1 : Unit → Option α) : Option α := rounds (f41_L6U n) m ((s0, s5, ()), ()) (fun w => k0 w.1.1, fun w => k1 (), ())
theorem f41_L6_0 {α n s0 s5 k0 k1} : f41_L6 (α := α) n 0 s0 s5 k0 k1 = none := rfl
theorem f41_L6_s {α n m s0 s5 k0 k1} : f41_L6 (α := α) n (m + 1) s0 s5 k0 k1 = f41_L6B n s0 s5 (fun s0 s5 => f41_L6 n m s0 s5 k0 k1) k0 k1 := rfl
def f41 (n : Nat) (a0 : LR) (a1 : Int) : Option Bool :=
 bif (decide ((a0.length : Int) > 4096)) then
  some false
 else
  ob (f85 n a1 1 4) fun r_1 =>
  bif (!r_1) then
   some false
  else
   bif ((a0.length : Int) != (W (a1 * a1))) then
    some false
   else
    f41_L6 n n a0 0
     (fun z_4 => (
      some z_4))
     (fun (_ : Unit) => (
      some true))
def f41_E (n : Nat) : Ent := ⟨41, [hRs, hI], [.bool], fun x => f41 n x.1 x.2⟩
def f41_D (α : Type) (n : Nat) : D3 α := { reg := [(3, ⟨0, [], [(1, { ent := some (f85_E n) })]⟩), (8, ⟨0, [], [(4, { ent := some (f86_E n) })]⟩)], join := [], loop := [(6, ⟨f41_L6H, f41_L6O, rounds (f41_L6U n) n⟩)] }
theorem f41_ents (α : Type) (n : Nat) : AllS Try.prog (entsOf (f41_D α n).reg) := ⟨f85_ok n, f86_ok n, trivial⟩
theorem f41_L6_d (α : Type) (n : Nat) : D3.OK Try.prog (tyOf Try.prog) ⟨32, []⟩ (f41_D α n) ((bodyOf Try.f41).at [1, 1, 1, 0, 1, 0, 0]) :=
 D3.OK.mk3 (f41_ents α n) (show loopsOf ((bodyOf Try.f41).at [1, 1, 1, 0, 1, 0, 0]) = [] by kernel_rfl) trivial
theorem f41_L6_ok (α : Type) (n : Nat) : LO.Sound (α := α) Try.prog ⟨32, []⟩ ⟨f41_L6H, f41_L6O, rounds (f41_L6U n) n⟩ (.loop ((bodyOf Try.f41).at [1, 1, 1, 0, 1, 0, 0])) :=
 loop_ok (tyOf_ok _) prog_fol (f41_L6U n) (f41_L6_d α n) (by intro v f ks; kernel_rfl) n
theorem f41_d (α : Type) (n : Nat) : D3.OK Try.prog (tyOf Try.prog) ⟨32, []⟩ (f41_D α n) (bodyOf Try.f41) :=
 D3.OK.mk3 (f41_ents α n) (show loopsOf (bodyOf Try.f41) = [(6, (.loop ((bodyOf Try.f41).at [1, 1, 1, 0, 1, 0, 0])))] by kernel_rfl) ⟨look_sound rfl (f41_L6_ok α n), trivial⟩
theorem f41_ok (n : Nat) : (f41_E n).Sound Try.prog :=
 fn_ok (tyOf_ok _) prog_fol (f41_D _ n) (show Try.prog.funcs[41]? = some Try.f41 by kernel_rfl) (by kernel_rfl) (show Try.f41.body = some (bodyOf Try.f41) by kernel_rfl) rfl rfl (Nat.le_of_ble_eq_true rfl) (f41_d _ n) (by intro x; kernel_rfl) 

def f43_L3B {α : Type} (n : Nat) (s0 s4 : Int) (b5 : LR) (f : Int → Int → LR → Option α) (k0 : LR → Option α) : Option α :=
 bif (decide (s4 < s0)) then
  ob (f64 n 0) fun r_1 =>
  gd (decide ((b5.length + 1) * 56 ≤ 140737488355328)) (
   f s0 (W (s4 + 1)) (b5 ++ [r_1]))
 else
  k0 b5
abbrev f43_L3H : Tm := ⟨[(0, .d hI), (3, .k (.hw 5)), (4, .d hI)], [(5, .arr 31 hR false)], [13], []⟩
abbrev f43_L3X0 : Tm := ⟨[(3, .k (.hw 5))], [(5, .arr 31 hR false)], [], []⟩
abbrev f43_L3O : List (Exit × Tm) := [(.exit 0, f43_L3X0)]
def f43_L3U {α : Type} (n : Nat) (v : f43_L3H.den) (f : f43_L3H.den → Option α) (ks : KS α f43_L3O) : Option α := f43_L3B n v.1.1 v.1.2.2.1 v.2.1 (fun s0 s4 b5 => f ((s0, (), s4, ()), (b5, ()))) (fun w0 => ks.1 (((), ()), (w0, ())))
def f43_L3 {α : Type} (n m : Nat) (s0 s4 : Int) (b5 : LR) (k0 : LR → Option α) : Option α := rounds (f43_L3U n) m ((s0, (), s4, ()), (b5, ())) (fun w => k0 w.2.1, ())
theorem f43_L3_0 {α n s0 s4 b5 k0} : f43_L3 (α := α) n 0 s0 s4 b5 k0 = none := rfl
theorem f43_L3_s {α n m s0 s4 b5 k0} : f43_L3 (α := α) n (m + 1) s0 s4 b5 k0 = f43_L3B n s0 s4 b5 (fun s0 s4 b5 => f43_L3 n m s0 s4 b5 k0) k0 := rfl
def f43 (n : Nat) (a0 : Int) : Option LR :=
 f43_L3 n n a0 0 []
  (fun z_2 => (
   some z_2))
def f43_E (n : Nat) : Ent := ⟨43, [hI], [hRs], fun x => f43 n x⟩
def f43_D (α : Type) (n : Nat) : D3 α := { reg := [(1, ⟨0, [], [(0, { sh := some hR })]⟩), (5, ⟨0, [], [(1, { ent := some (f64_E n) }), (2, { sh := some hR })]⟩)], join := [], loop := [(3, ⟨f43_L3H, f43_L3O, rounds (f43_L3U n) n⟩)] }
theorem f43_ents (α : Type) (n : Nat) : AllS Try.prog (entsOf (f43_D α n).reg) := ⟨f64_ok n, trivial⟩
theorem f43_L3_d (α : Type) (n : Nat) : D3.OK Try.prog (tyOf Try.prog) ⟨16, []⟩ (f43_D α n) ((bodyOf Try.f43).at [1, 1, 0, 1, 0, 0]) :=
 D3.OK.mk3 (f43_ents α n) (show loopsOf ((bodyOf Try.f43).at [1, 1, 0, 1, 0, 0]) = [] by kernel_rfl) trivial
theorem f43_L3_ok (α : Type) (n : Nat) : LO.Sound (α := α) Try.prog ⟨16, []⟩ ⟨f43_L3H, f43_L3O, rounds (f43_L3U n) n⟩ (.loop ((bodyOf Try.f43).at [1, 1, 0, 1, 0, 0])) :=
 loop_ok (tyOf_ok _) prog_fol (f43_L3U n) (f43_L3_d α n) (by intro v f ks; kernel_rfl) n
theorem f43_d (α : Type) (n : Nat) : D3.OK Try.prog (tyOf Try.prog) ⟨16, []⟩ (f43_D α n) (bodyOf Try.f43) :=
 D3.OK.mk3 (f43_ents α n) (show loopsOf (bodyOf Try.f43) = [(3, (.loop ((bodyOf Try.f43).at [1, 1, 0, 1, 0, 0])))] by kernel_rfl) ⟨look_sound rfl (f43_L3_ok α n), trivial⟩
theorem f43_ok (n : Nat) : (f43_E n).Sound Try.prog :=
 fn_ok (tyOf_ok _) prog_fol (f43_D _ n) (show Try.prog.funcs[43]? = some Try.f43 by kernel_rfl) (by kernel_rfl) (show Try.f43.body = some (bodyOf Try.f43) by kernel_rfl) rfl rfl (Nat.le_of_ble_eq_true rfl) (f43_d _ n) (by intro x; kernel_rfl) 

def f87 (n : Nat) (a0 : Rq) : Option Bool :=
 some ((a0.2.1.length : Int) == 0)
def f87_E (n : Nat) : Ent := ⟨87, [hR], [.bool], fun x => f87 n x⟩
def f87_D (α : Type) (n : Nat) : D3 α := { reg := [], join := [], loop := [] }
theorem f87_ents (α : Type) (n : Nat) : AllS Try.prog (entsOf (f87_D α n).reg) := trivial
theorem f87_d (α : Type) (n : Nat) : D3.OK Try.prog (tyOf Try.prog) ⟨7, []⟩ (f87_D α n) (bodyOf Try.f87) :=
 D3.OK.mk3 (f87_ents α n) (show loopsOf (bodyOf Try.f87) = [] by kernel_rfl) trivial
theorem f87_ok (n : Nat) : (f87_E n).Sound Try.prog :=
 fn_ok (tyOf_ok _) prog_fol (f87_D _ n) (show Try.prog.funcs[87]? = some Try.f87 by kernel_rfl) (by kernel_rfl) (show Try.f87.body = some (bodyOf Try.f87) by kernel_rfl) rfl rfl (Nat.le_of_ble_eq_true rfl) (f87_d _ n) (by intro x; kernel_rfl) 

def f88 (n : Nat) (a0 : Rq) : Option Rq :=
 bif (!a0.1) then
  some ((decide ((a0.2.1.length : Int) > 0)), a0.2)
 else
  some (false, a0.2)
def f88_E (n : Nat) : Ent := ⟨88, [hR], [hR], fun x => f88 n x⟩
def f88_D (α : Type) (n : Nat) : D3 α := { reg := [], join := [], loop := [] }
theorem f88_ents (α : Type) (n : Nat) : AllS Try.prog (entsOf (f88_D α n).reg) := trivial
theorem f88_d (α : Type) (n : Nat) : D3.OK Try.prog (tyOf Try.prog) ⟨14, []⟩ (f88_D α n) (bodyOf Try.f88) :=
 D3.OK.mk3 (f88_ents α n) (show loopsOf (bodyOf Try.f88) = [] by kernel_rfl) trivial
theorem f88_ok (n : Nat) : (f88_E n).Sound Try.prog :=
 fn_ok (tyOf_ok _) prog_fol (f88_D _ n) (show Try.prog.funcs[88]? = some Try.f88 by kernel_rfl) (by kernel_rfl) (show Try.f88.body = some (bodyOf Try.f88) by kernel_rfl) rfl rfl (Nat.le_of_ble_eq_true rfl) (f88_d _ n) (by intro x; kernel_rfl) 

def f125 (n : Nat) (a0 : Bool) (a1 a2 : LI) : Option Rq :=
 ob (f124 n a1 a2) fun r_1 =>
 ob (f148 n a1 r_1) fun r_2 =>
 ob (f148 n a2 r_1) fun r_3 =>
 bif a0 then
  some ((decide ((r_2.1.length : Int) > 0)), r_2.1, r_3.1)
 else
  some (false, r_2.1, r_3.1)
def f125_E (n : Nat) : Ent := ⟨125, [.bool, hIs, hIs], [hR], fun x => f125 n x.1 x.2.1 x.2.2⟩
def f125_D (α : Type) (n : Nat) : D3 α := { reg := [(1, ⟨0, [], [(2, { ent := some (f124_E n) })]⟩), (2, ⟨0, [], [(2, { ent := some (f148_E n) })]⟩), (3, ⟨0, [], [(2, { ent := some (f148_E n) })]⟩)], join := [], loop := [] }
theorem f125_ents (α : Type) (n : Nat) : AllS Try.prog (entsOf (f125_D α n).reg) := ⟨f124_ok n, f148_ok n, f148_ok n, trivial⟩
theorem f125_d (α : Type) (n : Nat) : D3.OK Try.prog (tyOf Try.prog) ⟨36, []⟩ (f125_D α n) (bodyOf Try.f125) :=
 D3.OK.mk3 (f125_ents α n) (show loopsOf (bodyOf Try.f125) = [] by kernel_rfl) trivial
theorem f125_ok (n : Nat) : (f125_E n).Sound Try.prog :=
 fn_ok (tyOf_ok _) prog_fol (f125_D _ n) (show Try.prog.funcs[125]? = some Try.f125 by kernel_rfl) (by kernel_rfl) (show Try.f125.body = some (bodyOf Try.f125) by kernel_rfl) rfl rfl (Nat.le_of_ble_eq_true rfl) (f125_d _ n) (by intro x; kernel_rfl) 

def f89 (n : Nat) (a0 a1 : Rq) : Option Rq :=
 ob (f126 n a0.2.1 a1.2.1) fun r_1 =>
 ob (f126 n a0.2.2 a1.2.2) fun r_2 =>
 ob (f125 n (!(a0.1 == a1.1)) r_1 r_2) fun r_3 =>
 some r_3
def f89_E (n : Nat) : Ent := ⟨89, [hR, hR], [hR], fun x => f89 n x.1 x.2⟩
def f89_D (α : Type) (n : Nat) : D3 α := { reg := [(1, ⟨15, [], [(9, { ent := some (f126_E n) }), (14, { ent := some (f126_E n) }), (15, { ent := some (f125_E n) })]⟩)], join := [], loop := [] }
theorem f89_ents (α : Type) (n : Nat) : AllS Try.prog (entsOf (f89_D α n).reg) := ⟨f126_ok n, f126_ok n, f125_ok n, trivial⟩
theorem f89_d (α : Type) (n : Nat) : D3.OK Try.prog (tyOf Try.prog) ⟨21, []⟩ (f89_D α n) (bodyOf Try.f89) :=
 D3.OK.mk3 (f89_ents α n) (show loopsOf (bodyOf Try.f89) = [] by kernel_rfl) trivial
theorem f89_ok (n : Nat) : (f89_E n).Sound Try.prog :=
 fn_ok (tyOf_ok _) prog_fol (f89_D _ n) (show Try.prog.funcs[89]? = some Try.f89 by kernel_rfl) (by kernel_rfl) (show Try.f89.body = some (bodyOf Try.f89) by kernel_rfl) rfl rfl (Nat.le_of_ble_eq_true rfl) (f89_d _ n) (by intro x; kernel_rfl) 

def f90 (n : Nat) (a0 a1 : Rq) : Option Rq :=
 ob (f126 n a0.2.1 a1.2.2) fun r_1 =>
 ob (f126 n a0.2.2 a1.2.1) fun r_2 =>
 ob (f125 n (!(a0.1 == a1.1)) r_1 r_2) fun r_3 =>
 some r_3
def f90_E (n : Nat) : Ent := ⟨90, [hR, hR], [hR], fun x => f90 n x.1 x.2⟩
def f90_D (α : Type) (n : Nat) : D3 α := { reg := [(1, ⟨15, [], [(9, { ent := some (f126_E n) }), (14, { ent := some (f126_E n) }), (15, { ent := some (f125_E n) })]⟩)], join := [], loop := [] }
theorem f90_ents (α : Type) (n : Nat) : AllS Try.prog (entsOf (f90_D α n).reg) := ⟨f126_ok n, f126_ok n, f125_ok n, trivial⟩
theorem f90_d (α : Type) (n : Nat) : D3.OK Try.prog (tyOf Try.prog) ⟨21, []⟩ (f90_D α n) (bodyOf Try.f90) :=
 D3.OK.mk3 (f90_ents α n) (show loopsOf (bodyOf Try.f90) = [] by kernel_rfl) trivial
theorem f90_ok (n : Nat) : (f90_E n).Sound Try.prog :=
 fn_ok (tyOf_ok _) prog_fol (f90_D _ n) (show Try.prog.funcs[90]? = some Try.f90 by kernel_rfl) (by kernel_rfl) (show Try.f90.body = some (bodyOf Try.f90) by kernel_rfl) rfl rfl (Nat.le_of_ble_eq_true rfl) (f90_d _ n) (by intro x; kernel_rfl) 

def f150_L4B {α : Type} (n : Nat) (s0 s1 : LI) (s6 s7 : Int) (b8 : LI) (f : LI → LI → Int → Int → LI → Option α) (k0 : LI → Option α) : Option α :=
 let J_5 := fun (_ : Unit) => (
  let J_4 := fun (y_1 : Int) => (
   let J_3 := fun (y_2 : Int) => (
    gd (decide ((b8.length + 1) * 8 ≤ 140737488355328)) (
     f s0 s1 (W (Int.tdiv y_2 10000)) (W (s7 + 1)) (b8 ++ [(Int.tmod y_2 10000)])))
   bif (decide (s7 < (s1.length : Int))) then
    gd (decide (0 ≤ s7) && decide (s7 < (s1.length : Int))) (
     J_3 (W (y_1 + (s1.getD s7.toNat 0))))
   else
    J_3 y_1)
  bif (decide (s7 < (s0.length : Int))) then
   gd (decide (0 ≤ s7) && decide (s7 < (s0.length : Int))) (
    J_4 (W (s6 + (s0.getD s7.toNat 0))))
  else
   J_4 s6)
 bif (decide (s7 < (s0.length : Int))) then
  J_5 ()
 else
  bif (decide (s7 < (s1.length : Int))) then
   J_5 ()
  else
   bif (decide (s6 > 0)) then
    J_5 ()
   else
    k0 b8
abbrev f150_L4H : Tm := ⟨[(0, .d hIs), (1, .d hIs), (5, .k (.hw 8)), (6, .d hI), (7, .d hI)], [(8, .arr 3 hI false)], [48], []⟩
abbrev f150_L4X0 : Tm := ⟨[(5, .k (.hw 8))], [(8, .arr 3 hI false)], [], []⟩
abbrev f150_L4O : List (Exit × Tm) := [(.exit 0, f150_L4X0)]
def f150_L4U {α : Type} (n : Nat) (v : f150_L4H.den) (f : f150_L4H.den → Option α) (ks : KS α f150_L4O) : Option α := f150_L4B n v.1.1 v.1.2.1 v.1.2.2.2.1 v.1.2.2.2.2.1 v.2.1 (fun s0 s1 s6 s7 b8 => f ((s0, s1, (), s6, s7, ()), (b8, ()))) (fun w0 => ks.1 (((), ()), (w0, ())))
def f150_L4 {α : Type} (n m : Nat) (s0 s1 : LI) (s6 s7 : Int) (b8 : LI) (k0 : LI → Option α) : Option α := rounds (f150_L4U n) m ((s0, s1, (), s6, s7, ()), (b8, ())) (fun w => k0 w.2.1, ())
theorem f150_L4_0 {α n s0 s1 s6 s7 b8 k0} : f150_L4 (α := α) n 0 s0 s1 s6 s7 b8 k0 = none := rfl
theorem f150_L4_s {α n m s0 s1 s6 s7 b8 k0} : f150_L4 (α := α) n (m + 1) s0 s1 s6 s7 b8 k0 = f150_L4B n s0 s1 s6 s7 b8 (fun s0 s1 s6 s7 b8 => f150_L4 n m s0 s1 s6 s7 b8 k0) k0 := rfl
abbrev f150_J6 : Tm := ⟨[(0, .d hIs), (1, .d hIs), (5, .k (.hw 8)), (6, .d hI), (7, .d hI)], [(8, .arr 3 hI false)], [], []⟩
abbrev f150_J8 : Tm := ⟨[(0, .d hIs), (1, .d hIs), (5, .k (.hw 8)), (6, .d hI), (7, .d hI)], [(8, .arr 3 hI false)], [], []⟩
abbrev f150_J10 : Tm := ⟨[(0, .d hIs), (1, .d hIs), (5, .k (.hw 8)), (6, .d hI), (7, .d hI)], [(8, .arr 3 hI false)], [], []⟩
def f150 (n : Nat) (a0 a1 : LI) : Option LI :=
 f150_L4 n n a0 a1 0 0 []
  (fun z_6 => (
   some z_6))
def f150_E (n : Nat) : Ent := ⟨150, [hIs, hIs], [hIs], fun x => f150 n x.1 x.2⟩
def f150_D (α : Type) (n : Nat) : D3 α := { reg := [(1, ⟨0, [], [(0, { sh := some hI })]⟩), (10, ⟨0, [], [(3, { sh := some hI })]⟩)], join := [(6, f150_J6), (8, f150_J8), (10, f150_J10)], loop := [(4, ⟨f150_L4H, f150_L4O, rounds (f150_L4U n) n⟩)] }
theorem f150_ents (α : Type) (n : Nat) : AllS Try.prog (entsOf (f150_D α n).reg) := trivial
theorem f150_L4_d (α : Type) (n : Nat) : D3.OK Try.prog (tyOf Try.prog) ⟨53, []⟩ (f150_D α n) ((bodyOf Try.f150).at [1, 1, 1, 0, 1, 0, 0]) :=
 D3.OK.mk3 (f150_ents α n) (show loopsOf ((bodyOf Try.f150).at [1, 1, 1, 0, 1, 0, 0]) = [] by kernel_rfl) trivial
theorem f150_L4_ok (α : Type) (n : Nat) : LO.Sound (α := α) Try.prog ⟨53, []⟩ ⟨f150_L4H, f150_L4O, rounds (f150_L4U n) n⟩ (.loop ((bodyOf Try.f150).at [1, 1, 1, 0, 1, 0, 0])) :=
 loop_ok (tyOf_ok _) prog_fol (f150_L4U n) (f150_L4_d α n) (by intro v f ks; kernel_rfl) n
theorem f150_d (α : Type) (n : Nat) : D3.OK Try.prog (tyOf Try.prog) ⟨53, []⟩ (f150_D α n) (bodyOf Try.f150) :=
 D3.OK.mk3 (f150_ents α n) (show loopsOf (bodyOf Try.f150) = [(4, (.loop ((bodyOf Try.f150).at [1, 1, 1, 0, 1, 0, 0])))] by kernel_rfl) ⟨look_sound rfl (f150_L4_ok α n), trivial⟩
theorem f150_ok (n : Nat) : (f150_E n).Sound Try.prog :=
 fn_ok (tyOf_ok _) prog_fol (f150_D _ n) (show Try.prog.funcs[150]? = some Try.f150 by kernel_rfl) (by kernel_rfl) (show Try.f150.body = some (bodyOf Try.f150) by kernel_rfl) rfl rfl (Nat.le_of_ble_eq_true rfl) (f150_d _ n) (by intro x; kernel_rfl) 

def f127 (n : Nat) (a0 a1 : Rq) : Option Rq :=
 ob (f126 n a0.2.1 a1.2.2) fun r_1 =>
 ob (f126 n a1.2.1 a0.2.2) fun r_2 =>
 ob (f126 n a0.2.2 a1.2.2) fun r_3 =>
 bif (a0.1 == a1.1) then
  ob (f150 n r_1 r_2) fun r_4 =>
  ob (f125 n a0.1 r_4 r_3) fun r_5 =>
  some r_5
 else
  ob (f123 n r_1 r_2) fun r_6 =>
  bif (decide (r_6 ≥ 0)) then
   ob (f151 n r_1 r_2) fun r_7 =>
   ob (f125 n a0.1 r_7 r_3) fun r_8 =>
   some r_8
  else
   ob (f151 n r_2 r_1) fun r_9 =>
   ob (f125 n a1.1 r_9 r_3) fun r_10 =>
   some r_10
def f127_E (n : Nat) : Ent := ⟨127, [hR, hR], [hR], fun x => f127 n x.1 x.2⟩
def f127_D (α : Type) (n : Nat) : D3 α := { reg := [(1, ⟨0, [], [(4, { ent := some (f126_E n) })]⟩), (2, ⟨0, [], [(4, { ent := some (f126_E n) })]⟩), (3, ⟨0, [], [(4, { ent := some (f126_E n) })]⟩), (5, ⟨6, [], [(4, { ent := some (f150_E n) }), (6, { ent := some (f125_E n) })]⟩), (6, ⟨0, [], [(2, { ent := some (f123_E n) })]⟩), (7, ⟨6, [], [(4, { ent := some (f151_E n) }), (6, { ent := some (f125_E n) })]⟩), (8, ⟨6, [], [(4, { ent := some (f151_E n) }), (6, { ent := some (f125_E n) })]⟩)], join := [], loop := [] }
theorem f127_ents (α : Type) (n : Nat) : AllS Try.prog (entsOf (f127_D α n).reg) := ⟨f126_ok n, f126_ok n, f126_ok n, f150_ok n, f125_ok n, f123_ok n, f151_ok n, f125_ok n, f151_ok n, f125_ok n, trivial⟩
theorem f127_d (α : Type) (n : Nat) : D3.OK Try.prog (tyOf Try.prog) ⟨53, []⟩ (f127_D α n) (bodyOf Try.f127) :=
 D3.OK.mk3 (f127_ents α n) (show loopsOf (bodyOf Try.f127) = [] by kernel_rfl) trivial
theorem f127_ok (n : Nat) : (f127_E n).Sound Try.prog :=
 fn_ok (tyOf_ok _) prog_fol (f127_D _ n) (show Try.prog.funcs[127]? = some Try.f127 by kernel_rfl) (by kernel_rfl) (show Try.f127.body = some (bodyOf Try.f127) by kernel_rfl) rfl rfl (Nat.le_of_ble_eq_true rfl) (f127_d _ n) (by intro x; kernel_rfl) 

def f91 (n : Nat) (a0 a1 : Rq) : Option Rq :=
 ob (f88 n a1) fun r_1 =>
 ob (f127 n a0 r_1) fun r_2 =>
 some r_2
def f91_E (n : Nat) : Ent := ⟨91, [hR, hR], [hR], fun x => f91 n x.1 x.2⟩
def f91_D (α : Type) (n : Nat) : D3 α := { reg := [(1, ⟨3, [], [(2, { ent := some (f88_E n) }), (3, { ent := some (f127_E n) })]⟩)], join := [], loop := [] }
theorem f91_ents (α : Type) (n : Nat) : AllS Try.prog (entsOf (f91_D α n).reg) := ⟨f88_ok n, f127_ok n, trivial⟩
theorem f91_d (α : Type) (n : Nat) : D3.OK Try.prog (tyOf Try.prog) ⟨9, []⟩ (f91_D α n) (bodyOf Try.f91) :=
 D3.OK.mk3 (f91_ents α n) (show loopsOf (bodyOf Try.f91) = [] by kernel_rfl) trivial
theorem f91_ok (n : Nat) : (f91_E n).Sound Try.prog :=
 fn_ok (tyOf_ok _) prog_fol (f91_D _ n) (show Try.prog.funcs[91]? = some Try.f91 by kernel_rfl) (by kernel_rfl) (show Try.f91.body = some (bodyOf Try.f91) by kernel_rfl) rfl rfl (Nat.le_of_ble_eq_true rfl) (f91_d _ n) (by intro x; kernel_rfl) 

def f42_L9B {α : Type} (n : Nat) (s7 s9 s10 : Int) (c6_0 c8_0 : Bool) (c8_1 c8_2 : LI) (b19 b22 : LR) (f : Int → Int → Int → Bool → Bool → LI → LI → LR → LR → Option α) (k0 : Int → Int → Int → Bool → Bool → LI → LI → LR → LR → Option α) : Option α :=
 bif (decide (s10 < s7)) then
  gd (decide (0 ≤ (W ((W (s10 * s7)) + s9))) && decide ((W ((W (s10 * s7)) + s9)) < (b19.length : Int))) (
   gd (decide ((W ((W (s10 * s7)) + s9)).toNat < b19.length)) (
    let x_2 := b19.getD ((W ((W (s10 * s7)) + s9)).toNat) (false, [], [])
    ob (f87 n x_2) fun r_3 =>
    bif r_3 then
     f s7 s9 (W (s10 + 1)) c6_0 c8_0 c8_1 c8_2 b19 b22
    else
     k0 s7 s9 s10 c6_0 c8_0 c8_1 c8_2 b19 b22))
 else
  k0 s7 s9 s10 c6_0 c8_0 c8_1 c8_2 b19 b22
abbrev f42_L9H : Tm := ⟨[(0, .k (.hw 19)), (1, .k (.hw 22)), (6, .k (.hp 6 0 0)), (7, .d hI), (8, .k (.hp 8 0 0)), (9, .d hI), (10, .d hI)], [(6, .var 31 true false [.d .bool, .d .nil, .d .nil]), (8, .var 31 true false [.d .bool, .d hIs, .d hIs]), (19, .arr 31 hR false), (22, .arr 31 hR false)], [], []⟩
abbrev f42_L9X0 : Tm := ⟨[(0, .k (.hw 19)), (1, .k (.hw 22)), (6, .k (.hp 6 0 0)), (7, .d hI), (8, .k (.hp 8 0 0)), (9, .d hI), (10, .d hI)], [(6, .var 31 true false [.d .bool, .d .nil, .d .nil]), (8, .var 31 true false [.d .bool, .d hIs, .d hIs]), (19, .arr 31 hR false), (22, .arr 31 hR false)], [], []⟩
abbrev f42_L9O : List (Exit × Tm) := [(.exit 2, f42_L9X0)]
def f42_L9U {α : Type} (n : Nat) (v : f42_L9H.den) (f : f42_L9H.den → Option α) (ks : KS α f42_L9O) : Option α := f42_L9B n v.1.2.2.2.1 v.1.2.2.2.2.2.1 v.1.2.2.2.2.2.2.1 v.2.1.1 v.2.2.1.1 v.2.2.1.2.1 v.2.2.1.2.2.1 v.2.2.2.1 v.2.2.2.2.1 (fun s7 s9 s10 c6_0 c8_0 c8_1 c8_2 b19 b22 => f (((), (), (), s7, (), s9, s10, ()), ((c6_0, (), (), ()), (c8_0, c8_1, c8_2, ()), b19, b22, ()))) (fun w0 w1 w2 w3 w4 w5 w6 w7 w8 => ks.1 (((), (), (), w0, (), w1, w2, ()), ((w3, (), (), ()), (w4, w5, w6, ()), w7, w8, ())))
def f42_L9 {α : Type} (n m : Nat) (s7 s9 s10 : Int) (c6_0 c8_0 : Bool) (c8_1 c8_2 : LI) (b19 b22 : LR) (k0 : Int → Int → Int → Bool → Bool → LI → LI → LR → LR → Option α) : Option α := rounds (f42_L9U n) m (((), (), (), s7, (), s9, s10, ()), ((c6_0, (), (), ()), (c8_0, c8_1, c8_2, ()), b19, b22, ())) (fun w => k0 w.1.2.2.2.1 w.1.2.2.2.2.2.1 w.1.2.2.2.2.2.2.1 w.2.1.1 w.2.2.1.1 w.2.2.1.2.1 w.2.2.1.2.2.1 w.2.2.2.1 w.2.2.2.2.1, ())
theorem f42_L9_0 {α n s7 s9 s10 c6_0 c8_0 c8_1 c8_2 b19 b22 k0} : f42_L9 (α := α) n 0 s7 s9 s10 c6_0 c8_0 c8_1 c8_2 b19 b22 k0 = none := rfl
theorem f42_L9_s {α n m s7 s9 s10 c6_0 c8_0 c8_1 c8_2 b19 b22 k0} : f42_L9 (α := α) n (m + 1) s7 s9 s10 c6_0 c8_0 c8_1 c8_2 b19 b22 k0 = f42_L9B n s7 s9 s10 c6_0 c8_0 c8_1 c8_2 b19 b22 (fun s7 s9 s10 c6_0 c8_0 c8_1 c8_2 b19 b22 => f42_L9 n m s7 s9 s10 c6_0 c8_0 c8_1 c8_2 b19 b22 k0) k0 := rfl
def f42_L16B {α : Type} (n : Nat) (s7 s9 s10 s11 : Int) (c6_0 c8_0 : Bool) (c8_1 c8_2 : LI) (b19 b22 : LR) (f : Int → Int → Int → Int → Bool → Bool → LI → LI → LR → LR → Option α) (k0 : Int → Int → Int → Bool → Bool → LI → LI → LR → LR → Option α) : Option α :=
 bif (decide (s11 < s7)) then
  gd (decide (0 ≤ (W ((W (s10 * s7)) + s11))) && decide ((W ((W (s10 * s7)) + s11)) < (b19.length : Int))) (
   gd (decide ((W ((W (s10 * s7)) + s11)).toNat < b19.length)) (
    let x_15 := b19.getD ((W ((W (s10 * s7)) + s11)).toNat) (false, [], [])
    gd (decide (0 ≤ (W ((W (s9 * s7)) + s11))) && decide ((W ((W (s9 * s7)) + s11)) < (b19.length : Int))) (
     gd (decide ((W ((W (s9 * s7)) + s11)).toNat < b19.length)) (
      let x_16 := b19.getD ((W ((W (s9 * s7)) + s11)).toNat) (false, [], [])
      gd (decide (0 ≤ (W ((W (s10 * s7)) + s11))) && decide ((W ((W (s10 * s7)) + s11)) < (b19.length : Int))) (
       gd (decide ((W ((W (s10 * s7)) + s11)).toNat < b19.length)) (
        gd (decide (0 ≤ (W ((W (s9 * s7)) + s11))) && decide ((W ((W (s9 * s7)) + s11)) < (((b19.set ((W ((W (s10 * s7)) + s11)).toNat) x_16).length : Nat) : Int))) (
         gd (decide ((W ((W (s9 * s7)) + s11)).toNat < (b19.set ((W ((W (s10 * s7)) + s11)).toNat) x_16).length)) (
          f s7 s9 s10 (W (s11 + 1)) c6_0 c8_0 c8_1 c8_2 ((b19.set ((W ((W (s10 * s7)) + s11)).toNat) x_16).set ((W ((W (s9 * s7)) + s11)).toNat) x_15) b22))))))))
 else
  k0 s7 s9 s10 c6_0 c8_0 c8_1 c8_2 b19 b22
abbrev f42_L16H : Tm := ⟨[(0, .k (.hw 19)), (1, .k (.hw 22)), (6, .k (.hp 6 0 0)), (7, .d hI), (8, .k (.hp 8 0 0)), (9, .d hI), (10, .d hI), (11, .d hI)], [(6, .var 31 true false [.d .bool, .d .nil, .d .nil]), (8, .var 31 true false [.d .bool, .d hIs, .d hIs]), (19, .arr 31 hR false), (22, .arr 31 hR false)], [12], []⟩
abbrev f42_L16X0 : Tm := ⟨[(0, .k (.hw 19)), (1, .k (.hw 22)), (6, .k (.hp 6 0 0)), (7, .d hI), (8, .k (.hp 8 0 0)), (9, .d hI), (10, .d hI)], [(6, .var 31 true false [.d .bool, .d .nil, .d .nil]), (8, .var 31 true false [.d .bool, .d hIs, .d hIs]), (19, .arr 31 hR false), (22, .arr 31 hR false)], [], []⟩
abbrev f42_L16O : List (Exit × Tm) := [(.exit 4, f42_L16X0)]
def f42_L16U {α : Type} (n : Nat) (v : f42_L16H.den) (f : f42_L16H.den → Option α) (ks : KS α f42_L16O) : Option α := f42_L16B n v.1.2.2.2.1 v.1.2.2.2.2.2.1 v.1.2.2.2.2.2.2.1 v.1.2.2.2.2.2.2.2.1 v.2.1.1 v.2.2.1.1 v.2.2.1.2.1 v.2.2.1.2.2.1 v.2.2.2.1 v.2.2.2.2.1 (fun s7 s9 s10 s11 c6_0 c8_0 c8_1 c8_2 b19 b22 => f (((), (), (), s7, (), s9, s10, s11, ()), ((c6_0, (), (), ()), (c8_0, c8_1, c8_2, ()), b19, b22, ()))) (fun w0 w1 w2 w3 w4 w5 w6 w7 w8 => ks.1 (((), (), (), w0, (), w1, w2, ()), ((w3, (), (), ()), (w4, w5, w6, ()), w7, w8, ())))
def f42_L16 {α : Type} (n m : Nat) (s7 s9 s10 s11 : Int) (c6_0 c8_0 : Bool) (c8_1 c8_2 : LI) (b19 b22 : LR) (k0 : Int → Int → Int → Bool → Bool → LI → LI → LR → LR → Option α) : Option α := rounds (f42_L16U n) m (((), (), (), s7, (), s9, s10, s11, ()), ((c6_0, (), (), ()), (c8_0, c8_1, c8_2, ()), b19, b22, ())) (fun w => k0 w.1.2.2.2.1 w.1.2.2.2.2.2.1 w.1.2.2.2.2.2.2.1 w.2.1.1 w.2.2.1.1 w.2.2.1.2.1 w.2.2.1.2.2.1 w.2.2.2.1 w.2.2.2.2.1, ())
theorem f42_L16_0 {α n s7 s9 s10 s11 c6_0 c8_0 c8_1 c8_2 b19 b22 k0} : f42_L16 (α := α) n 0 s7 s9 s10 s11 c6_0 c8_0 c8_1 c8_2 b19 b22 k0 = none := rfl
theorem f42_L16_s {α n m s7 s9 s10 s11 c6_0 c8_0 c8_1 c8_2 b19 b22 k0} : f42_L16 (α := α) n (m + 1) s7 s9 s10 s11 c6_0 c8_0 c8_1 c8_2 b19 b22 k0 = f42_L16B n s7 s9 s10 s11 c6_0 c8_0 c8_1 c8_2 b19 b22 (fun s7 s9 s10 s11 c6_0 c8_0 c8_1 c8_2 b19 b22 => f42_L16 n m s7 s9 s10 s11 c6_0 c8_0 c8_1 c8_2 b19 b22 k0) k0 := rfl
def f42_L30B {α : Type} (n : Nat) (s7 s9 s14 s16 : Int) (c6_0 c8_0 : Bool) (c8_1 c8_2 : LI) (c15_0 : Bool) (c15_1 c15_2 : LI) (b19 b22 : LR) (f : Int → Int → Int → Int → Bool → Bool → LI → LI → Bool → LI → LI → LR → LR → Option α) (k0 : Int → Int → Int → Bool → Bool → LI → LI → Bool → LI → LI → LR → LR → Option α) : Option α :=
 bif (decide (s16 < s7)) then
  gd (decide (0 ≤ (W ((W (s14 * s7)) + s16))) && decide ((W ((W (s14 * s7)) + s16)) < (b19.length : Int))) (
   gd (decide ((W ((W (s14 * s7)) + s16)).toNat < b19.length)) (
    let x_39 := b19.getD ((W ((W (s14 * s7)) + s16)).toNat) (false, [], [])
    gd (decide (0 ≤ (W ((W (s9 * s7)) + s16))) && decide ((W ((W (s9 * s7)) + s16)) < (b19.length : Int))) (
     gd (decide ((W ((W (s9 * s7)) + s16)).toNat < b19.length)) (
      let x_40 := b19.getD ((W ((W (s9 * s7)) + s16)).toNat) (false, [], [])
      ob (f89 n (c15_0, c15_1, c15_2) x_40) fun r_41 =>
      ob (f91 n x_39 r_41) fun r_42 =>
      gd (decide (0 ≤ (W ((W (s14 * s7)) + s16))) && decide ((W ((W (s14 * s7)) + s16)) < (b19.length : Int))) (
       gd (decide ((W ((W (s14 * s7)) + s16)).toNat < b19.length)) (
        f s7 s9 s14 (W (s16 + 1)) c6_0 c8_0 c8_1 c8_2 c15_0 c15_1 c15_2 (b19.set ((W ((W (s14 * s7)) + s16)).toNat) r_42) b22))))))
 else
  k0 s7 s9 s14 c6_0 c8_0 c8_1 c8_2 c15_0 c15_1 c15_2 b19 b22
abbrev f42_L30H : Tm := ⟨[(0, .k (.hw 19)), (1, .k (.hw 22)), (6, .k (.hp 6 0 0)), (7, .d hI), (8, .k (.hp 8 0 0)), (9, .d hI), (14, .d hI), (15, .k (.hp 15 0 0)), (16, .d hI)], [(6, .var 31 true false [.d .bool, .d .nil, .d .nil]), (8, .var 31 true false [.d .bool, .d hIs, .d hIs]), (15, .var 31 true false [.d .bool, .d hIs, .d hIs]), (19, .arr 31 hR false), (22, .arr 31 hR false)], [], []⟩
abbrev f42_L30X0 : Tm := ⟨[(0, .k (.hw 19)), (1, .k (.hw 22)), (6, .k (.hp 6 0 0)), (7, .d hI), (8, .k (.hp 8 0 0)), (9, .d hI), (14, .d hI), (15, .k (.hp 15 0 0))], [(6, .var 31 true false [.d .bool, .d .nil, .d .nil]), (8, .var 31 true false [.d .bool, .d hIs, .d hIs]), (15, .var 31 true false [.d .bool, .d hIs, .d hIs]), (19, .arr 31 hR false), (22, .arr 31 hR false)], [], []⟩
abbrev f42_L30O : List (Exit × Tm) := [(.exit 8, f42_L30X0)]
def f42_L30U {α : Type} (n : Nat) (v : f42_L30H.den) (f : f42_L30H.den → Option α) (ks : KS α f42_L30O) : Option α := f42_L30B n v.1.2.2.2.1 v.1.2.2.2.2.2.1 v.1.2.2.2.2.2.2.1 v.1.2.2.2.2.2.2.2.2.1 v.2.1.1 v.2.2.1.1 v.2.2.1.2.1 v.2.2.1.2.2.1 v.2.2.2.1.1 v.2.2.2.1.2.1 v.2.2.2.1.2.2.1 v.2.2.2.2.1 v.2.2.2.2.2.1 (fun s7 s9 s14 s16 c6_0 c8_0 c8_1 c8_2 c15_0 c15_1 c15_2 b19 b22 => f (((), (), (), s7, (), s9, s14, (), s16, ()), ((c6_0, (), (), ()), (c8_0, c8_1, c8_2, ()), (c15_0, c15_1, c15_2, ()), b19, b22, ()))) (fun w0 w1 w2 w3 w4 w5 w6 w7 w8 w9 w10 w11 => ks.1 (((), (), (), w0, (), w1, w2, (), ()), ((w3, (), (), ()), (w4, w5, w6, ()), (w7, w8, w9, ()), w10, w11, ())))
def f42_L30 {α : Type} (n m : Nat) (s7 s9 s14 s16 : Int) (c6_0 c8_0 : Bool) (c8_1 c8_2 : LI) (c15_0 : Bool) (c15_1 c15_2 : LI) (b19 b22 : LR) (k0 : Int → Int → Int → Bool → Bool → LI → LI → Bool → LI → LI → LR → LR → Option α) : Option α := rounds (f42_L30U n) m (((), (), (), s7, (), s9, s14, (), s16, ()), ((c6_0, (), (), ()), (c8_0, c8_1, c8_2, ()), (c15_0, c15_1, c15_2, ()), b19, b22, ())) (fun w => k0 w.1.2.2.2.1 w.1.2.2.2.2.2.1 w.1.2.2.2.2.2.2.1 w.2.1.1 w.2.2.1.1 w.2.2.1.2.1 w.2.2.1.2.2.1 w.2.2.2.1.1 w.2.2.2.1.2.1 w.2.2.2.1.2.2.1 w.2.2.2.2.1 w.2.2.2.2.2.1, ())
theorem f42_L30_0 {α n s7 s9 s14 s16 c6_0 c8_0 c8_1 c8_2 c15_0 c15_1 c15_2 b19 b22 k0} : f42_L30 (α := α) n 0 s7 s9 s14 s16 c6_0 c8_0 c8_1 c8_2 c15_0 c15_1 c15_2 b19 b22 k0 = none := rfl
theorem f42_L30_s {α n m s7 s9 s14 s16 c6_0 c8_0 c8_1 c8_2 c15_0 c15_1 c15_2 b19 b22 k0} : f42_L30 (α := α) n (m + 1) s7 s9 s14 s16 c6_0 c8_0 c8_1 c8_2 c15_0 c15_1 c15_2 b19 b22 k0 = f42_L30B n s7 s9 s14 s16 c6_0 c8_0 c8_1 c8_2 c15_0 c15_1 c15_2 b19 b22 (fun s7 s9 s14 s16 c6_0 c8_0 c8_1 c8_2 c15_0 c15_1 c15_2 b19 b22 => f42_L30 n m s7 s9 s14 s16 c6_0 c8_0 c8_1 c8_2 c15_0 c15_1 c15_2 b19 b22 k0) k0 := rfl
def f42_L26B {α : Type} (n : Nat) (s7 s9 s14 : Int) (c6_0 c8_0 : Bool) (c8_1 c8_2 : LI) (b19 b22 : LR) (f : Int → Int → Int → Bool → Bool → LI → LI → LR → LR → Option α) (k0 : Int → Int → Bool → Bool → LI → LI → LR → LR → Option α) : Option α :=
 bif (decide (s14 < s7)) then
  gd (decide (0 ≤ (W ((W (s14 * s7)) + s9))) && decide ((W ((W (s14 * s7)) + s9)) < (b19.length : Int))) (
   gd (decide ((W ((W (s14 * s7)) + s9)).toNat < b19.length)) (
    let x_36 := b19.getD ((W ((W (s14 * s7)) + s9)).toNat) (false, [], [])
    gd (decide (0 ≤ (W ((W (s9 * s7)) + s9))) && decide ((W ((W (s9 * s7)) + s9)) < (b19.length : Int))) (
     gd (decide ((W ((W (s9 * s7)) + s9)).toNat < b19.length)) (
      let x_37 := b19.getD ((W ((W (s9 * s7)) + s9)).toNat) (false, [], [])
      ob (f90 n x_36 x_37) fun r_38 =>
      f42_L30 n n s7 s9 s14 s9 c6_0 c8_0 c8_1 c8_2 r_38.1 r_38.2.1 r_38.2.2 b19 b22
       (fun z_39 z_40 z_41 z_42 z_43 z_44 z_45 z_46 z_47 z_48 z_49 z_50 => (
        gd (decide (0 ≤ z_41) && decide (z_41 < (z_50.length : Int))) (
         gd (decide (z_41.toNat < z_50.length)) (
          let x_51 := z_50.getD z_41.toNat (false, [], [])
          gd (decide (0 ≤ z_40) && decide (z_40 < (z_50.length : Int))) (
           gd (decide (z_40.toNat < z_50.length)) (
            let x_52 := z_50.getD z_40.toNat (false, [], [])
            ob (f89 n (z_46, z_47, z_48) x_52) fun r_53 =>
            ob (f91 n x_51 r_53) fun r_54 =>
            gd (decide (0 ≤ z_41) && decide (z_41 < (z_50.length : Int))) (
             gd (decide (z_41.toNat < z_50.length)) (
              f z_39 z_40 (W (z_41 + 1)) z_42 z_43 z_44 z_45 z_49 (z_50.set z_41.toNat r_54)))))))))))))
 else
  k0 s7 s9 c6_0 c8_0 c8_1 c8_2 b19 b22
abbrev f42_L26H : Tm := ⟨[(0, .k (.hw 19)), (1, .k (.hw 22)), (6, .k (.hp 6 0 0)), (7, .d hI), (8, .k (.hp 8 0 0)), (9, .d hI), (14, .d hI)], [(6, .var 31 true false [.d .bool, .d .nil, .d .nil]), (8, .var 31 true false [.d .bool, .d hIs, .d hIs]), (19, .arr 31 hR false), (22, .arr 31 hR false)], [15], []⟩
abbrev f42_L26X0 : Tm := ⟨[(0, .k (.hw 19)), (1, .k (.hw 22)), (6, .k (.hp 6 0 0)), (7, .d hI), (8, .k (.hp 8 0 0)), (9, .d hI)], [(6, .var 31 true false [.d .bool, .d .nil, .d .nil]), (8, .var 31 true false [.d .bool, .d hIs, .d hIs]), (19, .arr 31 hR false), (22, .arr 31 hR false)], [], []⟩
abbrev f42_L26O : List (Exit × Tm) := [(.exit 6, f42_L26X0)]
def f42_L26U {α : Type} (n : Nat) (v : f42_L26H.den) (f : f42_L26H.den → Option α) (ks : KS α f42_L26O) : Option α := f42_L26B n v.1.2.2.2.1 v.1.2.2.2.2.2.1 v.1.2.2.2.2.2.2.1 v.2.1.1 v.2.2.1.1 v.2.2.1.2.1 v.2.2.1.2.2.1 v.2.2.2.1 v.2.2.2.2.1 (fun s7 s9 s14 c6_0 c8_0 c8_1 c8_2 b19 b22 => f (((), (), (), s7, (), s9, s14, ()), ((c6_0, (), (), ()), (c8_0, c8_1, c8_2, ()), b19, b22, ()))) (fun w0 w1 w2 w3 w4 w5 w6 w7 => ks.1 (((), (), (), w0, (), w1, ()), ((w2, (), (), ()), (w3, w4, w5, ()), w6, w7, ())))
def f42_L26 {α : Type} (n m : Nat) (s7 s9 s14 : Int) (c6_0 c8_0 : Bool) (c8_1 c8_2 : LI) (b19 b22 : LR) (k0 : Int → Int → Bool → Bool → LI → LI → LR → LR → Option α) : Option α := rounds (f42_L26U n) m (((), (), (), s7, (), s9, s14, ()), ((c6_0, (), (), ()), (c8_0, c8_1, c8_2, ()), b19, b22, ())) (fun w => k0 w.1.2.2.2.1 w.1.2.2.2.2.2.1 w.2.1.1 w.2.2.1.1 w.2.2.1.2.1 w.2.2.1.2.2.1 w.2.2.2.1 w.2.2.2.2.1, ())
theorem f42_L26_0 {α n s7 s9 s14 c6_0 c8_0 c8_1 c8_2 b19 b22 k0} : f42_L26 (α := α) n 0 s7 s9 s14 c6_0 c8_0 c8_1 c8_2 b19 b22 k0 = none := rfl
theorem f42_L26_s {α n m s7 s9 s14 c6_0 c8_0 c8_1 c8_2 b19 b22 k0} : f42_L26 (α := α) n (m + 1) s7 s9 s14 c6_0 c8_0 c8_1 c8_2 b19 b22 k0 = f42_L26B n s7 s9 s14 c6_0 c8_0 c8_1 c8_2 b19 b22 (fun s7 s9 s14 c6_0 c8_0 c8_1 c8_2 b19 b22 => f42_L26 n m s7 s9 s14 c6_0 c8_0 c8_1 c8_2 b19 b22 k0) k0 := rfl
def f42_L6B {α : Type} (n : Nat) (s7 s9 : Int) (c6_0 c8_0 : Bool) (c8_1 c8_2 : LI) (b19 b22 : LR) (f : Int → Int → Bool → Bool → LI → LI → LR → LR → Option α) (k0 : Bool → LI → LI → LR → LR → Option α) (k1 : Bool → Bool → LI → LI → LR → LR → Option α) : Option α :=
 bif (decide (s9 < s7)) then
  f42_L9 n n s7 s9 s9 c6_0 c8_0 c8_1 c8_2 b19 b22
   (fun z_2 z_3 z_4 z_5 z_6 z_7 z_8 z_9 z_10 => (
    bif (z_4 == z_2) then
     ob (f64 n 0) fun r_11 =>
     k0 r_11.1 r_11.2.1 r_11.2.2 z_9 z_10
    else
     let J_42 := fun (y_24 : Int) (y_25 : Int) (y_26 : Bool) (y_27 : Bool) (y_28 : LI) (y_29 : LI) (y_30 : LR) (y_31 : LR) => (
      gd (decide (0 ≤ (W ((W (y_25 * y_24)) + y_25))) && decide ((W ((W (y_25 * y_24)) + y_25)) < (y_30.length : Int))) (
       gd (decide ((W ((W (y_25 * y_24)) + y_25)).toNat < y_30.length)) (
        let x_32 := y_30.getD ((W ((W (y_25 * y_24)) + y_25)).toNat) (false, [], [])
        ob (f89 n (y_27, y_28, y_29) x_32) fun r_33 =>
        f42_L26 n n y_24 y_25 (W (y_25 + 1)) y_26 r_33.1 r_33.2.1 r_33.2.2 y_30 y_31
         (fun z_34 z_35 z_36 z_37 z_38 z_39 z_40 z_41 => (
          f z_34 (W (z_35 + 1)) z_36 z_37 z_38 z_39 z_40 z_41)))))
     bif (decide (z_4 > z_3)) then
      ob (f88 n (z_6, z_7, z_8)) fun r_12 =>
      f42_L16 n n z_2 z_3 z_4 0 z_5 r_12.1 r_12.2.1 r_12.2.2 z_9 z_10
       (fun z_13 z_14 z_15 z_16 z_17 z_18 z_19 z_20 z_21 => (
        gd (decide (0 ≤ z_15) && decide (z_15 < (z_21.length : Int))) (
         gd (decide (z_15.toNat < z_21.length)) (
          let x_22 := z_21.getD z_15.toNat (false, [], [])
          gd (decide (0 ≤ z_14) && decide (z_14 < (z_21.length : Int))) (
           gd (decide (z_14.toNat < z_21.length)) (
            let x_23 := z_21.getD z_14.toNat (false, [], [])
            gd (decide (0 ≤ z_15) && decide (z_15 < (z_21.length : Int))) (
             gd (decide (z_15.toNat < z_21.length)) (
              gd (decide (0 ≤ z_14) && decide (z_14 < (((z_21.set z_15.toNat x_23).length : Nat) : Int))) (
               gd (decide (z_14.toNat < (z_21.set z_15.toNat x_23).length)) (
                J_42 z_13 z_14 z_16 z_17 z_18 z_19 z_20 ((z_21.set z_15.toNat x_23).set z_14.toNat x_22)))))))))))
     else
      J_42 z_2 z_3 z_5 z_6 z_7 z_8 z_9 z_10))
 else
  k1 c6_0 c8_0 c8_1 c8_2 b19 b22
abbrev f42_L6H : Tm := ⟨[(0, .k (.hw 19)), (1, .k (.hw 22)), (6, .k (.hp 6 0 0)), (7, .d hI), (8, .k (.hp 8 0 0)), (9, .d hI)], [(6, .var 31 true false [.d .bool, .d .nil, .d .nil]), (8, .var 31 true false [.d .bool, .d hIs, .d hIs]), (19, .arr 31 hR false), (22, .arr 31 hR false)], [], []⟩
abbrev f42_L6X0 : Tm := ⟨[(4, .k (.hw 19)), (5, .k (.hw 22)), (6, .k (.hp 6 0 0))], [(6, .var 31 true false [.d .bool, .d hIs, .d hIs]), (19, .arr 31 hR false), (22, .arr 31 hR false)], [8], []⟩
abbrev f42_L6X1 : Tm := ⟨[(0, .k (.hw 19)), (1, .k (.hw 22)), (6, .k (.hp 6 0 0)), (8, .k (.hp 8 0 0))], [(6, .var 31 true false [.d .bool, .d .nil, .d .nil]), (8, .var 31 true false [.d .bool, .d hIs, .d hIs]), (19, .arr 31 hR false), (22, .arr 31 hR false)], [], []⟩
abbrev f42_L6O : List (Exit × Tm) := [(.ret, f42_L6X0), (.exit 0, f42_L6X1)]
def f42_L6U {α : Type} (n : Nat) (v : f42_L6H.den) (f : f42_L6H.den → Option α) (ks : KS α f42_L6O) : Option α := f42_L6B n v.1.2.2.2.1 v.1.2.2.2.2.2.1 v.2.1.1 v.2.2.1.1 v.2.2.1.2.1 v.2.2.1.2.2.1 v.2.2.2.1 v.2.2.2.2.1 (fun s7 s9 c6_0 c8_0 c8_1 c8_2 b19 b22 => f (((), (), (), s7, (), s9, ()), ((c6_0, (), (), ()), (c8_0, c8_1, c8_2, ()), b19, b22, ()))) (fun w0 w1 w2 w3 w4 => ks.1 (((), (), (), ()), ((w0, w1, w2, ()), w3, w4, ()))) (fun w0 w1 w2 w3 w4 w5 => ks.2.1 (((), (), (), (), ()), ((w0, (), (), ()), (w1, w2, w3, ()), w4, w5, ())))
def f42_L6 {α : Type} (n m : Nat) (s7 s9 : Int) (c6_0 c8_0 : Bool) (c8_1 c8_2 : LI) (b19 b22 : LR) (k0 : Bool → LI → LI → LR → LR → Option α) (k1 : Bool → Bool → LI → LI → LR → LR → Option α) : Option α := rounds (f42_L6U n) m (((), (), (), s7, (), s9, ()), ((c6_0, (), (), ()), (c8_0, c8_1, c8_2, ()), b19, b22, ())) (fun w => k0 w.2.1.1 w.2.1.2.1 w.2.1.2.2.1 w.2.2.1 w.2.2.2.1, fun w => k1 w.2.1.1 w.2.2.1.1 w.2.2.1.2.1 w.2.2.1.2.2.1 w.2.2.2.1 w.2.2.2.2.1, ())
theorem f42_L6_0 {α n s7 s9 c6_0 c8_0 c8_1 c8_2 b19 b22 k0 k1} : f42_L6 (α := α) n 0 s7 s9 c6_0 c8_0 c8_1 c8_2 b19 b22 k0 k1 = none := rfl
theorem f42_L6_s {α n m s7 s9 c6_0 c8_0 c8_1 c8_2 b19 b22 k0 k1} : f42_L6 (α := α) n (m + 1) s7 s9 c6_0 c8_0 c8_1 c8_2 b19 b22 k0 k1 = f42_L6B n s7 s9 c6_0 c8_0 c8_1 c8_2 b19 b22 (fun s7 s9 c6_0 c8_0 c8_1 c8_2 b19 b22 => f42_L6 n m s7 s9 c6_0 c8_0 c8_1 c8_2 b19 b22 k0 k1) k0 k1 := rfl
abbrev f42_G28 : Tm := ⟨[(0, .k (.hw 19)), (1, .k (.hw 22)), (6, .k (.hp 6 0 0)), (7, .d hI), (8, .k (.hp 8 0 0)), (9, .d hI), (14, .d hI)], [(6, .var 31 true false [.d .bool, .d .nil, .d .nil]), (8, .var 31 true false [.d .bool, .d hIs, .d hIs]), (19, .arr 31 hR false), (22, .arr 31 hR false)], [], []⟩
abbrev f42_J24 : Tm := ⟨[(0, .k (.hw 19)), (1, .k (.hw 22)), (6, .k (.hp 6 0 0)), (7, .d hI), (8, .k (.hp 8 0 0)), (9, .d hI)], [(6, .var 31 true false [.d .bool, .d .nil, .d .nil]), (8, .var 31 true false [.d .bool, .d hIs, .d hIs]), (19, .arr 31 hR false), (22, .arr 31 hR false)], [13], []⟩
def f42 (n : Nat) (a0 a1 : LR) : Option (LR × LR × Rq) :=
 gd (decide ((0 + a0.length) * 56 ≤ 140737488355328)) (
  gd (decide ((0 + a1.length) * 56 ≤ 140737488355328)) (
   ob (f64 n 1) fun r_1 =>
   f42_L6 n n (a1.length : Int) 0 false r_1.1 r_1.2.1 r_1.2.2 a0 a1
    (fun z_43 z_44 z_45 z_46 z_47 => (
     some (z_46, z_47, (z_43, z_44, z_45))))
    (fun z_48 z_49 z_50 z_51 z_52 z_53 => (
     some (z_52, z_53, (z_49, z_50, z_51))))))
def f42_E (n : Nat) : Ent := ⟨42, [hRs, hRs], [hRs, hRs, hR], fun x => f42 n x.1 x.2⟩
def f42_D (α : Type) (n : Nat) : D3 α := { reg := [(2, ⟨0, [], [(0, { sh := some hR })]⟩), (3, ⟨0, [], [(0, { sh := some hR })]⟩), (4, ⟨0, [], [(0, { ent := some (f64_E n) })]⟩), (9, ⟨0, [], [(12, { ent := some (f87_E n) })]⟩), (12, ⟨0, [], [(2, { ent := some (f64_E n) })]⟩), (14, ⟨0, [], [(1, { ent := some (f88_E n) })]⟩), (24, ⟨9, [], [(9, { ent := some (f89_E n) })]⟩), (28, ⟨0, [], [(16, { ent := some (f90_E n) })]⟩), (32, ⟨25, [], [(23, { ent := some (f89_E n) }), (24, { ent := some (f91_E n) })]⟩), (33, ⟨13, [], [(11, { ent := some (f89_E n) }), (12, { ent := some (f91_E n) })]⟩), (34, ⟨5, [], []⟩)], join := [(24, f42_J24)], loop := [(9, ⟨f42_L9H, f42_L9O, rounds (f42_L9U n) n⟩), (16, ⟨f42_L16H, f42_L16O, rounds (f42_L16U n) n⟩), (30, ⟨f42_L30H, f42_L30O, rounds (f42_L30U n) n⟩), (26, ⟨f42_L26H, f42_L26O, rounds (f42_L26U n) n⟩), (6, ⟨f42_L6H, f42_L6O, rounds (f42_L6U n) n⟩)], any := [(28, f42_G28)] }
set_option maxHeartbeats 8000000 in
theorem f42_A28 (n : Nat) : FamAll (tyOf Try.prog) ⟨193, []⟩ [(16, { ent := some (f90_E n) })] f42_G28 (regOps ((bodyOf Try.f42).at [1, 1, 1, 1, 1, 0, 1, 0, 0, 1, 0, 0, 1, 1, 1, 1, 1, 1, 0, 0, 1, 0, 0, 0])) := by
 refine ⟨by kernel_rfl, fun w q hq => ?_⟩
 have e : WT [(16, { ent := some (f90_E n) })] (swapIdx (regOps ((bodyOf Try.f42).at [1, 1, 1, 1, 1, 0, 1, 0, 0, 1, 0, 0, 1, 1, 1, 1, 1, 1, 0, 0, 1, 0, 0, 0])).toList) q = (∃ (y0 : HL (f90_E n).rs) (q0 : List (Nat × RV)), q = (16, .sv (resSV (f90_E n).rs y0)) :: q0 ∧ q0 = []) := by kernel_rfl
 rw [e] at hq
 obtain ⟨y0, q0, rfl, rfl⟩ := hq
 all_goals exact .inr ⟨18, by kernel_rfl, by kernel_rfl, by kernel_rfl⟩
theorem f42_ents (α : Type) (n : Nat) : AllS Try.prog (entsOf (f42_D α n).reg) := ⟨f64_ok n, f87_ok n, f64_ok n, f88_ok n, f89_ok n, f90_ok n, f89_ok n, f91_ok n, f89_ok n, f91_ok n, trivial⟩
theorem f42_L9_d (α : Type) (n : Nat) : D3.OK Try.prog (tyOf Try.prog) ⟨193, []⟩ (f42_D α n) ((bodyOf Try.f42).at [1, 1, 1, 1, 1, 0, 1, 0, 0, 1, 0, 0, 1, 0, 0, 0]) :=
 D3.OK.mk3a (f42_ents α n) (show loopsOf ((bodyOf Try.f42).at [1, 1, 1, 1, 1, 0, 1, 0, 0, 1, 0, 0, 1, 0, 0, 0]) = [] by kernel_rfl) trivial (show anysOf ((bodyOf Try.f42).at [1, 1, 1, 1, 1, 0, 1, 0, 0, 1, 0, 0, 1, 0, 0, 0]) = [] by kernel_rfl) trivial
theorem f42_L9_ok (α : Type) (n : Nat) : LO.Sound (α := α) Try.prog ⟨193, []⟩ ⟨f42_L9H, f42_L9O, rounds (f42_L9U n) n⟩ (.loop ((bodyOf Try.f42).at [1, 1, 1, 1, 1, 0, 1, 0, 0, 1, 0, 0, 1, 0, 0, 0])) :=
 loop_ok (tyOf_ok _) prog_fol (f42_L9U n) (f42_L9_d α n) (by intro v f ks; kernel_rfl) n
theorem f42_L16_d (α : Type) (n : Nat) : D3.OK Try.prog (tyOf Try.prog) ⟨193, []⟩ (f42_D α n) ((bodyOf Try.f42).at [1, 1, 1, 1, 1, 0, 1, 0, 0, 1, 0, 0, 1, 1, 1, 0, 1, 0, 1, 0, 1, 0, 0]) :=
 D3.OK.mk3a (f42_ents α n) (show loopsOf ((bodyOf Try.f42).at [1, 1, 1, 1, 1, 0, 1, 0, 0, 1, 0, 0, 1, 1, 1, 0, 1, 0, 1, 0, 1, 0, 0]) = [] by kernel_rfl) trivial (show anysOf ((bodyOf Try.f42).at [1, 1, 1, 1, 1, 0, 1, 0, 0, 1, 0, 0, 1, 1, 1, 0, 1, 0, 1, 0, 1, 0, 0]) = [] by kernel_rfl) trivial
theorem f42_L16_ok (α : Type) (n : Nat) : LO.Sound (α := α) Try.prog ⟨193, []⟩ ⟨f42_L16H, f42_L16O, rounds (f42_L16U n) n⟩ (.loop ((bodyOf Try.f42).at [1, 1, 1, 1, 1, 0, 1, 0, 0, 1, 0, 0, 1, 1, 1, 0, 1, 0, 1, 0, 1, 0, 0])) :=
 loop_ok (tyOf_ok _) prog_fol (f42_L16U n) (f42_L16_d α n) (by intro v f ks; kernel_rfl) n
theorem f42_L30_d (α : Type) (n : Nat) : D3.OK Try.prog (tyOf Try.prog) ⟨193, []⟩ (f42_D α n) ((bodyOf Try.f42).at [1, 1, 1, 1, 1, 0, 1, 0, 0, 1, 0, 0, 1, 1, 1, 1, 1, 1, 0, 0, 1, 0, 0, 1, 0, 1, 0, 0]) :=
 D3.OK.mk3a (f42_ents α n) (show loopsOf ((bodyOf Try.f42).at [1, 1, 1, 1, 1, 0, 1, 0, 0, 1, 0, 0, 1, 1, 1, 1, 1, 1, 0, 0, 1, 0, 0, 1, 0, 1, 0, 0]) = [] by kernel_rfl) trivial (show anysOf ((bodyOf Try.f42).at [1, 1, 1, 1, 1, 0, 1, 0, 0, 1, 0, 0, 1, 1, 1, 1, 1, 1, 0, 0, 1, 0, 0, 1, 0, 1, 0, 0]) = [(32, regOps ((bodyOf Try.f42).at [1, 1, 1, 1, 1, 0, 1, 0, 0, 1, 0, 0, 1, 1, 1, 1, 1, 1, 0, 0, 1, 0, 0, 1, 0, 1, 0, 0, 1, 0, 0]))] by kernel_rfl) ⟨fun X h => (by cases h), trivial⟩
theorem f42_L30_ok (α : Type) (n : Nat) : LO.Sound (α := α) Try.prog ⟨193, []⟩ ⟨f42_L30H, f42_L30O, rounds (f42_L30U n) n⟩ (.loop ((bodyOf Try.f42).at [1, 1, 1, 1, 1, 0, 1, 0, 0, 1, 0, 0, 1, 1, 1, 1, 1, 1, 0, 0, 1, 0, 0, 1, 0, 1, 0, 0])) :=
 loop_ok (tyOf_ok _) prog_fol (f42_L30U n) (f42_L30_d α n) (by intro v f ks; kernel_rfl) n
theorem f42_L26_d (α : Type) (n : Nat) : D3.OK Try.prog (tyOf Try.prog) ⟨193, []⟩ (f42_D α n) ((bodyOf Try.f42).at [1, 1, 1, 1, 1, 0, 1, 0, 0, 1, 0, 0, 1, 1, 1, 1, 1, 1, 0, 0]) :=
 D3.OK.mk3a (f42_ents α n) (show loopsOf ((bodyOf Try.f42).at [1, 1, 1, 1, 1, 0, 1, 0, 0, 1, 0, 0, 1, 1, 1, 1, 1, 1, 0, 0]) = [(30, (.loop ((bodyOf Try.f42).at [1, 1, 1, 1, 1, 0, 1, 0, 0, 1, 0, 0, 1, 1, 1, 1, 1, 1, 0, 0, 1, 0, 0, 1, 0, 1, 0, 0])))] by kernel_rfl) ⟨look_sound rfl (f42_L30_ok α n), trivial⟩ (show anysOf ((bodyOf Try.f42).at [1, 1, 1, 1, 1, 0, 1, 0, 0, 1, 0, 0, 1, 1, 1, 1, 1, 1, 0, 0]) = [(28, regOps ((bodyOf Try.f42).at [1, 1, 1, 1, 1, 0, 1, 0, 0, 1, 0, 0, 1, 1, 1, 1, 1, 1, 0, 0, 1, 0, 0, 0])), (33, regOps ((bodyOf Try.f42).at [1, 1, 1, 1, 1, 0, 1, 0, 0, 1, 0, 0, 1, 1, 1, 1, 1, 1, 0, 0, 1, 0, 0, 1, 1]))] by kernel_rfl) ⟨fun X h => (by cases h; exact f42_A28 n), fun X h => (by cases h), trivial⟩
theorem f42_L26_ok (α : Type) (n : Nat) : LO.Sound (α := α) Try.prog ⟨193, []⟩ ⟨f42_L26H, f42_L26O, rounds (f42_L26U n) n⟩ (.loop ((bodyOf Try.f42).at [1, 1, 1, 1, 1, 0, 1, 0, 0, 1, 0, 0, 1, 1, 1, 1, 1, 1, 0, 0])) :=
 loop_ok (tyOf_ok _) prog_fol (f42_L26U n) (f42_L26_d α n) (by intro v f ks; kernel_rfl) n
theorem f42_L6_d (α : Type) (n : Nat) : D3.OK Try.prog (tyOf Try.prog) ⟨193, []⟩ (f42_D α n) ((bodyOf Try.f42).at [1, 1, 1, 1, 1, 0, 1, 0, 0]) :=
 D3.OK.mk3a (f42_ents α n) (show loopsOf ((bodyOf Try.f42).at [1, 1, 1, 1, 1, 0, 1, 0, 0]) = [(9, (.loop ((bodyOf Try.f42).at [1, 1, 1, 1, 1, 0, 1, 0, 0, 1, 0, 0, 1, 0, 0, 0]))), (16, (.loop ((bodyOf Try.f42).at [1, 1, 1, 1, 1, 0, 1, 0, 0, 1, 0, 0, 1, 1, 1, 0, 1, 0, 1, 0, 1, 0, 0]))), (26, (.loop ((bodyOf Try.f42).at [1, 1, 1, 1, 1, 0, 1, 0, 0, 1, 0, 0, 1, 1, 1, 1, 1, 1, 0, 0])))] by kernel_rfl) ⟨look_sound rfl (f42_L9_ok α n), look_sound rfl (f42_L16_ok α n), look_sound rfl (f42_L26_ok α n), trivial⟩ (show anysOf ((bodyOf Try.f42).at [1, 1, 1, 1, 1, 0, 1, 0, 0]) = [(24, regOps ((bodyOf Try.f42).at [1, 1, 1, 1, 1, 0, 1, 0, 0, 1, 0, 0, 1, 1, 1, 1, 0]))] by kernel_rfl) ⟨fun X h => (by cases h), trivial⟩
theorem f42_L6_ok (α : Type) (n : Nat) : LO.Sound (α := α) Try.prog ⟨193, []⟩ ⟨f42_L6H, f42_L6O, rounds (f42_L6U n) n⟩ (.loop ((bodyOf Try.f42).at [1, 1, 1, 1, 1, 0, 1, 0, 0])) :=
 loop_ok (tyOf_ok _) prog_fol (f42_L6U n) (f42_L6_d α n) (by intro v f ks; kernel_rfl) n
theorem f42_d (α : Type) (n : Nat) : D3.OK Try.prog (tyOf Try.prog) ⟨193, []⟩ (f42_D α n) (bodyOf Try.f42) :=
 D3.OK.mk3a (f42_ents α n) (show loopsOf (bodyOf Try.f42) = [(6, (.loop ((bodyOf Try.f42).at [1, 1, 1, 1, 1, 0, 1, 0, 0])))] by kernel_rfl) ⟨look_sound rfl (f42_L6_ok α n), trivial⟩ (show anysOf (bodyOf Try.f42) = [(34, regOps ((bodyOf Try.f42).at [1, 1, 1, 1, 1, 1, 0]))] by kernel_rfl) ⟨fun X h => (by cases h), trivial⟩
theorem f42_ok (n : Nat) : (f42_E n).Sound Try.prog :=
 fn_ok (tyOf_ok _) prog_fol (f42_D _ n) (show Try.prog.funcs[42]? = some Try.f42 by kernel_rfl) (by kernel_rfl) (show Try.f42.body = some (bodyOf Try.f42) by kernel_rfl) rfl rfl (Nat.le_of_ble_eq_true rfl) (f42_d _ n) (by intro x; kernel_rfl) 

def f92 (n : Nat) (a0 : Rq) : Option Bool :=
 bif (decide ((a0.2.1.length : Int) ≤ 40)) then
  some (decide ((a0.2.2.length : Int) ≤ 40))
 else
  some false
def f92_E (n : Nat) : Ent := ⟨92, [hR], [.bool], fun x => f92 n x⟩
def f92_D (α : Type) (n : Nat) : D3 α := { reg := [], join := [], loop := [] }
theorem f92_ents (α : Type) (n : Nat) : AllS Try.prog (entsOf (f92_D α n).reg) := trivial
theorem f92_d (α : Type) (n : Nat) : D3.OK Try.prog (tyOf Try.prog) ⟨13, []⟩ (f92_D α n) (bodyOf Try.f92) :=
 D3.OK.mk3 (f92_ents α n) (show loopsOf (bodyOf Try.f92) = [] by kernel_rfl) trivial
theorem f92_ok (n : Nat) : (f92_E n).Sound Try.prog :=
 fn_ok (tyOf_ok _) prog_fol (f92_D _ n) (show Try.prog.funcs[92]? = some Try.f92 by kernel_rfl) (by kernel_rfl) (show Try.f92.body = some (bodyOf Try.f92) by kernel_rfl) rfl rfl (Nat.le_of_ble_eq_true rfl) (f92_d _ n) (by intro x; kernel_rfl) 

abbrev f93_G1 : Tm := ⟨[(1, .k (.hp 1 0 0)), (2, .k (.hp 2 0 0))], [(1, .var 31 true false [.d .bool, .d hIs, .d hIs]), (2, .var 31 true false [.d .bool, .d .nil, .d .nil])], [], []⟩
def f93 (n : Nat) (a0 : Rq) : Option Rq :=
 gd (decide ((0 + a0.2.1.length) * 8 ≤ 140737488355328)) (
  gd (decide ((0 + a0.2.2.length) * 8 ≤ 140737488355328)) (
   some a0))
def f93_E (n : Nat) : Ent := ⟨93, [hR], [hR], fun x => f93 n x⟩
def f93_D (α : Type) (n : Nat) : D3 α := { reg := [(1, ⟨0, [], [(2, { sh := some hI }), (6, { sh := some hI })]⟩)], join := [], loop := [], any := [(1, f93_G1)] }
set_option maxHeartbeats 8000000 in
theorem f93_A1 (n : Nat) : FamAll (tyOf Try.prog) ⟨14, []⟩ [(2, { sh := some hI }), (6, { sh := some hI })] f93_G1 (regOps ((bodyOf Try.f93).at [1, 0])) := by
 refine ⟨by kernel_rfl, fun w q hq => ?_⟩
 have e : WT [(2, { sh := some hI }), (6, { sh := some hI })] (swapIdx (regOps ((bodyOf Try.f93).at [1, 0])).toList) q = (q = []) := by kernel_rfl
 rw [e] at hq
 obtain rfl := hq
 all_goals exact .inl (FamEq.mk (by kernel_rfl))
theorem f93_ents (α : Type) (n : Nat) : AllS Try.prog (entsOf (f93_D α n).reg) := trivial
theorem f93_d (α : Type) (n : Nat) : D3.OK Try.prog (tyOf Try.prog) ⟨14, []⟩ (f93_D α n) (bodyOf Try.f93) :=
 D3.OK.mk3a (f93_ents α n) (show loopsOf (bodyOf Try.f93) = [] by kernel_rfl) trivial (show anysOf (bodyOf Try.f93) = [(1, regOps ((bodyOf Try.f93).at [1, 0]))] by kernel_rfl) ⟨fun X h => (by cases h; exact f93_A1 n), trivial⟩
theorem f93_ok (n : Nat) : (f93_E n).Sound Try.prog :=
 fn_ok (tyOf_ok _) prog_fol (f93_D _ n) (show Try.prog.funcs[93]? = some Try.f93 by kernel_rfl) (by kernel_rfl) (show Try.f93.body = some (bodyOf Try.f93) by kernel_rfl) rfl rfl (Nat.le_of_ble_eq_true rfl) (f93_d _ n) (by intro x; kernel_rfl) 

def f44 (n : Nat) (a0 : Rq) : Option (Rq × Int) :=
 ob (f92 n a0) fun r_1 =>
 bif (!r_1) then
  some ((false, [], []), 7)
 else
  ob (f93 n a0) fun r_2 =>
  some (r_2, 0)
def f44_E (n : Nat) : Ent := ⟨44, [hR], [hR, hI], fun x => f44 n x⟩
def f44_D (α : Type) (n : Nat) : D3 α := { reg := [(1, ⟨0, [], [(1, { ent := some (f92_E n) })]⟩), (3, ⟨0, [], [(1, { ent := some (f93_E n) })]⟩)], join := [], loop := [] }
theorem f44_ents (α : Type) (n : Nat) : AllS Try.prog (entsOf (f44_D α n).reg) := ⟨f92_ok n, f93_ok n, trivial⟩
theorem f44_d (α : Type) (n : Nat) : D3.OK Try.prog (tyOf Try.prog) ⟨10, []⟩ (f44_D α n) (bodyOf Try.f44) :=
 D3.OK.mk3 (f44_ents α n) (show loopsOf (bodyOf Try.f44) = [] by kernel_rfl) trivial
theorem f44_ok (n : Nat) : (f44_E n).Sound Try.prog :=
 fn_ok (tyOf_ok _) prog_fol (f44_D _ n) (show Try.prog.funcs[44]? = some Try.f44 by kernel_rfl) (by kernel_rfl) (show Try.f44.body = some (bodyOf Try.f44) by kernel_rfl) rfl rfl (Nat.le_of_ble_eq_true rfl) (f44_d _ n) (by intro x; kernel_rfl) 

def f12 (n : Nat) (a0 : LR) (a1 : Int) : Option (Rq × Int) :=
 bif (decide ((a0.length : Int) > 4096)) then
  some ((false, [], []), 2)
 else
  ob (f41 n a0 a1) fun r_1 =>
  bif (!r_1) then
   some ((false, [], []), 1)
  else
   ob (f43 n a1) fun r_2 =>
   ob (f42 n a0 r_2) fun r_3 =>
   ob (f44 n r_3.2.2) fun r_4 =>
   some (r_4.1, r_4.2)
def f12_E (n : Nat) : Ent := ⟨12, [hRs, hI], [hR, hI], fun x => f12 n x.1 x.2⟩
def f12_D (α : Type) (n : Nat) : D3 α := { reg := [(3, ⟨0, [], [(2, { ent := some (f41_E n) })]⟩), (5, ⟨0, [], [(2, { ent := some (f43_E n) }), (3, { ent := some (f42_E n) })]⟩), (6, ⟨0, [], [(1, { ent := some (f44_E n) })]⟩)], join := [], loop := [] }
theorem f12_ents (α : Type) (n : Nat) : AllS Try.prog (entsOf (f12_D α n).reg) := ⟨f41_ok n, f43_ok n, f42_ok n, f44_ok n, trivial⟩
theorem f12_d (α : Type) (n : Nat) : D3.OK Try.prog (tyOf Try.prog) ⟨30, []⟩ (f12_D α n) (bodyOf Try.f12) :=
 D3.OK.mk3 (f12_ents α n) (show loopsOf (bodyOf Try.f12) = [] by kernel_rfl) trivial
theorem f12_ok (n : Nat) : (f12_E n).Sound Try.prog :=
 fn_ok (tyOf_ok _) prog_fol (f12_D _ n) (show Try.prog.funcs[12]? = some Try.f12 by kernel_rfl) (by kernel_rfl) (show Try.f12.body = some (bodyOf Try.f12) by kernel_rfl) rfl rfl (Nat.le_of_ble_eq_true rfl) (f12_d _ n) (by intro x; kernel_rfl) 

def f45c46 (n : Nat) (a0 a1 : Rq) (a2 : Unit) : Option (Rq × Int) :=
 ob (f49 n [a0, a1]) fun r_1 =>
 bif (r_1 != 0) then
  some ((false, [], []), r_1)
 else
  ob (f46 n a0 a1) fun r_2 =>
  ob (f38 n r_2) fun r_3 =>
  some (r_3.1, r_3.2)
def f45c46_E (n : Nat) : Ent := ⟨45, [hR, hR, (.fn 46)], [hR, hI], fun x => f45c46 n x.1 x.2.1 x.2.2⟩
def f45c46_D (α : Type) (n : Nat) : D3 α := { reg := [(1, ⟨0, [], [(2, { sh := some hR }), (3, { ent := some (f49_E n) })]⟩), (4, ⟨0, [], [(3, { ent := some (f46_E n) }), (4, { ent := some (f38_E n) })]⟩)], join := [], loop := [] }
theorem f45c46_ents (α : Type) (n : Nat) : AllS Try.prog (entsOf (f45c46_D α n).reg) := ⟨f49_ok n, f46_ok n, f38_ok n, trivial⟩
theorem f45c46_d (α : Type) (n : Nat) : D3.OK Try.prog (tyOf Try.prog) ⟨24, []⟩ (f45c46_D α n) (bodyOf Try.f45) :=
 D3.OK.mk3 (f45c46_ents α n) (show loopsOf (bodyOf Try.f45) = [] by kernel_rfl) trivial
theorem f45c46_ok (n : Nat) : (f45c46_E n).Sound Try.prog :=
 fn_ok (tyOf_ok _) prog_fol (f45c46_D _ n) (show Try.prog.funcs[45]? = some Try.f45 by kernel_rfl) (by kernel_rfl) (show Try.f45.body = some (bodyOf Try.f45) by kernel_rfl) rfl rfl (Nat.le_of_ble_eq_true rfl) (f45c46_d _ n) (by intro x; kernel_rfl) 

def f13 (n : Nat) (a0 a1 : Rq) : Option (Rq × Int) :=
 ob (f45c46 n a0 a1 ()) fun r_1 =>
 some (r_1.1, r_1.2)
def f13_E (n : Nat) : Ent := ⟨13, [hR, hR], [hR, hI], fun x => f13 n x.1 x.2⟩
def f13_D (α : Type) (n : Nat) : D3 α := { reg := [(1, ⟨0, [], [(2, { ent := some (f45c46_E n) })]⟩)], join := [], loop := [] }
theorem f13_ents (α : Type) (n : Nat) : AllS Try.prog (entsOf (f13_D α n).reg) := ⟨f45c46_ok n, trivial⟩
theorem f13_d (α : Type) (n : Nat) : D3.OK Try.prog (tyOf Try.prog) ⟨11, []⟩ (f13_D α n) (bodyOf Try.f13) :=
 D3.OK.mk3 (f13_ents α n) (show loopsOf (bodyOf Try.f13) = [] by kernel_rfl) trivial
theorem f13_ok (n : Nat) : (f13_E n).Sound Try.prog :=
 fn_ok (tyOf_ok _) prog_fol (f13_D _ n) (show Try.prog.funcs[13]? = some Try.f13 by kernel_rfl) (by kernel_rfl) (show Try.f13.body = some (bodyOf Try.f13) by kernel_rfl) rfl rfl (Nat.le_of_ble_eq_true rfl) (f13_d _ n) (by intro x; kernel_rfl) 

def f47_L4B {α : Type} (n : Nat) (s0 s1 : LI) (s5 : Int) (f : LI → LI → Int → Option α) (k0 : Bool → Option α) (k1 : Unit → Option α) : Option α :=
 bif (decide (s5 < (s0.length : Int))) then
  gd (decide (0 ≤ s5) && decide (s5 < (s0.length : Int))) (
   gd (decide (0 ≤ s5) && decide (s5 < (s1.length : Int))) (
    bif ((s0.getD s5.toNat 0) != (s1.getD s5.toNat 0)) then
     k0 false
    else
     f s0 s1 (W (s5 + 1))))
 else
  k1 ()
abbrev f47_L4H : Tm := ⟨[(0, .d hIs), (1, .d hIs), (5, .d hI)], [], [], []⟩
abbrev f47_L4X0 : Tm := ⟨[(4, .d .bool)], [], [], []⟩
abbrev f47_L4X1 : Tm := ⟨[], [], [], []⟩
abbrev f47_L4O : List (Exit × Tm) := [(.ret, f47_L4X0), (.exit 0, f47_L4X1)]
def f47_L4U {α : Type} (n : Nat) (v : f47_L4H.den) (f : f47_L4H.den → Option α) (ks : KS α f47_L4O) : Option α := f47_L4B n v.1.1 v.1.2.1 v.1.2.2.1 (fun s0 s1 s5 => f ((s0, s1, s5, ()), ())) (fun w0 => ks.1 ((w0, ()), ())) (fun _ => ks.2.1 ((), ()))
def f47_L4 {α : Type} (n m : Nat) (s0 s1 : LI) (s5 : Int) (k0 : Bool → Option α) (k1 : Unit → Option α) : Option α := rounds (f47_L4U n) m ((s0, s1, s5, ()), ()) (fun w => k0 w.1.1, fun w => k1 (), ())
theorem f47_L4_0 {α n s0 s1 s5 k0 k1} : f47_L4 (α := α) n 0 s0 s1 s5 k0 k1 = none := rfl
theorem f47_L4_s {α n m s0 s1 s5 k0 k1} : f47_L4 (α := α) n (m + 1) s0 s1 s5 k0 k1 = f47_L4B n s0 s1 s5 (fun s0 s1 s5 => f47_L4 n m s0 s1 s5 k0 k1) k0 k1 := rfl
def f47 (n : Nat) (a0 a1 : LI) : Option Bool :=
 bif ((a0.length : Int) != (a1.length : Int)) then
  some false
 else
  f47_L4 n n a0 a1 0
   (fun z_1 => (
    some z_1))
   (fun (_ : Unit) => (
    some true))
def f47_E (n : Nat) : Ent := ⟨47, [hIs, hIs], [.bool], fun x => f47 n x.1 x.2⟩
def f47_D (α : Type) (n : Nat) : D3 α := { reg := [(6, ⟨8, [], []⟩)], join := [], loop := [(4, ⟨f47_L4H, f47_L4O, rounds (f47_L4U n) n⟩)] }
theorem f47_ents (α : Type) (n : Nat) : AllS Try.prog (entsOf (f47_D α n).reg) := trivial
theorem f47_L4_d (α : Type) (n : Nat) : D3.OK Try.prog (tyOf Try.prog) ⟨26, []⟩ (f47_D α n) ((bodyOf Try.f47).at [1, 1, 0, 1, 0, 0]) :=
 D3.OK.mk3 (f47_ents α n) (show loopsOf ((bodyOf Try.f47).at [1, 1, 0, 1, 0, 0]) = [] by kernel_rfl) trivial
theorem f47_L4_ok (α : Type) (n : Nat) : LO.Sound (α := α) Try.prog ⟨26, []⟩ ⟨f47_L4H, f47_L4O, rounds (f47_L4U n) n⟩ (.loop ((bodyOf Try.f47).at [1, 1, 0, 1, 0, 0])) :=
 loop_ok (tyOf_ok _) prog_fol (f47_L4U n) (f47_L4_d α n) (by intro v f ks; kernel_rfl) n
theorem f47_d (α : Type) (n : Nat) : D3.OK Try.prog (tyOf Try.prog) ⟨26, []⟩ (f47_D α n) (bodyOf Try.f47) :=
 D3.OK.mk3 (f47_ents α n) (show loopsOf (bodyOf Try.f47) = [(4, (.loop ((bodyOf Try.f47).at [1, 1, 0, 1, 0, 0])))] by kernel_rfl) ⟨look_sound rfl (f47_L4_ok α n), trivial⟩
theorem f47_ok (n : Nat) : (f47_E n).Sound Try.prog :=
 fn_ok (tyOf_ok _) prog_fol (f47_D _ n) (show Try.prog.funcs[47]? = some Try.f47 by kernel_rfl) (by kernel_rfl) (show Try.f47.body = some (bodyOf Try.f47) by kernel_rfl) rfl rfl (Nat.le_of_ble_eq_true rfl) (f47_d _ n) (by intro x; kernel_rfl) 

def f14 (n : Nat) (a0 a1 : Rq) : Option Bool :=
 bif (a0.1 == a1.1) then
  ob (f47 n a0.2.1 a1.2.1) fun r_1 =>
  bif r_1 then
   ob (f47 n a0.2.2 a1.2.2) fun r_2 =>
   some r_2
  else
   some false
 else
  some false
def f14_E (n : Nat) : Ent := ⟨14, [hR, hR], [.bool], fun x => f14 n x.1 x.2⟩
def f14_D (α : Type) (n : Nat) : D3 α := { reg := [(1, ⟨0, [], [(10, { ent := some (f47_E n) }), (17, { ent := some (f47_E n) })]⟩)], join := [], loop := [] }
theorem f14_ents (α : Type) (n : Nat) : AllS Try.prog (entsOf (f14_D α n).reg) := ⟨f47_ok n, f47_ok n, trivial⟩
theorem f14_d (α : Type) (n : Nat) : D3.OK Try.prog (tyOf Try.prog) ⟨24, []⟩ (f14_D α n) (bodyOf Try.f14) :=
 D3.OK.mk3 (f14_ents α n) (show loopsOf (bodyOf Try.f14) = [] by kernel_rfl) trivial
theorem f14_ok (n : Nat) : (f14_E n).Sound Try.prog :=
 fn_ok (tyOf_ok _) prog_fol (f14_D _ n) (show Try.prog.funcs[14]? = some Try.f14 by kernel_rfl) (by kernel_rfl) (show Try.f14.body = some (bodyOf Try.f14) by kernel_rfl) rfl rfl (Nat.le_of_ble_eq_true rfl) (f14_d _ n) (by intro x; kernel_rfl) 

def f3 (n : Nat) (a0 a1 : LI) : Option Bool :=
 bif (decide ((a0.length : Int) > 1048576)) then
  some true
 else
  bif (decide ((a1.length : Int) > 1048576)) then
   some true
  else
   ob (f7 n a1 0 3) fun r_1 =>
   ob (f8 n a0 (W (1 + r_1))) fun r_2 =>
   ob (f8 n a1 (W (1 + r_1))) fun r_3 =>
   ob (f9 n r_2 r_3 (W (1 + r_1))) fun r_4 =>
   ob (f10 n r_2 (W (1 + r_1))) fun r_5 =>
   ob (f11 n r_2 (W (1 + r_1))) fun r_6 =>
   ob (f12 n r_2 (W (1 + r_1))) fun r_7 =>
   ob (f11 n r_3 (W (1 + r_1))) fun r_8 =>
   ob (f11 n r_4.1 (W (1 + r_1))) fun r_9 =>
   ob (f11 n r_5.1 (W (1 + r_1))) fun r_10 =>
   ob (f13 n r_6.1 r_8.1) fun r_11 =>
   bif (r_4.2 == 0) then
    bif (r_5.2 == 0) then
     bif (r_6.2 == 0) then
      ob (f14 n r_6.1 r_7.1) fun r_12 =>
      bif r_12 then
       bif (r_8.2 == 0) then
        bif (r_9.2 == 0) then
         bif (r_10.2 == 0) then
          bif (r_11.2 == 0) then
           ob (f14 n r_11.1 r_9.1) fun r_13 =>
           bif r_13 then
            ob (f14 n r_10.1 r_6.1) fun r_14 =>
            bif r_14 then
             ob (f15 n r_4.1 (W (1 + r_1))) fun r_15 =>
             some r_15
            else
             some false
           else
            some false
          else
           some false
         else
          some false
        else
         some false
       else
        some false
      else
       some false
     else
      some false
    else
     some false
   else
    some false
def f3_E (n : Nat) : Ent := ⟨3, [(.sl (.int .u8)), (.sl (.int .u8))], [.bool], fun x => f3 n x.1 x.2⟩
def f3_D (α : Type) (n : Nat) : D3 α := { reg := [(3, ⟨0, [], [(1, { ent := some (f7_E n) })]⟩), (4, ⟨0, [], [(2, { ent := some (f8_E n) })]⟩), (5, ⟨0, [], [(2, { ent := some (f8_E n) })]⟩), (6, ⟨0, [], [(3, { ent := some (f9_E n) })]⟩), (7, ⟨0, [], [(2, { ent := some (f10_E n) })]⟩), (8, ⟨0, [], [(2, { ent := some (f11_E n) })]⟩), (9, ⟨0, [], [(2, { ent := some (f12_E n) })]⟩), (10, ⟨0, [], [(2, { ent := some (f11_E n) })]⟩), (11, ⟨0, [], [(2, { ent := some (f11_E n) })]⟩), (12, ⟨0, [], [(2, { ent := some (f11_E n) })]⟩), (13, ⟨0, [], [(2, { ent := some (f13_E n) })]⟩), (14, ⟨0, [], [(13, { ent := some (f14_E n) }), (34, { ent := some (f14_E n) }), (39, { ent := some (f14_E n) }), (44, { ent := some (f15_E n) })]⟩)], join := [], loop := [] }
theorem f3_ents (α : Type) (n : Nat) : AllS Try.prog (entsOf (f3_D α n).reg) := ⟨f7_ok n, f8_ok n, f8_ok n, f9_ok n, f10_ok n, f11_ok n, f12_ok n, f11_ok n, f11_ok n, f11_ok n, f13_ok n, f14_ok n, f14_ok n, f14_ok n, f15_ok n, trivial⟩
theorem f3_d (α : Type) (n : Nat) : D3.OK Try.prog (tyOf Try.prog) ⟨136, []⟩ (f3_D α n) (bodyOf Try.f3) :=
 D3.OK.mk3 (f3_ents α n) (show loopsOf (bodyOf Try.f3) = [] by kernel_rfl) trivial
theorem f3_ok (n : Nat) : (f3_E n).Sound Try.prog :=
 fn_ok (tyOf_ok _) prog_fol (f3_D _ n) (show Try.prog.funcs[3]? = some Try.f3 by kernel_rfl) (by kernel_rfl) (show Try.f3.body = some (bodyOf Try.f3) by kernel_rfl) rfl rfl (Nat.le_of_ble_eq_true rfl) (f3_d _ n) (by intro x; kernel_rfl) 

end Go.Ev
