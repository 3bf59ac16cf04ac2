/- DERIVED. What the functions compute, and that they do. -/
import Derived.Test.YtcoilfmbghghpaaPxb

set_option linter.all false
set_option linter.unusedVariables false
set_option linter.unusedSimpArgs false

namespace Go.Ev
open Go Go.Proofs Go.RowKit Go.Shelf
def f82 (n : Nat) (a0 : LR) (a1 : Int) : Option LR :=
 ob (f97c142 n (W (a1 * a1)) (a0, a1)) fun r_1 =>
 some r_1
def f82_E (n : Nat) : Ent := ⟨82, [hRs, hI], [hRs], fun x => f82 n x.1 x.2⟩
def f82_D (α : Type) (n : Nat) : D3 α := { reg := [(1, ⟨0, [], [(3, { sh := some (.pair (.ref hRs) (.ref hI)) }), (4, { ent := some (f97c142_E n) })]⟩)], join := [], loop := [] }
theorem f82_ents (α : Type) (n : Nat) : AllS Try.prog (entsOf (f82_D α n).reg) := ⟨f97c142_ok n, trivial⟩
theorem f82_d (α : Type) (n : Nat) : D3.OK Try.prog (tyOf Try.prog) ⟨10, []⟩ (f82_D α n) (bodyOf Try.f82) :=
 D3.OK.mk3 (f82_ents α n) (show loopsOf (bodyOf Try.f82) = [] by kernel_rfl) trivial
theorem f82_ok (n : Nat) : (f82_E n).Sound Try.prog :=
 fn_ok (tyOf_ok _) prog_fol (f82_D _ n) (show Try.prog.funcs[82]? = some Try.f82 by kernel_rfl) (by kernel_rfl) (show Try.f82.body = some (bodyOf Try.f82) by kernel_rfl) rfl rfl (Nat.le_of_ble_eq_true rfl) (f82_d _ n) (by intro x; kernel_rfl) 

def f112 (n : Nat) (a0 : Int) : Option Rq :=
 bif (decide (a0 < 0)) then
  ob (f163 n (W (0 - a0))) fun r_1 =>
  ob (f138 n) fun r_2 =>
  some (true, r_1, r_2)
 else
  ob (f163 n a0) fun r_3 =>
  ob (f138 n) fun r_4 =>
  some (false, r_3, r_4)
def f112_E (n : Nat) : Ent := ⟨112, [hI], [hR], fun x => f112 n x⟩
def f112_D (α : Type) (n : Nat) : D3 α := { reg := [(2, ⟨0, [], [(2, { ent := some (f163_E n) }), (3, { ent := some (f138_E n) })]⟩), (3, ⟨0, [], [(1, { ent := some (f163_E n) }), (2, { ent := some (f138_E n) })]⟩)], join := [], loop := [] }
theorem f112_ents (α : Type) (n : Nat) : AllS Try.prog (entsOf (f112_D α n).reg) := ⟨f163_ok n, f138_ok n, f163_ok n, f138_ok n, trivial⟩
theorem f112_d (α : Type) (n : Nat) : D3.OK Try.prog (tyOf Try.prog) ⟨14, []⟩ (f112_D α n) (bodyOf Try.f112) :=
 D3.OK.mk3 (f112_ents α n) (show loopsOf (bodyOf Try.f112) = [] by kernel_rfl) trivial
theorem f112_ok (n : Nat) : (f112_E n).Sound Try.prog :=
 fn_ok (tyOf_ok _) prog_fol (f112_D _ n) (show Try.prog.funcs[112]? = some Try.f112 by kernel_rfl) (by kernel_rfl) (show Try.f112.body = some (bodyOf Try.f112) by kernel_rfl) rfl rfl (Nat.le_of_ble_eq_true rfl) (f112_d _ n) (by intro x; kernel_rfl) 

def f149_L7B {α : Type} (n : Nat) (s1 : LI) (s6 s7 s8 s9 : Int) (s16 : LI) (s17 s18 : Int) (b15 : LI) (f : LI → Int → Int → Int → Int → LI → Int → Int → LI → Option α) (k0 : LI → LI → Int → Int → LI → Option α) : Option α :=
 let J_3 := fun (_ : Unit) => (
  let J_2 := fun (y_1 : Int) => (
   gd (decide (0 ≤ (W (s6 + s9))) && decide ((W (s6 + s9)) < (b15.length : Int))) (
    gd (decide ((W (s6 + s9)).toNat < b15.length)) (
     gd (decide (0 ≤ (W (s6 + s9))) && decide ((W (s6 + s9)) < (b15.length : Int))) (
      gd (decide ((W (s6 + s9)).toNat < b15.length)) (
       f s1 s6 s7 (W (Int.tdiv (W (y_1 + (b15.getD ((W (s6 + s9)).toNat) 0))) 10000)) (W (s9 + 1)) s16 s17 s18 (b15.set ((W (s6 + s9)).toNat) (Int.tmod (W (y_1 + (b15.getD ((W (s6 + s9)).toNat) 0))) 10000)))))))
  bif (decide (s9 < (s1.length : Int))) then
   gd (decide (0 ≤ s9) && decide (s9 < (s1.length : Int))) (
    J_2 (W (s8 + (W (s7 * (s1.getD s9.toNat 0))))))
  else
   J_2 s8)
 bif (decide (s9 < (s1.length : Int))) then
  J_3 ()
 else
  bif (decide (s8 > 0)) then
   J_3 ()
  else
   k0 s1 s16 s17 s18 b15
abbrev f149_L7H : Tm := ⟨[(1, .d hIs), (5, .k (.hw 15)), (6, .d hI), (7, .d hI), (8, .d hI), (9, .d hI), (16, .d hIs), (17, .d hI), (18, .d hI)], [(15, .arr 3 hI false)], [], []⟩
abbrev f149_L7X0 : Tm := ⟨[(1, .d hIs), (5, .k (.hw 15)), (16, .d hIs), (17, .d hI), (18, .d hI)], [(15, .arr 3 hI false)], [], []⟩
abbrev f149_L7O : List (Exit × Tm) := [(.exit 2, f149_L7X0)]
def f149_L7U {α : Type} (n : Nat) (v : f149_L7H.den) (f : f149_L7H.den → Option α) (ks : KS α f149_L7O) : Option α := f149_L7B n v.1.1 v.1.2.2.1 v.1.2.2.2.1 v.1.2.2.2.2.1 v.1.2.2.2.2.2.1 v.1.2.2.2.2.2.2.1 v.1.2.2.2.2.2.2.2.1 v.1.2.2.2.2.2.2.2.2.1 v.2.1 (fun s1 s6 s7 s8 s9 s16 s17 s18 b15 => f ((s1, (), s6, s7, s8, s9, s16, s17, s18, ()), (b15, ()))) (fun w0 w1 w2 w3 w4 => ks.1 ((w0, (), w1, w2, w3, ()), (w4, ())))
def f149_L7 {α : Type} (n m : Nat) (s1 : LI) (s6 s7 s8 s9 : Int) (s16 : LI) (s17 s18 : Int) (b15 : LI) (k0 : LI → LI → Int → Int → LI → Option α) : Option α := rounds (f149_L7U n) m ((s1, (), s6, s7, s8, s9, s16, s17, s18, ()), (b15, ())) (fun w => k0 w.1.1 w.1.2.2.1 w.1.2.2.2.1 w.1.2.2.2.2.1 w.2.1, ())
theorem f149_L7_0 {α n s1 s6 s7 s8 s9 s16 s17 s18 b15 k0} : f149_L7 (α := α) n 0 s1 s6 s7 s8 s9 s16 s17 s18 b15 k0 = none := rfl
theorem f149_L7_s {α n m s1 s6 s7 s8 s9 s16 s17 s18 b15 k0} : f149_L7 (α := α) n (m + 1) s1 s6 s7 s8 s9 s16 s17 s18 b15 k0 = f149_L7B n s1 s6 s7 s8 s9 s16 s17 s18 b15 (fun s1 s6 s7 s8 s9 s16 s17 s18 b15 => f149_L7 n m s1 s6 s7 s8 s9 s16 s17 s18 b15 k0) k0 := rfl
def f149_L3B {α : Type} (n : Nat) (s1 s16 : LI) (s17 s18 : Int) (b15 : LI) (f : LI → LI → Int → Int → LI → Option α) (k0 : LI → Option α) : Option α :=
 bif (decide (s18 < s17)) then
  gd (decide (0 ≤ s18) && decide (s18 < (s16.length : Int))) (
   f149_L7 n n s1 s18 (s16.getD s18.toNat 0) 0 0 s16 s17 s18 b15
    (fun z_1 z_2 z_3 z_4 z_5 => (
     f z_1 z_2 z_3 (W (z_4 + 1)) z_5)))
 else
  k0 b15
abbrev f149_L3H : Tm := ⟨[(1, .d hIs), (5, .k (.hw 15)), (16, .d hIs), (17, .d hI), (18, .d hI)], [(15, .arr 3 hI false)], [], []⟩
abbrev f149_L3X0 : Tm := ⟨[(5, .k (.hw 15))], [(15, .arr 3 hI false)], [], []⟩
abbrev f149_L3O : List (Exit × Tm) := [(.exit 0, f149_L3X0)]
def f149_L3U {α : Type} (n : Nat) (v : f149_L3H.den) (f : f149_L3H.den → Option α) (ks : KS α f149_L3O) : Option α := f149_L3B n v.1.1 v.1.2.2.1 v.1.2.2.2.1 v.1.2.2.2.2.1 v.2.1 (fun s1 s16 s17 s18 b15 => f ((s1, (), s16, s17, s18, ()), (b15, ()))) (fun w0 => ks.1 (((), ()), (w0, ())))
def f149_L3 {α : Type} (n m : Nat) (s1 s16 : LI) (s17 s18 : Int) (b15 : LI) (k0 : LI → Option α) : Option α := rounds (f149_L3U n) m ((s1, (), s16, s17, s18, ()), (b15, ())) (fun w => k0 w.2.1, ())
theorem f149_L3_0 {α n s1 s16 s17 s18 b15 k0} : f149_L3 (α := α) n 0 s1 s16 s17 s18 b15 k0 = none := rfl
theorem f149_L3_s {α n m s1 s16 s17 s18 b15 k0} : f149_L3 (α := α) n (m + 1) s1 s16 s17 s18 b15 k0 = f149_L3B n s1 s16 s17 s18 b15 (fun s1 s16 s17 s18 b15 => f149_L3 n m s1 s16 s17 s18 b15 k0) k0 := rfl
abbrev f149_J9 : Tm := ⟨[(1, .d hIs), (5, .k (.hw 15)), (6, .d hI), (7, .d hI), (8, .d hI), (9, .d hI), (16, .d hIs), (17, .d hI), (18, .d hI)], [(15, .arr 3 hI false)], [], []⟩
abbrev f149_J11 : Tm := ⟨[(1, .d hIs), (5, .k (.hw 15)), (6, .d hI), (7, .d hI), (8, .d hI), (9, .d hI), (16, .d hIs), (17, .d hI), (18, .d hI)], [(15, .arr 3 hI false)], [], []⟩
def f149 (n : Nat) (a0 a1 : LI) : Option LI :=
 gd (decide (0 ≤ (W ((a0.length : Int) + (a1.length : Int)))) && decide ((W ((a0.length : Int) + (a1.length : Int))) ≤ 4611686018427387904) && decide ((8 : Int) * (W ((a0.length : Int) + (a1.length : Int))) ≤ 281474976710656)) (
  f149_L3 n n a1 a0 (a0.length : Int) 0 (List.replicate ((W ((a0.length : Int) + (a1.length : Int))).toNat) 0)
   (fun z_6 => (
    ob (f186 n z_6) fun r_7 =>
    some r_7)))
def f149_E (n : Nat) : Ent := ⟨149, [hIs, hIs], [hIs], fun x => f149 n x.1 x.2⟩
def f149_D (α : Type) (n : Nat) : D3 α := { reg := [(14, ⟨0, [], [(1, { ent := some (f186_E n), fz := [(63, hIs)] })]⟩)], join := [(9, f149_J9), (11, f149_J11)], loop := [(7, ⟨f149_L7H, f149_L7O, rounds (f149_L7U n) n⟩), (3, ⟨f149_L3H, f149_L3O, rounds (f149_L3U n) n⟩)] }
theorem f149_ents (α : Type) (n : Nat) : AllS Try.prog (entsOf (f149_D α n).reg) := ⟨f186_ok n, trivial⟩
theorem f149_L7_d (α : Type) (n : Nat) : D3.OK Try.prog (tyOf Try.prog) ⟨65, []⟩ (f149_D α n) ((bodyOf Try.f149).at [1, 1, 0, 1, 0, 0, 1, 1, 0, 0, 1, 1, 1, 0, 0]) :=
 D3.OK.mk3 (f149_ents α n) (show loopsOf ((bodyOf Try.f149).at [1, 1, 0, 1, 0, 0, 1, 1, 0, 0, 1, 1, 1, 0, 0]) = [] by kernel_rfl) trivial
theorem f149_L7_ok (α : Type) (n : Nat) : LO.Sound (α := α) Try.prog ⟨65, []⟩ ⟨f149_L7H, f149_L7O, rounds (f149_L7U n) n⟩ (.loop ((bodyOf Try.f149).at [1, 1, 0, 1, 0, 0, 1, 1, 0, 0, 1, 1, 1, 0, 0])) :=
 loop_ok (tyOf_ok _) prog_fol (f149_L7U n) (f149_L7_d α n) (by intro v f ks; kernel_rfl) n
theorem f149_L3_d (α : Type) (n : Nat) : D3.OK Try.prog (tyOf Try.prog) ⟨65, []⟩ (f149_D α n) ((bodyOf Try.f149).at [1, 1, 0, 1, 0, 0]) :=
 D3.OK.mk3 (f149_ents α n) (show loopsOf ((bodyOf Try.f149).at [1, 1, 0, 1, 0, 0]) = [(7, (.loop ((bodyOf Try.f149).at [1, 1, 0, 1, 0, 0, 1, 1, 0, 0, 1, 1, 1, 0, 0])))] by kernel_rfl) ⟨look_sound rfl (f149_L7_ok α n), trivial⟩
theorem f149_L3_ok (α : Type) (n : Nat) : LO.Sound (α := α) Try.prog ⟨65, []⟩ ⟨f149_L3H, f149_L3O, rounds (f149_L3U n) n⟩ (.loop ((bodyOf Try.f149).at [1, 1, 0, 1, 0, 0])) :=
 loop_ok (tyOf_ok _) prog_fol (f149_L3U n) (f149_L3_d α n) (by intro v f ks; kernel_rfl) n
theorem f149_d (α : Type) (n : Nat) : D3.OK Try.prog (tyOf Try.prog) ⟨65, []⟩ (f149_D α n) (bodyOf Try.f149) :=
 D3.OK.mk3 (f149_ents α n) (show loopsOf (bodyOf Try.f149) = [(3, (.loop ((bodyOf Try.f149).at [1, 1, 0, 1, 0, 0])))] by kernel_rfl) ⟨look_sound rfl (f149_L3_ok α n), trivial⟩
theorem f149_ok (n : Nat) : (f149_E n).Sound Try.prog :=
 fn_ok (tyOf_ok _) prog_fol (f149_D _ n) (show Try.prog.funcs[149]? = some Try.f149 by kernel_rfl) (by kernel_rfl) (show Try.f149.body = some (bodyOf Try.f149) by kernel_rfl) rfl rfl (Nat.le_of_ble_eq_true rfl) (f149_d _ n) (by intro x; kernel_rfl) 

abbrev f151_J5 : Tm := ⟨[(0, .d .bool), (1, .d hIs), (2, .d hIs), (6, .k (.hp 6 0 0))], [(6, .var 33 true false [.d .bool, .d .nil, .d .nil])], [], []⟩
def f151 (n : Nat) (a0 : Bool) (a1 a2 : LI) : Option Rq :=
 let J_12 := fun (y_6 : LI) (y_7 : LI) => (
  bif a0 then
   ob (f132 n y_6) fun r_8 =>
   ob (f132 n y_7) fun r_9 =>
   some ((decide ((y_6.length : Int) > 0)), r_8, r_9)
  else
   ob (f132 n y_6) fun r_10 =>
   ob (f132 n y_7) fun r_11 =>
   some (false, r_10, r_11))
 ob (f137 n a1 a2) fun r_1 =>
 ob (f138 n) fun r_2 =>
 ob (f136 n r_1 r_2) fun r_3 =>
 bif (r_3 != 0) then
  ob (f182 n a1 r_1) fun r_4 =>
  ob (f182 n a2 r_1) fun r_5 =>
  J_12 r_4.1 r_5.1
 else
  J_12 a1 a2
def f151_E (n : Nat) : Ent := ⟨151, [.bool, hIs, hIs], [hR], fun x => f151 n x.1 x.2.1 x.2.2⟩
def f151_D (α : Type) (n : Nat) : D3 α := { reg := [(1, ⟨0, [], [(2, { ent := some (f137_E n) })]⟩), (2, ⟨0, [], [(1, { ent := some (f138_E n) }), (2, { ent := some (f136_E n) })]⟩), (3, ⟨0, [], [(2, { ent := some (f182_E n) })]⟩), (4, ⟨0, [], [(2, { ent := some (f182_E n) })]⟩), (5, ⟨0, [], [(7, { ent := some (f132_E n) }), (9, { ent := some (f132_E n) })]⟩)], join := [(5, f151_J5)], loop := [] }
theorem f151_ents (α : Type) (n : Nat) : AllS Try.prog (entsOf (f151_D α n).reg) := ⟨f137_ok n, f138_ok n, f136_ok n, f182_ok n, f182_ok n, f132_ok n, f132_ok n, trivial⟩
theorem f151_d (α : Type) (n : Nat) : D3.OK Try.prog (tyOf Try.prog) ⟨38, []⟩ (f151_D α n) (bodyOf Try.f151) :=
 D3.OK.mk3 (f151_ents α n) (show loopsOf (bodyOf Try.f151) = [] by kernel_rfl) trivial
theorem f151_ok (n : Nat) : (f151_E n).Sound Try.prog :=
 fn_ok (tyOf_ok _) prog_fol (f151_D _ n) (show Try.prog.funcs[151]? = some Try.f151 by kernel_rfl) (by kernel_rfl) (show Try.f151.body = some (bodyOf Try.f151) by kernel_rfl) rfl rfl (Nat.le_of_ble_eq_true rfl) (f151_d _ n) (by intro x; kernel_rfl) 

def f91 (n : Nat) (a0 a1 : Rq) : Option Rq :=
 ob (f149 n a0.2.1 a1.2.1) fun r_1 =>
 ob (f149 n a0.2.2 a1.2.2) fun r_2 =>
 ob (f151 n (!(a0.1 == a1.1)) r_1 r_2) fun r_3 =>
 some r_3
def f91_E (n : Nat) : Ent := ⟨91, [hR, hR], [hR], fun x => f91 n x.1 x.2⟩
def f91_D (α : Type) (n : Nat) : D3 α := { reg := [(1, ⟨15, [], [(9, { ent := some (f149_E n) }), (14, { ent := some (f149_E n) }), (15, { ent := some (f151_E n) })]⟩)], join := [], loop := [] }
theorem f91_ents (α : Type) (n : Nat) : AllS Try.prog (entsOf (f91_D α n).reg) := ⟨f149_ok n, f149_ok n, f151_ok n, trivial⟩
theorem f91_d (α : Type) (n : Nat) : D3.OK Try.prog (tyOf Try.prog) ⟨21, []⟩ (f91_D α n) (bodyOf Try.f91) :=
 D3.OK.mk3 (f91_ents α n) (show loopsOf (bodyOf Try.f91) = [] by kernel_rfl) trivial
theorem f91_ok (n : Nat) : (f91_E n).Sound Try.prog :=
 fn_ok (tyOf_ok _) prog_fol (f91_D _ n) (show Try.prog.funcs[91]? = some Try.f91 by kernel_rfl) (by kernel_rfl) (show Try.f91.body = some (bodyOf Try.f91) by kernel_rfl) rfl rfl (Nat.le_of_ble_eq_true rfl) (f91_d _ n) (by intro x; kernel_rfl) 

def f152_L3B {α : Type} (n : Nat) (s0 s1 : LI) (s6 s7 : Int) (b8 : LI) (f : LI → LI → Int → Int → LI → Option α) (k0 : LI → Option α) : Option α :=
 let J_5 := fun (_ : Unit) => (
  let J_4 := fun (y_1 : Int) => (
   let J_3 := fun (y_2 : Int) => (
    gd (decide ((b8.length + 1) * 8 ≤ 140737488355328)) (
     f s0 s1 (W (Int.tdiv y_2 10000)) (W (s7 + 1)) (b8 ++ [(Int.tmod y_2 10000)])))
   bif (decide (s7 < (s1.length : Int))) then
    gd (decide (0 ≤ s7) && decide (s7 < (s1.length : Int))) (
     J_3 (W (y_1 + (s1.getD s7.toNat 0))))
   else
    J_3 y_1)
  bif (decide (s7 < (s0.length : Int))) then
   gd (decide (0 ≤ s7) && decide (s7 < (s0.length : Int))) (
    J_4 (W (s6 + (s0.getD s7.toNat 0))))
  else
   J_4 s6)
 bif (decide (s7 < (max (s0.length : Int) (s1.length : Int)))) then
  J_5 ()
 else
  bif (decide (s6 > 0)) then
   J_5 ()
  else
   k0 b8
abbrev f152_L3H : Tm := ⟨[(0, .d hIs), (1, .d hIs), (5, .k (.hw 8)), (6, .d hI), (7, .d hI)], [(8, .arr 3 hI false)], [45], []⟩
abbrev f152_L3X0 : Tm := ⟨[(5, .k (.hw 8))], [(8, .arr 3 hI false)], [], []⟩
abbrev f152_L3O : List (Exit × Tm) := [(.exit 0, f152_L3X0)]
def f152_L3U {α : Type} (n : Nat) (v : f152_L3H.den) (f : f152_L3H.den → Option α) (ks : KS α f152_L3O) : Option α := f152_L3B n v.1.1 v.1.2.1 v.1.2.2.2.1 v.1.2.2.2.2.1 v.2.1 (fun s0 s1 s6 s7 b8 => f ((s0, s1, (), s6, s7, ()), (b8, ()))) (fun w0 => ks.1 (((), ()), (w0, ())))
def f152_L3 {α : Type} (n m : Nat) (s0 s1 : LI) (s6 s7 : Int) (b8 : LI) (k0 : LI → Option α) : Option α := rounds (f152_L3U n) m ((s0, s1, (), s6, s7, ()), (b8, ())) (fun w => k0 w.2.1, ())
theorem f152_L3_0 {α n s0 s1 s6 s7 b8 k0} : f152_L3 (α := α) n 0 s0 s1 s6 s7 b8 k0 = none := rfl
theorem f152_L3_s {α n m s0 s1 s6 s7 b8 k0} : f152_L3 (α := α) n (m + 1) s0 s1 s6 s7 b8 k0 = f152_L3B n s0 s1 s6 s7 b8 (fun s0 s1 s6 s7 b8 => f152_L3 n m s0 s1 s6 s7 b8 k0) k0 := rfl
abbrev f152_J5 : Tm := ⟨[(0, .d hIs), (1, .d hIs), (5, .k (.hw 8)), (6, .d hI), (7, .d hI)], [(8, .arr 3 hI false)], [], []⟩
abbrev f152_J7 : Tm := ⟨[(0, .d hIs), (1, .d hIs), (5, .k (.hw 8)), (6, .d hI), (7, .d hI)], [(8, .arr 3 hI false)], [], []⟩
abbrev f152_J9 : Tm := ⟨[(0, .d hIs), (1, .d hIs), (5, .k (.hw 8)), (6, .d hI), (7, .d hI)], [(8, .arr 3 hI false)], [], []⟩
def f152 (n : Nat) (a0 a1 : LI) : Option LI :=
 f152_L3 n n a0 a1 0 0 []
  (fun z_6 => (
   some z_6))
def f152_E (n : Nat) : Ent := ⟨152, [hIs, hIs], [hIs], fun x => f152 n x.1 x.2⟩
def f152_D (α : Type) (n : Nat) : D3 α := { reg := [(1, ⟨0, [], [(0, { sh := some hI })]⟩), (9, ⟨0, [], [(3, { sh := some hI })]⟩)], join := [(5, f152_J5), (7, f152_J7), (9, f152_J9)], loop := [(3, ⟨f152_L3H, f152_L3O, rounds (f152_L3U n) n⟩)] }
theorem f152_ents (α : Type) (n : Nat) : AllS Try.prog (entsOf (f152_D α n).reg) := trivial
theorem f152_L3_d (α : Type) (n : Nat) : D3.OK Try.prog (tyOf Try.prog) ⟨50, []⟩ (f152_D α n) ((bodyOf Try.f152).at [1, 1, 0, 1, 0, 0]) :=
 D3.OK.mk3 (f152_ents α n) (show loopsOf ((bodyOf Try.f152).at [1, 1, 0, 1, 0, 0]) = [] by kernel_rfl) trivial
theorem f152_L3_ok (α : Type) (n : Nat) : LO.Sound (α := α) Try.prog ⟨50, []⟩ ⟨f152_L3H, f152_L3O, rounds (f152_L3U n) n⟩ (.loop ((bodyOf Try.f152).at [1, 1, 0, 1, 0, 0])) :=
 loop_ok (tyOf_ok _) prog_fol (f152_L3U n) (f152_L3_d α n) (by intro v f ks; kernel_rfl) n
theorem f152_d (α : Type) (n : Nat) : D3.OK Try.prog (tyOf Try.prog) ⟨50, []⟩ (f152_D α n) (bodyOf Try.f152) :=
 D3.OK.mk3 (f152_ents α n) (show loopsOf (bodyOf Try.f152) = [(3, (.loop ((bodyOf Try.f152).at [1, 1, 0, 1, 0, 0])))] by kernel_rfl) ⟨look_sound rfl (f152_L3_ok α n), trivial⟩
theorem f152_ok (n : Nat) : (f152_E n).Sound Try.prog :=
 fn_ok (tyOf_ok _) prog_fol (f152_D _ n) (show Try.prog.funcs[152]? = some Try.f152 by kernel_rfl) (by kernel_rfl) (show Try.f152.body = some (bodyOf Try.f152) by kernel_rfl) rfl rfl (Nat.le_of_ble_eq_true rfl) (f152_d _ n) (by intro x; kernel_rfl) 

def f153_L3B {α : Type} (n : Nat) (s1 : LI) (s6 s12 s13 : Int) (b310 : LI) (f : LI → Int → Int → Int → LI → Option α) (k0 : LI → Option α) : Option α :=
 bif (decide (s13 < s12)) then
  gd (decide (0 ≤ s13) && decide (s13 < (b310.length : Int))) (
   gd (decide (s13.toNat < b310.length)) (
    let J_3 := fun (y_2 : Int) => (
     bif (decide (y_2 < 0)) then
      gd (decide (0 ≤ s13) && decide (s13 < (b310.length : Int))) (
       gd (decide (s13.toNat < b310.length)) (
        f s1 1 s12 (W (s13 + 1)) (b310.set s13.toNat (W (y_2 + 10000)))))
     else
      gd (decide (0 ≤ s13) && decide (s13 < (b310.length : Int))) (
       gd (decide (s13.toNat < b310.length)) (
        f s1 0 s12 (W (s13 + 1)) (b310.set s13.toNat y_2))))
    bif (decide (s13 < (s1.length : Int))) then
     gd (decide (0 ≤ s13) && decide (s13 < (s1.length : Int))) (
      J_3 (W ((W ((b310.getD s13.toNat 0) - s6)) - (s1.getD s13.toNat 0))))
    else
     J_3 (W ((b310.getD s13.toNat 0) - s6))))
 else
  k0 b310
abbrev f153_L3H : Tm := ⟨[(1, .d hIs), (5, .k (.hw 310)), (6, .d hI), (12, .d hI), (13, .d hI)], [(310, .arr 3 hI false)], [], []⟩
abbrev f153_L3X0 : Tm := ⟨[(5, .k (.hw 310))], [(310, .arr 3 hI false)], [], []⟩
abbrev f153_L3O : List (Exit × Tm) := [(.exit 0, f153_L3X0)]
def f153_L3U {α : Type} (n : Nat) (v : f153_L3H.den) (f : f153_L3H.den → Option α) (ks : KS α f153_L3O) : Option α := f153_L3B n v.1.1 v.1.2.2.1 v.1.2.2.2.1 v.1.2.2.2.2.1 v.2.1 (fun s1 s6 s12 s13 b310 => f ((s1, (), s6, s12, s13, ()), (b310, ()))) (fun w0 => ks.1 (((), ()), (w0, ())))
def f153_L3 {α : Type} (n m : Nat) (s1 : LI) (s6 s12 s13 : Int) (b310 : LI) (k0 : LI → Option α) : Option α := rounds (f153_L3U n) m ((s1, (), s6, s12, s13, ()), (b310, ())) (fun w => k0 w.2.1, ())
theorem f153_L3_0 {α n s1 s6 s12 s13 b310 k0} : f153_L3 (α := α) n 0 s1 s6 s12 s13 b310 k0 = none := rfl
theorem f153_L3_s {α n m s1 s6 s12 s13 b310 k0} : f153_L3 (α := α) n (m + 1) s1 s6 s12 s13 b310 k0 = f153_L3B n s1 s6 s12 s13 b310 (fun s1 s6 s12 s13 b310 => f153_L3 n m s1 s6 s12 s13 b310 k0) k0 := rfl
abbrev f153_J8 : Tm := ⟨[(1, .d hIs), (5, .k (.hw 310)), (7, .d hI), (8, .d hI), (12, .d hI), (13, .d hI)], [(310, .arr 3 hI false)], [], []⟩
def f153 (n : Nat) (a0 a1 : LI) : Option LI :=
 ob (f132B n a0) fun r_1 =>
 f153_L3 n n a1 0 (r_1.length : Int) 0 r_1
  (fun z_4 => (
   ob (f186 n z_4) fun r_5 =>
   some r_5))
def f153_E (n : Nat) : Ent := ⟨153, [hIs, hIs], [hIs], fun x => f153 n x.1 x.2⟩
def f153_D (α : Type) (n : Nat) : D3 α := { reg := [(1, ⟨0, [], [(1, { entB := some (f132B_E n), hb := 310 })]⟩), (13, ⟨0, [], [(1, { ent := some (f186_E n), fz := [(41, hIs)] })]⟩)], join := [(8, f153_J8)], loop := [(3, ⟨f153_L3H, f153_L3O, rounds (f153_L3U n) n⟩)] }
theorem f153_ents (α : Type) (n : Nat) : AllS Try.prog (entsOf (f153_D α n).reg) := ⟨f132B_ok n, f186_ok n, trivial⟩
theorem f153_L3_d (α : Type) (n : Nat) : D3.OK Try.prog (tyOf Try.prog) ⟨43, []⟩ (f153_D α n) ((bodyOf Try.f153).at [1, 1, 0, 1, 0, 0]) :=
 D3.OK.mk3 (f153_ents α n) (show loopsOf ((bodyOf Try.f153).at [1, 1, 0, 1, 0, 0]) = [] by kernel_rfl) trivial
theorem f153_L3_ok (α : Type) (n : Nat) : LO.Sound (α := α) Try.prog ⟨43, []⟩ ⟨f153_L3H, f153_L3O, rounds (f153_L3U n) n⟩ (.loop ((bodyOf Try.f153).at [1, 1, 0, 1, 0, 0])) :=
 loop_ok (tyOf_ok _) prog_fol (f153_L3U n) (f153_L3_d α n) (by intro v f ks; kernel_rfl) n
theorem f153_d (α : Type) (n : Nat) : D3.OK Try.prog (tyOf Try.prog) ⟨43, []⟩ (f153_D α n) (bodyOf Try.f153) :=
 D3.OK.mk3 (f153_ents α n) (show loopsOf (bodyOf Try.f153) = [(3, (.loop ((bodyOf Try.f153).at [1, 1, 0, 1, 0, 0])))] by kernel_rfl) ⟨look_sound rfl (f153_L3_ok α n), trivial⟩
theorem f153_ok (n : Nat) : (f153_E n).Sound Try.prog :=
 fn_ok (tyOf_ok _) prog_fol (f153_D _ n) (show Try.prog.funcs[153]? = some Try.f153 by kernel_rfl) (by kernel_rfl) (show Try.f153.body = some (bodyOf Try.f153) by kernel_rfl) rfl rfl (Nat.le_of_ble_eq_true rfl) (f153_d _ n) (by intro x; kernel_rfl) 

def f90 (n : Nat) (a0 a1 : Rq) : Option Rq :=
 ob (f149 n a0.2.1 a1.2.2) fun r_1 =>
 ob (f149 n a1.2.1 a0.2.2) fun r_2 =>
 ob (f149 n a0.2.2 a1.2.2) fun r_3 =>
 bif (a0.1 == a1.1) then
  ob (f152 n r_1 r_2) fun r_4 =>
  ob (f151 n a0.1 r_4 r_3) fun r_5 =>
  some r_5
 else
  ob (f136 n r_1 r_2) fun r_6 =>
  bif (decide (r_6 ≥ 0)) then
   ob (f153 n r_1 r_2) fun r_7 =>
   ob (f151 n a0.1 r_7 r_3) fun r_8 =>
   some r_8
  else
   ob (f153 n r_2 r_1) fun r_9 =>
   ob (f151 n a1.1 r_9 r_3) fun r_10 =>
   some r_10
def f90_E (n : Nat) : Ent := ⟨90, [hR, hR], [hR], fun x => f90 n x.1 x.2⟩
def f90_D (α : Type) (n : Nat) : D3 α := { reg := [(1, ⟨9, [], [(4, { ent := some (f149_E n) }), (9, { ent := some (f149_E n) })]⟩), (2, ⟨0, [], [(4, { ent := some (f149_E n) })]⟩), (4, ⟨6, [], [(4, { ent := some (f152_E n) }), (6, { ent := some (f151_E n) })]⟩), (5, ⟨0, [], [(2, { ent := some (f136_E n) })]⟩), (6, ⟨6, [], [(4, { ent := some (f153_E n) }), (6, { ent := some (f151_E n) })]⟩), (7, ⟨6, [], [(4, { ent := some (f153_E n) }), (6, { ent := some (f151_E n) })]⟩)], join := [], loop := [] }
theorem f90_ents (α : Type) (n : Nat) : AllS Try.prog (entsOf (f90_D α n).reg) := ⟨f149_ok n, f149_ok n, f149_ok n, f152_ok n, f151_ok n, f136_ok n, f153_ok n, f151_ok n, f153_ok n, f151_ok n, trivial⟩
theorem f90_d (α : Type) (n : Nat) : D3.OK Try.prog (tyOf Try.prog) ⟨55, []⟩ (f90_D α n) (bodyOf Try.f90) :=
 D3.OK.mk3 (f90_ents α n) (show loopsOf (bodyOf Try.f90) = [] by kernel_rfl) trivial
theorem f90_ok (n : Nat) : (f90_E n).Sound Try.prog :=
 fn_ok (tyOf_ok _) prog_fol (f90_D _ n) (show Try.prog.funcs[90]? = some Try.f90 by kernel_rfl) (by kernel_rfl) (show Try.f90.body = some (bodyOf Try.f90) by kernel_rfl) rfl rfl (Nat.le_of_ble_eq_true rfl) (f90_d _ n) (by intro x; kernel_rfl) 

def f103_L3B {α : Type} (n : Nat) (s1 s9 : LR) (s10 s11 : Int) (c4_0 c5_0 : Bool) (c5_1 c5_2 : LI) (f : LR → LR → Int → Int → Bool → Bool → LI → LI → Option α) (k0 : Bool → Bool → LI → LI → Option α) : Option α :=
 bif (decide (s11 < s10)) then
  gd (decide (0 ≤ s11) && decide (s11 < (s9.length : Int))) (
   let x_2 := s9.getD s11.toNat (false, [], [])
   gd (decide (0 ≤ s11) && decide (s11 < (s1.length : Int))) (
    let x_3 := s1.getD s11.toNat (false, [], [])
    ob (f91 n x_2 x_3) fun r_4 =>
    ob (f90 n (c5_0, c5_1, c5_2) r_4) fun r_5 =>
    f s1 s9 s10 (W (s11 + 1)) c4_0 r_5.1 r_5.2.1 r_5.2.2))
 else
  k0 c4_0 c5_0 c5_1 c5_2
abbrev f103_L3H : Tm := ⟨[(1, .d hRs), (4, .k (.hp 4 0 0)), (5, .k (.hp 5 0 0)), (9, .d hRs), (10, .d hI), (11, .d hI)], [(4, .var 33 true false [.d .bool, .d .nil, .d .nil]), (5, .var 33 true false [.d .bool, .d hIs, .d hIs])], [7], []⟩
abbrev f103_L3X0 : Tm := ⟨[(4, .k (.hp 4 0 0)), (5, .k (.hp 5 0 0))], [(4, .var 33 true false [.d .bool, .d .nil, .d .nil]), (5, .var 33 true false [.d .bool, .d hIs, .d hIs])], [], []⟩
abbrev f103_L3O : List (Exit × Tm) := [(.exit 0, f103_L3X0)]
def f103_L3U {α : Type} (n : Nat) (v : f103_L3H.den) (f : f103_L3H.den → Option α) (ks : KS α f103_L3O) : Option α := f103_L3B n v.1.1 v.1.2.2.2.1 v.1.2.2.2.2.1 v.1.2.2.2.2.2.1 v.2.1.1 v.2.2.1.1 v.2.2.1.2.1 v.2.2.1.2.2.1 (fun s1 s9 s10 s11 c4_0 c5_0 c5_1 c5_2 => f ((s1, (), (), s9, s10, s11, ()), ((c4_0, (), (), ()), (c5_0, c5_1, c5_2, ()), ()))) (fun w0 w1 w2 w3 => ks.1 (((), (), ()), ((w0, (), (), ()), (w1, w2, w3, ()), ())))
def f103_L3 {α : Type} (n m : Nat) (s1 s9 : LR) (s10 s11 : Int) (c4_0 c5_0 : Bool) (c5_1 c5_2 : LI) (k0 : Bool → Bool → LI → LI → Option α) : Option α := rounds (f103_L3U n) m ((s1, (), (), s9, s10, s11, ()), ((c4_0, (), (), ()), (c5_0, c5_1, c5_2, ()), ())) (fun w => k0 w.2.1.1 w.2.2.1.1 w.2.2.1.2.1 w.2.2.1.2.2.1, ())
theorem f103_L3_0 {α n s1 s9 s10 s11 c4_0 c5_0 c5_1 c5_2 k0} : f103_L3 (α := α) n 0 s1 s9 s10 s11 c4_0 c5_0 c5_1 c5_2 k0 = none := rfl
theorem f103_L3_s {α n m s1 s9 s10 s11 c4_0 c5_0 c5_1 c5_2 k0} : f103_L3 (α := α) n (m + 1) s1 s9 s10 s11 c4_0 c5_0 c5_1 c5_2 k0 = f103_L3B n s1 s9 s10 s11 c4_0 c5_0 c5_1 c5_2 (fun s1 s9 s10 s11 c4_0 c5_0 c5_1 c5_2 => f103_L3 n m s1 s9 s10 s11 c4_0 c5_0 c5_1 c5_2 k0) k0 := rfl
def f103 (n : Nat) (a0 a1 : LR) : Option Rq :=
 ob (f112 n 0) fun r_1 =>
 f103_L3 n n a1 a0 (a0.length : Int) 0 false r_1.1 r_1.2.1 r_1.2.2
  (fun z_6 z_7 z_8 z_9 => (
   some (z_7, z_8, z_9)))
def f103_E (n : Nat) : Ent := ⟨103, [hRs, hRs], [hR], fun x => f103 n x.1 x.2⟩
def f103_D (α : Type) (n : Nat) : D3 α := { reg := [(1, ⟨0, [], [(0, { ent := some (f112_E n) })]⟩), (5, ⟨7, [], [(6, { ent := some (f91_E n) }), (7, { ent := some (f90_E n) })]⟩)], join := [], loop := [(3, ⟨f103_L3H, f103_L3O, rounds (f103_L3U n) n⟩)] }
theorem f103_ents (α : Type) (n : Nat) : AllS Try.prog (entsOf (f103_D α n).reg) := ⟨f112_ok n, f91_ok n, f90_ok n, trivial⟩
theorem f103_L3_d (α : Type) (n : Nat) : D3.OK Try.prog (tyOf Try.prog) ⟨26, []⟩ (f103_D α n) ((bodyOf Try.f103).at [1, 1, 0, 1, 0, 0]) :=
 D3.OK.mk3 (f103_ents α n) (show loopsOf ((bodyOf Try.f103).at [1, 1, 0, 1, 0, 0]) = [] by kernel_rfl) trivial
theorem f103_L3_ok (α : Type) (n : Nat) : LO.Sound (α := α) Try.prog ⟨26, []⟩ ⟨f103_L3H, f103_L3O, rounds (f103_L3U n) n⟩ (.loop ((bodyOf Try.f103).at [1, 1, 0, 1, 0, 0])) :=
 loop_ok (tyOf_ok _) prog_fol (f103_L3U n) (f103_L3_d α n) (by intro v f ks; kernel_rfl) n
theorem f103_d (α : Type) (n : Nat) : D3.OK Try.prog (tyOf Try.prog) ⟨26, []⟩ (f103_D α n) (bodyOf Try.f103) :=
 D3.OK.mk3 (f103_ents α n) (show loopsOf (bodyOf Try.f103) = [(3, (.loop ((bodyOf Try.f103).at [1, 1, 0, 1, 0, 0])))] by kernel_rfl) ⟨look_sound rfl (f103_L3_ok α n), trivial⟩
theorem f103_ok (n : Nat) : (f103_E n).Sound Try.prog :=
 fn_ok (tyOf_ok _) prog_fol (f103_D _ n) (show Try.prog.funcs[103]? = some Try.f103 by kernel_rfl) (by kernel_rfl) (show Try.f103.body = some (bodyOf Try.f103) by kernel_rfl) rfl rfl (Nat.le_of_ble_eq_true rfl) (f103_d _ n) (by intro x; kernel_rfl) 

def f102 (n : Nat) (a0 a1 : Int) (a2 a3 : LR) : Option Rq :=
 gd (decide (a1 ≠ 0)) (
  gd (decide (a1 ≠ 0)) (
   gd (decide (0 ≤ (W ((W (Int.tdiv a0 a1)) * a1))) && decide ((W ((W (Int.tdiv a0 a1)) * a1)) ≤ (W ((W ((W (Int.tdiv a0 a1)) + 1)) * a1))) && decide ((W ((W ((W (Int.tdiv a0 a1)) + 1)) * a1)) ≤ (a2.length : Int))) (
    gd (decide (0 ≤ (W ((Int.tmod a0 a1) * a1))) && decide ((W ((Int.tmod a0 a1) * a1)) ≤ (W ((W ((Int.tmod a0 a1) + 1)) * a1))) && decide ((W ((W ((Int.tmod a0 a1) + 1)) * a1)) ≤ (a3.length : Int))) (
     ob (f103 n ((a2.drop ((W ((W (Int.tdiv a0 a1)) * a1)).toNat)).take ((W ((W ((W (Int.tdiv a0 a1)) + 1)) * a1)).toNat - (W ((W (Int.tdiv a0 a1)) * a1)).toNat)) ((a3.drop ((W ((Int.tmod a0 a1) * a1)).toNat)).take ((W ((W ((Int.tmod a0 a1) + 1)) * a1)).toNat - (W ((Int.tmod a0 a1) * a1)).toNat))) fun r_1 =>
     some r_1))))
def f102_E (n : Nat) : Ent := ⟨102, [hI, (.ref hI), (.ref hRs), (.ref hRs)], [hR], fun x => f102 n x.1 x.2.1 x.2.2.1 x.2.2.2⟩
def f102_D (α : Type) (n : Nat) : D3 α := { reg := [(1, ⟨7, [], []⟩), (2, ⟨18, [], [(18, { ent := some (f103_E n) })]⟩)], join := [], loop := [] }
theorem f102_ents (α : Type) (n : Nat) : AllS Try.prog (entsOf (f102_D α n).reg) := ⟨f103_ok n, trivial⟩
theorem f102_d (α : Type) (n : Nat) : D3.OK Try.prog (tyOf Try.prog) ⟨33, []⟩ (f102_D α n) (bodyOf Try.f102) :=
 D3.OK.mk3 (f102_ents α n) (show loopsOf (bodyOf Try.f102) = [] by kernel_rfl) trivial
theorem f102_ok (n : Nat) : (f102_E n).Sound Try.prog :=
 fn_ok (tyOf_ok _) prog_fol (f102_D _ n) (show Try.prog.funcs[102]? = some Try.f102 by kernel_rfl) (by kernel_rfl) (show Try.f102.body = some (bodyOf Try.f102) by kernel_rfl) rfl rfl (Nat.le_of_ble_eq_true rfl) (f102_d _ n) (by intro x; kernel_rfl) 

def f132B1 (n : Nat) (a0 : List Int) : Option (List Int ⊕ Unit) := bif a0.isEmpty then some (.inr ()) else (f132B n a0).map .inl
def f132B1_E (n : Nat) : Ent3 := ⟨132, [.im hIs], [[.one (.own 3 hI)], [.one (.emp hI)]], fun x => f132B1 n x⟩
theorem f132B1_ok (n : Nat) : (f132B1_E n).Sound Try.prog := by
 intro nt x z h
 cases x with
 | cons y l =>
  have h : (f132B n (y :: l)).map Sum.inl = some z := h
  cases e : f132B n (y :: l) with
  | none => rw [e] at h; cases h
  | some r =>
   rw [e] at h
   obtain rfl := Option.some.inj h
   exact f132B_ok n nt (y :: l) r e
 | nil =>
  have h : some (Sum.inr ()) = some z := h
  obtain rfl := Option.some.inj h
  exact f132_nil nt

abbrev f72B_G1 : Tm := ⟨[(1, .k (.hp 1 0 0)), (2, .k (.hp 2 0 0))], [(1, .var 33 true false [.d .bool, .d hIs, .d hIs]), (2, .var 33 true false [.d .bool, .d .nil, .d .nil])], [], []⟩
def f72B (n : Nat) (a0 : Rq) : Option ((Bool × LI × LI) ⊕ ((Bool × Unit × LI) ⊕ ((Bool × LI × Unit) ⊕ (Bool × Unit × Unit)))) :=
 ob (f132B1 n a0.2.1) fun r_1 =>
 caseS r_1 (fun r_2 =>
  ob (f132B1 n a0.2.2) fun r_4 =>
  caseS r_4 (fun r_5 =>
   some (.inl (a0.1, r_2, r_5))) (fun r_6 =>
   some (.inr (.inr (.inl (a0.1, r_2, ())))))) (fun r_3 =>
  ob (f132B1 n a0.2.2) fun r_7 =>
  caseS r_7 (fun r_8 =>
   some (.inr (.inl (a0.1, (), r_8)))) (fun r_9 =>
   some (.inr (.inr (.inr (a0.1, (), ()))))))
def f72B_E (n : Nat) : Ent3 := ⟨72, [.im hR], [[.mix [.im .bool, .own 3 hI, .own 3 hI]], [.mix [.im .bool, .emp hI, .own 3 hI]], [.mix [.im .bool, .own 3 hI, .emp hI]], [.mix [.im .bool, .emp hI, .emp hI]]], fun x => f72B n x⟩
def f72B_D (α : Type) (n : Nat) : D3 α := { reg := [(1, ⟨0, [], [(4, { entB := some (f132B1_E n), hb := 310 }), (7, { entB := some (f132B1_E n), hb := 320 })]⟩)], join := [], loop := [], any := [(1, f72B_G1)] }
set_option maxHeartbeats 8000000 in
theorem f72B_A1 (n : Nat) : FamAll (tyOf Try.prog) ⟨12, []⟩ [(4, { entB := some (f132B1_E n), hb := 310 }), (7, { entB := some (f132B1_E n), hb := 320 })] f72B_G1 (regOps ((bodyOf Try.f72).at [1, 0])) := by
 refine ⟨by kernel_rfl, fun w q hq => ?_⟩
 have e : WT [(4, { entB := some (f132B1_E n), hb := 310 }), (7, { entB := some (f132B1_E n), hb := 320 })] (swapIdx (regOps ((bodyOf Try.f72).at [1, 0])).toList) q = (∃ (y0 : HF (ownsP 1000 (f132B1_E n).ts) (f132B1_E n).forms) (q0 : List (Nat × RV)), q = (4, .bx (f132B1_E n) y0) :: q0 ∧ ∃ (y1 : HF (ownsP 1000 (f132B1_E n).ts) (f132B1_E n).forms) (q1 : List (Nat × RV)), q0 = (7, .bx (f132B1_E n) y1) :: q1 ∧ q1 = []) := by kernel_rfl
 rw [e] at hq
 obtain ⟨y0, q0, rfl, y1, q1, rfl, rfl⟩ := hq
 all_goals rcases y0 with y0 | y0
 all_goals rcases y1 with y1 | y1
 all_goals exact .inl (FamEq.mk (by kernel_rfl))
theorem f72B_ents (α : Type) (n : Nat) : AllS Try.prog (entsOf (f72B_D α n).reg) := ⟨f132B1_ok n, f132B1_ok n, trivial⟩
theorem f72B_d (α : Type) (n : Nat) : D3.OK Try.prog (tyOf Try.prog) ⟨12, []⟩ (f72B_D α n) (bodyOf Try.f72) :=
 D3.OK.mk3a (f72B_ents α n) (show loopsOf (bodyOf Try.f72) = [] by kernel_rfl) trivial (show anysOf (bodyOf Try.f72) = [(1, regOps ((bodyOf Try.f72).at [1, 0]))] by kernel_rfl) ⟨fun X h => (by cases h; exact f72B_A1 n), trivial⟩
theorem f72B_ok (n : Nat) : (f72B_E n).Sound Try.prog :=
 fn_okB (tyOf_ok _) prog_fol (f72B_D _ n) (show Try.prog.funcs[72]? = some Try.f72 by kernel_rfl) (by kernel_rfl) (show Try.f72.body = some (bodyOf Try.f72) by kernel_rfl) rfl rfl (Nat.le_of_ble_eq_true rfl) (f72B_d _ n) (by intro x; kernel_rfl) 

def f97c102B_L3B {α : Type} (n : Nat) (s1 : Int × LR × LR) (s8 s9 : Int) (b7 : LR) (f : (Int × LR × LR) → Int → Int → LR → Option α) (k0 : LR → Option α) : Option α :=
 bif (decide (s9 < s8)) then
  ob (f102 n s9 s1.1 s1.2.1 s1.2.2) fun r_1 =>
  ob (f72B n r_1) fun r_2 =>
  caseS r_2 (fun r_3 =>
   gd (decide ((b7.length + 1) * 56 ≤ 140737488355328)) (
    f s1 s8 (W (s9 + 1)) (b7 ++ [r_3]))) (fun r_4 =>
   caseS r_4 (fun r_5 =>
    gd (decide ((b7.length + 1) * 56 ≤ 140737488355328)) (
     f s1 s8 (W (s9 + 1)) (b7 ++ [(r_5.1, [], r_5.2.2)]))) (fun r_6 =>
    caseS r_6 (fun r_7 =>
     gd (decide ((b7.length + 1) * 56 ≤ 140737488355328)) (
      f s1 s8 (W (s9 + 1)) (b7 ++ [(r_7.1, r_7.2.1, [])]))) (fun r_8 =>
     none)))
 else
  k0 b7
abbrev f97c102B_L3H : Tm := ⟨[(1, .d (.clo 102 (.pair (.ref hI) (.pair (.ref hRs) (.ref hRs))))), (5, .k (.hw 7)), (8, .d hI), (9, .d hI)], [(7, .tree 33 hR false)], [], []⟩
abbrev f97c102B_L3X0 : Tm := ⟨[(5, .k (.hw 7))], [(7, .tree 33 hR false)], [], []⟩
abbrev f97c102B_L3O : List (Exit × Tm) := [(.exit 0, f97c102B_L3X0)]
def f97c102B_L3U {α : Type} (n : Nat) (v : f97c102B_L3H.den) (f : f97c102B_L3H.den → Option α) (ks : KS α f97c102B_L3O) : Option α := f97c102B_L3B n v.1.1 v.1.2.2.1 v.1.2.2.2.1 v.2.1 (fun s1 s8 s9 b7 => f ((s1, (), s8, s9, ()), (b7, ()))) (fun w0 => ks.1 (((), ()), (w0, ())))
def f97c102B_L3 {α : Type} (n m : Nat) (s1 : Int × LR × LR) (s8 s9 : Int) (b7 : LR) (k0 : LR → Option α) : Option α := rounds (f97c102B_L3U n) m ((s1, (), s8, s9, ()), (b7, ())) (fun w => k0 w.2.1, ())
theorem f97c102B_L3_0 {α n s1 s8 s9 b7 k0} : f97c102B_L3 (α := α) n 0 s1 s8 s9 b7 k0 = none := rfl
theorem f97c102B_L3_s {α n m s1 s8 s9 b7 k0} : f97c102B_L3 (α := α) n (m + 1) s1 s8 s9 b7 k0 = f97c102B_L3B n s1 s8 s9 b7 (fun s1 s8 s9 b7 => f97c102B_L3 n m s1 s8 s9 b7 k0) k0 := rfl
def f97c102B (n : Nat) (a0 : Int) (a1 : Int × LR × LR) : Option LR :=
 f97c102B_L3 n n a1 a0 0 []
  (fun z_9 => (
   some z_9))
def f97c102B_E (n : Nat) : Ent3 := ⟨97, [.im hI, .im (.clo 102 (.pair (.ref hI) (.pair (.ref hRs) (.ref hRs))))], [[.one (.tree 33 hR)]], fun x => f97c102B n x.1 x.2⟩
def f97c102B_D (α : Type) (n : Nat) : D3 α := { reg := [(1, ⟨0, [], [(0, { sh := some hR, tr := some hR })]⟩), (5, ⟨0, [], [(3, { ent := some (f102_E n) }), (4, { entB := some (f72B_E n), hb := 310 }), (5, { sh := some hR })]⟩)], join := [], loop := [(3, ⟨f97c102B_L3H, f97c102B_L3O, rounds (f97c102B_L3U n) n⟩)] }
theorem f97c102B_ents (α : Type) (n : Nat) : AllS Try.prog (entsOf (f97c102B_D α n).reg) := ⟨f102_ok n, f72B_ok n, trivial⟩
theorem f97c102B_L3_d (α : Type) (n : Nat) : D3.OK Try.prog (tyOf Try.prog) ⟨21, []⟩ (f97c102B_D α n) ((bodyOf Try.f97).at [1, 1, 0, 1, 0, 0]) :=
 D3.OK.mk3 (f97c102B_ents α n) (show loopsOf ((bodyOf Try.f97).at [1, 1, 0, 1, 0, 0]) = [] by kernel_rfl) trivial
theorem f97c102B_L3_ok (α : Type) (n : Nat) : LO.Sound (α := α) Try.prog ⟨21, []⟩ ⟨f97c102B_L3H, f97c102B_L3O, rounds (f97c102B_L3U n) n⟩ (.loop ((bodyOf Try.f97).at [1, 1, 0, 1, 0, 0])) :=
 loop_ok (tyOf_ok _) prog_fol (f97c102B_L3U n) (f97c102B_L3_d α n) (by intro v f ks; kernel_rfl) n
theorem f97c102B_d (α : Type) (n : Nat) : D3.OK Try.prog (tyOf Try.prog) ⟨21, []⟩ (f97c102B_D α n) (bodyOf Try.f97) :=
 D3.OK.mk3 (f97c102B_ents α n) (show loopsOf (bodyOf Try.f97) = [(3, (.loop ((bodyOf Try.f97).at [1, 1, 0, 1, 0, 0])))] by kernel_rfl) ⟨look_sound rfl (f97c102B_L3_ok α n), trivial⟩
theorem f97c102B_ok (n : Nat) : (f97c102B_E n).Sound Try.prog :=
 fn_okB (tyOf_ok _) prog_fol (f97c102B_D _ n) (show Try.prog.funcs[97]? = some Try.f97 by kernel_rfl) (by kernel_rfl) (show Try.f97.body = some (bodyOf Try.f97) by kernel_rfl) rfl rfl (Nat.le_of_ble_eq_true rfl) (f97c102B_d _ n) (by intro x; kernel_rfl) 

def f156 (n : Nat) (a0 : Rq) : Option Bool :=
 bif (decide ((a0.2.1.length : Int) ≤ 40)) then
  some (decide ((a0.2.2.length : Int) ≤ 40))
 else
  some false
def f156_E (n : Nat) : Ent := ⟨156, [hR], [.bool], fun x => f156 n x⟩
def f156_D (α : Type) (n : Nat) : D3 α := { reg := [], join := [], loop := [] }
theorem f156_ents (α : Type) (n : Nat) : AllS Try.prog (entsOf (f156_D α n).reg) := trivial
theorem f156_d (α : Type) (n : Nat) : D3.OK Try.prog (tyOf Try.prog) ⟨13, []⟩ (f156_D α n) (bodyOf Try.f156) :=
 D3.OK.mk3 (f156_ents α n) (show loopsOf (bodyOf Try.f156) = [] by kernel_rfl) trivial
theorem f156_ok (n : Nat) : (f156_E n).Sound Try.prog :=
 fn_ok (tyOf_ok _) prog_fol (f156_D _ n) (show Try.prog.funcs[156]? = some Try.f156 by kernel_rfl) (by kernel_rfl) (show Try.f156.body = some (bodyOf Try.f156) by kernel_rfl) rfl rfl (Nat.le_of_ble_eq_true rfl) (f156_d _ n) (by intro x; kernel_rfl) 

def f155 (n : Nat) (a0 : Rq) : Option Bool :=
 ob (f156 n a0) fun r_1 =>
 some (!r_1)
def f155_E (n : Nat) : Ent := ⟨155, [hR], [.bool], fun x => f155 n x⟩
def f155_D (α : Type) (n : Nat) : D3 α := { reg := [(1, ⟨0, [], [(1, { ent := some (f156_E n) })]⟩)], join := [], loop := [] }
theorem f155_ents (α : Type) (n : Nat) : AllS Try.prog (entsOf (f155_D α n).reg) := ⟨f156_ok n, trivial⟩
theorem f155_d (α : Type) (n : Nat) : D3.OK Try.prog (tyOf Try.prog) ⟨6, []⟩ (f155_D α n) (bodyOf Try.f155) :=
 D3.OK.mk3 (f155_ents α n) (show loopsOf (bodyOf Try.f155) = [] by kernel_rfl) trivial
theorem f155_ok (n : Nat) : (f155_E n).Sound Try.prog :=
 fn_ok (tyOf_ok _) prog_fol (f155_D _ n) (show Try.prog.funcs[155]? = some Try.f155 by kernel_rfl) (by kernel_rfl) (show Try.f155.body = some (bodyOf Try.f155) by kernel_rfl) rfl rfl (Nat.le_of_ble_eq_true rfl) (f155_d _ n) (by intro x; kernel_rfl) 

def f177c155_L2B {α : Type} (n : Nat) (s0 : LR) (s7 s8 : Int) (f : LR → Int → Int → Option α) (k0 : Int → Option α) (k1 : Unit → Option α) : Option α :=
 bif (decide (s8 < s7)) then
  gd (decide (0 ≤ s8) && decide (s8 < (s0.length : Int))) (
   let x_1 := s0.getD s8.toNat (false, [], [])
   ob (f155 n x_1) fun r_2 =>
   bif r_2 then
    k0 s8
   else
    f s0 s7 (W (s8 + 1)))
 else
  k1 ()
abbrev f177c155_L2H : Tm := ⟨[(0, .d hRs), (1, .d (.fn 155)), (7, .d hI), (8, .d hI)], [], [], []⟩
abbrev f177c155_L2X0 : Tm := ⟨[(4, .d hI)], [], [], []⟩
abbrev f177c155_L2X1 : Tm := ⟨[], [], [], []⟩
abbrev f177c155_L2O : List (Exit × Tm) := [(.ret, f177c155_L2X0), (.exit 0, f177c155_L2X1)]
def f177c155_L2U {α : Type} (n : Nat) (v : f177c155_L2H.den) (f : f177c155_L2H.den → Option α) (ks : KS α f177c155_L2O) : Option α := f177c155_L2B n v.1.1 v.1.2.2.1 v.1.2.2.2.1 (fun s0 s7 s8 => f ((s0, (), s7, s8, ()), ())) (fun w0 => ks.1 ((w0, ()), ())) (fun _ => ks.2.1 ((), ()))
def f177c155_L2 {α : Type} (n m : Nat) (s0 : LR) (s7 s8 : Int) (k0 : Int → Option α) (k1 : Unit → Option α) : Option α := rounds (f177c155_L2U n) m ((s0, (), s7, s8, ()), ()) (fun w => k0 w.1.1, fun w => k1 (), ())
theorem f177c155_L2_0 {α n s0 s7 s8 k0 k1} : f177c155_L2 (α := α) n 0 s0 s7 s8 k0 k1 = none := rfl
theorem f177c155_L2_s {α n m s0 s7 s8 k0 k1} : f177c155_L2 (α := α) n (m + 1) s0 s7 s8 k0 k1 = f177c155_L2B n s0 s7 s8 (fun s0 s7 s8 => f177c155_L2 n m s0 s7 s8 k0 k1) k0 k1 := rfl
def f177c155 (n : Nat) (a0 : LR) (a1 : Unit) : Option Int :=
 f177c155_L2 n n a0 (a0.length : Int) 0
  (fun z_3 => (
   some z_3))
  (fun (_ : Unit) => (
   some (-1)))
def f177c155_E (n : Nat) : Ent := ⟨177, [hRs, (.fn 155)], [hI], fun x => f177c155 n x.1 x.2⟩
def f177c155_D (α : Type) (n : Nat) : D3 α := { reg := [(4, ⟨0, [], [(5, { ent := some (f155_E n) })]⟩)], join := [], loop := [(2, ⟨f177c155_L2H, f177c155_L2O, rounds (f177c155_L2U n) n⟩)] }
theorem f177c155_ents (α : Type) (n : Nat) : AllS Try.prog (entsOf (f177c155_D α n).reg) := ⟨f155_ok n, trivial⟩
theorem f177c155_L2_d (α : Type) (n : Nat) : D3.OK Try.prog (tyOf Try.prog) ⟨19, []⟩ (f177c155_D α n) ((bodyOf Try.f177).at [1, 0, 1, 0, 0]) :=
 D3.OK.mk3 (f177c155_ents α n) (show loopsOf ((bodyOf Try.f177).at [1, 0, 1, 0, 0]) = [] by kernel_rfl) trivial
theorem f177c155_L2_ok (α : Type) (n : Nat) : LO.Sound (α := α) Try.prog ⟨19, []⟩ ⟨f177c155_L2H, f177c155_L2O, rounds (f177c155_L2U n) n⟩ (.loop ((bodyOf Try.f177).at [1, 0, 1, 0, 0])) :=
 loop_ok (tyOf_ok _) prog_fol (f177c155_L2U n) (f177c155_L2_d α n) (by intro v f ks; kernel_rfl) n
theorem f177c155_d (α : Type) (n : Nat) : D3.OK Try.prog (tyOf Try.prog) ⟨19, []⟩ (f177c155_D α n) (bodyOf Try.f177) :=
 D3.OK.mk3 (f177c155_ents α n) (show loopsOf (bodyOf Try.f177) = [(2, (.loop ((bodyOf Try.f177).at [1, 0, 1, 0, 0])))] by kernel_rfl) ⟨look_sound rfl (f177c155_L2_ok α n), trivial⟩
theorem f177c155_ok (n : Nat) : (f177c155_E n).Sound Try.prog :=
 fn_ok (tyOf_ok _) prog_fol (f177c155_D _ n) (show Try.prog.funcs[177]? = some Try.f177 by kernel_rfl) (by kernel_rfl) (show Try.f177.body = some (bodyOf Try.f177) by kernel_rfl) rfl rfl (Nat.le_of_ble_eq_true rfl) (f177c155_d _ n) (by intro x; kernel_rfl) 

def f130c155 (n : Nat) (a0 : LR) (a1 : Unit) : Option Bool :=
 ob (f177c155 n a0 a1) fun r_1 =>
 some (decide (r_1 ≥ 0))
def f130c155_E (n : Nat) : Ent := ⟨130, [hRs, (.fn 155)], [.bool], fun x => f130c155 n x.1 x.2⟩
def f130c155_D (α : Type) (n : Nat) : D3 α := { reg := [(1, ⟨0, [], [(2, { ent := some (f177c155_E n) })]⟩)], join := [], loop := [] }
theorem f130c155_ents (α : Type) (n : Nat) : AllS Try.prog (entsOf (f130c155_D α n).reg) := ⟨f177c155_ok n, trivial⟩
theorem f130c155_d (α : Type) (n : Nat) : D3.OK Try.prog (tyOf Try.prog) ⟨9, []⟩ (f130c155_D α n) (bodyOf Try.f130) :=
 D3.OK.mk3 (f130c155_ents α n) (show loopsOf (bodyOf Try.f130) = [] by kernel_rfl) trivial
theorem f130c155_ok (n : Nat) : (f130c155_E n).Sound Try.prog :=
 fn_ok (tyOf_ok _) prog_fol (f130c155_D _ n) (show Try.prog.funcs[130]? = some Try.f130 by kernel_rfl) (by kernel_rfl) (show Try.f130.body = some (bodyOf Try.f130) by kernel_rfl) rfl rfl (Nat.le_of_ble_eq_true rfl) (f130c155_d _ n) (by intro x; kernel_rfl) 

def f96B (n : Nat) (a0 : LR) : Option (((Unit × Int) × LR) ⊕ ((Unit × Int) × LR)) :=
 ob (f130c155 n a0 ()) fun r_1 =>
 bif r_1 then
  some (.inr (((), 7), a0))
 else
  some (.inl (((), 0), a0))
def f96B_E (n : Nat) : Ent3 := ⟨96, [.one (.tree 33 hR)], [[.one (.back 1000), .im hI], [.im .nil, .im hI]], fun x => f96B n x⟩
def f96B_D (α : Type) (n : Nat) : D3 α := { reg := [(1, ⟨0, [], [(1, { ent := some (f130c155_E n) })]⟩)], join := [], loop := [] }
theorem f96B_ents (α : Type) (n : Nat) : AllS Try.prog (entsOf (f96B_D α n).reg) := ⟨f130c155_ok n, trivial⟩
theorem f96B_d (α : Type) (n : Nat) : D3.OK Try.prog (tyOf Try.prog) ⟨7, []⟩ (f96B_D α n) (bodyOf Try.f96) :=
 D3.OK.mk3 (f96B_ents α n) (show loopsOf (bodyOf Try.f96) = [] by kernel_rfl) trivial
theorem f96B_ok (n : Nat) : (f96B_E n).Sound Try.prog :=
 fn_okB (tyOf_ok _) prog_fol (f96B_D _ n) (show Try.prog.funcs[96]? = some Try.f96 by kernel_rfl) (by kernel_rfl) (show Try.f96.body = some (bodyOf Try.f96) by kernel_rfl) rfl rfl (Nat.le_of_ble_eq_true rfl) (f96B_d _ n) (by intro x; kernel_rfl) 

def f48B (n : Nat) (a0 a1 : LR) (a2 : Int) : Option ((LR × Int) ⊕ (Unit × Int)) :=
 ob (f81 n a2 [a0, a1]) fun r_1 =>
 bif (r_1 != 0) then
  some (.inr ((), r_1))
 else
  ob (f82 n a1 a2) fun r_2 =>
  ob (f97c102B n (W (a2 * a2)) (a2, a0, r_2)) fun r_3 =>
  ob (f96B n r_3) fun r_4 =>
  caseS r_4 (fun r_5 =>
   some (.inl (r_5.2, r_5.1.2))) (fun r_6 =>
   gd (Nat.beq r_6.2.length r_3.length && true) (
    some (.inr (r_6.1.1, r_6.1.2))))
def f48B_E (n : Nat) : Ent3 := ⟨48, [.im hRs, .im hRs, .im hI], [[.one (.tree 33 hR), .im hI], [.im .nil, .im hI]], fun x => f48B n x.1 x.2.1 x.2.2⟩
def f48B_D (α : Type) (n : Nat) : D3 α := { reg := [(1, ⟨0, [], [(3, { sh := some hRs }), (4, { ent := some (f81_E n) })]⟩), (4, ⟨0, [], [(2, { ent := some (f82_E n) })]⟩), (5, ⟨0, [], [(3, { sh := some (.pair (.ref hI) (.pair (.ref hRs) (.ref hRs))) }), (4, { entB := some (f97c102B_E n), hb := 310 }), (5, { entB := some (f96B_E n), hb := 320 })]⟩)], join := [], loop := [] }
theorem f48B_ents (α : Type) (n : Nat) : AllS Try.prog (entsOf (f48B_D α n).reg) := ⟨f81_ok n, f82_ok n, f97c102B_ok n, f96B_ok n, trivial⟩
theorem f48B_d (α : Type) (n : Nat) : D3.OK Try.prog (tyOf Try.prog) ⟨29, []⟩ (f48B_D α n) (bodyOf Try.f48) :=
 D3.OK.mk3 (f48B_ents α n) (show loopsOf (bodyOf Try.f48) = [] by kernel_rfl) trivial
theorem f48B_ok (n : Nat) : (f48B_E n).Sound Try.prog :=
 fn_okB (tyOf_ok _) prog_fol (f48B_D _ n) (show Try.prog.funcs[48]? = some Try.f48 by kernel_rfl) (by kernel_rfl) (show Try.f48.body = some (bodyOf Try.f48) by kernel_rfl) rfl rfl (Nat.le_of_ble_eq_true rfl) (f48B_d _ n) (by intro x; kernel_rfl) 

def f73_L4B {α : Type} (n : Nat) (s0 s1 : LI) (s5 : Int) (f : LI → LI → Int → Option α) (k0 : Bool → Option α) (k1 : Unit → Option α) : Option α :=
 bif (decide (s5 < (s0.length : Int))) then
  gd (decide (0 ≤ s5) && decide (s5 < (s0.length : Int))) (
   gd (decide (0 ≤ s5) && decide (s5 < (s1.length : Int))) (
    bif ((s0.getD s5.toNat 0) != (s1.getD s5.toNat 0)) then
     k0 false
    else
     f s0 s1 (W (s5 + 1))))
 else
  k1 ()
abbrev f73_L4H : Tm := ⟨[(0, .d hIs), (1, .d hIs), (5, .d hI)], [], [], []⟩
abbrev f73_L4X0 : Tm := ⟨[(4, .d .bool)], [], [], []⟩
abbrev f73_L4X1 : Tm := ⟨[], [], [], []⟩
abbrev f73_L4O : List (Exit × Tm) := [(.ret, f73_L4X0), (.exit 0, f73_L4X1)]
def f73_L4U {α : Type} (n : Nat) (v : f73_L4H.den) (f : f73_L4H.den → Option α) (ks : KS α f73_L4O) : Option α := f73_L4B n v.1.1 v.1.2.1 v.1.2.2.1 (fun s0 s1 s5 => f ((s0, s1, s5, ()), ())) (fun w0 => ks.1 ((w0, ()), ())) (fun _ => ks.2.1 ((), ()))
def f73_L4 {α : Type} (n m : Nat) (s0 s1 : LI) (s5 : Int) (k0 : Bool → Option α) (k1 : Unit → Option α) : Option α := rounds (f73_L4U n) m ((s0, s1, s5, ()), ()) (fun w => k0 w.1.1, fun w => k1 (), ())
theorem f73_L4_0 {α n s0 s1 s5 k0 k1} : f73_L4 (α := α) n 0 s0 s1 s5 k0 k1 = none := rfl
theorem f73_L4_s {α n m s0 s1 s5 k0 k1} : f73_L4 (α := α) n (m + 1) s0 s1 s5 k0 k1 = f73_L4B n s0 s1 s5 (fun s0 s1 s5 => f73_L4 n m s0 s1 s5 k0 k1) k0 k1 := rfl
def f73 (n : Nat) (a0 a1 : LI) : Option Bool :=
 bif ((a0.length : Int) != (a1.length : Int)) then
  some false
 else
  f73_L4 n n a0 a1 0
   (fun z_1 => (
    some z_1))
   (fun (_ : Unit) => (
    some true))
def f73_E (n : Nat) : Ent := ⟨73, [hIs, hIs], [.bool], fun x => f73 n x.1 x.2⟩
def f73_D (α : Type) (n : Nat) : D3 α := { reg := [(6, ⟨8, [], []⟩)], join := [], loop := [(4, ⟨f73_L4H, f73_L4O, rounds (f73_L4U n) n⟩)] }
theorem f73_ents (α : Type) (n : Nat) : AllS Try.prog (entsOf (f73_D α n).reg) := trivial
theorem f73_L4_d (α : Type) (n : Nat) : D3.OK Try.prog (tyOf Try.prog) ⟨26, []⟩ (f73_D α n) ((bodyOf Try.f73).at [1, 1, 0, 1, 0, 0]) :=
 D3.OK.mk3 (f73_ents α n) (show loopsOf ((bodyOf Try.f73).at [1, 1, 0, 1, 0, 0]) = [] by kernel_rfl) trivial
theorem f73_L4_ok (α : Type) (n : Nat) : LO.Sound (α := α) Try.prog ⟨26, []⟩ ⟨f73_L4H, f73_L4O, rounds (f73_L4U n) n⟩ (.loop ((bodyOf Try.f73).at [1, 1, 0, 1, 0, 0])) :=
 loop_ok (tyOf_ok _) prog_fol (f73_L4U n) (f73_L4_d α n) (by intro v f ks; kernel_rfl) n
theorem f73_d (α : Type) (n : Nat) : D3.OK Try.prog (tyOf Try.prog) ⟨26, []⟩ (f73_D α n) (bodyOf Try.f73) :=
 D3.OK.mk3 (f73_ents α n) (show loopsOf (bodyOf Try.f73) = [(4, (.loop ((bodyOf Try.f73).at [1, 1, 0, 1, 0, 0])))] by kernel_rfl) ⟨look_sound rfl (f73_L4_ok α n), trivial⟩
theorem f73_ok (n : Nat) : (f73_E n).Sound Try.prog :=
 fn_ok (tyOf_ok _) prog_fol (f73_D _ n) (show Try.prog.funcs[73]? = some Try.f73 by kernel_rfl) (by kernel_rfl) (show Try.f73.body = some (bodyOf Try.f73) by kernel_rfl) rfl rfl (Nat.le_of_ble_eq_true rfl) (f73_d _ n) (by intro x; kernel_rfl) 

def f24 (n : Nat) (a0 a1 : Rq) : Option Bool :=
 bif (!(a0.1 == a1.1)) then
  some false
 else
  ob (f73 n a0.2.1 a1.2.1) fun r_1 =>
  bif (!r_1) then
   some false
  else
   ob (f73 n a0.2.2 a1.2.2) fun r_2 =>
   bif (!r_2) then
    some false
   else
    some true
def f24_E (n : Nat) : Ent := ⟨24, [hR, hR], [.bool], fun x => f24 n x.1 x.2⟩
def f24_D (α : Type) (n : Nat) : D3 α := { reg := [(3, ⟨0, [], [(4, { ent := some (f73_E n) })]⟩), (5, ⟨0, [], [(4, { ent := some (f73_E n) })]⟩)], join := [], loop := [] }
theorem f24_ents (α : Type) (n : Nat) : AllS Try.prog (entsOf (f24_D α n).reg) := ⟨f73_ok n, f73_ok n, trivial⟩
theorem f24_d (α : Type) (n : Nat) : D3.OK Try.prog (tyOf Try.prog) ⟨22, []⟩ (f24_D α n) (bodyOf Try.f24) :=
 D3.OK.mk3 (f24_ents α n) (show loopsOf (bodyOf Try.f24) = [] by kernel_rfl) trivial
theorem f24_ok (n : Nat) : (f24_E n).Sound Try.prog :=
 fn_ok (tyOf_ok _) prog_fol (f24_D _ n) (show Try.prog.funcs[24]? = some Try.f24 by kernel_rfl) (by kernel_rfl) (show Try.f24.body = some (bodyOf Try.f24) by kernel_rfl) rfl rfl (Nat.le_of_ble_eq_true rfl) (f24_d _ n) (by intro x; kernel_rfl) 

def f19_L4B {α : Type} (n : Nat) (s0 s1 : LR) (s5 : Int) (f : LR → LR → Int → Option α) (k0 : Bool → Option α) (k1 : Unit → Option α) : Option α :=
 bif (decide (s5 < (s0.length : Int))) then
  gd (decide (0 ≤ s5) && decide (s5 < (s0.length : Int))) (
   let x_1 := s0.getD s5.toNat (false, [], [])
   gd (decide (0 ≤ s5) && decide (s5 < (s1.length : Int))) (
    let x_2 := s1.getD s5.toNat (false, [], [])
    ob (f24 n x_1 x_2) fun r_3 =>
    bif (!r_3) then
     k0 false
    else
     f s0 s1 (W (s5 + 1))))
 else
  k1 ()
abbrev f19_L4H : Tm := ⟨[(0, .d hRs), (1, .d hRs), (5, .d hI)], [], [], []⟩
abbrev f19_L4X0 : Tm := ⟨[(4, .d .bool)], [], [], []⟩
abbrev f19_L4X1 : Tm := ⟨[], [], [], []⟩
abbrev f19_L4O : List (Exit × Tm) := [(.ret, f19_L4X0), (.exit 0, f19_L4X1)]
def f19_L4U {α : Type} (n : Nat) (v : f19_L4H.den) (f : f19_L4H.den → Option α) (ks : KS α f19_L4O) : Option α := f19_L4B n v.1.1 v.1.2.1 v.1.2.2.1 (fun s0 s1 s5 => f ((s0, s1, s5, ()), ())) (fun w0 => ks.1 ((w0, ()), ())) (fun _ => ks.2.1 ((), ()))
def f19_L4 {α : Type} (n m : Nat) (s0 s1 : LR) (s5 : Int) (k0 : Bool → Option α) (k1 : Unit → Option α) : Option α := rounds (f19_L4U n) m ((s0, s1, s5, ()), ()) (fun w => k0 w.1.1, fun w => k1 (), ())
theorem f19_L4_0 {α n s0 s1 s5 k0 k1} : f19_L4 (α := α) n 0 s0 s1 s5 k0 k1 = none := rfl
theorem f19_L4_s {α n m s0 s1 s5 k0 k1} : f19_L4 (α := α) n (m + 1) s0 s1 s5 k0 k1 = f19_L4B n s0 s1 s5 (fun s0 s1 s5 => f19_L4 n m s0 s1 s5 k0 k1) k0 k1 := rfl
def f19 (n : Nat) (a0 a1 : LR) : Option Bool :=
 bif ((a0.length : Int) != (a1.length : Int)) then
  some false
 else
  f19_L4 n n a0 a1 0
   (fun z_4 => (
    some z_4))
   (fun (_ : Unit) => (
    some true))
def f19_E (n : Nat) : Ent := ⟨19, [hRs, hRs], [.bool], fun x => f19 n x.1 x.2⟩
def f19_D (α : Type) (n : Nat) : D3 α := { reg := [(6, ⟨8, [], [(8, { ent := some (f24_E n) })]⟩)], join := [], loop := [(4, ⟨f19_L4H, f19_L4O, rounds (f19_L4U n) n⟩)] }
theorem f19_ents (α : Type) (n : Nat) : AllS Try.prog (entsOf (f19_D α n).reg) := ⟨f24_ok n, trivial⟩
theorem f19_L4_d (α : Type) (n : Nat) : D3.OK Try.prog (tyOf Try.prog) ⟨27, []⟩ (f19_D α n) ((bodyOf Try.f19).at [1, 1, 0, 1, 0, 0]) :=
 D3.OK.mk3 (f19_ents α n) (show loopsOf ((bodyOf Try.f19).at [1, 1, 0, 1, 0, 0]) = [] by kernel_rfl) trivial
theorem f19_L4_ok (α : Type) (n : Nat) : LO.Sound (α := α) Try.prog ⟨27, []⟩ ⟨f19_L4H, f19_L4O, rounds (f19_L4U n) n⟩ (.loop ((bodyOf Try.f19).at [1, 1, 0, 1, 0, 0])) :=
 loop_ok (tyOf_ok _) prog_fol (f19_L4U n) (f19_L4_d α n) (by intro v f ks; kernel_rfl) n
theorem f19_d (α : Type) (n : Nat) : D3.OK Try.prog (tyOf Try.prog) ⟨27, []⟩ (f19_D α n) (bodyOf Try.f19) :=
 D3.OK.mk3 (f19_ents α n) (show loopsOf (bodyOf Try.f19) = [(4, (.loop ((bodyOf Try.f19).at [1, 1, 0, 1, 0, 0])))] by kernel_rfl) ⟨look_sound rfl (f19_L4_ok α n), trivial⟩
theorem f19_ok (n : Nat) : (f19_E n).Sound Try.prog :=
 fn_ok (tyOf_ok _) prog_fol (f19_D _ n) (show Try.prog.funcs[19]? = some Try.f19 by kernel_rfl) (by kernel_rfl) (show Try.f19.body = some (bodyOf Try.f19) by kernel_rfl) rfl rfl (Nat.le_of_ble_eq_true rfl) (f19_d _ n) (by intro x; kernel_rfl) 

def f74_L2B {α : Type} (n : Nat) (s0 : LI) (s1 s5 : Int) (f : LI → Int → Int → Option α) (k0 : Int → Option α) : Option α :=
 bif (decide (s5 < (s0.length : Int))) then
  gd (decide (0 ≤ s5) && decide (s5 < (s0.length : Int))) (
   none)
 else
  k0 s1
abbrev f74_L2H : Tm := ⟨[(0, .d hIs), (1, .d hI), (5, .d hI)], [], [], []⟩
abbrev f74_L2X0 : Tm := ⟨[(1, .d hI)], [], [], []⟩
abbrev f74_L2O : List (Exit × Tm) := [(.exit 0, f74_L2X0)]
def f74_L2U {α : Type} (n : Nat) (v : f74_L2H.den) (f : f74_L2H.den → Option α) (ks : KS α f74_L2O) : Option α := f74_L2B n v.1.1 v.1.2.1 v.1.2.2.1 (fun s0 s1 s5 => f ((s0, s1, s5, ()), ())) (fun w0 => ks.1 ((w0, ()), ()))
def f74_L2 {α : Type} (n m : Nat) (s0 : LI) (s1 s5 : Int) (k0 : Int → Option α) : Option α := rounds (f74_L2U n) m ((s0, s1, s5, ()), ()) (fun w => k0 w.1.1, ())
theorem f74_L2_0 {α n s0 s1 s5 k0} : f74_L2 (α := α) n 0 s0 s1 s5 k0 = none := rfl
theorem f74_L2_s {α n m s0 s1 s5 k0} : f74_L2 (α := α) n (m + 1) s0 s1 s5 k0 = f74_L2B n s0 s1 s5 (fun s0 s1 s5 => f74_L2 n m s0 s1 s5 k0) k0 := rfl
def f74 (n : Nat) (a0 : LI) (a1 : Int) : Option Int :=
 f74_L2 n n a0 a1 0
  (fun z_1 => (
   some z_1))
def f74_E (n : Nat) : Ent := ⟨74, [hIs, hI], [hI], fun x => f74 n x.1 x.2⟩
def f74_D (α : Type) (n : Nat) : D3 α := { reg := [], join := [], loop := [(2, ⟨f74_L2H, f74_L2O, rounds (f74_L2U n) n⟩)] }
theorem f74_ents (α : Type) (n : Nat) : AllS Try.prog (entsOf (f74_D α n).reg) := trivial
theorem f74_L2_d (α : Type) (n : Nat) : D3.OK Try.prog (tyOf Try.prog) ⟨19, []⟩ (f74_D α n) ((bodyOf Try.f74).at [1, 0, 1, 0, 0]) :=
 D3.OK.mk3 (f74_ents α n) (show loopsOf ((bodyOf Try.f74).at [1, 0, 1, 0, 0]) = [] by kernel_rfl) trivial
theorem f74_L2_ok (α : Type) (n : Nat) : LO.Sound (α := α) Try.prog ⟨19, []⟩ ⟨f74_L2H, f74_L2O, rounds (f74_L2U n) n⟩ (.loop ((bodyOf Try.f74).at [1, 0, 1, 0, 0])) :=
 loop_ok (tyOf_ok _) prog_fol (f74_L2U n) (f74_L2_d α n) (by intro v f ks; kernel_rfl) n
theorem f74_d (α : Type) (n : Nat) : D3.OK Try.prog (tyOf Try.prog) ⟨19, []⟩ (f74_D α n) (bodyOf Try.f74) :=
 D3.OK.mk3 (f74_ents α n) (show loopsOf (bodyOf Try.f74) = [(2, (.loop ((bodyOf Try.f74).at [1, 0, 1, 0, 0])))] by kernel_rfl) ⟨look_sound rfl (f74_L2_ok α n), trivial⟩
theorem f74_ok (n : Nat) : (f74_E n).Sound Try.prog :=
 fn_ok (tyOf_ok _) prog_fol (f74_D _ n) (show Try.prog.funcs[74]? = some Try.f74 by kernel_rfl) (by kernel_rfl) (show Try.f74.body = some (bodyOf Try.f74) by kernel_rfl) rfl rfl (Nat.le_of_ble_eq_true rfl) (f74_d _ n) (by intro x; kernel_rfl) 

def f74B_L2B {α : Type} (n : Nat) (s1 s5 : Int) (b1000 : LI) (f : Int → Int → LI → Option α) (k0 : Int → LI → Option α) : Option α :=
 bif (decide (s5 < (b1000.length : Int))) then
  gd (decide (0 ≤ s5) && decide (s5 < (b1000.length : Int))) (
   gd (decide (s5.toNat < b1000.length)) (
    f (W (s1 + 1)) (W (s5 + 1)) (b1000.set s5.toNat s1)))
 else
  k0 s1 b1000
abbrev f74B_L2H : Tm := ⟨[(0, .k (.hw 1000)), (1, .d hI), (5, .d hI)], [(1000, .arr 3 hI false)], [], []⟩
abbrev f74B_L2X0 : Tm := ⟨[(1, .d hI)], [(1000, .arr 3 hI false)], [], []⟩
abbrev f74B_L2O : List (Exit × Tm) := [(.exit 0, f74B_L2X0)]
def f74B_L2U {α : Type} (n : Nat) (v : f74B_L2H.den) (f : f74B_L2H.den → Option α) (ks : KS α f74B_L2O) : Option α := f74B_L2B n v.1.2.1 v.1.2.2.1 v.2.1 (fun s1 s5 b1000 => f (((), s1, s5, ()), (b1000, ()))) (fun w0 w1 => ks.1 ((w0, ()), (w1, ())))
def f74B_L2 {α : Type} (n m : Nat) (s1 s5 : Int) (b1000 : LI) (k0 : Int → LI → Option α) : Option α := rounds (f74B_L2U n) m (((), s1, s5, ()), (b1000, ())) (fun w => k0 w.1.1 w.2.1, ())
theorem f74B_L2_0 {α n s1 s5 b1000 k0} : f74B_L2 (α := α) n 0 s1 s5 b1000 k0 = none := rfl
theorem f74B_L2_s {α n m s1 s5 b1000 k0} : f74B_L2 (α := α) n (m + 1) s1 s5 b1000 k0 = f74B_L2B n s1 s5 b1000 (fun s1 s5 b1000 => f74B_L2 n m s1 s5 b1000 k0) k0 := rfl
def f74B (n : Nat) (a0 : LI) (a1 : Int) : Option (Int × LI) :=
 f74B_L2 n n a1 0 a0
  (fun z_1 z_2 => (
   some (z_1, z_2)))
def f74B_E (n : Nat) : Ent3 := ⟨74, [.one (.own 3 hI), .im hI], [[.im hI]], fun x => f74B n x.1 x.2⟩
def f74B_D (α : Type) (n : Nat) : D3 α := { reg := [], join := [], loop := [(2, ⟨f74B_L2H, f74B_L2O, rounds (f74B_L2U n) n⟩)] }
theorem f74B_ents (α : Type) (n : Nat) : AllS Try.prog (entsOf (f74B_D α n).reg) := trivial
theorem f74B_L2_d (α : Type) (n : Nat) : D3.OK Try.prog (tyOf Try.prog) ⟨19, []⟩ (f74B_D α n) ((bodyOf Try.f74).at [1, 0, 1, 0, 0]) :=
 D3.OK.mk3 (f74B_ents α n) (show loopsOf ((bodyOf Try.f74).at [1, 0, 1, 0, 0]) = [] by kernel_rfl) trivial
theorem f74B_L2_ok (α : Type) (n : Nat) : LO.Sound (α := α) Try.prog ⟨19, []⟩ ⟨f74B_L2H, f74B_L2O, rounds (f74B_L2U n) n⟩ (.loop ((bodyOf Try.f74).at [1, 0, 1, 0, 0])) :=
 loop_ok (tyOf_ok _) prog_fol (f74B_L2U n) (f74B_L2_d α n) (by intro v f ks; kernel_rfl) n
theorem f74B_d (α : Type) (n : Nat) : D3.OK Try.prog (tyOf Try.prog) ⟨19, []⟩ (f74B_D α n) (bodyOf Try.f74) :=
 D3.OK.mk3 (f74B_ents α n) (show loopsOf (bodyOf Try.f74) = [(2, (.loop ((bodyOf Try.f74).at [1, 0, 1, 0, 0])))] by kernel_rfl) ⟨look_sound rfl (f74B_L2_ok α n), trivial⟩
theorem f74B_ok (n : Nat) : (f74B_E n).Sound Try.prog :=
 fn_okB (tyOf_ok _) prog_fol (f74B_D _ n) (show Try.prog.funcs[74]? = some Try.f74 by kernel_rfl) (by kernel_rfl) (show Try.f74.body = some (bodyOf Try.f74) by kernel_rfl) rfl rfl (Nat.le_of_ble_eq_true rfl) (f74B_d _ n) (by intro x; kernel_rfl) 

def f34B_L2B {α : Type} (n : Nat) (s1 s5 : Int) (b1000 : LR) (f : Int → Int → LR → Option α) (k0 : Int → LR → Option α) : Option α :=
 bif (decide (s5 < (b1000.length : Int))) then
  gd (decide (0 ≤ s5) && decide (s5 < (b1000.length : Int))) (
   gd (decide (s5.toNat < b1000.length)) (
    let x_1 := b1000.set s5.toNat (((Int.tmod s1 3) == 0), ((b1000.getD s5.toNat (false, [], [])).2))
    gd (decide (0 ≤ s5) && decide (s5 < (x_1.length : Int))) (
     gd (decide (s5.toNat < x_1.length)) (
      let x_2 := x_1.getD s5.toNat (false, [], [])
      bif x_2.2.1.isEmpty then
       ob (f74 n [] (W (s1 + 1))) fun r_3 =>
       gd (decide (0 ≤ s5) && decide (s5 < (x_1.length : Int))) (
        gd (decide (s5.toNat < x_1.length)) (
         let x_4 := x_1.getD s5.toNat (false, [], [])
         bif x_4.2.2.isEmpty then
          ob (f74 n [] r_3) fun r_5 =>
          f r_5 (W (s5 + 1)) x_1
         else
          ob (f74B n x_4.2.2 r_3) fun r_6 =>
          gd (Nat.beq r_6.2.length x_4.2.2.length && true) (
           gd (decide (s5.toNat < x_1.length)) (
            let x_7 := x_1.set s5.toNat ((x_1.getD s5.toNat (false, [], [])).1, ((x_1.getD s5.toNat (false, [], [])).2).1, r_6.2)
            f r_6.1 (W (s5 + 1)) x_7))))
      else
       ob (f74B n x_2.2.1 (W (s1 + 1))) fun r_8 =>
       gd (Nat.beq r_8.2.length x_2.2.1.length && true) (
        gd (decide (s5.toNat < x_1.length)) (
         let x_9 := x_1.set s5.toNat ((x_1.getD s5.toNat (false, [], [])).1, r_8.2, ((x_1.getD s5.toNat (false, [], [])).2).2)
         gd (decide (0 ≤ s5) && decide (s5 < (x_9.length : Int))) (
          gd (decide (s5.toNat < x_9.length)) (
           let x_10 := x_9.getD s5.toNat (false, [], [])
           bif x_10.2.2.isEmpty then
            ob (f74 n [] r_8.1) fun r_11 =>
            f r_11 (W (s5 + 1)) x_9
           else
            ob (f74B n x_10.2.2 r_8.1) fun r_12 =>
            gd (Nat.beq r_12.2.length x_10.2.2.length && true) (
             gd (decide (s5.toNat < x_9.length)) (
              let x_13 := x_9.set s5.toNat ((x_9.getD s5.toNat (false, [], [])).1, ((x_9.getD s5.toNat (false, [], [])).2).1, r_12.2)
              f r_12.1 (W (s5 + 1)) x_13))))))))))
 else
  k0 s1 b1000
abbrev f34B_L2H : Tm := ⟨[(0, .k (.hw 1000)), (1, .d hI), (5, .d hI)], [(1000, .tree 33 hR false)], [], []⟩
abbrev f34B_L2X0 : Tm := ⟨[(1, .d hI)], [(1000, .tree 33 hR false)], [], []⟩
abbrev f34B_L2O : List (Exit × Tm) := [(.exit 0, f34B_L2X0)]
def f34B_L2U {α : Type} (n : Nat) (v : f34B_L2H.den) (f : f34B_L2H.den → Option α) (ks : KS α f34B_L2O) : Option α := f34B_L2B n v.1.2.1 v.1.2.2.1 v.2.1 (fun s1 s5 b1000 => f (((), s1, s5, ()), (b1000, ()))) (fun w0 w1 => ks.1 ((w0, ()), (w1, ())))
def f34B_L2 {α : Type} (n m : Nat) (s1 s5 : Int) (b1000 : LR) (k0 : Int → LR → Option α) : Option α := rounds (f34B_L2U n) m (((), s1, s5, ()), (b1000, ())) (fun w => k0 w.1.1 w.2.1, ())
theorem f34B_L2_0 {α n s1 s5 b1000 k0} : f34B_L2 (α := α) n 0 s1 s5 b1000 k0 = none := rfl
theorem f34B_L2_s {α n m s1 s5 b1000 k0} : f34B_L2 (α := α) n (m + 1) s1 s5 b1000 k0 = f34B_L2B n s1 s5 b1000 (fun s1 s5 b1000 => f34B_L2 n m s1 s5 b1000 k0) k0 := rfl
def f34B (n : Nat) (a0 : LR) (a1 : Int) : Option (Int × LR) :=
 f34B_L2 n n a1 0 a0
  (fun z_14 z_15 => (
   some (z_14, z_15)))
def f34B_E (n : Nat) : Ent3 := ⟨34, [.one (.tree 33 hR), .im hI], [[.im hI]], fun x => f34B n x.1 x.2⟩
def f34B_D (α : Type) (n : Nat) : D3 α := { reg := [(6, ⟨0, [], [(4, { bor := some 2000 }), (6, { ent := some (f74_E n), alt := [(f74B_E n)], hb := 320, shut := some 2000 })]⟩), (7, ⟨0, [], [(4, { bor := some 2001 }), (6, { ent := some (f74_E n), alt := [(f74B_E n)], hb := 310, shut := some 2001 })]⟩)], join := [], loop := [(2, ⟨f34B_L2H, f34B_L2O, rounds (f34B_L2U n) n⟩)] }
theorem f34B_ents (α : Type) (n : Nat) : AllS Try.prog (entsOf (f34B_D α n).reg) := ⟨f74B_ok n, f74_ok n, f74B_ok n, f74_ok n, trivial⟩
theorem f34B_L2_d (α : Type) (n : Nat) : D3.OK Try.prog (tyOf Try.prog) ⟨36, []⟩ (f34B_D α n) ((bodyOf Try.f34).at [1, 0, 1, 0, 0]) :=
 D3.OK.mk3 (f34B_ents α n) (show loopsOf ((bodyOf Try.f34).at [1, 0, 1, 0, 0]) = [] by kernel_rfl) trivial
theorem f34B_L2_ok (α : Type) (n : Nat) : LO.Sound (α := α) Try.prog ⟨36, []⟩ ⟨f34B_L2H, f34B_L2O, rounds (f34B_L2U n) n⟩ (.loop ((bodyOf Try.f34).at [1, 0, 1, 0, 0])) :=
 loop_ok (tyOf_ok _) prog_fol (f34B_L2U n) (f34B_L2_d α n) (by intro v f ks; kernel_rfl) n
theorem f34B_d (α : Type) (n : Nat) : D3.OK Try.prog (tyOf Try.prog) ⟨36, []⟩ (f34B_D α n) (bodyOf Try.f34) :=
 D3.OK.mk3 (f34B_ents α n) (show loopsOf (bodyOf Try.f34) = [(2, (.loop ((bodyOf Try.f34).at [1, 0, 1, 0, 0])))] by kernel_rfl) ⟨look_sound rfl (f34B_L2_ok α n), trivial⟩
theorem f34B_ok (n : Nat) : (f34B_E n).Sound Try.prog :=
 fn_okB (tyOf_ok _) prog_fol (f34B_D _ n) (show Try.prog.funcs[34]? = some Try.f34 by kernel_rfl) (by kernel_rfl) (show Try.f34.body = some (bodyOf Try.f34) by kernel_rfl) rfl rfl (Nat.le_of_ble_eq_true rfl) (f34B_d _ n) (by intro x; kernel_rfl) 

def f75_L2B {α : Type} (n : Nat) (s0 : LI) (s1 s5 : Int) (f : LI → Int → Int → Option α) (k0 k1 : Int → Option α) : Option α :=
 bif (decide (s5 < (s0.length : Int))) then
  gd (decide (0 ≤ s5) && decide (s5 < (s0.length : Int))) (
   bif ((s0.getD s5.toNat 0) != s1) then
    k0 (-1)
   else
    f s0 (W (s1 + 1)) (W (s5 + 1)))
 else
  k1 s1
abbrev f75_L2H : Tm := ⟨[(0, .d hIs), (1, .d hI), (5, .d hI)], [], [], []⟩
abbrev f75_L2X0 : Tm := ⟨[(4, .d hI)], [], [], []⟩
abbrev f75_L2X1 : Tm := ⟨[(1, .d hI)], [], [], []⟩
abbrev f75_L2O : List (Exit × Tm) := [(.ret, f75_L2X0), (.exit 0, f75_L2X1)]
def f75_L2U {α : Type} (n : Nat) (v : f75_L2H.den) (f : f75_L2H.den → Option α) (ks : KS α f75_L2O) : Option α := f75_L2B n v.1.1 v.1.2.1 v.1.2.2.1 (fun s0 s1 s5 => f ((s0, s1, s5, ()), ())) (fun w0 => ks.1 ((w0, ()), ())) (fun w0 => ks.2.1 ((w0, ()), ()))
def f75_L2 {α : Type} (n m : Nat) (s0 : LI) (s1 s5 : Int) (k0 k1 : Int → Option α) : Option α := rounds (f75_L2U n) m ((s0, s1, s5, ()), ()) (fun w => k0 w.1.1, fun w => k1 w.1.1, ())
theorem f75_L2_0 {α n s0 s1 s5 k0 k1} : f75_L2 (α := α) n 0 s0 s1 s5 k0 k1 = none := rfl
theorem f75_L2_s {α n m s0 s1 s5 k0 k1} : f75_L2 (α := α) n (m + 1) s0 s1 s5 k0 k1 = f75_L2B n s0 s1 s5 (fun s0 s1 s5 => f75_L2 n m s0 s1 s5 k0 k1) k0 k1 := rfl
def f75 (n : Nat) (a0 : LI) (a1 : Int) : Option Int :=
 f75_L2 n n a0 a1 0
  (fun z_1 => (
   some z_1))
  (fun z_2 => (
   some z_2))
def f75_E (n : Nat) : Ent := ⟨75, [hIs, hI], [hI], fun x => f75 n x.1 x.2⟩
def f75_D (α : Type) (n : Nat) : D3 α := { reg := [], join := [], loop := [(2, ⟨f75_L2H, f75_L2O, rounds (f75_L2U n) n⟩)] }
theorem f75_ents (α : Type) (n : Nat) : AllS Try.prog (entsOf (f75_D α n).reg) := trivial
theorem f75_L2_d (α : Type) (n : Nat) : D3.OK Try.prog (tyOf Try.prog) ⟨21, []⟩ (f75_D α n) ((bodyOf Try.f75).at [1, 0, 1, 0, 0]) :=
 D3.OK.mk3 (f75_ents α n) (show loopsOf ((bodyOf Try.f75).at [1, 0, 1, 0, 0]) = [] by kernel_rfl) trivial
theorem f75_L2_ok (α : Type) (n : Nat) : LO.Sound (α := α) Try.prog ⟨21, []⟩ ⟨f75_L2H, f75_L2O, rounds (f75_L2U n) n⟩ (.loop ((bodyOf Try.f75).at [1, 0, 1, 0, 0])) :=
 loop_ok (tyOf_ok _) prog_fol (f75_L2U n) (f75_L2_d α n) (by intro v f ks; kernel_rfl) n
theorem f75_d (α : Type) (n : Nat) : D3.OK Try.prog (tyOf Try.prog) ⟨21, []⟩ (f75_D α n) (bodyOf Try.f75) :=
 D3.OK.mk3 (f75_ents α n) (show loopsOf (bodyOf Try.f75) = [(2, (.loop ((bodyOf Try.f75).at [1, 0, 1, 0, 0])))] by kernel_rfl) ⟨look_sound rfl (f75_L2_ok α n), trivial⟩
theorem f75_ok (n : Nat) : (f75_E n).Sound Try.prog :=
 fn_ok (tyOf_ok _) prog_fol (f75_D _ n) (show Try.prog.funcs[75]? = some Try.f75 by kernel_rfl) (by kernel_rfl) (show Try.f75.body = some (bodyOf Try.f75) by kernel_rfl) rfl rfl (Nat.le_of_ble_eq_true rfl) (f75_d _ n) (by intro x; kernel_rfl) 

def f35_L2B {α : Type} (n : Nat) (s0 : LR) (s1 s5 : Int) (f : LR → Int → Int → Option α) (k0 k1 : Int → Option α) : Option α :=
 bif (decide (s5 < (s0.length : Int))) then
  gd (decide (0 ≤ s5) && decide (s5 < (s0.length : Int))) (
   let x_1 := s0.getD s5.toNat (false, [], [])
   bif (!(x_1.1 == ((Int.tmod s1 3) == 0))) then
    k0 (-1)
   else
    gd (decide (0 ≤ s5) && decide (s5 < (s0.length : Int))) (
     let x_2 := s0.getD s5.toNat (false, [], [])
     ob (f75 n x_2.2.1 (W (s1 + 1))) fun r_3 =>
     bif (decide (r_3 < 0)) then
      k0 (-1)
     else
      gd (decide (0 ≤ s5) && decide (s5 < (s0.length : Int))) (
       let x_4 := s0.getD s5.toNat (false, [], [])
       ob (f75 n x_4.2.2 r_3) fun r_5 =>
       bif (decide (r_5 < 0)) then
        k0 (-1)
       else
        f s0 r_5 (W (s5 + 1)))))
 else
  k1 s1
abbrev f35_L2H : Tm := ⟨[(0, .d hRs), (1, .d hI), (5, .d hI)], [], [], []⟩
abbrev f35_L2X0 : Tm := ⟨[(4, .d hI)], [], [], []⟩
abbrev f35_L2X1 : Tm := ⟨[(1, .d hI)], [], [], []⟩
abbrev f35_L2O : List (Exit × Tm) := [(.ret, f35_L2X0), (.exit 0, f35_L2X1)]
def f35_L2U {α : Type} (n : Nat) (v : f35_L2H.den) (f : f35_L2H.den → Option α) (ks : KS α f35_L2O) : Option α := f35_L2B n v.1.1 v.1.2.1 v.1.2.2.1 (fun s0 s1 s5 => f ((s0, s1, s5, ()), ())) (fun w0 => ks.1 ((w0, ()), ())) (fun w0 => ks.2.1 ((w0, ()), ()))
def f35_L2 {α : Type} (n m : Nat) (s0 : LR) (s1 s5 : Int) (k0 k1 : Int → Option α) : Option α := rounds (f35_L2U n) m ((s0, s1, s5, ()), ()) (fun w => k0 w.1.1, fun w => k1 w.1.1, ())
theorem f35_L2_0 {α n s0 s1 s5 k0 k1} : f35_L2 (α := α) n 0 s0 s1 s5 k0 k1 = none := rfl
theorem f35_L2_s {α n m s0 s1 s5 k0 k1} : f35_L2 (α := α) n (m + 1) s0 s1 s5 k0 k1 = f35_L2B n s0 s1 s5 (fun s0 s1 s5 => f35_L2 n m s0 s1 s5 k0 k1) k0 k1 := rfl
def f35 (n : Nat) (a0 : LR) (a1 : Int) : Option Int :=
 f35_L2 n n a0 a1 0
  (fun z_6 => (
   some z_6))
  (fun z_7 => (
   some z_7))
def f35_E (n : Nat) : Ent := ⟨35, [hRs, hI], [hI], fun x => f35 n x.1 x.2⟩
def f35_D (α : Type) (n : Nat) : D3 α := { reg := [(7, ⟨0, [], [(6, { ent := some (f75_E n) })]⟩), (10, ⟨0, [], [(6, { ent := some (f75_E n) })]⟩)], join := [], loop := [(2, ⟨f35_L2H, f35_L2O, rounds (f35_L2U n) n⟩)] }
theorem f35_ents (α : Type) (n : Nat) : AllS Try.prog (entsOf (f35_D α n).reg) := ⟨f75_ok n, f75_ok n, trivial⟩
theorem f35_L2_d (α : Type) (n : Nat) : D3.OK Try.prog (tyOf Try.prog) ⟨42, []⟩ (f35_D α n) ((bodyOf Try.f35).at [1, 0, 1, 0, 0]) :=
 D3.OK.mk3 (f35_ents α n) (show loopsOf ((bodyOf Try.f35).at [1, 0, 1, 0, 0]) = [] by kernel_rfl) trivial
theorem f35_L2_ok (α : Type) (n : Nat) : LO.Sound (α := α) Try.prog ⟨42, []⟩ ⟨f35_L2H, f35_L2O, rounds (f35_L2U n) n⟩ (.loop ((bodyOf Try.f35).at [1, 0, 1, 0, 0])) :=
 loop_ok (tyOf_ok _) prog_fol (f35_L2U n) (f35_L2_d α n) (by intro v f ks; kernel_rfl) n
theorem f35_d (α : Type) (n : Nat) : D3.OK Try.prog (tyOf Try.prog) ⟨42, []⟩ (f35_D α n) (bodyOf Try.f35) :=
 D3.OK.mk3 (f35_ents α n) (show loopsOf (bodyOf Try.f35) = [(2, (.loop ((bodyOf Try.f35).at [1, 0, 1, 0, 0])))] by kernel_rfl) ⟨look_sound rfl (f35_L2_ok α n), trivial⟩
theorem f35_ok (n : Nat) : (f35_E n).Sound Try.prog :=
 fn_ok (tyOf_ok _) prog_fol (f35_D _ n) (show Try.prog.funcs[35]? = some Try.f35 by kernel_rfl) (by kernel_rfl) (show Try.f35.body = some (bodyOf Try.f35) by kernel_rfl) rfl rfl (Nat.le_of_ble_eq_true rfl) (f35_d _ n) (by intro x; kernel_rfl) 

def f97c102_L3B {α : Type} (n : Nat) (s1 : Int × LR × LR) (s8 s9 : Int) (b7 : LR) (f : (Int × LR × LR) → Int → Int → LR → Option α) (k0 : LR → Option α) : Option α :=
 bif (decide (s9 < s8)) then
  ob (f102 n s9 s1.1 s1.2.1 s1.2.2) fun r_1 =>
  ob (f72 n r_1) fun r_2 =>
  gd (decide ((b7.length + 1) * 56 ≤ 140737488355328)) (
   f s1 s8 (W (s9 + 1)) (b7 ++ [r_2]))
 else
  k0 b7
abbrev f97c102_L3H : Tm := ⟨[(1, .d (.clo 102 (.pair (.ref hI) (.pair (.ref hRs) (.ref hRs))))), (5, .k (.hw 7)), (8, .d hI), (9, .d hI)], [(7, .arr 33 hR false)], [17], []⟩
abbrev f97c102_L3X0 : Tm := ⟨[(5, .k (.hw 7))], [(7, .arr 33 hR false)], [], []⟩
abbrev f97c102_L3O : List (Exit × Tm) := [(.exit 0, f97c102_L3X0)]
def f97c102_L3U {α : Type} (n : Nat) (v : f97c102_L3H.den) (f : f97c102_L3H.den → Option α) (ks : KS α f97c102_L3O) : Option α := f97c102_L3B n v.1.1 v.1.2.2.1 v.1.2.2.2.1 v.2.1 (fun s1 s8 s9 b7 => f ((s1, (), s8, s9, ()), (b7, ()))) (fun w0 => ks.1 (((), ()), (w0, ())))
def f97c102_L3 {α : Type} (n m : Nat) (s1 : Int × LR × LR) (s8 s9 : Int) (b7 : LR) (k0 : LR → Option α) : Option α := rounds (f97c102_L3U n) m ((s1, (), s8, s9, ()), (b7, ())) (fun w => k0 w.2.1, ())
theorem f97c102_L3_0 {α n s1 s8 s9 b7 k0} : f97c102_L3 (α := α) n 0 s1 s8 s9 b7 k0 = none := rfl
theorem f97c102_L3_s {α n m s1 s8 s9 b7 k0} : f97c102_L3 (α := α) n (m + 1) s1 s8 s9 b7 k0 = f97c102_L3B n s1 s8 s9 b7 (fun s1 s8 s9 b7 => f97c102_L3 n m s1 s8 s9 b7 k0) k0 := rfl
def f97c102 (n : Nat) (a0 : Int) (a1 : Int × LR × LR) : Option LR :=
 f97c102_L3 n n a1 a0 0 []
  (fun z_3 => (
   some z_3))
def f97c102_E (n : Nat) : Ent := ⟨97, [hI, (.clo 102 (.pair (.ref hI) (.pair (.ref hRs) (.ref hRs))))], [hRs], fun x => f97c102 n x.1 x.2⟩
def f97c102_D (α : Type) (n : Nat) : D3 α := { reg := [(1, ⟨0, [], [(0, { sh := some hR })]⟩), (5, ⟨0, [], [(3, { ent := some (f102_E n) }), (4, { ent := some (f72_E n) }), (5, { sh := some hR })]⟩)], join := [], loop := [(3, ⟨f97c102_L3H, f97c102_L3O, rounds (f97c102_L3U n) n⟩)] }
theorem f97c102_ents (α : Type) (n : Nat) : AllS Try.prog (entsOf (f97c102_D α n).reg) := ⟨f102_ok n, f72_ok n, trivial⟩
theorem f97c102_L3_d (α : Type) (n : Nat) : D3.OK Try.prog (tyOf Try.prog) ⟨21, []⟩ (f97c102_D α n) ((bodyOf Try.f97).at [1, 1, 0, 1, 0, 0]) :=
 D3.OK.mk3 (f97c102_ents α n) (show loopsOf ((bodyOf Try.f97).at [1, 1, 0, 1, 0, 0]) = [] by kernel_rfl) trivial
theorem f97c102_L3_ok (α : Type) (n : Nat) : LO.Sound (α := α) Try.prog ⟨21, []⟩ ⟨f97c102_L3H, f97c102_L3O, rounds (f97c102_L3U n) n⟩ (.loop ((bodyOf Try.f97).at [1, 1, 0, 1, 0, 0])) :=
 loop_ok (tyOf_ok _) prog_fol (f97c102_L3U n) (f97c102_L3_d α n) (by intro v f ks; kernel_rfl) n
theorem f97c102_d (α : Type) (n : Nat) : D3.OK Try.prog (tyOf Try.prog) ⟨21, []⟩ (f97c102_D α n) (bodyOf Try.f97) :=
 D3.OK.mk3 (f97c102_ents α n) (show loopsOf (bodyOf Try.f97) = [(3, (.loop ((bodyOf Try.f97).at [1, 1, 0, 1, 0, 0])))] by kernel_rfl) ⟨look_sound rfl (f97c102_L3_ok α n), trivial⟩
theorem f97c102_ok (n : Nat) : (f97c102_E n).Sound Try.prog :=
 fn_ok (tyOf_ok _) prog_fol (f97c102_D _ n) (show Try.prog.funcs[97]? = some Try.f97 by kernel_rfl) (by kernel_rfl) (show Try.f97.body = some (bodyOf Try.f97) by kernel_rfl) rfl rfl (Nat.le_of_ble_eq_true rfl) (f97c102_d _ n) (by intro x; kernel_rfl) 

def f96 (n : Nat) (a0 : LR) : Option (LR × Int) :=
 ob (f130c155 n a0 ()) fun r_1 =>
 bif r_1 then
  some ([], 7)
 else
  some (a0, 0)
def f96_E (n : Nat) : Ent := ⟨96, [hRs], [hRs, hI], fun x => f96 n x⟩
def f96_D (α : Type) (n : Nat) : D3 α := { reg := [(1, ⟨0, [], [(1, { ent := some (f130c155_E n) })]⟩)], join := [], loop := [] }
theorem f96_ents (α : Type) (n : Nat) : AllS Try.prog (entsOf (f96_D α n).reg) := ⟨f130c155_ok n, trivial⟩
theorem f96_d (α : Type) (n : Nat) : D3.OK Try.prog (tyOf Try.prog) ⟨7, []⟩ (f96_D α n) (bodyOf Try.f96) :=
 D3.OK.mk3 (f96_ents α n) (show loopsOf (bodyOf Try.f96) = [] by kernel_rfl) trivial
theorem f96_ok (n : Nat) : (f96_E n).Sound Try.prog :=
 fn_ok (tyOf_ok _) prog_fol (f96_D _ n) (show Try.prog.funcs[96]? = some Try.f96 by kernel_rfl) (by kernel_rfl) (show Try.f96.body = some (bodyOf Try.f96) by kernel_rfl) rfl rfl (Nat.le_of_ble_eq_true rfl) (f96_d _ n) (by intro x; kernel_rfl) 

def f48 (n : Nat) (a0 a1 : LR) (a2 : Int) : Option (LR × Int) :=
 ob (f81 n a2 [a0, a1]) fun r_1 =>
 bif (r_1 != 0) then
  some ([], r_1)
 else
  ob (f82 n a1 a2) fun r_2 =>
  ob (f97c102 n (W (a2 * a2)) (a2, a0, r_2)) fun r_3 =>
  ob (f96 n r_3) fun r_4 =>
  some (r_4.1, r_4.2)
def f48_E (n : Nat) : Ent := ⟨48, [hRs, hRs, hI], [hRs, hI], fun x => f48 n x.1 x.2.1 x.2.2⟩
def f48_D (α : Type) (n : Nat) : D3 α := { reg := [(1, ⟨0, [], [(3, { sh := some hRs }), (4, { ent := some (f81_E n) })]⟩), (4, ⟨0, [], [(2, { ent := some (f82_E n) })]⟩), (5, ⟨0, [], [(3, { sh := some (.pair (.ref hI) (.pair (.ref hRs) (.ref hRs))) }), (4, { ent := some (f97c102_E n) }), (5, { ent := some (f96_E n) })]⟩)], join := [], loop := [] }
theorem f48_ents (α : Type) (n : Nat) : AllS Try.prog (entsOf (f48_D α n).reg) := ⟨f81_ok n, f82_ok n, f97c102_ok n, f96_ok n, trivial⟩
theorem f48_d (α : Type) (n : Nat) : D3.OK Try.prog (tyOf Try.prog) ⟨29, []⟩ (f48_D α n) (bodyOf Try.f48) :=
 D3.OK.mk3 (f48_ents α n) (show loopsOf (bodyOf Try.f48) = [] by kernel_rfl) trivial
theorem f48_ok (n : Nat) : (f48_E n).Sound Try.prog :=
 fn_ok (tyOf_ok _) prog_fol (f48_D _ n) (show Try.prog.funcs[48]? = some Try.f48 by kernel_rfl) (by kernel_rfl) (show Try.f48.body = some (bodyOf Try.f48) by kernel_rfl) rfl rfl (Nat.le_of_ble_eq_true rfl) (f48_d _ n) (by intro x; kernel_rfl) 

def f34_L2B {α : Type} (n : Nat) (s0 : LR) (s1 s5 : Int) (f : LR → Int → Int → Option α) (k0 : Int → Option α) : Option α :=
 bif (decide (s5 < (s0.length : Int))) then
  gd (decide (0 ≤ s5) && decide (s5 < (s0.length : Int))) (
   none)
 else
  k0 s1
abbrev f34_L2H : Tm := ⟨[(0, .d hRs), (1, .d hI), (5, .d hI)], [], [], []⟩
abbrev f34_L2X0 : Tm := ⟨[(1, .d hI)], [], [], []⟩
abbrev f34_L2O : List (Exit × Tm) := [(.exit 0, f34_L2X0)]
def f34_L2U {α : Type} (n : Nat) (v : f34_L2H.den) (f : f34_L2H.den → Option α) (ks : KS α f34_L2O) : Option α := f34_L2B n v.1.1 v.1.2.1 v.1.2.2.1 (fun s0 s1 s5 => f ((s0, s1, s5, ()), ())) (fun w0 => ks.1 ((w0, ()), ()))
def f34_L2 {α : Type} (n m : Nat) (s0 : LR) (s1 s5 : Int) (k0 : Int → Option α) : Option α := rounds (f34_L2U n) m ((s0, s1, s5, ()), ()) (fun w => k0 w.1.1, ())
theorem f34_L2_0 {α n s0 s1 s5 k0} : f34_L2 (α := α) n 0 s0 s1 s5 k0 = none := rfl
theorem f34_L2_s {α n m s0 s1 s5 k0} : f34_L2 (α := α) n (m + 1) s0 s1 s5 k0 = f34_L2B n s0 s1 s5 (fun s0 s1 s5 => f34_L2 n m s0 s1 s5 k0) k0 := rfl
def f34 (n : Nat) (a0 : LR) (a1 : Int) : Option Int :=
 f34_L2 n n a0 a1 0
  (fun z_2 => (
   some z_2))
def f34_E (n : Nat) : Ent := ⟨34, [hRs, hI], [hI], fun x => f34 n x.1 x.2⟩
def f34_D (α : Type) (n : Nat) : D3 α := { reg := [], join := [], loop := [(2, ⟨f34_L2H, f34_L2O, rounds (f34_L2U n) n⟩)] }
theorem f34_ents (α : Type) (n : Nat) : AllS Try.prog (entsOf (f34_D α n).reg) := trivial
theorem f34_L2_d (α : Type) (n : Nat) : D3.OK Try.prog (tyOf Try.prog) ⟨36, []⟩ (f34_D α n) ((bodyOf Try.f34).at [1, 0, 1, 0, 0]) :=
 D3.OK.mk3 (f34_ents α n) (show loopsOf ((bodyOf Try.f34).at [1, 0, 1, 0, 0]) = [] by kernel_rfl) trivial
theorem f34_L2_ok (α : Type) (n : Nat) : LO.Sound (α := α) Try.prog ⟨36, []⟩ ⟨f34_L2H, f34_L2O, rounds (f34_L2U n) n⟩ (.loop ((bodyOf Try.f34).at [1, 0, 1, 0, 0])) :=
 loop_ok (tyOf_ok _) prog_fol (f34_L2U n) (f34_L2_d α n) (by intro v f ks; kernel_rfl) n
theorem f34_d (α : Type) (n : Nat) : D3.OK Try.prog (tyOf Try.prog) ⟨36, []⟩ (f34_D α n) (bodyOf Try.f34) :=
 D3.OK.mk3 (f34_ents α n) (show loopsOf (bodyOf Try.f34) = [(2, (.loop ((bodyOf Try.f34).at [1, 0, 1, 0, 0])))] by kernel_rfl) ⟨look_sound rfl (f34_L2_ok α n), trivial⟩
theorem f34_ok (n : Nat) : (f34_E n).Sound Try.prog :=
 fn_ok (tyOf_ok _) prog_fol (f34_D _ n) (show Try.prog.funcs[34]? = some Try.f34 by kernel_rfl) (by kernel_rfl) (show Try.f34.body = some (bodyOf Try.f34) by kernel_rfl) rfl rfl (Nat.le_of_ble_eq_true rfl) (f34_d _ n) (by intro x; kernel_rfl) 

def f10 (n : Nat) (a0 a1 : LR) (a2 : Int) : Option Bool :=
 ob (f15 n a0 1048576) fun r_1 =>
 bif (decide (r_1 < 0)) then
  some true
 else
  ob (f15 n a1 r_1) fun r_2 =>
  bif (decide (r_2 < 0)) then
   some true
  else
   ob (f17 n a0) fun r_3 =>
   ob (f17 n a1) fun r_4 =>
   ob (f47 n r_3 r_4 a2) fun r_5 =>
   ob (f17B n a0) fun r_6 =>
   ob (f17B n a1) fun r_7 =>
   ob (f48B n r_6 r_7 a2) fun r_8 =>
   caseS r_8 (fun r_9 =>
    ob (f19 n r_9.1 r_5.1) fun r_11 =>
    bif (!r_11) then
     some false
    else
     bif (r_9.2 != r_5.2) then
      some false
     else
      ob (f17 n a0) fun r_12 =>
      ob (f19 n r_6 r_12) fun r_13 =>
      bif (!r_13) then
       some false
      else
       ob (f17 n a1) fun r_14 =>
       ob (f19 n r_7 r_14) fun r_15 =>
       bif (!r_15) then
        some false
       else
        ob (f34B n r_6 1) fun r_16 =>
        gd (Nat.beq r_16.2.length r_6.length && true) (
         ob (f34B n r_7 r_16.1) fun r_17 =>
         gd (Nat.beq r_17.2.length r_7.length && true) (
          bif (decide (r_17.1 < 0)) then
           some false
          else
           ob (f19 n r_9.1 r_5.1) fun r_18 =>
           bif (!r_18) then
            some false
           else
            bif (r_9.2 != r_5.2) then
             some false
            else
             ob (f34B n r_9.1 1) fun r_19 =>
             gd (Nat.beq r_19.2.length r_9.1.length && true) (
              ob (f35 n r_19.2 1) fun r_20 =>
              bif (decide (r_20 < 0)) then
               some false
              else
               bif (r_20 != r_19.1) then
                some false
               else
                ob (f17 n a0) fun r_21 =>
                ob (f17 n a1) fun r_22 =>
                ob (f48 n r_21 r_22 a2) fun r_23 =>
                ob (f19 n r_23.1 r_5.1) fun r_24 =>
                bif (!r_24) then
                 some false
                else
                 bif (r_23.2 != r_5.2) then
                  some false
                 else
                  ob (f35 n r_19.2 1) fun r_25 =>
                  bif (decide (r_25 < 0)) then
                   some false
                  else
                   bif (r_25 != r_19.1) then
                    some false
                   else
                    some true)))) (fun r_10 =>
    ob (f19 n [] r_5.1) fun r_26 =>
    bif (!r_26) then
     some false
    else
     bif (r_10.2 != r_5.2) then
      some false
     else
      ob (f17 n a0) fun r_27 =>
      ob (f19 n r_6 r_27) fun r_28 =>
      bif (!r_28) then
       some false
      else
       ob (f17 n a1) fun r_29 =>
       ob (f19 n r_7 r_29) fun r_30 =>
       bif (!r_30) then
        some false
       else
        ob (f34B n r_6 1) fun r_31 =>
        gd (Nat.beq r_31.2.length r_6.length && true) (
         ob (f34B n r_7 r_31.1) fun r_32 =>
         gd (Nat.beq r_32.2.length r_7.length && true) (
          bif (decide (r_32.1 < 0)) then
           some false
          else
           ob (f19 n [] r_5.1) fun r_33 =>
           bif (!r_33) then
            some false
           else
            bif (r_10.2 != r_5.2) then
             some false
            else
             ob (f34 n [] 1) fun r_34 =>
             ob (f35 n [] 1) fun r_35 =>
             bif (decide (r_35 < 0)) then
              some false
             else
              bif (r_35 != r_34) then
               some false
              else
               ob (f17 n a0) fun r_36 =>
               ob (f17 n a1) fun r_37 =>
               ob (f48 n r_36 r_37 a2) fun r_38 =>
               ob (f19 n r_38.1 r_5.1) fun r_39 =>
               bif (!r_39) then
                some false
               else
                bif (r_38.2 != r_5.2) then
                 some false
                else
                 ob (f35 n [] 1) fun r_40 =>
                 bif (decide (r_40 < 0)) then
                  some false
                 else
                  bif (r_40 != r_34) then
                   some false
                  else
                   some true)))
def f10_E (n : Nat) : Ent := ⟨10, [hRs, hRs, hI], [.bool], fun x => f10 n x.1 x.2.1 x.2.2⟩
def f10_D (α : Type) (n : Nat) : D3 α := { reg := [(2, ⟨0, [], [(2, { ent := some (f15_E n) })]⟩), (5, ⟨0, [], [(2, { ent := some (f15_E n) })]⟩), (8, ⟨0, [], [(1, { ent := some (f17_E n) }), (3, { ent := some (f17_E n) }), (5, { ent := some (f47_E n) })]⟩), (9, ⟨0, [], [(1, { entB := some (f17B_E n), hb := 310 })]⟩), (10, ⟨0, [], [(1, { entB := some (f17B_E n), hb := 320 })]⟩), (11, ⟨0, [], [(3, { entB := some (f48B_E n), hb := 330 })]⟩), (12, ⟨0, [], [(2, { ent := some (f19_E n) })]⟩), (14, ⟨0, [], [(2, { ent := some (f17_E n) }), (3, { ent := some (f19_E n) })]⟩), (16, ⟨0, [], [(2, { ent := some (f17_E n) }), (3, { ent := some (f19_E n) })]⟩), (19, ⟨0, [], [(2, { alt := [(f34B_E n)], hb := 340 })]⟩), (20, ⟨0, [], [(2, { alt := [(f34B_E n)], hb := 350 })]⟩), (21, ⟨0, [], [(5, { ent := some (f19_E n) })]⟩), (24, ⟨0, [], [(2, { ent := some (f34_E n), alt := [(f34B_E n)], hb := 360 })]⟩), (26, ⟨0, [], [(2, { ent := some (f35_E n) })]⟩), (31, ⟨0, [], [(1, { ent := some (f17_E n) }), (3, { ent := some (f17_E n) }), (5, { ent := some (f48_E n) })]⟩), (32, ⟨0, [], [(2, { ent := some (f19_E n) })]⟩), (35, ⟨0, [], [(2, { ent := some (f35_E n) })]⟩)], join := [], loop := [] }
theorem f10_ents (α : Type) (n : Nat) : AllS Try.prog (entsOf (f10_D α n).reg) := ⟨f15_ok n, f15_ok n, f17_ok n, f17_ok n, f47_ok n, f17B_ok n, f17B_ok n, f48B_ok n, f19_ok n, f17_ok n, f19_ok n, f17_ok n, f19_ok n, f34B_ok n, f34B_ok n, f19_ok n, f34B_ok n, f34_ok n, f35_ok n, f17_ok n, f17_ok n, f48_ok n, f19_ok n, f35_ok n, trivial⟩
theorem f10_d (α : Type) (n : Nat) : D3.OK Try.prog (tyOf Try.prog) ⟨124, []⟩ (f10_D α n) (bodyOf Try.f10) :=
 D3.OK.mk3 (f10_ents α n) (show loopsOf (bodyOf Try.f10) = [] by kernel_rfl) trivial
theorem f10_ok (n : Nat) : (f10_E n).Sound Try.prog :=
 fn_ok (tyOf_ok _) prog_fol (f10_D _ n) (show Try.prog.funcs[10]? = some Try.f10 by kernel_rfl) (by kernel_rfl) (show Try.f10.body = some (bodyOf Try.f10) by kernel_rfl) rfl rfl (Nat.le_of_ble_eq_true rfl) (f10_d _ n) (by intro x; kernel_rfl) 

end Go.Ev
