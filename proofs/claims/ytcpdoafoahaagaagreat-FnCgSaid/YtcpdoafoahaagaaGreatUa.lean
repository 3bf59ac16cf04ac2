/- DERIVED. What the functions compute, and that they do. -/
import Derived.Test.YtcpdoafoahaagaaGreatEe

set_option linter.all false
set_option linter.unusedVariables false
set_option linter.unusedSimpArgs false

namespace Go.Ev
open Go Go.Proofs Go.RowKit Go.Shelf
def f10 (n : Nat) (a0 : LI) (a1 a2 : Int) : Option Int :=
 bif (decide (a2 ≤ 1)) then
  some 0
 else
  bif ((a0.length : Int) == 0) then
   gd (decide (a2 ≠ 0)) (
    some (Int.tmod (W (a1 * 7)) a2))
  else
   gd (decide ((a0.length : Int) ≠ 0)) (
    gd (decide (0 ≤ (Int.tmod a1 (a0.length : Int))) && decide ((Int.tmod a1 (a0.length : Int)) < (a0.length : Int))) (
     gd (decide ((a0.length : Int) ≠ 0)) (
      gd (decide (0 ≤ (Int.tmod (W (a1 + 1)) (a0.length : Int))) && decide ((Int.tmod (W (a1 + 1)) (a0.length : Int)) < (a0.length : Int))) (
       gd (decide ((a0.length : Int) ≠ 0)) (
        gd (decide (a2 ≠ 0)) (
         some (Int.tmod (W ((W ((W ((W (a0.getD ((Int.tmod a1 (a0.length : Int)).toNat) 0)) * 31)) + (W (a0.getD ((Int.tmod (W (a1 + 1)) (a0.length : Int)).toNat) 0)))) + (W (Int.tdiv a1 (a0.length : Int))))) a2)))))))
def B17 (n : Nat) : Ent := ⟨10, [(.sl (.int .u8)), hI, hI], [hI], fun x => f10 n x.1 x.2.1 x.2.2⟩
def Ba3 (α : Type) (n : Nat) : D3 α := { reg := [(5, ⟨25, [], []⟩)], join := [], loop := [] }
theorem B81 (n : Nat) : (B17 n).Sound PP := Az (fn := Tryz.f10) (D := Ba3 _ n) trivial 

def A1t (n : Nat) (a0 : LI) : Option (LI × Int × Int) :=
 some (a0, 0, (Int.tmod (a0.length : Int) 1000))
def A5v (n : Nat) : Ent3 := ⟨46, [.im (.sl (.int .u8))], [[.one (.ptr 125 (.st (.pair (.sl (.int .u8)) (.pair hI hI))))]], fun x => A1t n x⟩
def B64 (α : Type) (n : Nat) : D3 α := { reg := [], join := [], loop := [] }
theorem A8v (n : Nat) : (A5v n).Sound PP := A7t (fn := Tryz.f46) (D := B64 _ n) trivial 

def S9 (n : Nat) (a0 : LI × Int × Int) : Option (Int × (LI × Int × Int)) :=
 bif (decide ((W (a0.2.1 + 1)) ≤ (a0.1.length : Int))) then
  gd (decide (0 ≤ (W ((W (a0.2.1 + 1)) - 1))) && decide ((W ((W (a0.2.1 + 1)) - 1)) < (a0.1.length : Int))) (
   gd (decide (0 ≤ (W ((W (a0.2.1 + 1)) - 1))) && decide ((W ((W (a0.2.1 + 1)) - 1)) < (a0.1.length : Int))) (
    some ((W (a0.1.getD ((W ((W (a0.2.1 + 1)) - 1)).toNat) 0)), (a0.1, (W (a0.2.1 + 1)), (Int.tmod (W ((W ((W (a0.2.2 * 31)) + (W (a0.1.getD ((W ((W (a0.2.1 + 1)) - 1)).toNat) 0)))) + 7)) 2147483648)))))
 else
  bif (decide ((W (a0.2.1 + 1)) > 3000)) then
   some (0, (a0.1, (W (a0.2.1 + 1)), a0.2.2))
  else
   some ((Int.tmod (W (Int.tdiv (Int.tmod (W ((W (a0.2.2 * 1103515245)) + 12345)) 2147483648) 65536)) 256), (a0.1, (W (a0.2.1 + 1)), (Int.tmod (W ((W (a0.2.2 * 1103515245)) + 12345)) 2147483648)))
def Pn (n : Nat) : Ent3 := ⟨173, [.one (.ptr 125 (.st (.pair (.sl (.int .u8)) (.pair hI hI))))], [[.im hI]], fun x => S9 n x⟩
def B2u (α : Type) (n : Nat) : D3 α := { reg := [(2, ⟨9, [], []⟩), (3, ⟨21, [], []⟩), (4, ⟨9, [], []⟩)], join := [], loop := [] }
theorem S8 (n : Nat) : (Pn n).Sound PP := A7t (fn := Tryz.f173) (D := B2u _ n) trivial 

def Ta (n : Nat) (a0 : LI × Int × Int) (a1 : Int) : Option (Int × (LI × Int × Int)) :=
 bif (decide (a1 ≤ 1)) then
  some (0, a0)
 else
  bif (decide (a1 ≤ 256)) then
   ob (S9 n a0) fun r_1 =>
   gd (decide (a1 ≠ 0)) (
    some ((Int.tmod r_1.1 a1), r_1.2))
  else
   ob (S9 n a0) fun r_2 =>
   ob (S9 n r_2.2) fun r_3 =>
   ob (S9 n r_3.2) fun r_4 =>
   gd (decide (a1 ≠ 0)) (
    some ((Int.tmod (W ((W ((W (r_2.1 * 65536)) + (W (r_3.1 * 256)))) + r_4.1)) a1), r_4.2))
def Z8 (n : Nat) : Ent3 := ⟨107, [.one (.ptr 125 (.st (.pair (.sl (.int .u8)) (.pair hI hI)))), .im hI], [[.im hI]], fun x => Ta n x.1 x.2⟩
def B45 (α : Type) (n : Nat) : D3 α := { reg := [(4, ⟨0, [], [(1, { entB := some (Pn n), hb := 310 })]⟩), (5, ⟨0, [], [(1, { entB := some (Pn n), hb := 320 })]⟩), (6, ⟨0, [], [(1, { entB := some (Pn n), hb := 330 })]⟩), (7, ⟨0, [], [(1, { entB := some (Pn n), hb := 340 })]⟩)], join := [], loop := [] }
theorem A42 (n : Nat) : (Z8 n).Sound PP := A7t (fn := Tryz.f107) (D := B45 _ n) ⟨S8 n, S8 n, S8 n, S8 n, trivial⟩ 

def A2w {α : Type} (n : Nat) (s0 : Int) (b4 : LI) (f : Int → LI → Option α) (k0 : LI → Option α) : Option α :=
 bif (decide (s0 > 0)) then
  gd (decide ((b4.length + 1) * 8 ≤ 140737488355328)) (
   f (W (Int.tdiv s0 10000)) (b4 ++ [(Int.tmod s0 10000)]))
 else
  k0 b4
abbrev Sa : Tm := ⟨[(0, .d hI), (3, .k (.hw 4))], [(4, .arr 3 hI false)], [10], []⟩
abbrev Atv : Tm := ⟨[(3, .k (.hw 4))], [(4, .arr 3 hI false)], [], []⟩
abbrev A2v : List (Exit × Tm) := [(.exit 0, Atv)]
def A2u {α : Type} (n : Nat) (v : Sa.den) (f : Sa.den → Option α) (ks : KS α A2v) : Option α := A2w n v.1.1 v.2.1 (fun s0 b4 => f ((s0, (), ()), (b4, ()))) (fun w0 => ks.1 (((), ()), (w0, ())))
def Yz {α : Type} (n m : Nat) (s0 : Int) (b4 : LI) (k0 : LI → Option α) : Option α := A4 (A2u n) m ((s0, (), ()), (b4, ())) (fun w => k0 w.2.1, ())
theorem Atu {α n m s0 b4 k0} : Yz (α := α) n (m + 1) s0 b4 k0 = A2w n s0 b4 (fun s0 b4 => Yz n m s0 b4 k0) k0 := rfl
def f172 (n : Nat) (a0 : Int) : Option LI :=
 Yz n n a0 []
  (fun z_1 => (
   some z_1))
def Wo (n : Nat) : Ent := ⟨172, [hI], [hIs], fun x => f172 n x⟩
def Ag6 (α : Type) (n : Nat) : D3 α := { reg := [(1, ⟨0, [], [(0, { sh := some hI })]⟩), (3, ⟨0, [], [(3, { sh := some hI })]⟩)], join := [], loop := [(2, ⟨Sa, A2v, A4 (A2u n) n⟩)] }
theorem Abf (α : Type) (n : Nat) : Al PP (Ad (Ag6 α n).reg) := trivial
theorem Anu (α : Type) (n : Nat) : LO.Sound (α := α) PP ⟨15, []⟩ ⟨Sa, A2v, A4 (A2u n) n⟩ (.loop ((A2 Tryz.f172).at [1, 1, 0, 0, 0])) := Bm (D := Ag6 α n) (Abf α n) n
theorem B6v (α : Type) (n : Nat) : D3.OK PP TT ⟨15, []⟩ (Ag6 α n) (A2 Tryz.f172) :=
 D3.OK.mk3 (Abf α n) (show Aa (A2 Tryz.f172) = [(2, (.loop ((A2 Tryz.f172).at [1, 1, 0, 0, 0])))] by kernel_rfl) ⟨A8 rfl (Anu α n), trivial⟩
theorem Yy (n : Nat) : (Wo n).Sound PP := fk (fn := Tryz.f172) (B6v _ n) 

def f106 (n : Nat) (a0 : Int) : Option Rq :=
 bif (decide (a0 < 0)) then
  ob (f172 n (W (0 - a0))) fun r_1 =>
  some (true, r_1, [1])
 else
  ob (f172 n a0) fun r_2 =>
  some (false, r_2, [1])
def E6 (n : Nat) : Ent := ⟨106, [hI], [hR], fun x => f106 n x⟩
def B84 (α : Type) (n : Nat) : D3 α := { reg := [(2, ⟨0, [], [(2, { ent := some (Wo n) }), (3, { sh := some hI })]⟩), (3, ⟨0, [], [(1, { ent := some (Wo n) }), (2, { sh := some hI })]⟩)], join := [], loop := [] }
theorem Hi (n : Nat) : (E6 n).Sound PP := Az (fn := Tryz.f106) (D := B84 _ n) ⟨Yy n, Yy n, trivial⟩ 

def A1s {α : Type} (n : Nat) (s1 s6 : Int) (b7 : LR) (c1000_0 : LI) (c1000_1 c1000_2 : Int) (f : Int → Int → LR → LI → Int → Int → Option α) (k0 : LR → LI → Int → Int → Option α) : Option α :=
 bif (decide (s6 < (W (s1 * s1)))) then
  ob (Ta n (c1000_0, c1000_1, c1000_2) 7) fun r_1 =>
  ob (f106 n (W (r_1.1 - 3))) fun r_2 =>
  gd (decide ((b7.length + 1) * 56 ≤ 140737488355328)) (
   f s1 (W (s6 + 1)) (b7 ++ [r_2]) r_1.2.1 r_1.2.2.1 r_1.2.2.2)
 else
  k0 b7 c1000_0 c1000_1 c1000_2
abbrev Rb : Tm := ⟨[(0, .k (.hp 1000 0 0)), (1, .d hI), (5, .k (.hw 7)), (6, .d hI)], [(7, .arr 30 hR false), (1000, .var 125 true false [.d (.sl (.int .u8)), .d hI, .d hI])], [20], []⟩
abbrev Asq : Tm := ⟨[(5, .k (.hw 7))], [(7, .arr 30 hR false), (1000, .var 125 true false [.d (.sl (.int .u8)), .d hI, .d hI])], [], []⟩
abbrev A1r : List (Exit × Tm) := [(.exit 0, Asq)]
def A1q {α : Type} (n : Nat) (v : Rb.den) (f : Rb.den → Option α) (ks : KS α A1r) : Option α := A1s n v.1.2.1 v.1.2.2.2.1 v.2.1 v.2.2.1.1 v.2.2.1.2.1 v.2.2.1.2.2.1 (fun s1 s6 b7 c1000_0 c1000_1 c1000_2 => f (((), s1, (), s6, ()), (b7, (c1000_0, c1000_1, c1000_2, ()), ()))) (fun w0 w1 w2 w3 => ks.1 (((), ()), (w0, (w1, w2, w3, ()), ())))
def L6 {α : Type} (n m : Nat) (s1 s6 : Int) (b7 : LR) (c1000_0 : LI) (c1000_1 c1000_2 : Int) (k0 : LR → LI → Int → Int → Option α) : Option α := A4 (A1q n) m (((), s1, (), s6, ()), (b7, (c1000_0, c1000_1, c1000_2, ()), ())) (fun w => k0 w.2.1 w.2.2.1.1 w.2.2.1.2.1 w.2.2.1.2.2.1, ())
theorem Asp {α n m s1 s6 b7 c1000_0 c1000_1 c1000_2 k0} : L6 (α := α) n (m + 1) s1 s6 b7 c1000_0 c1000_1 c1000_2 k0 = A1s n s1 s6 b7 c1000_0 c1000_1 c1000_2 (fun s1 s6 b7 c1000_0 c1000_1 c1000_2 => L6 n m s1 s6 b7 c1000_0 c1000_1 c1000_2 k0) k0 := rfl
def Afl (n : Nat) (a0 : LI × Int × Int) (a1 : Int) : Option (LR × (LI × Int × Int)) :=
 L6 n n a1 0 [] a0.1 a0.2.1 a0.2.2
  (fun z_3 z_4 z_5 z_6 => (
   some (z_3, (z_4, z_5, z_6))))
def Afj (n : Nat) : Ent3 := ⟨47, [.one (.ptr 125 (.st (.pair (.sl (.int .u8)) (.pair hI hI)))), .im hI], [[.im hRs]], fun x => Afl n x.1 x.2⟩
def Afk (α : Type) (n : Nat) : D3 α := { reg := [(1, ⟨0, [], [(0, { sh := some hR })]⟩), (5, ⟨0, [], [(2, { entB := some (Z8 n), hb := 310 }), (4, { ent := some (E6 n) }), (5, { sh := some hR })]⟩)], join := [], loop := [(3, ⟨Rb, A1r, A4 (A1q n) n⟩)] }
theorem Ab2 (α : Type) (n : Nat) : Al PP (Ad (Afk α n).reg) := ⟨A42 n, Hi n, trivial⟩
theorem An1 (α : Type) (n : Nat) : LO.Sound (α := α) PP ⟨23, []⟩ ⟨Rb, A1r, A4 (A1q n) n⟩ (.loop ((A2 Tryz.f47).at [1, 1, 0, 1, 0, 0])) := Bm (D := Afk α n) (Ab2 α n) n
theorem B63 (α : Type) (n : Nat) : D3.OK PP TT ⟨23, []⟩ (Afk α n) (A2 Tryz.f47) :=
 D3.OK.mk3 (Ab2 α n) (show Aa (A2 Tryz.f47) = [(3, (.loop ((A2 Tryz.f47).at [1, 1, 0, 1, 0, 0])))] by kernel_rfl) ⟨A8 rfl (An1 α n), trivial⟩
theorem Akc (n : Nat) : (Afj n).Sound PP := fkB (fn := Tryz.f47) (B63 _ n) 

def A1x {α : Type} (n : Nat) (s0 : LI) (s3 : Int) (f : LI → Int → Option α) (k0 : LI → Int → Option α) : Option α :=
 bif (decide (s3 > 0)) then
  gd (decide (0 ≤ (W (s3 - 1))) && decide ((W (s3 - 1)) < (s0.length : Int))) (
   bif ((s0.getD ((W (s3 - 1)).toNat) 0) == 0) then
    f s0 (W (s3 - 1))
   else
    k0 s0 s3)
 else
  k0 s0 s3
abbrev Rl : Tm := ⟨[(0, .d hIs), (3, .d hI)], [], [], []⟩
abbrev Asz : Tm := ⟨[(0, .d hIs), (3, .d hI)], [], [], []⟩
abbrev A1w : List (Exit × Tm) := [(.exit 0, Asz)]
def A1v {α : Type} (n : Nat) (v : Rl.den) (f : Rl.den → Option α) (ks : KS α A1w) : Option α := A1x n v.1.1 v.1.2.1 (fun s0 s3 => f ((s0, s3, ()), ())) (fun w0 w1 => ks.1 ((w0, w1, ()), ()))
def Yu {α : Type} (n m : Nat) (s0 : LI) (s3 : Int) (k0 : LI → Int → Option α) : Option α := A4 (A1v n) m ((s0, s3, ()), ()) (fun w => k0 w.1.1 w.1.2.1, ())
theorem Asy {α n m s0 s3 k0} : Yu (α := α) n (m + 1) s0 s3 k0 = A1x n s0 s3 (fun s0 s3 => Yu n m s0 s3 k0) k0 := rfl
def f203 (n : Nat) (a0 : LI) : Option LI :=
 Yu n n a0 (a0.length : Int)
  (fun z_1 z_2 => (
   gd (decide (0 ≤ z_2) && decide (z_2 ≤ (z_1.length : Int))) (
    gd (decide ((0 + ((z_1.drop 0).take (z_2.toNat - 0)).length) * 8 ≤ 140737488355328)) (
     some ((z_1.drop 0).take (z_2.toNat - 0))))))
def Wc (n : Nat) : Ent := ⟨203, [hIs], [hIs], fun x => f203 n x⟩
def Afp (α : Type) (n : Nat) : D3 α := { reg := [(4, ⟨0, [], [(0, { sh := some hI })]⟩)], join := [], loop := [(2, ⟨Rl, A1w, A4 (A1v n) n⟩)] }
theorem Ab3 (α : Type) (n : Nat) : Al PP (Ad (Afp α n).reg) := trivial
theorem An9 (α : Type) (n : Nat) : LO.Sound (α := α) PP ⟨23, []⟩ ⟨Rl, A1w, A4 (A1v n) n⟩ (.loop ((A2 Tryz.f203).at [1, 1, 0, 0, 0])) := Bm (D := Afp α n) (Ab3 α n) n
theorem B6c (α : Type) (n : Nat) : D3.OK PP TT ⟨23, []⟩ (Afp α n) (A2 Tryz.f203) :=
 D3.OK.mk3 (Ab3 α n) (show Aa (A2 Tryz.f203) = [(2, (.loop ((A2 Tryz.f203).at [1, 1, 0, 0, 0])))] by kernel_rfl) ⟨A8 rfl (An9 α n), trivial⟩
theorem Ys (n : Nat) : (Wc n).Sound PP := fk (fn := Tryz.f203) (B6c _ n) 

def A2o {α : Type} (n : Nat) (s0 s1 : LI) (s6 s7 s8 : Int) (b16 : LI) (f : LI → LI → Int → Int → Int → LI → Option α) (k0 : LI → LI → Int → LI → Option α) : Option α :=
 let J_3 := fun (_ : Unit) => (
  gd (decide (0 ≤ (W (s6 + s8))) && decide ((W (s6 + s8)) < (b16.length : Int))) (
   gd (decide ((W (s6 + s8)).toNat < b16.length)) (
    let J_2 := fun (y_1 : Int) => (
     gd (decide (0 ≤ (W (s6 + s8))) && decide ((W (s6 + s8)) < (b16.length : Int))) (
      gd (decide ((W (s6 + s8)).toNat < b16.length)) (
       f s0 s1 s6 (W (Int.tdiv y_1 10000)) (W (s8 + 1)) (b16.set ((W (s6 + s8)).toNat) (Int.tmod y_1 10000)))))
    bif (decide (s8 < (s1.length : Int))) then
     gd (decide (0 ≤ s6) && decide (s6 < (s0.length : Int))) (
      gd (decide (0 ≤ s8) && decide (s8 < (s1.length : Int))) (
       J_2 (W ((W ((b16.getD ((W (s6 + s8)).toNat) 0) + s7)) + (W ((s0.getD s6.toNat 0) * (s1.getD s8.toNat 0)))))))
    else
     J_2 (W ((b16.getD ((W (s6 + s8)).toNat) 0) + s7)))))
 bif (decide (s8 < (s1.length : Int))) then
  J_3 ()
 else
  bif (decide (s7 > 0)) then
   J_3 ()
  else
   k0 s0 s1 s6 b16
abbrev S4 : Tm := ⟨[(0, .d hIs), (1, .d hIs), (5, .k (.hw 16)), (6, .d hI), (7, .d hI), (8, .d hI)], [(16, .arr 3 hI false)], [], []⟩
abbrev Atp : Tm := ⟨[(0, .d hIs), (1, .d hIs), (5, .k (.hw 16)), (6, .d hI)], [(16, .arr 3 hI false)], [], []⟩
abbrev A2n : List (Exit × Tm) := [(.exit 2, Atp)]
def A2m {α : Type} (n : Nat) (v : S4.den) (f : S4.den → Option α) (ks : KS α A2n) : Option α := A2o n v.1.1 v.1.2.1 v.1.2.2.2.1 v.1.2.2.2.2.1 v.1.2.2.2.2.2.1 v.2.1 (fun s0 s1 s6 s7 s8 b16 => f ((s0, s1, (), s6, s7, s8, ()), (b16, ()))) (fun w0 w1 w2 w3 => ks.1 ((w0, w1, (), w2, ()), (w3, ())))
def L8 {α : Type} (n m : Nat) (s0 s1 : LI) (s6 s7 s8 : Int) (b16 : LI) (k0 : LI → LI → Int → LI → Option α) : Option α := A4 (A2m n) m ((s0, s1, (), s6, s7, s8, ()), (b16, ())) (fun w => k0 w.1.1 w.1.2.1 w.1.2.2.2.1 w.2.1, ())
theorem Ato {α n m s0 s1 s6 s7 s8 b16 k0} : L8 (α := α) n (m + 1) s0 s1 s6 s7 s8 b16 k0 = A2o n s0 s1 s6 s7 s8 b16 (fun s0 s1 s6 s7 s8 b16 => L8 n m s0 s1 s6 s7 s8 b16 k0) k0 := rfl
def A2r {α : Type} (n : Nat) (s0 s1 : LI) (s6 : Int) (b16 : LI) (f : LI → LI → Int → LI → Option α) (k0 : LI → Option α) : Option α :=
 bif (decide (s6 < (s0.length : Int))) then
  L8 n n s0 s1 s6 0 0 b16
   (fun z_1 z_2 z_3 z_4 => (
    f z_1 z_2 (W (z_3 + 1)) z_4))
 else
  k0 b16
abbrev S5 : Tm := ⟨[(0, .d hIs), (1, .d hIs), (5, .k (.hw 16)), (6, .d hI)], [(16, .arr 3 hI false)], [], []⟩
abbrev Ats : Tm := ⟨[(5, .k (.hw 16))], [(16, .arr 3 hI false)], [], []⟩
abbrev A2q : List (Exit × Tm) := [(.exit 0, Ats)]
def A2p {α : Type} (n : Nat) (v : S5.den) (f : S5.den → Option α) (ks : KS α A2q) : Option α := A2r n v.1.1 v.1.2.1 v.1.2.2.2.1 v.2.1 (fun s0 s1 s6 b16 => f ((s0, s1, (), s6, ()), (b16, ()))) (fun w0 => ks.1 (((), ()), (w0, ())))
def L9 {α : Type} (n m : Nat) (s0 s1 : LI) (s6 : Int) (b16 : LI) (k0 : LI → Option α) : Option α := A4 (A2p n) m ((s0, s1, (), s6, ()), (b16, ())) (fun w => k0 w.2.1, ())
theorem Atq {α n m s0 s1 s6 b16 k0} : L9 (α := α) n (m + 1) s0 s1 s6 b16 k0 = A2r n s0 s1 s6 b16 (fun s0 s1 s6 b16 => L9 n m s0 s1 s6 b16 k0) k0 := rfl
abbrev B2r : Tm := ⟨[(0, .d hIs), (1, .d hIs), (5, .k (.hw 16)), (6, .d hI), (7, .d hI), (8, .d hI)], [(16, .arr 3 hI false)], [], []⟩
abbrev Azd : Tm := ⟨[(0, .d hIs), (1, .d hIs), (5, .k (.hw 16)), (6, .d hI), (8, .d hI), (9, .d hI)], [(16, .arr 3 hI false)], [], []⟩
def f178 (n : Nat) (a0 a1 : LI) : Option LI :=
 gd (decide (0 ≤ (W ((W ((a0.length : Int) + (a1.length : Int))) + 1))) && decide ((W ((W ((a0.length : Int) + (a1.length : Int))) + 1)) ≤ 4611686018427387904) && decide ((8 : Int) * (W ((W ((a0.length : Int) + (a1.length : Int))) + 1)) ≤ 281474976710656)) (
  L9 n n a0 a1 0 (List.replicate ((W ((W ((a0.length : Int) + (a1.length : Int))) + 1)).toNat) 0)
   (fun z_5 => (
    ob (f203 n z_5) fun r_6 =>
    some r_6)))
def Gj (n : Nat) : Ent := ⟨178, [hIs, hIs], [hIs], fun x => f178 n x.1 x.2⟩
def A64 (α : Type) (n : Nat) : D3 α := { reg := [(11, ⟨10, [], []⟩), (14, ⟨0, [], [(1, { ent := some (Wc n), fz := [(65, hIs)] })]⟩)], join := [(9, B2r), (12, Azd)], loop := [(7, ⟨S4, A2n, A4 (A2m n) n⟩), (3, ⟨S5, A2q, A4 (A2p n) n⟩)] }
theorem Wl (α : Type) (n : Nat) : Al PP (Ad (A64 α n).reg) := ⟨Ys n, trivial⟩
theorem Anq (α : Type) (n : Nat) : LO.Sound (α := α) PP ⟨67, []⟩ ⟨S4, A2n, A4 (A2m n) n⟩ (.loop ((A2 Tryz.f178).at [1, 1, 0, 1, 0, 0, 1, 0, 0, 1, 1, 0, 0])) := Bm (D := A64 α n) (Wl α n) n
theorem Atr (α : Type) (n : Nat) : D3.OK PP TT ⟨67, []⟩ (A64 α n) ((A2 Tryz.f178).at [1, 1, 0, 1, 0, 0]) :=
 D3.OK.mk3 (Wl α n) (show Aa ((A2 Tryz.f178).at [1, 1, 0, 1, 0, 0]) = [(7, (.loop ((A2 Tryz.f178).at [1, 1, 0, 1, 0, 0, 1, 0, 0, 1, 1, 0, 0])))] by kernel_rfl) ⟨A8 rfl (Anq α n), trivial⟩
theorem Anr (α : Type) (n : Nat) : LO.Sound (α := α) PP ⟨67, []⟩ ⟨S5, A2q, A4 (A2p n) n⟩ (.loop ((A2 Tryz.f178).at [1, 1, 0, 1, 0, 0])) := lk (Atr α n) n
theorem B6r (α : Type) (n : Nat) : D3.OK PP TT ⟨67, []⟩ (A64 α n) (A2 Tryz.f178) :=
 D3.OK.mk3 (Wl α n) (show Aa (A2 Tryz.f178) = [(3, (.loop ((A2 Tryz.f178).at [1, 1, 0, 1, 0, 0])))] by kernel_rfl) ⟨A8 rfl (Anr α n), trivial⟩
theorem Fy (n : Nat) : (Gj n).Sound PP := fk (fn := Tryz.f178) (B6r _ n) 

def f147 (n : Nat) (a0 : Bool) : Option Int :=
 bif a0 then
  some 1
 else
  some 0
def I8 (n : Nat) : Ent := ⟨147, [.bool], [hI], fun x => f147 n x⟩
def B75 (α : Type) (n : Nat) : D3 α := { reg := [], join := [], loop := [] }
theorem Z3 (n : Nat) : (I8 n).Sound PP := Az (fn := Tryz.f147) (D := B75 _ n) trivial 

def A2b {α : Type} (n : Nat) (s0 s1 : LI) (s5 : Int) (f : LI → LI → Int → Option α) (k0 : Int → Option α) (k1 : Unit → Option α) : Option α :=
 bif (decide (s5 ≥ 0)) then
  gd (decide (0 ≤ s5) && decide (s5 < (s0.length : Int))) (
   gd (decide (0 ≤ s5) && decide (s5 < (s1.length : Int))) (
    bif ((s0.getD s5.toNat 0) != (s1.getD s5.toNat 0)) then
     gd (decide (0 ≤ s5) && decide (s5 < (s0.length : Int))) (
      gd (decide (0 ≤ s5) && decide (s5 < (s1.length : Int))) (
       ob (f147 n (decide ((s0.getD s5.toNat 0) > (s1.getD s5.toNat 0)))) fun r_2 =>
       k0 (W ((W (2 * r_2)) - 1))))
    else
     f s0 s1 (W (s5 - 1))))
 else
  k1 ()
abbrev Ru : Tm := ⟨[(0, .d hIs), (1, .d hIs), (5, .d hI)], [], [], []⟩
abbrev Ata : Tm := ⟨[(4, .d hI)], [], [], []⟩
abbrev At9 : Tm := ⟨[], [], [], []⟩
abbrev A2a : List (Exit × Tm) := [(.ret, Ata), (.exit 0, At9)]
def A29 {α : Type} (n : Nat) (v : Ru.den) (f : Ru.den → Option α) (ks : KS α A2a) : Option α := A2b n v.1.1 v.1.2.1 v.1.2.2.1 (fun s0 s1 s5 => f ((s0, s1, s5, ()), ())) (fun w0 => ks.1 ((w0, ()), ())) (fun _ => ks.2.1 ((), ()))
def Yw {α : Type} (n m : Nat) (s0 s1 : LI) (s5 : Int) (k0 : Int → Option α) (k1 : Unit → Option α) : Option α := A4 (A29 n) m ((s0, s1, s5, ()), ()) (fun w => k0 w.1.1, fun w => k1 (), ())
theorem At8 {α n m s0 s1 s5 k0 k1} : Yw (α := α) n (m + 1) s0 s1 s5 k0 k1 = A2b n s0 s1 s5 (fun s0 s1 s5 => Yw n m s0 s1 s5 k0 k1) k0 k1 := rfl
def f187 (n : Nat) (a0 a1 : LI) : Option Int :=
 bif ((a0.length : Int) != (a1.length : Int)) then
  ob (f147 n (decide ((a0.length : Int) > (a1.length : Int)))) fun r_1 =>
  some (W ((W (2 * r_1)) - 1))
 else
  Yw n n a0 a1 (W ((a0.length : Int) - 1))
   (fun z_3 => (
    some z_3))
   (fun (_ : Unit) => (
    some 0))
def Wh (n : Nat) : Ent := ⟨187, [hIs, hIs], [hI], fun x => f187 n x.1 x.2⟩
def Afx (α : Type) (n : Nat) : D3 α := { reg := [(2, ⟨0, [], [(5, { ent := some (I8 n) })]⟩), (6, ⟨8, [], []⟩), (7, ⟨8, [], [(9, { ent := some (I8 n) })]⟩)], join := [], loop := [(4, ⟨Ru, A2a, A4 (A29 n) n⟩)] }
theorem Aba (α : Type) (n : Nat) : Al PP (Ad (Afx α n).reg) := ⟨Z3 n, Z3 n, trivial⟩
theorem Ang (α : Type) (n : Nat) : LO.Sound (α := α) PP ⟨47, []⟩ ⟨Ru, A2a, A4 (A29 n) n⟩ (.loop ((A2 Tryz.f187).at [1, 1, 0, 1, 0, 0])) := Bm (D := Afx α n) (Aba α n) n
theorem B6j (α : Type) (n : Nat) : D3.OK PP TT ⟨47, []⟩ (Afx α n) (A2 Tryz.f187) :=
 D3.OK.mk3 (Aba α n) (show Aa (A2 Tryz.f187) = [(4, (.loop ((A2 Tryz.f187).at [1, 1, 0, 1, 0, 0])))] by kernel_rfl) ⟨A8 rfl (Ang α n), trivial⟩
theorem Yv (n : Nat) : (Wh n).Sound PP := fk (fn := Tryz.f187) (B6j _ n) 

def A28 {α : Type} (n : Nat) (s0 s1 : LI) (s6 s7 : Int) (b9 : LI) (f : LI → LI → Int → Int → LI → Option α) (k0 : LI → Option α) : Option α :=
 bif (decide (s7 < (s0.length : Int))) then
  gd (decide (0 ≤ s7) && decide (s7 < (s0.length : Int))) (
   let J_3 := fun (y_1 : Int) => (
    ob (f147 n (decide (y_1 < 0))) fun r_2 =>
    gd (decide ((b9.length + 1) * 8 ≤ 140737488355328)) (
     f s0 s1 r_2 (W (s7 + 1)) (b9 ++ [(W (y_1 + (W (r_2 * 10000))))])))
   bif (decide (s7 < (s1.length : Int))) then
    gd (decide (0 ≤ s7) && decide (s7 < (s1.length : Int))) (
     J_3 (W ((W ((s0.getD s7.toNat 0) - s6)) - (s1.getD s7.toNat 0))))
   else
    J_3 (W ((s0.getD s7.toNat 0) - s6)))
 else
  k0 b9
abbrev Rr : Tm := ⟨[(0, .d hIs), (1, .d hIs), (5, .k (.hw 9)), (6, .d hI), (7, .d hI)], [(9, .arr 3 hI false)], [40], []⟩
abbrev At7 : Tm := ⟨[(5, .k (.hw 9))], [(9, .arr 3 hI false)], [], []⟩
abbrev A27 : List (Exit × Tm) := [(.exit 0, At7)]
def A26 {α : Type} (n : Nat) (v : Rr.den) (f : Rr.den → Option α) (ks : KS α A27) : Option α := A28 n v.1.1 v.1.2.1 v.1.2.2.2.1 v.1.2.2.2.2.1 v.2.1 (fun s0 s1 s6 s7 b9 => f ((s0, s1, (), s6, s7, ()), (b9, ()))) (fun w0 => ks.1 (((), ()), (w0, ())))
def L7 {α : Type} (n m : Nat) (s0 s1 : LI) (s6 s7 : Int) (b9 : LI) (k0 : LI → Option α) : Option α := A4 (A26 n) m ((s0, s1, (), s6, s7, ()), (b9, ())) (fun w => k0 w.2.1, ())
theorem At6 {α n m s0 s1 s6 s7 b9 k0} : L7 (α := α) n (m + 1) s0 s1 s6 s7 b9 k0 = A28 n s0 s1 s6 s7 b9 (fun s0 s1 s6 s7 b9 => L7 n m s0 s1 s6 s7 b9 k0) k0 := rfl
abbrev B2f : Tm := ⟨[(0, .d hIs), (1, .d hIs), (5, .k (.hw 9)), (7, .d hI), (8, .d hI)], [(9, .arr 3 hI false)], [], []⟩
def f188 (n : Nat) (a0 a1 : LI) : Option LI :=
 L7 n n a0 a1 0 0 []
  (fun z_4 => (
   ob (f203 n z_4) fun r_5 =>
   some r_5))
def A60 (n : Nat) : Ent := ⟨188, [hIs, hIs], [hIs], fun x => f188 n x.1 x.2⟩
def Afw (α : Type) (n : Nat) : D3 α := { reg := [(1, ⟨0, [], [(0, { sh := some hI })]⟩), (9, ⟨0, [], [(2, { ent := some (I8 n) })]⟩), (10, ⟨0, [], [(5, { sh := some hI })]⟩), (11, ⟨0, [], [(1, { ent := some (Wc n), fz := [(42, hIs)] })]⟩)], join := [(9, B2f)], loop := [(4, ⟨Rr, A27, A4 (A26 n) n⟩)] }
theorem Ab9 (α : Type) (n : Nat) : Al PP (Ad (Afw α n).reg) := ⟨Z3 n, Ys n, trivial⟩
theorem Anf (α : Type) (n : Nat) : LO.Sound (α := α) PP ⟨44, []⟩ ⟨Rr, A27, A4 (A26 n) n⟩ (.loop ((A2 Tryz.f188).at [1, 1, 1, 0, 1, 0, 0])) := Bm (D := Afw α n) (Ab9 α n) n
theorem B6i (α : Type) (n : Nat) : D3.OK PP TT ⟨44, []⟩ (Afw α n) (A2 Tryz.f188) :=
 D3.OK.mk3 (Ab9 α n) (show Aa (A2 Tryz.f188) = [(4, (.loop ((A2 Tryz.f188).at [1, 1, 1, 0, 1, 0, 0])))] by kernel_rfl) ⟨A8 rfl (Anf α n), trivial⟩
theorem A91 (n : Nat) : (A60 n).Sound PP := fk (fn := Tryz.f188) (B6i _ n) 

def Wg {α : Type} (n : Nat) (s0 s1 s7 : LI) (s8 s9 s10 : Int) (b14 : LI) (f : LI → LI → LI → Int → Int → Int → LI → Option α) (k0 : LI → LI → LI → Int → Int → LI → Option α) : Option α :=
 bif (decide ((W (s10 - s9)) > 1)) then
  ob (f172 n (W (Int.tdiv (W (s9 + s10)) 2))) fun r_3 =>
  ob (f178 n s1 r_3) fun r_4 =>
  ob (f187 n r_4 s7) fun r_5 =>
  bif (decide (r_5 ≤ 0)) then
   f s0 s1 s7 s8 (W (Int.tdiv (W (s9 + s10)) 2)) s10 b14
  else
   f s0 s1 s7 s8 s9 (W (Int.tdiv (W (s9 + s10)) 2)) b14
 else
  k0 s0 s1 s7 s8 s9 b14
abbrev Ns : Tm := ⟨[(0, .d hIs), (1, .d hIs), (6, .k (.hw 14)), (7, .d hIs), (8, .d hI), (9, .d hI), (10, .d hI)], [(14, .arr 3 hI false)], [27], []⟩
abbrev Anc : Tm := ⟨[(0, .d hIs), (1, .d hIs), (6, .k (.hw 14)), (7, .d hIs), (8, .d hI), (9, .d hI)], [(14, .arr 3 hI false)], [], []⟩
abbrev Wf : List (Exit × Tm) := [(.exit 2, Anc)]
def We {α : Type} (n : Nat) (v : Ns.den) (f : Ns.den → Option α) (ks : KS α Wf) : Option α := Wg n v.1.1 v.1.2.1 v.1.2.2.2.1 v.1.2.2.2.2.1 v.1.2.2.2.2.2.1 v.1.2.2.2.2.2.2.1 v.2.1 (fun s0 s1 s7 s8 s9 s10 b14 => f ((s0, s1, (), s7, s8, s9, s10, ()), (b14, ()))) (fun w0 w1 w2 w3 w4 w5 => ks.1 ((w0, w1, (), w2, w3, w4, ()), (w5, ())))
def M6 {α : Type} (n m : Nat) (s0 s1 s7 : LI) (s8 s9 s10 : Int) (b14 : LI) (k0 : LI → LI → LI → Int → Int → LI → Option α) : Option α := A4 (We n) m ((s0, s1, (), s7, s8, s9, s10, ()), (b14, ())) (fun w => k0 w.1.1 w.1.2.1 w.1.2.2.2.1 w.1.2.2.2.2.1 w.1.2.2.2.2.2.1 w.2.1, ())
theorem Anb {α n m s0 s1 s7 s8 s9 s10 b14 k0} : M6 (α := α) n (m + 1) s0 s1 s7 s8 s9 s10 b14 k0 = Wg n s0 s1 s7 s8 s9 s10 b14 (fun s0 s1 s7 s8 s9 s10 b14 => M6 n m s0 s1 s7 s8 s9 s10 b14 k0) k0 := rfl
def Rn {α : Type} (n : Nat) (s0 s1 s7 : LI) (s8 : Int) (b14 : LI) (f : LI → LI → LI → Int → LI → Option α) (k0 : LI → LI → Option α) : Option α :=
 bif (decide (s8 ≥ 0)) then
  gd (decide (0 ≤ s8) && decide (s8 < (s0.length : Int))) (
   gd (decide ((1 + s7.length) * 8 ≤ 140737488355328)) (
    ob (f203 n ([(s0.getD s8.toNat 0)] ++ s7)) fun r_1 =>
    ob (f187 n r_1 s1) fun r_2 =>
    bif (decide (r_2 < 0)) then
     f s0 s1 r_1 (W (s8 - 1)) b14
    else
     M6 n n s0 s1 r_1 s8 0 10000 b14
      (fun z_3 z_4 z_5 z_6 z_7 z_8 => (
       gd (decide (0 ≤ z_6) && decide (z_6 < (z_8.length : Int))) (
        gd (decide (z_6.toNat < z_8.length)) (
         ob (f172 n z_7) fun r_9 =>
         ob (f178 n z_4 r_9) fun r_10 =>
         ob (f188 n z_5 r_10) fun r_11 =>
         f z_3 z_4 r_11 (W (z_6 - 1)) (z_8.set z_6.toNat z_7)))))))
 else
  k0 s7 b14
abbrev Rm : Tm := ⟨[(0, .d hIs), (1, .d hIs), (6, .k (.hw 14)), (7, .d hIs), (8, .d hI)], [(14, .arr 3 hI false)], [15, 27], [(7, hIs)]⟩
abbrev At1 : Tm := ⟨[(6, .k (.hw 14)), (7, .d hIs)], [(14, .arr 3 hI false)], [], []⟩
abbrev A1z : List (Exit × Tm) := [(.exit 0, At1)]
def A1y {α : Type} (n : Nat) (v : Rm.den) (f : Rm.den → Option α) (ks : KS α A1z) : Option α := Rn n v.1.1 v.1.2.1 v.1.2.2.2.1 v.1.2.2.2.2.1 v.2.1 (fun s0 s1 s7 s8 b14 => f ((s0, s1, (), s7, s8, ()), (b14, ()))) (fun w0 w1 => ks.1 (((), w0, ()), (w1, ())))
def Ph {α : Type} (n m : Nat) (s0 s1 s7 : LI) (s8 : Int) (b14 : LI) (k0 : LI → LI → Option α) : Option α := A4 (A1y n) m ((s0, s1, (), s7, s8, ()), (b14, ())) (fun w => k0 w.1.2.1 w.2.1, ())
theorem Ab4 {α n m s0 s1 s7 s8 b14 k0} : Ph (α := α) n (m + 1) s0 s1 s7 s8 b14 k0 = Rn n s0 s1 s7 s8 b14 (fun s0 s1 s7 s8 b14 => Ph n m s0 s1 s7 s8 b14 k0) k0 := rfl
def f202 (n : Nat) (a0 a1 : LI) : Option (LI × LI) :=
 gd (decide (0 ≤ (a0.length : Int)) && decide ((a0.length : Int) ≤ 4611686018427387904) && decide ((8 : Int) * (a0.length : Int) ≤ 281474976710656)) (
  Ph n n a0 a1 [] (W ((a0.length : Int) - 1)) (List.replicate ((a0.length : Int).toNat) 0)
   (fun z_12 z_13 => (
    ob (f203 n z_13) fun r_14 =>
    some (r_14, z_12))))
def A5y (n : Nat) : Ent := ⟨202, [hIs, hIs], [hIs, hIs], fun x => f202 n x.1 x.2⟩
def A5z (α : Type) (n : Nat) : D3 α := { reg := [(2, ⟨0, [], [(0, { sh := some hI })]⟩), (6, ⟨0, [], [(4, { sh := some hI }), (7, { ent := some (Wc n), fz := [(29, hIs)] })]⟩), (7, ⟨0, [], [(2, { ent := some (Wh n) })]⟩), (12, ⟨0, [], [(2, { ent := some (Wo n) }), (3, { ent := some (Gj n) }), (5, { ent := some (Wh n) })]⟩), (16, ⟨0, [], [(3, { ent := some (Wo n) }), (4, { ent := some (Gj n) }), (5, { ent := some (A60 n) })]⟩), (17, ⟨0, [], [(1, { ent := some (Wc n), fz := [(62, hIs)] })]⟩)], join := [], loop := [(10, ⟨Ns, Wf, A4 (We n) n⟩), (4, ⟨Rm, A1z, A4 (A1y n) n⟩)] }
theorem Wd (α : Type) (n : Nat) : Al PP (Ad (A5z α n).reg) := ⟨Ys n, Yv n, Yy n, Fy n, Yv n, Yy n, Fy n, A91 n, Ys n, trivial⟩
theorem Ail (α : Type) (n : Nat) : LO.Sound (α := α) PP ⟨65, []⟩ ⟨Ns, Wf, A4 (We n) n⟩ (.loop ((A2 Tryz.f202).at [1, 1, 1, 0, 1, 0, 0, 1, 0, 0, 1, 1, 1, 1, 0, 0, 0])) := Bm (D := A5z α n) (Wd α n) n
theorem At0 (α : Type) (n : Nat) : D3.OK PP TT ⟨65, []⟩ (A5z α n) ((A2 Tryz.f202).at [1, 1, 1, 0, 1, 0, 0]) :=
 D3.OK.mk3 (Wd α n) (show Aa ((A2 Tryz.f202).at [1, 1, 1, 0, 1, 0, 0]) = [(10, (.loop ((A2 Tryz.f202).at [1, 1, 1, 0, 1, 0, 0, 1, 0, 0, 1, 1, 1, 1, 0, 0, 0])))] by kernel_rfl) ⟨A8 rfl (Ail α n), trivial⟩
theorem Ana (α : Type) (n : Nat) : LO.Sound (α := α) PP ⟨65, []⟩ ⟨Rm, A1z, A4 (A1y n) n⟩ (.loop ((A2 Tryz.f202).at [1, 1, 1, 0, 1, 0, 0])) := lk (At0 α n) n
theorem B6d (α : Type) (n : Nat) : D3.OK PP TT ⟨65, []⟩ (A5z α n) (A2 Tryz.f202) :=
 D3.OK.mk3 (Wd α n) (show Aa (A2 Tryz.f202) = [(4, (.loop ((A2 Tryz.f202).at [1, 1, 1, 0, 1, 0, 0])))] by kernel_rfl) ⟨A8 rfl (Ana α n), trivial⟩
theorem A90 (n : Nat) : (A5y n).Sound PP := fk (fn := Tryz.f202) (B6d _ n) 

def A22 {α : Type} (n : Nat) (s0 s1 : LI) (f : LI → LI → Option α) (k0 : LI → Option α) : Option α :=
 bif (decide ((s1.length : Int) > 0)) then
  ob (f202 n s0 s1) fun r_1 =>
  f s1 r_1.2
 else
  k0 s0
abbrev Ro : Tm := ⟨[(0, .d hIs), (1, .d hIs)], [], [], []⟩
abbrev At2 : Tm := ⟨[(0, .d hIs)], [], [], []⟩
abbrev A21 : List (Exit × Tm) := [(.exit 0, At2)]
def A20 {α : Type} (n : Nat) (v : Ro.den) (f : Ro.den → Option α) (ks : KS α A21) : Option α := A22 n v.1.1 v.1.2.1 (fun s0 s1 => f ((s0, s1, ()), ())) (fun w0 => ks.1 ((w0, ()), ()))
def J7 {α : Type} (n m : Nat) (s0 s1 : LI) (k0 : LI → Option α) : Option α := A4 (A20 n) m ((s0, s1, ()), ()) (fun w => k0 w.1.1, ())
theorem Ab6 {α n m s0 s1 k0} : J7 (α := α) n (m + 1) s0 s1 k0 = A22 n s0 s1 (fun s0 s1 => J7 n m s0 s1 k0) k0 := rfl
def f190 (n : Nat) (a0 a1 : LI) : Option LI :=
 J7 n n a0 a1
  (fun z_2 => (
   gd (decide ((0 + z_2.length) * 8 ≤ 140737488355328)) (
    some z_2)))
def Afs (n : Nat) : Ent := ⟨190, [hIs, hIs], [hIs], fun x => f190 n x.1 x.2⟩
def Aft (α : Type) (n : Nat) : D3 α := { reg := [(2, ⟨0, [], [(2, { ent := some (A5y n) })]⟩), (5, ⟨0, [], [(0, { sh := some hI })]⟩)], join := [], loop := [(1, ⟨Ro, A21, A4 (A20 n) n⟩)] }
theorem Ab5 (α : Type) (n : Nat) : Al PP (Ad (Aft α n).reg) := ⟨A90 n, trivial⟩
theorem And (α : Type) (n : Nat) : LO.Sound (α := α) PP ⟨21, []⟩ ⟨Ro, A21, A4 (A20 n) n⟩ (.loop ((A2 Tryz.f190).at [1, 0, 0, 0])) := Bm (D := Aft α n) (Ab5 α n) n
theorem B6g (α : Type) (n : Nat) : D3.OK PP TT ⟨21, []⟩ (Aft α n) (A2 Tryz.f190) :=
 D3.OK.mk3 (Ab5 α n) (show Aa (A2 Tryz.f190) = [(1, (.loop ((A2 Tryz.f190).at [1, 0, 0, 0])))] by kernel_rfl) ⟨A8 rfl (And α n), trivial⟩
theorem Akh (n : Nat) : (Afs n).Sound PP := fk (fn := Tryz.f190) (B6g _ n) 

def f177 (n : Nat) (a0 : Bool) (a1 a2 : LI) : Option Rq :=
 ob (f190 n a1 a2) fun r_1 =>
 ob (f202 n a1 r_1) fun r_2 =>
 ob (f202 n a2 r_1) fun r_3 =>
 bif a0 then
  some ((decide ((r_2.1.length : Int) > 0)), r_2.1, r_3.1)
 else
  some (false, r_2.1, r_3.1)
def Md (n : Nat) : Ent := ⟨177, [.bool, hIs, hIs], [hR], fun x => f177 n x.1 x.2.1 x.2.2⟩
def B6s (α : Type) (n : Nat) : D3 α := { reg := [(1, ⟨0, [], [(2, { ent := some (Afs n) })]⟩), (2, ⟨0, [], [(2, { ent := some (A5y n) })]⟩), (3, ⟨0, [], [(2, { ent := some (A5y n) })]⟩)], join := [], loop := [] }
theorem La (n : Nat) : (Md n).Sound PP := Az (fn := Tryz.f177) (D := B6s _ n) ⟨Akh n, A90 n, A90 n, trivial⟩ 

def f176 (n : Nat) (a0 a1 : Rq) : Option Rq :=
 ob (f178 n a0.2.1 a1.2.1) fun r_1 =>
 ob (f178 n a0.2.2 a1.2.2) fun r_2 =>
 ob (f177 n (!(a0.1 == a1.1)) r_1 r_2) fun r_3 =>
 some r_3
def Gk (n : Nat) : Ent := ⟨176, [hR, hR], [hR], fun x => f176 n x.1 x.2⟩
def B6t (α : Type) (n : Nat) : D3 α := { reg := [(1, ⟨15, [], [(9, { ent := some (Gj n) }), (14, { ent := some (Gj n) }), (15, { ent := some (Md n) })]⟩)], join := [], loop := [] }
theorem Pm (n : Nat) : (Gk n).Sound PP := Az (fn := Tryz.f176) (D := B6t _ n) ⟨Fy n, Fy n, La n, trivial⟩ 

def A2e {α : Type} (n : Nat) (s0 s1 : LI) (s6 s7 : Int) (b8 : LI) (f : LI → LI → Int → Int → LI → Option α) (k0 : LI → Option α) : Option α :=
 let J_5 := fun (_ : Unit) => (
  let J_4 := fun (y_1 : Int) => (
   let J_3 := fun (y_2 : Int) => (
    gd (decide ((b8.length + 1) * 8 ≤ 140737488355328)) (
     f s0 s1 (W (Int.tdiv y_2 10000)) (W (s7 + 1)) (b8 ++ [(Int.tmod y_2 10000)])))
   bif (decide (s7 < (s1.length : Int))) then
    gd (decide (0 ≤ s7) && decide (s7 < (s1.length : Int))) (
     J_3 (W (y_1 + (s1.getD s7.toNat 0))))
   else
    J_3 y_1)
  bif (decide (s7 < (s0.length : Int))) then
   gd (decide (0 ≤ s7) && decide (s7 < (s0.length : Int))) (
    J_4 (W (s6 + (s0.getD s7.toNat 0))))
  else
   J_4 s6)
 bif (decide (s7 < (s0.length : Int))) then
  J_5 ()
 else
  bif (decide (s7 < (s1.length : Int))) then
   J_5 ()
  else
   bif (decide (s6 > 0)) then
    J_5 ()
   else
    k0 b8
abbrev Rw : Tm := ⟨[(0, .d hIs), (1, .d hIs), (5, .k (.hw 8)), (6, .d hI), (7, .d hI)], [(8, .arr 3 hI false)], [48], []⟩
abbrev Atc : Tm := ⟨[(5, .k (.hw 8))], [(8, .arr 3 hI false)], [], []⟩
abbrev A2d : List (Exit × Tm) := [(.exit 0, Atc)]
def A2c {α : Type} (n : Nat) (v : Rw.den) (f : Rw.den → Option α) (ks : KS α A2d) : Option α := A2e n v.1.1 v.1.2.1 v.1.2.2.2.1 v.1.2.2.2.2.1 v.2.1 (fun s0 s1 s6 s7 b8 => f ((s0, s1, (), s6, s7, ()), (b8, ()))) (fun w0 => ks.1 (((), ()), (w0, ())))
def Pj {α : Type} (n m : Nat) (s0 s1 : LI) (s6 s7 : Int) (b8 : LI) (k0 : LI → Option α) : Option α := A4 (A2c n) m ((s0, s1, (), s6, s7, ()), (b8, ())) (fun w => k0 w.2.1, ())
theorem Atb {α n m s0 s1 s6 s7 b8 k0} : Pj (α := α) n (m + 1) s0 s1 s6 s7 b8 k0 = A2e n s0 s1 s6 s7 b8 (fun s0 s1 s6 s7 b8 => Pj n m s0 s1 s6 s7 b8 k0) k0 := rfl
abbrev B2k : Tm := ⟨[(0, .d hIs), (1, .d hIs), (5, .k (.hw 8)), (6, .d hI), (7, .d hI)], [(8, .arr 3 hI false)], [], []⟩
abbrev B2j : Tm := ⟨[(0, .d hIs), (1, .d hIs), (5, .k (.hw 8)), (6, .d hI), (7, .d hI)], [(8, .arr 3 hI false)], [], []⟩
abbrev Az7 : Tm := ⟨[(0, .d hIs), (1, .d hIs), (5, .k (.hw 8)), (6, .d hI), (7, .d hI)], [(8, .arr 3 hI false)], [], []⟩
def f186 (n : Nat) (a0 a1 : LI) : Option LI :=
 Pj n n a0 a1 0 0 []
  (fun z_6 => (
   some z_6))
def Atd (n : Nat) : Ent := ⟨186, [hIs, hIs], [hIs], fun x => f186 n x.1 x.2⟩
def Afy (α : Type) (n : Nat) : D3 α := { reg := [(1, ⟨0, [], [(0, { sh := some hI })]⟩), (10, ⟨0, [], [(3, { sh := some hI })]⟩)], join := [(6, B2k), (8, B2j), (10, Az7)], loop := [(4, ⟨Rw, A2d, A4 (A2c n) n⟩)] }
theorem Abb (α : Type) (n : Nat) : Al PP (Ad (Afy α n).reg) := trivial
theorem Anh (α : Type) (n : Nat) : LO.Sound (α := α) PP ⟨53, []⟩ ⟨Rw, A2d, A4 (A2c n) n⟩ (.loop ((A2 Tryz.f186).at [1, 1, 1, 0, 1, 0, 0])) := Bm (D := Afy α n) (Abb α n) n
theorem B6k (α : Type) (n : Nat) : D3.OK PP TT ⟨53, []⟩ (Afy α n) (A2 Tryz.f186) :=
 D3.OK.mk3 (Abb α n) (show Aa (A2 Tryz.f186) = [(4, (.loop ((A2 Tryz.f186).at [1, 1, 1, 0, 1, 0, 0])))] by kernel_rfl) ⟨A8 rfl (Anh α n), trivial⟩
theorem B2h (n : Nat) : (Atd n).Sound PP := fk (fn := Tryz.f186) (B6k _ n) 

def f146 (n : Nat) (a0 a1 : Rq) : Option Rq :=
 ob (f178 n a0.2.1 a1.2.2) fun r_1 =>
 ob (f178 n a1.2.1 a0.2.2) fun r_2 =>
 ob (f178 n a0.2.2 a1.2.2) fun r_3 =>
 bif (a0.1 == a1.1) then
  ob (f186 n r_1 r_2) fun r_4 =>
  ob (f177 n a0.1 r_4 r_3) fun r_5 =>
  some r_5
 else
  ob (f187 n r_1 r_2) fun r_6 =>
  bif (decide (r_6 ≥ 0)) then
   ob (f188 n r_1 r_2) fun r_7 =>
   ob (f177 n a0.1 r_7 r_3) fun r_8 =>
   some r_8
  else
   ob (f188 n r_2 r_1) fun r_9 =>
   ob (f177 n a1.1 r_9 r_3) fun r_10 =>
   some r_10
def Dz (n : Nat) : Ent := ⟨146, [hR, hR], [hR], fun x => f146 n x.1 x.2⟩
def B76 (α : Type) (n : Nat) : D3 α := { reg := [(1, ⟨0, [], [(4, { ent := some (Gj n) })]⟩), (2, ⟨0, [], [(4, { ent := some (Gj n) })]⟩), (3, ⟨0, [], [(4, { ent := some (Gj n) })]⟩), (5, ⟨6, [], [(4, { ent := some (Atd n) }), (6, { ent := some (Md n) })]⟩), (6, ⟨0, [], [(2, { ent := some (Wh n) })]⟩), (7, ⟨6, [], [(4, { ent := some (A60 n) }), (6, { ent := some (Md n) })]⟩), (8, ⟨6, [], [(4, { ent := some (A60 n) }), (6, { ent := some (Md n) })]⟩)], join := [], loop := [] }
theorem Z4 (n : Nat) : (Dz n).Sound PP := Az (fn := Tryz.f146) (D := B76 _ n) ⟨Fy n, Fy n, Fy n, B2h n, La n, Yv n, A91 n, La n, A91 n, La n, trivial⟩ 

def Sx {α : Type} (n : Nat) (s0 s1 : LR) (s6 : Int) (c4_0 c5_0 : Bool) (c5_1 c5_2 : LI) (f : LR → LR → Int → Bool → Bool → LI → LI → Option α) (k0 : Bool → Bool → LI → LI → Option α) : Option α :=
 bif (decide (s6 < (s0.length : Int))) then
  gd (decide (0 ≤ s6) && decide (s6 < (s0.length : Int))) (
   let x_2 := s0.getD s6.toNat (false, [], [])
   gd (decide (0 ≤ s6) && decide (s6 < (s1.length : Int))) (
    let x_3 := s1.getD s6.toNat (false, [], [])
    ob (f176 n x_2 x_3) fun r_4 =>
    ob (f146 n (c5_0, c5_1, c5_2) r_4) fun r_5 =>
    f s0 s1 (W (s6 + 1)) c4_0 r_5.1 r_5.2.1 r_5.2.2))
 else
  k0 c4_0 c5_0 c5_1 c5_2
abbrev Sw : Tm := ⟨[(0, .d hRs), (1, .d hRs), (4, .k (.hp 4 0 0)), (5, .k (.hp 5 0 0)), (6, .d hI)], [(4, .var 30 true false [.d .bool, .d .nil, .d .nil]), (5, .var 30 true false [.d .bool, .d hIs, .d hIs])], [], []⟩
abbrev Av3 : Tm := ⟨[(4, .k (.hp 4 0 0)), (5, .k (.hp 5 0 0))], [(4, .var 30 true false [.d .bool, .d .nil, .d .nil]), (5, .var 30 true false [.d .bool, .d hIs, .d hIs])], [], []⟩
abbrev A3q : List (Exit × Tm) := [(.exit 0, Av3)]
def A3p {α : Type} (n : Nat) (v : Sw.den) (f : Sw.den → Option α) (ks : KS α A3q) : Option α := Sx n v.1.1 v.1.2.1 v.1.2.2.2.2.1 v.2.1.1 v.2.2.1.1 v.2.2.1.2.1 v.2.2.1.2.2.1 (fun s0 s1 s6 c4_0 c5_0 c5_1 c5_2 => f ((s0, s1, (), (), s6, ()), ((c4_0, (), (), ()), (c5_0, c5_1, c5_2, ()), ()))) (fun w0 w1 w2 w3 => ks.1 (((), (), ()), ((w0, (), (), ()), (w1, w2, w3, ()), ())))
def Jd {α : Type} (n m : Nat) (s0 s1 : LR) (s6 : Int) (c4_0 c5_0 : Bool) (c5_1 c5_2 : LI) (k0 : Bool → Bool → LI → LI → Option α) : Option α := A4 (A3p n) m ((s0, s1, (), (), s6, ()), ((c4_0, (), (), ()), (c5_0, c5_1, c5_2, ()), ())) (fun w => k0 w.2.1.1 w.2.2.1.1 w.2.2.1.2.1 w.2.2.1.2.2.1, ())
theorem Abp {α n m s0 s1 s6 c4_0 c5_0 c5_1 c5_2 k0} : Jd (α := α) n (m + 1) s0 s1 s6 c4_0 c5_0 c5_1 c5_2 k0 = Sx n s0 s1 s6 c4_0 c5_0 c5_1 c5_2 (fun s0 s1 s6 c4_0 c5_0 c5_1 c5_2 => Jd n m s0 s1 s6 c4_0 c5_0 c5_1 c5_2 k0) k0 := rfl
def f120 (n : Nat) (a0 a1 : LR) : Option Rq :=
 ob (f106 n 0) fun r_1 =>
 Jd n n a0 a1 0 false r_1.1 r_1.2.1 r_1.2.2
  (fun z_6 z_7 z_8 z_9 => (
   some (z_7, z_8, z_9)))
def Dc (n : Nat) : Ent := ⟨120, [hRs, hRs], [hR], fun x => f120 n x.1 x.2⟩
def Agm (α : Type) (n : Nat) : D3 α := { reg := [(1, ⟨0, [], [(0, { ent := some (E6 n) })]⟩), (5, ⟨10, [], [(9, { ent := some (Gk n) }), (10, { ent := some (Dz n) })]⟩)], join := [], loop := [(3, ⟨Sw, A3q, A4 (A3p n) n⟩)] }
theorem Abo (α : Type) (n : Nat) : Al PP (Ad (Agm α n).reg) := ⟨Hi n, Pm n, Z4 n, trivial⟩
theorem Aof (α : Type) (n : Nat) : LO.Sound (α := α) PP ⟨26, []⟩ ⟨Sw, A3q, A4 (A3p n) n⟩ (.loop ((A2 Tryz.f120).at [1, 1, 0, 1, 0, 0])) := Bm (D := Agm α n) (Abo α n) n
theorem B7r (α : Type) (n : Nat) : D3.OK PP TT ⟨26, []⟩ (Agm α n) (A2 Tryz.f120) :=
 D3.OK.mk3 (Abo α n) (show Aa (A2 Tryz.f120) = [(3, (.loop ((A2 Tryz.f120).at [1, 1, 0, 1, 0, 0])))] by kernel_rfl) ⟨A8 rfl (Aof α n), trivial⟩
theorem Py (n : Nat) : (Dc n).Sound PP := fk (fn := Tryz.f120) (B7r _ n) 

def A12 {α : Type} (n : Nat) (s1 : Int) (s5 : LR) (s7 s8 : Int) (b12 : LR) (c1000_0 : LI) (c1000_1 c1000_2 : Int) (f : Int → LR → Int → Int → LR → LI → Int → Int → Option α) (k0 : Int → LR → Int → LR → LI → Int → Int → Option α) : Option α :=
 bif (decide (s8 < s1)) then
  gd (decide (0 ≤ (W (s7 * s1))) && decide ((W (s7 * s1)) ≤ (W ((W (s7 + 1)) * s1))) && decide ((W ((W (s7 + 1)) * s1)) ≤ (s5.length : Int))) (
   gd (decide (0 ≤ (W (s8 * s1))) && decide ((W (s8 * s1)) ≤ (W ((W (s8 + 1)) * s1))) && decide ((W ((W (s8 + 1)) * s1)) ≤ (s5.length : Int))) (
    ob (f120 n ((s5.drop ((W (s7 * s1)).toNat)).take ((W ((W (s7 + 1)) * s1)).toNat - (W (s7 * s1)).toNat)) ((s5.drop ((W (s8 * s1)).toNat)).take ((W ((W (s8 + 1)) * s1)).toNat - (W (s8 * s1)).toNat))) fun r_2 =>
    ob (f147 n (s7 == s8)) fun r_3 =>
    ob (f106 n r_3) fun r_4 =>
    ob (f146 n r_2 r_4) fun r_5 =>
    gd (decide ((b12.length + 1) * 56 ≤ 140737488355328)) (
     f s1 s5 s7 (W (s8 + 1)) (b12 ++ [r_5]) c1000_0 c1000_1 c1000_2)))
 else
  k0 s1 s5 s7 b12 c1000_0 c1000_1 c1000_2
abbrev Qu : Tm := ⟨[(1, .d hI), (5, .d hRs), (6, .k (.hw 12)), (7, .d hI), (8, .d hI)], [(12, .arr 30 hR false), (1000, .var 125 true false [.d (.sl (.int .u8)), .d hI, .d hI])], [49], []⟩
abbrev Arg : Tm := ⟨[(1, .d hI), (5, .d hRs), (6, .k (.hw 12)), (7, .d hI)], [(12, .arr 30 hR false), (1000, .var 125 true false [.d (.sl (.int .u8)), .d hI, .d hI])], [], []⟩
abbrev A11 : List (Exit × Tm) := [(.exit 2, Arg)]
def A10 {α : Type} (n : Nat) (v : Qu.den) (f : Qu.den → Option α) (ks : KS α A11) : Option α := A12 n v.1.1 v.1.2.1 v.1.2.2.2.1 v.1.2.2.2.2.1 v.2.1 v.2.2.1.1 v.2.2.1.2.1 v.2.2.1.2.2.1 (fun s1 s5 s7 s8 b12 c1000_0 c1000_1 c1000_2 => f ((s1, s5, (), s7, s8, ()), (b12, (c1000_0, c1000_1, c1000_2, ()), ()))) (fun w0 w1 w2 w3 w4 w5 w6 => ks.1 ((w0, w1, (), w2, ()), (w3, (w4, w5, w6, ()), ())))
def Y9 {α : Type} (n m : Nat) (s1 : Int) (s5 : LR) (s7 s8 : Int) (b12 : LR) (c1000_0 : LI) (c1000_1 c1000_2 : Int) (k0 : Int → LR → Int → LR → LI → Int → Int → Option α) : Option α := A4 (A10 n) m ((s1, s5, (), s7, s8, ()), (b12, (c1000_0, c1000_1, c1000_2, ()), ())) (fun w => k0 w.1.1 w.1.2.1 w.1.2.2.2.1 w.2.1 w.2.2.1.1 w.2.2.1.2.1 w.2.2.1.2.2.1, ())
theorem Are {α n m s1 s5 s7 s8 b12 c1000_0 c1000_1 c1000_2 k0} : Y9 (α := α) n (m + 1) s1 s5 s7 s8 b12 c1000_0 c1000_1 c1000_2 k0 = A12 n s1 s5 s7 s8 b12 c1000_0 c1000_1 c1000_2 (fun s1 s5 s7 s8 b12 c1000_0 c1000_1 c1000_2 => Y9 n m s1 s5 s7 s8 b12 c1000_0 c1000_1 c1000_2 k0) k0 := rfl
def A15 {α : Type} (n : Nat) (s1 : Int) (s5 : LR) (s7 : Int) (b12 : LR) (c1000_0 : LI) (c1000_1 c1000_2 : Int) (f : Int → LR → Int → LR → LI → Int → Int → Option α) (k0 : LR → LI → Int → Int → Option α) : Option α :=
 bif (decide (s7 < s1)) then
  Y9 n n s1 s5 s7 0 b12 c1000_0 c1000_1 c1000_2
   (fun z_2 z_3 z_4 z_5 z_6 z_7 z_8 => (
    f z_2 z_3 (W (z_4 + 1)) z_5 z_6 z_7 z_8))
 else
  k0 b12 c1000_0 c1000_1 c1000_2
abbrev Qv : Tm := ⟨[(1, .d hI), (5, .d hRs), (6, .k (.hw 12)), (7, .d hI)], [(12, .arr 30 hR false), (1000, .var 125 true false [.d (.sl (.int .u8)), .d hI, .d hI])], [], []⟩
abbrev Arj : Tm := ⟨[(6, .k (.hw 12))], [(12, .arr 30 hR false), (1000, .var 125 true false [.d (.sl (.int .u8)), .d hI, .d hI])], [], []⟩
abbrev A14 : List (Exit × Tm) := [(.exit 0, Arj)]
def A13 {α : Type} (n : Nat) (v : Qv.den) (f : Qv.den → Option α) (ks : KS α A14) : Option α := A15 n v.1.1 v.1.2.1 v.1.2.2.2.1 v.2.1 v.2.2.1.1 v.2.2.1.2.1 v.2.2.1.2.2.1 (fun s1 s5 s7 b12 c1000_0 c1000_1 c1000_2 => f ((s1, s5, (), s7, ()), (b12, (c1000_0, c1000_1, c1000_2, ()), ()))) (fun w0 w1 w2 w3 => ks.1 (((), ()), (w0, (w1, w2, w3, ()), ())))
def P7 {α : Type} (n m : Nat) (s1 : Int) (s5 : LR) (s7 : Int) (b12 : LR) (c1000_0 : LI) (c1000_1 c1000_2 : Int) (k0 : LR → LI → Int → Int → Option α) : Option α := A4 (A13 n) m ((s1, s5, (), s7, ()), (b12, (c1000_0, c1000_1, c1000_2, ()), ())) (fun w => k0 w.2.1 w.2.2.1.1 w.2.2.1.2.1 w.2.2.1.2.2.1, ())
theorem Arh {α n m s1 s5 s7 b12 c1000_0 c1000_1 c1000_2 k0} : P7 (α := α) n (m + 1) s1 s5 s7 b12 c1000_0 c1000_1 c1000_2 k0 = A15 n s1 s5 s7 b12 c1000_0 c1000_1 c1000_2 (fun s1 s5 s7 b12 c1000_0 c1000_1 c1000_2 => P7 n m s1 s5 s7 b12 c1000_0 c1000_1 c1000_2 k0) k0 := rfl
abbrev Ak7 : Tm := ⟨[(1, .d hI), (5, .d hRs), (6, .k (.hw 12)), (7, .d hI), (8, .d hI)], [(12, .arr 30 hR false), (1000, .var 125 true false [.d (.sl (.int .u8)), .d hI, .d hI])], [], []⟩
def Ay6 (n : Nat) (a0 : LI × Int × Int) (a1 : Int) : Option (LR × (LI × Int × Int)) :=
 ob (Afl n a0 a1) fun r_1 =>
 P7 n n a1 r_1.1 0 [] r_1.2.1 r_1.2.2.1 r_1.2.2.2
  (fun z_9 z_10 z_11 z_12 => (
   some (z_9, (z_10, z_11, z_12))))
def Ark (n : Nat) : Ent3 := ⟨78, [.one (.ptr 125 (.st (.pair (.sl (.int .u8)) (.pair hI hI)))), .im hI], [[.im hRs]], fun x => Ay6 n x.1 x.2⟩
def A5g (α : Type) (n : Nat) : D3 α := { reg := [(1, ⟨0, [], [(2, { entB := some (Afj n), hb := 310 })]⟩), (2, ⟨0, [], [(0, { sh := some hR })]⟩), (9, ⟨0, [], [(19, { ent := some (Dc n) }), (23, { ent := some (I8 n) }), (24, { ent := some (E6 n) }), (25, { ent := some (Dz n) }), (26, { sh := some hR })]⟩)], join := [], loop := [(7, ⟨Qu, A11, A4 (A10 n) n⟩), (4, ⟨Qv, A14, A4 (A13 n) n⟩)], any := [(9, Ak7)] }
set_option maxHeartbeats 8000000 in
theorem B23 (n : Nat) : Cj TT ⟨52, []⟩ [(19, { ent := some (Dc n) }), (23, { ent := some (I8 n) }), (24, { ent := some (E6 n) }), (25, { ent := some (Dz n) }), (26, { sh := some hR })] Ak7 (Ak ((A2 Tryz.f78).at [1, 1, 1, 0, 1, 0, 0, 1, 0, 0, 1, 0, 0, 1, 0, 0])) := by
 refine ⟨by kernel_rfl, fun w q hq => ?_⟩
 have e : WT [(19, { ent := some (Dc n) }), (23, { ent := some (I8 n) }), (24, { ent := some (E6 n) }), (25, { ent := some (Dz n) }), (26, { sh := some hR })] (Ab (Ak ((A2 Tryz.f78).at [1, 1, 1, 0, 1, 0, 0, 1, 0, 0, 1, 0, 0, 1, 0, 0])).toList) q = (∃ (y0 : HL (Dc n).rs) (q0 : List (Nat × RV)), q = (19, .sv (C2 (Dc n).rs y0)) :: q0 ∧ ∃ (y1 : HL (I8 n).rs) (q1 : List (Nat × RV)), q0 = (23, .sv (C2 (I8 n).rs y1)) :: q1 ∧ ∃ (y2 : HL (E6 n).rs) (q2 : List (Nat × RV)), q1 = (24, .sv (C2 (E6 n).rs y2)) :: q2 ∧ ∃ (y3 : HL (Dz n).rs) (q3 : List (Nat × RV)), q2 = (25, .sv (C2 (Dz n).rs y3)) :: q3 ∧ q3 = []) := by kernel_rfl
 rw [e] at hq
 obtain ⟨y0, q0, rfl, y1, q1, rfl, y2, q2, rfl, y3, q3, rfl, rfl⟩ := hq
 all_goals exact .inr ⟨27, by kernel_rfl, by kernel_rfl, by kernel_rfl⟩
theorem Vo (α : Type) (n : Nat) : Al PP (Ad (A5g α n).reg) := ⟨Akc n, Py n, Z3 n, Hi n, Z4 n, trivial⟩
theorem Arf (α : Type) (n : Nat) : D3.OK PP TT ⟨52, []⟩ (A5g α n) ((A2 Tryz.f78).at [1, 1, 1, 0, 1, 0, 0, 1, 0, 0, 1, 0, 0]) :=
 D3.OK.mk3a (Vo α n) (show Aa ((A2 Tryz.f78).at [1, 1, 1, 0, 1, 0, 0, 1, 0, 0, 1, 0, 0]) = [] by kernel_rfl) trivial (show B1 ((A2 Tryz.f78).at [1, 1, 1, 0, 1, 0, 0, 1, 0, 0, 1, 0, 0]) = [(9, Ak ((A2 Tryz.f78).at [1, 1, 1, 0, 1, 0, 0, 1, 0, 0, 1, 0, 0, 1, 0, 0]))] by kernel_rfl) ⟨fun X h => (by cases h; exact B23 n), trivial⟩
theorem Ama (α : Type) (n : Nat) : LO.Sound (α := α) PP ⟨52, []⟩ ⟨Qu, A11, A4 (A10 n) n⟩ (.loop ((A2 Tryz.f78).at [1, 1, 1, 0, 1, 0, 0, 1, 0, 0, 1, 0, 0])) := lk (Arf α n) n
theorem Ari (α : Type) (n : Nat) : D3.OK PP TT ⟨52, []⟩ (A5g α n) ((A2 Tryz.f78).at [1, 1, 1, 0, 1, 0, 0]) :=
 D3.OK.mk3a (Vo α n) (show Aa ((A2 Tryz.f78).at [1, 1, 1, 0, 1, 0, 0]) = [(7, (.loop ((A2 Tryz.f78).at [1, 1, 1, 0, 1, 0, 0, 1, 0, 0, 1, 0, 0])))] by kernel_rfl) ⟨A8 rfl (Ama α n), trivial⟩ (show B1 ((A2 Tryz.f78).at [1, 1, 1, 0, 1, 0, 0]) = [] by kernel_rfl) trivial
theorem Amb (α : Type) (n : Nat) : LO.Sound (α := α) PP ⟨52, []⟩ ⟨Qv, A14, A4 (A13 n) n⟩ (.loop ((A2 Tryz.f78).at [1, 1, 1, 0, 1, 0, 0])) := lk (Ari α n) n
theorem B5o (α : Type) (n : Nat) : D3.OK PP TT ⟨52, []⟩ (A5g α n) (A2 Tryz.f78) :=
 D3.OK.mk3a (Vo α n) (show Aa (A2 Tryz.f78) = [(4, (.loop ((A2 Tryz.f78).at [1, 1, 1, 0, 1, 0, 0])))] by kernel_rfl) ⟨A8 rfl (Amb α n), trivial⟩ (show B1 (A2 Tryz.f78) = [] by kernel_rfl) trivial
theorem B22 (n : Nat) : (Ark n).Sound PP := fkB (fn := Tryz.f78) (B5o _ n) 

def f25 (n : Nat) (a0 : LI) (a1 : Int) : Option LR :=
 ob (A1t n a0) fun r_1 =>
 ob (Ay6 n r_1 a1) fun r_2 =>
 some r_2.1
def B13 (n : Nat) : Ent := ⟨25, [(.sl (.int .u8)), hI], [hRs], fun x => f25 n x.1 x.2⟩
def B9w (α : Type) (n : Nat) : D3 α := { reg := [(1, ⟨0, [], [(1, { entB := some (A5v n), hb := 310 }), (3, { entB := some (Ark n), hb := 320 })]⟩)], join := [], loop := [] }
theorem B68 (n : Nat) : (B13 n).Sound PP := Az (fn := Tryz.f25) (D := B9w _ n) ⟨A8v n, B22 n, trivial⟩ 

def f65 (n : Nat) (a0 a1 a2 : Int) : Option Bool :=
 bif (decide (a1 ≤ a0)) then
  some (decide (a0 ≤ a2))
 else
  some false
def R5 (n : Nat) : Ent := ⟨65, [hI, hI, hI], [.bool], fun x => f65 n x.1 x.2.1 x.2.2⟩
def B9l (α : Type) (n : Nat) : D3 α := { reg := [], join := [], loop := [] }
theorem Pb (n : Nat) : (R5 n).Sound PP := Az (fn := Tryz.f65) (D := B9l _ n) trivial 

def f174 (n : Nat) (a0 a1 : Int) : Option (Rq × Int) :=
 ob (f65 n a0 (-1000000000) 1000000000) fun r_1 =>
 bif (!r_1) then
  some ((false, [], []), 4)
 else
  ob (f65 n a1 (-1000000000) 1000000000) fun r_2 =>
  bif (!r_2) then
   some ((false, [], []), 4)
  else
   bif (a1 == 0) then
    some ((false, [], []), 9)
   else
    ob (f106 n a0) fun r_3 =>
    ob (f106 n a1) fun r_4 =>
    ob (f177 n (!(r_3.1 == r_4.1)) r_3.2.1 r_4.2.1) fun r_5 =>
    some (r_5, 0)
def Att (n : Nat) : Ent := ⟨174, [hI, hI], [hR, hI], fun x => f174 n x.1 x.2⟩
def B6u (α : Type) (n : Nat) : D3 α := { reg := [(1, ⟨0, [], [(1, { ent := some (R5 n) }), (5, { ent := some (R5 n) })]⟩), (5, ⟨0, [], [(1, { ent := some (E6 n) })]⟩), (6, ⟨0, [], [(1, { ent := some (E6 n) })]⟩), (7, ⟨0, [], [(9, { ent := some (Md n) })]⟩)], join := [], loop := [] }
theorem B2s (n : Nat) : (Att n).Sound PP := Az (fn := Tryz.f174) (D := B6u _ n) ⟨Pb n, Pb n, Hi n, Hi n, La n, trivial⟩ 

def A6q (n : Nat) (a0 : LI × Int × Int) : Option (Rq × (LI × Int × Int)) :=
 ob (Ta n a0 21) fun r_1 =>
 ob (Ta n r_1.2 6) fun r_2 =>
 ob (f174 n (W (r_1.1 - 10)) (W (1 + r_2.1))) fun r_3 =>
 some (r_3.1, r_2.2)
def Akv (n : Nat) : Ent3 := ⟨108, [.one (.ptr 125 (.st (.pair (.sl (.int .u8)) (.pair hI hI))))], [[.im hR]], fun x => A6q n x⟩
def B44 (α : Type) (n : Nat) : D3 α := { reg := [(1, ⟨0, [], [(1, { entB := some (Z8 n), hb := 310 }), (4, { entB := some (Z8 n), hb := 320 }), (6, { ent := some (Att n) })]⟩)], join := [], loop := [] }
theorem Azo (n : Nat) : (Akv n).Sound PP := A7t (fn := Tryz.f108) (D := B44 _ n) ⟨A42 n, A42 n, B2s n, trivial⟩ 

def A1p {α : Type} (n : Nat) (s1 s6 : Int) (b7 : LR) (c1000_0 : LI) (c1000_1 c1000_2 : Int) (f : Int → Int → LR → LI → Int → Int → Option α) (k0 : LR → LI → Int → Int → Option α) : Option α :=
 bif (decide (s6 < s1)) then
  ob (A6q n (c1000_0, c1000_1, c1000_2)) fun r_1 =>
  gd (decide ((b7.length + 1) * 56 ≤ 140737488355328)) (
   f s1 (W (s6 + 1)) (b7 ++ [r_1.1]) r_1.2.1 r_1.2.2.1 r_1.2.2.2)
 else
  k0 b7 c1000_0 c1000_1 c1000_2
abbrev Ra : Tm := ⟨[(0, .k (.hp 1000 0 0)), (1, .d hI), (5, .k (.hw 7)), (6, .d hI)], [(7, .arr 30 hR false), (1000, .var 125 true false [.d (.sl (.int .u8)), .d hI, .d hI])], [16], []⟩
abbrev Asn : Tm := ⟨[(5, .k (.hw 7))], [(7, .arr 30 hR false), (1000, .var 125 true false [.d (.sl (.int .u8)), .d hI, .d hI])], [], []⟩
abbrev A1o : List (Exit × Tm) := [(.exit 0, Asn)]
def A1n {α : Type} (n : Nat) (v : Ra.den) (f : Ra.den → Option α) (ks : KS α A1o) : Option α := A1p n v.1.2.1 v.1.2.2.2.1 v.2.1 v.2.2.1.1 v.2.2.1.2.1 v.2.2.1.2.2.1 (fun s1 s6 b7 c1000_0 c1000_1 c1000_2 => f (((), s1, (), s6, ()), (b7, (c1000_0, c1000_1, c1000_2, ()), ()))) (fun w0 w1 w2 w3 => ks.1 (((), ()), (w0, (w1, w2, w3, ()), ())))
def Pf {α : Type} (n m : Nat) (s1 s6 : Int) (b7 : LR) (c1000_0 : LI) (c1000_1 c1000_2 : Int) (k0 : LR → LI → Int → Int → Option α) : Option α := A4 (A1n n) m (((), s1, (), s6, ()), (b7, (c1000_0, c1000_1, c1000_2, ()), ())) (fun w => k0 w.2.1 w.2.2.1.1 w.2.2.1.2.1 w.2.2.1.2.2.1, ())
theorem Asm {α n m s1 s6 b7 c1000_0 c1000_1 c1000_2 k0} : Pf (α := α) n (m + 1) s1 s6 b7 c1000_0 c1000_1 c1000_2 k0 = A1p n s1 s6 b7 c1000_0 c1000_1 c1000_2 (fun s1 s6 b7 c1000_0 c1000_1 c1000_2 => Pf n m s1 s6 b7 c1000_0 c1000_1 c1000_2 k0) k0 := rfl
def Az1 (n : Nat) (a0 : LI × Int × Int) (a1 : Int) : Option (LR × (LI × Int × Int)) :=
 Pf n n a1 0 [] a0.1 a0.2.1 a0.2.2
  (fun z_2 z_3 z_4 z_5 => (
   some (z_2, (z_3, z_4, z_5))))
def Aso (n : Nat) : Ent3 := ⟨48, [.one (.ptr 125 (.st (.pair (.sl (.int .u8)) (.pair hI hI)))), .im hI], [[.im hRs]], fun x => Az1 n x.1 x.2⟩
def Afi (α : Type) (n : Nat) : D3 α := { reg := [(1, ⟨0, [], [(0, { sh := some hR })]⟩), (5, ⟨0, [], [(2, { entB := some (Akv n), hb := 310 }), (3, { sh := some hR })]⟩)], join := [], loop := [(3, ⟨Ra, A1o, A4 (A1n n) n⟩)] }
theorem Ab1 (α : Type) (n : Nat) : Al PP (Ad (Afi α n).reg) := ⟨Azo n, trivial⟩
theorem An0 (α : Type) (n : Nat) : LO.Sound (α := α) PP ⟨19, []⟩ ⟨Ra, A1o, A4 (A1n n) n⟩ (.loop ((A2 Tryz.f48).at [1, 1, 0, 1, 0, 0])) := Bm (D := Afi α n) (Ab1 α n) n
theorem B62 (α : Type) (n : Nat) : D3.OK PP TT ⟨19, []⟩ (Afi α n) (A2 Tryz.f48) :=
 D3.OK.mk3 (Ab1 α n) (show Aa (A2 Tryz.f48) = [(3, (.loop ((A2 Tryz.f48).at [1, 1, 0, 1, 0, 0])))] by kernel_rfl) ⟨A8 rfl (An0 α n), trivial⟩
theorem B2a (n : Nat) : (Aso n).Sound PP := fkB (fn := Tryz.f48) (B62 _ n) 

def f12 (n : Nat) (a0 : LI) (a1 : Int) : Option LR :=
 ob (A1t n a0) fun r_1 =>
 ob (Az1 n r_1 a1) fun r_2 =>
 some r_2.1
def B16 (n : Nat) : Ent := ⟨12, [(.sl (.int .u8)), hI], [hRs], fun x => f12 n x.1 x.2⟩
def Ba1 (α : Type) (n : Nat) : D3 α := { reg := [(1, ⟨0, [], [(1, { entB := some (A5v n), hb := 310 }), (3, { entB := some (Aso n), hb := 320 })]⟩)], join := [], loop := [] }
theorem B7k (n : Nat) : (B16 n).Sound PP := Az (fn := Tryz.f12) (D := Ba1 _ n) ⟨A8v n, B2a n, trivial⟩ 

def A36 {α : Type} (n : Nat) (s0 : Int) (s7 : LI) (s8 s9 : Int) (f : Int → LI → Int → Int → Option α) (k0 : Int → Option α) (k1 : Unit → Option α) : Option α :=
 bif (decide (s9 < s8)) then
  gd (decide (0 ≤ s9) && decide (s9 < (s7.length : Int))) (
   bif (decide ((s7.getD s9.toNat 0) > s0)) then
    k0 2
   else
    f s0 s7 s8 (W (s9 + 1)))
 else
  k1 ()
abbrev Se : Tm := ⟨[(0, .d hI), (7, .d hIs), (8, .d hI), (9, .d hI)], [], [], []⟩
abbrev Aua : Tm := ⟨[(4, .d hI)], [], [], []⟩
abbrev Au9 : Tm := ⟨[], [], [], []⟩
abbrev A35 : List (Exit × Tm) := [(.ret, Aua), (.exit 0, Au9)]
def A34 {α : Type} (n : Nat) (v : Se.den) (f : Se.den → Option α) (ks : KS α A35) : Option α := A36 n v.1.1 v.1.2.1 v.1.2.2.1 v.1.2.2.2.1 (fun s0 s7 s8 s9 => f ((s0, s7, s8, s9, ()), ())) (fun w0 => ks.1 ((w0, ()), ())) (fun _ => ks.2.1 ((), ()))
def Pq {α : Type} (n m : Nat) (s0 : Int) (s7 : LI) (s8 s9 : Int) (k0 : Int → Option α) (k1 : Unit → Option α) : Option α := A4 (A34 n) m ((s0, s7, s8, s9, ()), ()) (fun w => k0 w.1.1, fun w => k1 (), ())
theorem Au8 {α n m s0 s7 s8 s9 k0 k1} : Pq (α := α) n (m + 1) s0 s7 s8 s9 k0 k1 = A36 n s0 s7 s8 s9 (fun s0 s7 s8 s9 => Pq n m s0 s7 s8 s9 k0 k1) k0 k1 := rfl
def f167 (n : Nat) (a0 : Int) (a1 : LI) : Option Int :=
 Pq n n a0 a1 (a1.length : Int) 0
  (fun z_1 => (
   some z_1))
  (fun (_ : Unit) => (
   some 0))
def Aub (n : Nat) : Ent := ⟨167, [hI, hIs], [hI], fun x => f167 n x.1 x.2⟩
def Agc (α : Type) (n : Nat) : D3 α := { reg := [], join := [], loop := [(2, ⟨Se, A35, A4 (A34 n) n⟩)] }
theorem Abj (α : Type) (n : Nat) : Al PP (Ad (Agc α n).reg) := trivial
theorem Ao2 (α : Type) (n : Nat) : LO.Sound (α := α) PP ⟨17, []⟩ ⟨Se, A35, A4 (A34 n) n⟩ (.loop ((A2 Tryz.f167).at [1, 0, 1, 0, 0])) := Bm (D := Agc α n) (Abj α n) n
theorem B6z (α : Type) (n : Nat) : D3.OK PP TT ⟨17, []⟩ (Agc α n) (A2 Tryz.f167) :=
 D3.OK.mk3 (Abj α n) (show Aa (A2 Tryz.f167) = [(2, (.loop ((A2 Tryz.f167).at [1, 0, 1, 0, 0])))] by kernel_rfl) ⟨A8 rfl (Ao2 α n), trivial⟩
theorem B31 (n : Nat) : (Aub n).Sound PP := fk (fn := Tryz.f167) (B6z _ n) 

def A7x {α : Type} (n : Nat) (s7 : List LR) (s8 s9 : Int) (b6 : LI) (f : (List LR) → Int → Int → LI → Option α) (k0 : LI → Option α) : Option α :=
 bif (decide (s9 < s8)) then
  gd (decide (0 ≤ s9) && decide (s9 < (s7.length : Int))) (
   gd (decide ((b6.length + 1) * 8 ≤ 140737488355328)) (
    f s7 s8 (W (s9 + 1)) (b6 ++ [(((s7.getD s9.toNat []).length : Nat) : Int)])))
 else
  k0 b6
abbrev Y7 : Tm := ⟨[(3, .k (.hw 6)), (7, .d (.sl hRs)), (8, .d hI), (9, .d hI)], [(6, .arr 3 hI false)], [16], []⟩
abbrev Ay2 : Tm := ⟨[(3, .k (.hw 6))], [(6, .arr 3 hI false)], [], []⟩
abbrev A7w : List (Exit × Tm) := [(.exit 0, Ay2)]
def A7v {α : Type} (n : Nat) (v : Y7.den) (f : Y7.den → Option α) (ks : KS α A7w) : Option α := A7x n v.1.2.1 v.1.2.2.1 v.1.2.2.2.1 v.2.1 (fun s7 s8 s9 b6 => f (((), s7, s8, s9, ()), (b6, ()))) (fun w0 => ks.1 (((), ()), (w0, ())))
def Vm {α : Type} (n m : Nat) (s7 : List LR) (s8 s9 : Int) (b6 : LI) (k0 : LI → Option α) : Option α := A4 (A7v n) m (((), s7, s8, s9, ()), (b6, ())) (fun w => k0 w.2.1, ())
theorem Ay1 {α n m s7 s8 s9 b6 k0} : Vm (α := α) n (m + 1) s7 s8 s9 b6 k0 = A7x n s7 s8 s9 b6 (fun s7 s8 s9 b6 => Vm n m s7 s8 s9 b6 k0) k0 := rfl
def f98 (n : Nat) (a0 : List LR) : Option Int :=
 Vm n n a0 (a0.length : Int) 0 []
  (fun z_1 => (
   ob (f167 n 4096 z_1) fun r_2 =>
   some r_2))
def Am5 (n : Nat) : Ent := ⟨98, [(.sl hRs)], [hI], fun x => f98 n x⟩
def Am6 (α : Type) (n : Nat) : D3 α := { reg := [(1, ⟨0, [], [(0, { sh := some hI })]⟩), (5, ⟨0, [], [(3, { sh := some hI })]⟩), (7, ⟨0, [], [(1, { ent := some (Aub n) })]⟩)], join := [], loop := [(3, ⟨Y7, A7w, A4 (A7v n) n⟩)] }
theorem Aey (α : Type) (n : Nat) : Al PP (Ad (Am6 α n).reg) := ⟨B31 n, trivial⟩
theorem Ar7 (α : Type) (n : Nat) : LO.Sound (α := α) PP ⟨21, []⟩ ⟨Y7, A7w, A4 (A7v n) n⟩ (.loop ((A2 Tryz.f98).at [1, 1, 0, 1, 0, 0])) := Bm (D := Am6 α n) (Aey α n) n
theorem B92 (α : Type) (n : Nat) : D3.OK PP TT ⟨21, []⟩ (Am6 α n) (A2 Tryz.f98) :=
 D3.OK.mk3 (Aey α n) (show Aa (A2 Tryz.f98) = [(3, (.loop ((A2 Tryz.f98).at [1, 1, 0, 1, 0, 0])))] by kernel_rfl) ⟨A8 rfl (Ar7 α n), trivial⟩
theorem Ar6 (n : Nat) : (Am5 n).Sound PP := fk (fn := Tryz.f98) (B92 _ n) 

def f70 (n : Nat) (a0 a1 a2 : Int) : Option Bool :=
 bif (decide (a1 ≤ a0)) then
  some (decide (a0 ≤ a2))
 else
  some false
def Ami (n : Nat) : Ent := ⟨70, [hI, hI, hI], [.bool], fun x => f70 n x.1 x.2.1 x.2.2⟩
def B9e (α : Type) (n : Nat) : D3 α := { reg := [], join := [], loop := [] }
theorem Arw (n : Nat) : (Ami n).Sound PP := Az (fn := Tryz.f70) (D := B9e _ n) trivial 

def f211 (n : Nat) (a0 : Int) : Option Bool :=
 bif (decide (a0 < 0)) then
  some true
 else
  some (decide (a0 ≥ 10000))
def Asu (n : Nat) : Ent := ⟨211, [hI], [.bool], fun x => f211 n x⟩
def B6b (α : Type) (n : Nat) : D3 α := { reg := [], join := [], loop := [] }
theorem B2c (n : Nat) : (Asu n).Sound PP := Az (fn := Tryz.f211) (D := B6b _ n) trivial 

def M4 {α : Type} (n : Nat) (s0 : LI) (s7 s8 : Int) (f : LI → Int → Int → Option α) (k0 : Int → Option α) (k1 : Unit → Option α) : Option α :=
 bif (decide (s8 < s7)) then
  gd (decide (0 ≤ s8) && decide (s8 < (s0.length : Int))) (
   ob (f211 n (s0.getD s8.toNat 0)) fun r_1 =>
   bif r_1 then
    k0 s8
   else
    f s0 s7 (W (s8 + 1)))
 else
  k1 ()
abbrev I4 : Tm := ⟨[(0, .d hIs), (1, .d (.fn 211)), (7, .d hI), (8, .d hI)], [], [], []⟩
abbrev Ace : Tm := ⟨[(4, .d hI)], [], [], []⟩
abbrev Acd : Tm := ⟨[], [], [], []⟩
abbrev M3 : List (Exit × Tm) := [(.ret, Ace), (.exit 0, Acd)]
def M2 {α : Type} (n : Nat) (v : I4.den) (f : I4.den → Option α) (ks : KS α M3) : Option α := M4 n v.1.1 v.1.2.2.1 v.1.2.2.2.1 (fun s0 s7 s8 => f ((s0, (), s7, s8, ()), ())) (fun w0 => ks.1 ((w0, ()), ())) (fun _ => ks.2.1 ((), ()))
def Gh {α : Type} (n m : Nat) (s0 : LI) (s7 s8 : Int) (k0 : Int → Option α) (k1 : Unit → Option α) : Option α := A4 (M2 n) m ((s0, (), s7, s8, ()), ()) (fun w => k0 w.1.1, fun w => k1 (), ())
theorem Acc {α n m s0 s7 s8 k0 k1} : Gh (α := α) n (m + 1) s0 s7 s8 k0 k1 = M4 n s0 s7 s8 (fun s0 s7 s8 => Gh n m s0 s7 s8 k0 k1) k0 k1 := rfl
def A1u (n : Nat) (a0 : LI) (a1 : Unit) : Option Int :=
 Gh n n a0 (a0.length : Int) 0
  (fun z_2 => (
   some z_2))
  (fun (_ : Unit) => (
   some (-1)))
def A5w (n : Nat) : Ent := ⟨224, [hIs, (.fn 211)], [hI], fun x => A1u n x.1 x.2⟩
def Rd (α : Type) (n : Nat) : D3 α := { reg := [(4, ⟨0, [], [(5, { ent := some (Asu n) })]⟩)], join := [], loop := [(2, ⟨I4, M3, A4 (M2 n) n⟩)] }
theorem Uc (α : Type) (n : Nat) : Al PP (Ad (Rd α n).reg) := ⟨B2c n, trivial⟩
theorem A8z (α : Type) (n : Nat) : LO.Sound (α := α) PP ⟨19, []⟩ ⟨I4, M3, A4 (M2 n) n⟩ (.loop ((A2 Tryz.f224).at [1, 0, 1, 0, 0])) := Bm (D := Rd α n) (Uc α n) n
theorem An5 (α : Type) (n : Nat) : D3.OK PP TT ⟨19, []⟩ (Rd α n) (A2 Tryz.f224) :=
 D3.OK.mk3 (Uc α n) (show Aa (A2 Tryz.f224) = [(2, (.loop ((A2 Tryz.f224).at [1, 0, 1, 0, 0])))] by kernel_rfl) ⟨A8 rfl (A8z α n), trivial⟩
theorem Aid (n : Nat) : (A5w n).Sound PP := fk (fn := Tryz.f224) (An5 _ n) 

def M5 (n : Nat) (a0 : LI) (a1 : Unit) : Option Bool :=
 ob (A1u n a0 a1) fun r_1 =>
 some (decide (r_1 ≥ 0))
def A5x (n : Nat) : Ent := ⟨210, [hIs, (.fn 211)], [.bool], fun x => M5 n x.1 x.2⟩
def An6 (α : Type) (n : Nat) : D3 α := { reg := [(1, ⟨0, [], [(2, { ent := some (A5w n) })]⟩)], join := [], loop := [] }
theorem Aie (n : Nat) : (A5x n).Sound PP := Az (fn := Tryz.f210) (D := An6 _ n) ⟨Aid n, trivial⟩ 

def f197 (n : Nat) (a0 : LI) : Option Bool :=
 bif (decide ((a0.length : Int) > 40)) then
  some false
 else
  bif (decide ((a0.length : Int) > 0)) then
   gd (decide (0 ≤ (W ((a0.length : Int) - 1))) && decide ((W ((a0.length : Int) - 1)) < (a0.length : Int))) (
    bif ((a0.getD ((W ((a0.length : Int) - 1)).toNat) 0) == 0) then
     some false
    else
     ob (M5 n a0 ()) fun r_1 =>
     some (!r_1))
  else
   ob (M5 n a0 ()) fun r_2 =>
   some (!r_2)
def Afr (n : Nat) : Ent := ⟨197, [hIs], [.bool], fun x => f197 n x⟩
def B6f (α : Type) (n : Nat) : D3 α := { reg := [(4, ⟨0, [], [(1, { ent := some (A5x n) })]⟩)], join := [], loop := [] }
theorem Akf (n : Nat) : (Afr n).Sound PP := Az (fn := Tryz.f197) (D := B6f _ n) ⟨Aie n, trivial⟩ 

def f74 (n : Nat) (a0 : Rq) : Option Bool :=
 some ((a0.2.1.length : Int) == 0)
def Qw (n : Nat) : Ent := ⟨74, [hR], [.bool], fun x => f74 n x⟩
def B9a (α : Type) (n : Nat) : D3 α := { reg := [], join := [], loop := [] }
theorem P8 (n : Nat) : (Qw n).Sound PP := Az (fn := Tryz.f74) (D := B9a _ n) trivial 

def f201 (n : Nat) (a0 : LI) : Option LI :=
 some a0
def Afq (n : Nat) : Ent := ⟨201, [hIs], [(.clo 223 (.ref hIs))], fun x => f201 n x⟩
def B6e (α : Type) (n : Nat) : D3 α := { reg := [(1, ⟨0, [], [(0, { sh := some (.ref hIs) })]⟩)], join := [], loop := [] }
theorem Ake (n : Nat) : (Afq n).Sound PP := Az (fn := Tryz.f201) (D := B6e _ n) trivial 

def A30 {α : Type} (n : Nat) (i : Nat) (z : Int) (s18 : LI) (c3_0 : LI) (c4_0 : Int) (f : LI → LI → Int → Option α) (k0 : Int → Option α) (k1 : Int → Option α) : Option α :=
 gd (decide (0 ≤ (i : Int)) && decide ((i : Int) < (c3_0.length : Int))) (
  bif (z != (c3_0.getD ((i : Int).toNat) 0)) then
   gd (decide (0 ≤ (i : Int)) && decide ((i : Int) < (c3_0.length : Int))) (
    bif (decide (z < (c3_0.getD ((i : Int).toNat) 0))) then
     k1 (-1)
    else
     k1 1)
  else
   f s18 c3_0 c4_0)
abbrev Jb : Tm := ⟨[(3, .k (.hp 3 0 0)), (4, .k (.hp 4 0 0)), (18, .d (.clo 223 (.ref hIs)))], [(3, .var 28 true false [.d hIs]), (4, .var 3 true false [.d hI])], [], []⟩
abbrev Au2 : Tm := ⟨[(4, .k (.hp 4 0 0))], [(4, .var 3 true false [.d hI])], [3], []⟩
abbrev Au1 : Tm := ⟨[(4, .k (.hp 4 0 0))], [(4, .var 3 true false [.d hI])], [3], []⟩
abbrev Sc : List (Exit × Tm) := [(.normal, Au2), (.ret, Au1)]
def Mk (v : Jb.den) : List Int := (fun s18 c3_0 c4_0 => s18) v.1.2.2.1 v.2.1.1 v.2.2.1.1
def Ml {α : Type} (n : Nat) (i : Nat) (z : Int) (v : Jb.den) (f : Jb.den → Option α) (ks : KS α Sc) : Option α := A30 n i z v.1.2.2.1 v.2.1.1 v.2.2.1.1 (fun s18 c3_0 c4_0 => f (((), (), s18, ()), ((c3_0, ()), (c4_0, ()), ()))) (fun w0 => ks.1 (((), ()), ((w0, ()), ()))) (fun w0 => ks.2.1 (((), ()), ((w0, ()), ())))
def Mn {α : Type} (v : Jb.den) (ks : KS α Sc) : Option α := (fun s18 c3_0 c4_0 => ks.1 (((), ()), ((c4_0, ()), ()))) v.1.2.2.1 v.2.1.1 v.2.2.1.1
def Akn {α : Type} (n : Nat) (s18 : LI) (c3_0 : LI) (c4_0 : Int) (k0 : Int → Option α) (k1 : Int → Option α) : Option α := Lr Mk (Ml n) Mn (((), (), s18, ()), ((c3_0, ()), (c4_0, ()), ())) (fun w => k0 w.2.1.1, fun w => k1 w.2.1.1, ())
def Mm {α : Type} (n : Nat) (zs : List Int) (i : Nat) (s18 : LI) (c3_0 : LI) (c4_0 : Int) (k0 : Int → Option α) (k1 : Int → Option α) : Option α := Ls Mk (Ml n) zs i (((), (), s18, ()), ((c3_0, ()), (c4_0, ()), ())) (fun v => Mn v (fun w => k0 w.2.1.1, fun w => k1 w.2.1.1, ())) (fun w => k0 w.2.1.1, fun w => k1 w.2.1.1, ())
theorem Atz {α : Type} (n : Nat) (s18 : LI) (c3_0 : LI) (c4_0 : Int) (k0 : Int → Option α) (k1 : Int → Option α) : Akn (α := α) n s18 c3_0 c4_0 k0 k1 = gd (decide (s18.length ≤ 4611686018427387904)) (Mm n s18 s18.length s18 c3_0 c4_0 k0 k1) := rfl
theorem Au0 {α : Type} (n : Nat) (zs : List Int) (s18 : LI) (c3_0 : LI) (c4_0 : Int) (k0 : Int → Option α) (k1 : Int → Option α) : Mm (α := α) n zs 0 s18 c3_0 c4_0 k0 k1 = k0 c4_0 := rfl
theorem Aty {α : Type} (n : Nat) (zs : List Int) (i : Nat) (s18 : LI) (c3_0 : LI) (c4_0 : Int) (k0 : Int → Option α) (k1 : Int → Option α) : Mm (α := α) n zs (i + 1) s18 c3_0 c4_0 k0 k1 = A30 n i (zs.getD i 0) s18 c3_0 c4_0 (fun s18 c3_0 c4_0 => gd (decide (s18 = zs)) (Mm n zs i s18 c3_0 c4_0 k0 k1)) k0 k1 := rfl
def f170 (n : Nat) (a0 a1 : LI) : Option Int :=
 bif ((a0.length : Int) != (a1.length : Int)) then
  bif (decide ((a0.length : Int) < (a1.length : Int))) then
   some (-1)
  else
   some 1
 else
  ob (f201 n a0) fun r_1 =>
  Akn n r_1 a1 0
   (fun z_2 => (
    some 0))
   (fun z_3 => (
    some z_3))
def Pp (n : Nat) : Ent := ⟨170, [hIs, hIs], [hI], fun x => f170 n x.1 x.2⟩
def A67 (α : Type) (n : Nat) : D3 α := { reg := [(5, ⟨0, [], [(1, { ent := some (Afq n) })]⟩)], join := [], loop := [(6, ⟨Jb, Sc, Lr Mk (Ml n) Mn⟩)] }
theorem Wp (α : Type) (n : Nat) : Al PP (Ad (A67 α n).reg) := ⟨Ake n, trivial⟩
theorem Any (α : Type) (n : Nat) : D3.OK PP TT ⟨33, []⟩ (A67 α n) ((A2 Tryz.f170).at [1, 1, 0, 1, 0, 0]) :=
 D3.OK.mk3 (Wp α n) (show Aa ((A2 Tryz.f170).at [1, 1, 0, 1, 0, 0]) = [] by kernel_rfl) trivial
theorem Anx (α : Type) (n : Nat) : D3.OK PP TT ⟨33, []⟩ (A67 α n) ((A2 Tryz.f170).at [1, 1, 0, 1, 0, 1]) :=
 D3.OK.mk3 (Wp α n) (show Aa ((A2 Tryz.f170).at [1, 1, 0, 1, 0, 1]) = [] by kernel_rfl) trivial
theorem Anw (α : Type) (n : Nat) : LO.Sound (α := α) PP ⟨33, []⟩ ⟨Jb, Sc, Lr Mk (Ml n) Mn⟩ (.rangeFunc (.tmp 18) #[19, 20] ((A2 Tryz.f170).at [1, 1, 0, 1, 0, 0]) ((A2 Tryz.f170).at [1, 1, 0, 1, 0, 1])) :=
 Ae7 (Oq _) Lt Mk (Ml n) Mn Al2 rfl rfl rfl rfl (Any α n) (Anx α n) (by intro v; rfl) (by intro i z v f ks; kernel_rfl) (by intro v ks; kernel_rfl)
theorem B6x (α : Type) (n : Nat) : D3.OK PP TT ⟨33, []⟩ (A67 α n) (A2 Tryz.f170) :=
 D3.OK.mk3 (Wp α n) (show Aa (A2 Tryz.f170) = [(6, (.rangeFunc (.tmp 18) #[19, 20] ((A2 Tryz.f170).at [1, 1, 0, 1, 0, 0]) ((A2 Tryz.f170).at [1, 1, 0, 1, 0, 1])))] by kernel_rfl) ⟨A8 rfl (Anw α n), trivial⟩
theorem Po (n : Nat) : (Pp n).Sound PP := fk (fn := Tryz.f170) (B6x _ n) 

def Ao4 (n : Nat) (a0 : LI) : Option LI :=
 gd ((!a0.isEmpty)) (
  gd (decide ((0 + a0.length) * 8 ≤ 140737488355328)) (
   some a0))
def B37 (n : Nat) : Ent := ⟨145, [hIs], [hIs], fun x => Ao4 n x⟩
def B38 (α : Type) (n : Nat) : D3 α := { reg := [(3, ⟨0, [], [(0, { sh := some hI })]⟩)], join := [], loop := [] }
theorem Azi (n : Nat) : (B37 n).Sound PP := Az (fn := Tryz.f145) (D := B38 _ n) trivial 

set_option maxRecDepth 100000 in
set_option maxHeartbeats 2000000 in
theorem Aw0 (ad : Option Addr) (cap : Nat) (hc : ad = none → cap = 0) (w : World) : Calls Tryz.prog 145 #[.slice ad 0 cap] w fun e w' => (∃ a c, e = .returned (.slice a 0 c) ∧ (a = none → c = 0)) ∧ w.grownBy w' none := by
 refine (callsIn_wide (n := 3)).1 ?_
 refine callsIn_of_wp Tryz.func145 rfl trivial ?_ rfl
 simp only [Tryz.ntmps145, List.size_toArray, List.length_cons, List.length_nil, Nat.reduceAdd, Nat.reduceSub, Array.replicate_succ, Array.replicate_zero, List.push_toArray, List.append_toArray, List.nil_append, List.cons_append]
 have hi : ∃ i, Tryz.prog.info? 3 = some i := ⟨_, rfl⟩
 obtain ⟨i3, hi3⟩ := hi
 have hap : ∀ (base : Option Addr) (sCap : Nat) (a : Option Addr) (cp : Nat) (w : World), (Builtin.append_ #[28, 28] 28 #[.slice base 0 sCap, .slice a 0 cp]).run Tryz.prog w = .ok (.slice base 0 sCap) w := fun base sCap a cp w =>
  Ni w 28 28 3 i3 Tryz.underlying28 hi3 base 0 sCap (Nat.zero_le _) a cp
 cases ad with
 | none =>
  obtain rfl := hc rfl
  have hb : ∀ w, (binOp BinOp.eql 28 (.slice none 0 0) (.slice none 0 0)).run Tryz.prog w = .ok (.bool true) w := fun w => by kernel_rfl
  gi_wp2
  refine bodyPost_ret (results_tmp rfl _ _ _) rfl ?_
  exact ⟨⟨none, 0, rfl, fun _ => rfl⟩, ⟨rfl, rfl, rfl, Nat.le_refl _, fun _ _ _ => rfl⟩⟩
 | some ad =>
  have hb : ∀ w, (binOp BinOp.eql 28 (.slice (some ad) 0 cap) (.slice none 0 0)).run Tryz.prog w = .ok (.bool false) w := fun w => by kernel_rfl
  gi_wp2
  refine bodyPost_ret (results_tmp rfl _ _ _) rfl ?_
  exact ⟨⟨_, 0, rfl, fun _ => rfl⟩, World.grownBy_alloc w _ none⟩
def f145 (n : Nat) (a0 : List Int) : Option (List Int) := bif a0.isEmpty then some [] else Ao4 n a0
def Jz (n : Nat) : Ent := ⟨145, [hIs], [hIs], fun x => f145 n x⟩
theorem Azh (nt : Nat) : Ip Tryz.prog 145 nt [] [] [.one (.i (.sl 0 false 1 []))] (.v (.one (.i (.sl 0 false 1 [])))) nt [] := by
 refine ⟨⟨Tryz.f145, by kernel_rfl, by kernel_rfl, by kernel_rfl⟩, fun w E vs hin hv => ?_⟩
 obtain ⟨hl, hget⟩ := hv
 match vs, hl with
 | [v], _ =>
  have h1 : Rv w E v (.one (.i (.sl 0 false 1 []))) := hget 0 v _ rfl rfl
  cases h1 with
  | one h1 =>
   cases h1 with
   | i h1 =>
    cases h1 with
    | sl _ _ _ _ _ _ _ hne => exact absurd rfl hne
    | nil _ _ cap a _ hn hc =>
     refine (Aw0 a cap hc w).mono ?_
     rintro e w' ⟨⟨a', c', rfl, hc'⟩, hg⟩
     exact ⟨_, E, rfl, .v (.one (.i (.nil 0 1 c' a' false (fun e => by cases e) hc'))), ⟨hg.os, hg.tape, hg.output, hg.size, fun b hb _ => hg.block b hb (by simp)⟩,
      ⟨fun b hb => Nat.lt_of_lt_of_le (hin.wf.alt b hb) hg.size, hin.wf.tag, hin.wf.inj, fun b h hb => by cases hin.odom b h hb⟩, fun _ _ => Iff.rfl, Nat.le_refl _, fun _ _ => rfl, fun t g ht h => absurd (hin.wf.tag t g h).1 (Nat.not_lt.2 ht),
      fun h b hb => (by cases hb), fun h h' b b' g g' z z' hb => (by cases hb), fun h b g z hb => (by cases hb), fun h b hb => (by cases hb), fun g h hg => (by cases hin.odom g h hg)⟩
theorem Jc (n : Nat) : (Jz n).Sound Tryz.prog := by
 intro nt x r h
 cases x with
 | cons z l => exact Azi n nt (z :: l) r h
 | nil =>
  have h : some ([] : List Int) = some r := h
  obtain rfl := Option.some.inj h
  exact Azh nt

def A2h {α : Type} (n : Nat) (s0 : LI) (s3 : Int) (f : LI → Int → Option α) (k0 : LI → Int → Option α) : Option α :=
 bif (decide (s3 > 0)) then
  gd (decide (0 ≤ (W (s3 - 1))) && decide ((W (s3 - 1)) < (s0.length : Int))) (
   bif ((s0.getD ((W (s3 - 1)).toNat) 0) == 0) then
    f s0 (W (s3 - 1))
   else
    k0 s0 s3)
 else
  k0 s0 s3
abbrev Rx : Tm := ⟨[(0, .d hIs), (3, .d hI)], [], [], []⟩
abbrev Atf : Tm := ⟨[(0, .d hIs), (3, .d hI)], [], [], []⟩
abbrev A2g : List (Exit × Tm) := [(.exit 0, Atf)]
def A2f {α : Type} (n : Nat) (v : Rx.den) (f : Rx.den → Option α) (ks : KS α A2g) : Option α := A2h n v.1.1 v.1.2.1 (fun s0 s3 => f ((s0, s3, ()), ())) (fun w0 w1 => ks.1 ((w0, w1, ()), ()))
def Yx {α : Type} (n m : Nat) (s0 : LI) (s3 : Int) (k0 : LI → Int → Option α) : Option α := A4 (A2f n) m ((s0, s3, ()), ()) (fun w => k0 w.1.1 w.1.2.1, ())
theorem Ate {α n m s0 s3 k0} : Yx (α := α) n (m + 1) s0 s3 k0 = A2h n s0 s3 (fun s0 s3 => Yx n m s0 s3 k0) k0 := rfl
def f185 (n : Nat) (a0 : LI) : Option LI :=
 Yx n n a0 (a0.length : Int)
  (fun z_1 z_2 => (
   gd (decide (0 ≤ z_2) && decide (z_2 ≤ (z_1.length : Int))) (
    some ((z_1.drop 0).take (z_2.toNat - 0)))))
def Gi (n : Nat) : Ent := ⟨185, [hIs], [hIs], fun x => f185 n x⟩
def Afz (α : Type) (n : Nat) : D3 α := { reg := [], join := [], loop := [(2, ⟨Rx, A2g, A4 (A2f n) n⟩)] }
theorem Abc (α : Type) (n : Nat) : Al PP (Ad (Afz α n).reg) := trivial
theorem Ani (α : Type) (n : Nat) : LO.Sound (α := α) PP ⟨21, []⟩ ⟨Rx, A2g, A4 (A2f n) n⟩ (.loop ((A2 Tryz.f185).at [1, 1, 0, 0, 0])) := Bm (D := Afz α n) (Abc α n) n
theorem B6l (α : Type) (n : Nat) : D3.OK PP TT ⟨21, []⟩ (Afz α n) (A2 Tryz.f185) :=
 D3.OK.mk3 (Abc α n) (show Aa (A2 Tryz.f185) = [(2, (.loop ((A2 Tryz.f185).at [1, 1, 0, 0, 0])))] by kernel_rfl) ⟨A8 rfl (Ani α n), trivial⟩
theorem Pk (n : Nat) : (Gi n).Sound PP := fk (fn := Tryz.f185) (B6l _ n) 

def A39 {α : Type} (n : Nat) (s0 : Int) (b4 : LI) (f : Int → LI → Option α) (k0 : LI → Option α) : Option α :=
 bif (decide (s0 > 0)) then
  gd (decide ((b4.length + 1) * 8 ≤ 140737488355328)) (
   f (W (Int.tdiv s0 10000)) (b4 ++ [(Int.tmod s0 10000)]))
 else
  k0 b4
abbrev Sf : Tm := ⟨[(0, .d hI), (3, .k (.hw 4))], [(4, .arr 3 hI false)], [12], []⟩
abbrev Auf : Tm := ⟨[(3, .k (.hw 4))], [(4, .arr 3 hI false)], [], []⟩
abbrev A38 : List (Exit × Tm) := [(.exit 0, Auf)]
def A37 {α : Type} (n : Nat) (v : Sf.den) (f : Sf.den → Option α) (ks : KS α A38) : Option α := A39 n v.1.1 v.2.1 (fun s0 b4 => f ((s0, (), ()), (b4, ()))) (fun w0 => ks.1 (((), ()), (w0, ())))
def Z2 {α : Type} (n m : Nat) (s0 : Int) (b4 : LI) (k0 : LI → Option α) : Option α := A4 (A37 n) m ((s0, (), ()), (b4, ())) (fun w => k0 w.2.1, ())
theorem Aue {α n m s0 b4 k0} : Z2 (α := α) n (m + 1) s0 b4 k0 = A39 n s0 b4 (fun s0 b4 => Z2 n m s0 b4 k0) k0 := rfl
def f160 (n : Nat) (a0 : Int) : Option LI :=
 Z2 n n a0 []
  (fun z_1 => (
   some z_1))
def Jy (n : Nat) : Ent := ⟨160, [hI], [hIs], fun x => f160 n x⟩
def Agd (α : Type) (n : Nat) : D3 α := { reg := [(1, ⟨0, [], [(0, { sh := some hI })]⟩), (4, ⟨0, [], [(3, { sh := some hI })]⟩)], join := [], loop := [(2, ⟨Sf, A38, A4 (A37 n) n⟩)] }
theorem Abk (α : Type) (n : Nat) : Al PP (Ad (Agd α n).reg) := trivial
theorem Ao3 (α : Type) (n : Nat) : LO.Sound (α := α) PP ⟨15, []⟩ ⟨Sf, A38, A4 (A37 n) n⟩ (.loop ((A2 Tryz.f160).at [1, 1, 0, 0, 0])) := Bm (D := Agd α n) (Abk α n) n
theorem B73 (α : Type) (n : Nat) : D3.OK PP TT ⟨15, []⟩ (Agd α n) (A2 Tryz.f160) :=
 D3.OK.mk3 (Abk α n) (show Aa (A2 Tryz.f160) = [(2, (.loop ((A2 Tryz.f160).at [1, 1, 0, 0, 0])))] by kernel_rfl) ⟨A8 rfl (Ao3 α n), trivial⟩
theorem A9a (n : Nat) : (Jy n).Sound PP := fk (fn := Tryz.f160) (B73 _ n) 

def A68 (n : Nat) (a0 : LI) : Option LI :=
 gd ((!a0.isEmpty)) (
  gd (decide ((0 + a0.length) * 8 ≤ 140737488355328)) (
   some a0))
def Hf (n : Nat) : Ent3 := ⟨145, [.im hIs], [[.one (.own 3 hI)]], fun x => A68 n x⟩
def B39 (α : Type) (n : Nat) : D3 α := { reg := [(3, ⟨0, [], [(0, { sh := some hI })]⟩)], join := [], loop := [] }
theorem Agf (n : Nat) : (Hf n).Sound PP := A7t (fn := Tryz.f145) (D := B39 _ n) trivial 

def W9 {α : Type} (n : Nat) (s0o s0l : Nat) (s1 : LI) (s5 s7 s8 s50 s51 : Int) (b1000 : LI) (f : Nat → Nat → LI → Int → Int → Int → Int → Int → LI → Option α) (k0 : Nat → Nat → LI → Int → Int → Int → LI → Option α) : Option α :=
 bif (decide (s51 < s50)) then
  gd (decide (0 ≤ s51) && decide (s51 < (s0l : Int))) (
   gd (decide ((s0o + s51.toNat) < b1000.length)) (
    let J_4 := fun (y_1 : Int) => (
     let J_3 := fun (y_2 : Int) => (
      gd (decide (0 ≤ s51) && decide (s51 < (s0l : Int))) (
       gd (decide ((s0o + s51.toNat) < b1000.length)) (
        f s0o s0l s1 s5 s7 y_2 s50 (W (s51 + 1)) (b1000.set (s0o + s51.toNat) (W (y_1 - (W (y_2 * 10000))))))))
     bif (decide (y_1 < 0)) then
      J_3 (W (Int.tdiv (W ((W (y_1 - 10000)) + 1)) 10000))
     else
      J_3 0)
    bif (decide (s51 < s5)) then
     gd (decide (0 ≤ s51) && decide (s51 < (s1.length : Int))) (
      J_4 (W ((W ((b1000.getD (s0o + s51.toNat) 0) + s8)) - (W (s7 * (s1.getD s51.toNat 0))))))
    else
     J_4 (W ((b1000.getD (s0o + s51.toNat) 0) + s8))))
 else
  k0 s0o s0l s1 s5 s7 s8 b1000
abbrev Nr : Tm := ⟨[(0, .hs 1000), (1, .d hIs), (5, .d hI), (7, .d hI), (8, .d hI), (50, .d hI), (51, .d hI)], [(1000, .arr 3 hI false)], [], []⟩
abbrev An8 : Tm := ⟨[(0, .hs 1000), (1, .d hIs), (5, .d hI), (7, .d hI), (8, .d hI)], [(1000, .arr 3 hI false)], [], []⟩
abbrev W8 : List (Exit × Tm) := [(.exit 0, An8)]
def W7 {α : Type} (n : Nat) (v : Nr.den) (f : Nr.den → Option α) (ks : KS α W8) : Option α := W9 n v.1.1.1 v.1.1.2 v.1.2.1 v.1.2.2.1 v.1.2.2.2.1 v.1.2.2.2.2.1 v.1.2.2.2.2.2.1 v.1.2.2.2.2.2.2.1 v.2.1 (fun s0o s0l s1 s5 s7 s8 s50 s51 b1000 => f (((s0o, s0l), s1, s5, s7, s8, s50, s51, ()), (b1000, ()))) (fun w0 w1 w2 w3 w4 w5 w6 => ks.1 (((w0, w1), w2, w3, w4, w5, ()), (w6, ())))
def Fj {α : Type} (n m : Nat) (s0o s0l : Nat) (s1 : LI) (s5 s7 s8 s50 s51 : Int) (b1000 : LI) (k0 : Nat → Nat → LI → Int → Int → Int → LI → Option α) : Option α := A4 (W7 n) m (((s0o, s0l), s1, s5, s7, s8, s50, s51, ()), (b1000, ())) (fun w => k0 w.1.1.1 w.1.1.2 w.1.2.1 w.1.2.2.1 w.1.2.2.2.1 w.1.2.2.2.2.1 w.2.1, ())
theorem An7 {α n m s0o s0l s1 s5 s7 s8 s50 s51 b1000 k0} : Fj (α := α) n (m + 1) s0o s0l s1 s5 s7 s8 s50 s51 b1000 k0 = W9 n s0o s0l s1 s5 s7 s8 s50 s51 b1000 (fun s0o s0l s1 s5 s7 s8 s50 s51 b1000 => Fj n m s0o s0l s1 s5 s7 s8 s50 s51 b1000 k0) k0 := rfl
def Rg {α : Type} (n : Nat) (s0o s0l : Nat) (s1 : LI) (s5 s7 s8 s11 s90 s91 : Int) (b1000 : LI) (f : Nat → Nat → LI → Int → Int → Int → Int → Int → Int → LI → Option α) (k0 : Nat → Nat → LI → Int → Int → Int → Int → LI → Option α) : Option α :=
 bif (decide (s91 < s90)) then
  gd (decide (0 ≤ s91) && decide (s91 < (s0l : Int))) (
   gd (decide ((s0o + s91.toNat) < b1000.length)) (
    let J_13 := fun (y_12 : Int) => (
     gd (decide (0 ≤ s91) && decide (s91 < (s0l : Int))) (
      gd (decide ((s0o + s91.toNat) < b1000.length)) (
       f s0o s0l s1 s5 s7 s8 (W (Int.tdiv y_12 10000)) s90 (W (s91 + 1)) (b1000.set (s0o + s91.toNat) (Int.tmod y_12 10000)))))
    bif (decide (s91 < s5)) then
     gd (decide (0 ≤ s91) && decide (s91 < (s1.length : Int))) (
      J_13 (W ((W ((b1000.getD (s0o + s91.toNat) 0) + s11)) + (s1.getD s91.toNat 0))))
    else
     J_13 (W ((b1000.getD (s0o + s91.toNat) 0) + s11))))
 else
  k0 s0o s0l s1 s5 s7 s8 s11 b1000
abbrev Kn : Tm := ⟨[(0, .hs 1000), (1, .d hIs), (5, .d hI), (7, .d hI), (8, .d hI), (11, .d hI), (90, .d hI), (91, .d hI)], [(1000, .arr 3 hI false)], [], []⟩
abbrev Aih : Tm := ⟨[(0, .hs 1000), (1, .d hIs), (5, .d hI), (7, .d hI), (8, .d hI), (11, .d hI)], [(1000, .arr 3 hI false)], [], []⟩
abbrev Rf : List (Exit × Tm) := [(.exit 4, Aih)]
def Re {α : Type} (n : Nat) (v : Kn.den) (f : Kn.den → Option α) (ks : KS α Rf) : Option α := Rg n v.1.1.1 v.1.1.2 v.1.2.1 v.1.2.2.1 v.1.2.2.2.1 v.1.2.2.2.2.1 v.1.2.2.2.2.2.1 v.1.2.2.2.2.2.2.1 v.1.2.2.2.2.2.2.2.1 v.2.1 (fun s0o s0l s1 s5 s7 s8 s11 s90 s91 b1000 => f (((s0o, s0l), s1, s5, s7, s8, s11, s90, s91, ()), (b1000, ()))) (fun w0 w1 w2 w3 w4 w5 w6 w7 => ks.1 (((w0, w1), w2, w3, w4, w5, w6, ()), (w7, ())))
def Hc {α : Type} (n m : Nat) (s0o s0l : Nat) (s1 : LI) (s5 s7 s8 s11 s90 s91 : Int) (b1000 : LI) (k0 : Nat → Nat → LI → Int → Int → Int → Int → LI → Option α) : Option α := A4 (Re n) m (((s0o, s0l), s1, s5, s7, s8, s11, s90, s91, ()), (b1000, ())) (fun w => k0 w.1.1.1 w.1.1.2 w.1.2.1 w.1.2.2.1 w.1.2.2.2.1 w.1.2.2.2.2.1 w.1.2.2.2.2.2.1 w.2.1, ())
theorem Aig {α n m s0o s0l s1 s5 s7 s8 s11 s90 s91 b1000 k0} : Hc (α := α) n (m + 1) s0o s0l s1 s5 s7 s8 s11 s90 s91 b1000 k0 = Rg n s0o s0l s1 s5 s7 s8 s11 s90 s91 b1000 (fun s0o s0l s1 s5 s7 s8 s11 s90 s91 b1000 => Hc n m s0o s0l s1 s5 s7 s8 s11 s90 s91 b1000 k0) k0 := rfl
def Rk {α : Type} (n : Nat) (s0o s0l : Nat) (s1 : LI) (s5 s7 s8 : Int) (b1000 : LI) (f : Nat → Nat → LI → Int → Int → Int → LI → Option α) (k0 : Int → LI → Option α) : Option α :=
 bif (decide (s8 < 0)) then
  Hc n n s0o s0l s1 s5 (W (s7 - 1)) s8 0 (s0l : Int) 0 b1000
   (fun z_12 z_13 z_14 z_15 z_16 z_17 z_18 z_19 => (
    f z_12 z_13 z_14 z_15 z_16 (W (z_17 + z_18)) z_19))
 else
  k0 s7 b1000
abbrev Ko : Tm := ⟨[(0, .hs 1000), (1, .d hIs), (5, .d hI), (7, .d hI), (8, .d hI)], [(1000, .arr 3 hI false)], [], []⟩
abbrev Aik : Tm := ⟨[(7, .d hI)], [(1000, .arr 3 hI false)], [], []⟩
abbrev Rj : List (Exit × Tm) := [(.exit 2, Aik)]
def Rh {α : Type} (n : Nat) (v : Ko.den) (f : Ko.den → Option α) (ks : KS α Rj) : Option α := Rk n v.1.1.1 v.1.1.2 v.1.2.1 v.1.2.2.1 v.1.2.2.2.1 v.1.2.2.2.2.1 v.2.1 (fun s0o s0l s1 s5 s7 s8 b1000 => f (((s0o, s0l), s1, s5, s7, s8, ()), (b1000, ()))) (fun w0 w1 => ks.1 ((w0, ()), (w1, ())))
def Hd {α : Type} (n m : Nat) (s0o s0l : Nat) (s1 : LI) (s5 s7 s8 : Int) (b1000 : LI) (k0 : Int → LI → Option α) : Option α := A4 (Rh n) m (((s0o, s0l), s1, s5, s7, s8, ()), (b1000, ())) (fun w => k0 w.1.1 w.2.1, ())
theorem Aii {α n m s0o s0l s1 s5 s7 s8 b1000 k0} : Hd (α := α) n (m + 1) s0o s0l s1 s5 s7 s8 b1000 k0 = Rk n s0o s0l s1 s5 s7 s8 b1000 (fun s0o s0l s1 s5 s7 s8 b1000 => Hd n m s0o s0l s1 s5 s7 s8 b1000 k0) k0 := rfl
abbrev Asx : Tm := ⟨[(0, .hs 1000), (1, .d hIs), (5, .d hI), (7, .d hI), (9, .d hI), (10, .d hI), (50, .d hI), (51, .d hI)], [(1000, .arr 3 hI false)], [], []⟩
abbrev Asw : Tm := ⟨[(0, .hs 1000), (1, .d hIs), (5, .d hI), (7, .d hI), (8, .d hI), (9, .d hI), (10, .d hI), (50, .d hI), (51, .d hI)], [(1000, .arr 3 hI false)], [], []⟩
abbrev Asv : Tm := ⟨[(0, .hs 1000), (1, .d hIs), (5, .d hI), (7, .d hI), (8, .d hI), (12, .d hI), (13, .d hI), (90, .d hI), (91, .d hI)], [(1000, .arr 3 hI false)], [], []⟩
def Adc (n : Nat) (a0 : LI × Nat × Nat) (a1 : LI) : Option (Int × LI) :=
 gd (decide (0 ≤ (a1.length : Int)) && decide ((a1.length : Int) < (a0.2.2 : Int))) (
  gd (decide ((a0.2.1 + (a1.length : Int).toNat) < a0.1.length)) (
   gd (decide (0 ≤ (W ((a1.length : Int) - 1))) && decide ((W ((a1.length : Int) - 1)) < (a0.2.2 : Int))) (
    gd (decide ((a0.2.1 + (W ((a1.length : Int) - 1)).toNat) < a0.1.length)) (
     gd (decide (0 ≤ (W ((a1.length : Int) - 2))) && decide ((W ((a1.length : Int) - 2)) < (a0.2.2 : Int))) (
      gd (decide ((a0.2.1 + (W ((a1.length : Int) - 2)).toNat) < a0.1.length)) (
       gd (decide (0 ≤ (W ((a1.length : Int) - 1))) && decide ((W ((a1.length : Int) - 1)) < (a1.length : Int))) (
        gd (decide (0 ≤ (W ((a1.length : Int) - 2))) && decide ((W ((a1.length : Int) - 2)) < (a1.length : Int))) (
         gd (decide ((W ((W ((a1.getD ((W ((a1.length : Int) - 1)).toNat) 0) * 10000)) + (a1.getD ((W ((a1.length : Int) - 2)).toNat) 0))) ≠ 0)) (
          Fj n n a0.2.1 a0.2.2 a1 (a1.length : Int) (min (W (Int.tdiv (W ((W ((W ((W ((a0.1.getD (a0.2.1 + (a1.length : Int).toNat) 0) * 10000)) + (a0.1.getD (a0.2.1 + (W ((a1.length : Int) - 1)).toNat) 0))) * 10000)) + (a0.1.getD (a0.2.1 + (W ((a1.length : Int) - 2)).toNat) 0))) (W ((W ((a1.getD ((W ((a1.length : Int) - 1)).toNat) 0) * 10000)) + (a1.getD ((W ((a1.length : Int) - 2)).toNat) 0))))) 9999) 0 (a0.2.2 : Int) 0 a0.1
           (fun z_5 z_6 z_7 z_8 z_9 z_10 z_11 => (
            Hd n n z_5 z_6 z_7 z_8 z_9 z_10 z_11
             (fun z_20 z_21 => (
              some (z_20, z_21))))))))))))))
def J6 (n : Nat) : Ent3 := ⟨204, [.one (.win 3 hI), .im hIs], [[.im hI]], fun x => Adc n x.1 x.2⟩
def Pg (α : Type) (n : Nat) : D3 α := { reg := [(2, ⟨17, [], []⟩), (3, ⟨13, [], []⟩)], join := [(11, Asx), (14, Asw), (25, Asv)], loop := [(6, ⟨Nr, W8, A4 (W7 n) n⟩), (20, ⟨Kn, Rf, A4 (Re n) n⟩), (16, ⟨Ko, Rj, A4 (Rh n) n⟩)] }
theorem Km (α : Type) (n : Nat) : Al PP (Ad (Pg α n).reg) := trivial
theorem Aif (α : Type) (n : Nat) : LO.Sound (α := α) PP ⟨121, []⟩ ⟨Nr, W8, A4 (W7 n) n⟩ (.loop ((A2 Tryz.f204).at [1, 1, 1, 1, 1, 0, 1, 0, 0])) := Bm (D := Pg α n) (Km α n) n
theorem Afn (α : Type) (n : Nat) : LO.Sound (α := α) PP ⟨121, []⟩ ⟨Kn, Rf, A4 (Re n) n⟩ (.loop ((A2 Tryz.f204).at [1, 1, 1, 1, 1, 1, 0, 0, 0, 1, 0, 1, 1, 0, 1, 0, 0])) := Bm (D := Pg α n) (Km α n) n
theorem Aij (α : Type) (n : Nat) : D3.OK PP TT ⟨121, []⟩ (Pg α n) ((A2 Tryz.f204).at [1, 1, 1, 1, 1, 1, 0, 0, 0]) :=
 D3.OK.mk3 (Km α n) (show Aa ((A2 Tryz.f204).at [1, 1, 1, 1, 1, 1, 0, 0, 0]) = [(20, (.loop ((A2 Tryz.f204).at [1, 1, 1, 1, 1, 1, 0, 0, 0, 1, 0, 1, 1, 0, 1, 0, 0])))] by kernel_rfl) ⟨A8 rfl (Afn α n), trivial⟩
theorem Afo (α : Type) (n : Nat) : LO.Sound (α := α) PP ⟨121, []⟩ ⟨Ko, Rj, A4 (Rh n) n⟩ (.loop ((A2 Tryz.f204).at [1, 1, 1, 1, 1, 1, 0, 0, 0])) := lk (Aij α n) n
theorem B2d (α : Type) (n : Nat) : D3.OK PP TT ⟨121, []⟩ (Pg α n) (A2 Tryz.f204) :=
 D3.OK.mk3 (Km α n) (show Aa (A2 Tryz.f204) = [(6, (.loop ((A2 Tryz.f204).at [1, 1, 1, 1, 1, 0, 1, 0, 0]))), (16, (.loop ((A2 Tryz.f204).at [1, 1, 1, 1, 1, 1, 0, 0, 0])))] by kernel_rfl) ⟨A8 rfl (Aif α n), A8 rfl (Afo α n), trivial⟩
theorem Az5 (n : Nat) : (J6 n).Sound PP := fkB (fn := Tryz.f204) (B2d _ n) 

def A2i {α : Type} (n : Nat) (i : Nat) (z : Int) (s29 : LI) (c3_0 : LI) (c8_0 : Int) (b27 : LI) (f : LI → LI → Int → LI → Option α) (k0 : Int → LI → Option α) : Option α :=
 gd (decide (0 < (c3_0.length : Int))) (
  gd (decide ((c3_0.getD 0 0) ≠ 0)) (
   gd (decide (0 < (c3_0.length : Int))) (
    gd (decide ((c3_0.getD 0 0) ≠ 0)) (
     gd (decide (0 ≤ (i : Int)) && decide ((i : Int) < (b27.length : Int))) (
      gd (decide ((i : Int).toNat < b27.length)) (
       f s29 c3_0 (Int.tmod (W ((W (c8_0 * 10000)) + z)) (c3_0.getD 0 0)) (b27.set ((i : Int).toNat) (W (Int.tdiv (W ((W (c8_0 * 10000)) + z)) (c3_0.getD 0 0))))))))))
abbrev J9 : Tm := ⟨[(3, .k (.hp 3 0 0)), (7, .k (.hp 7 0 0)), (8, .k (.hp 8 0 0)), (29, .d (.clo 223 (.ref hIs)))], [(3, .var 28 true false [.d hIs]), (7, .var 28 false false [.k (.hw 27)]), (8, .var 3 true false [.d hI]), (27, .arr 3 hI false)], [], []⟩
abbrev Atj : Tm := ⟨[(7, .k (.hp 7 0 0)), (8, .k (.hp 8 0 0))], [(7, .var 28 false false [.k (.hw 27)]), (8, .var 3 true false [.d hI]), (27, .arr 3 hI false)], [3], []⟩
abbrev Ry : List (Exit × Tm) := [(.normal, Atj)]
def M7 (v : J9.den) : List Int := (fun s29 c3_0 c8_0 b27 => s29) v.1.2.2.2.1 v.2.1.1 v.2.2.2.1.1 v.2.2.2.2.1
def M8 {α : Type} (n : Nat) (i : Nat) (z : Int) (v : J9.den) (f : J9.den → Option α) (ks : KS α Ry) : Option α := A2i n i z v.1.2.2.2.1 v.2.1.1 v.2.2.2.1.1 v.2.2.2.2.1 (fun s29 c3_0 c8_0 b27 => f (((), (), (), s29, ()), ((c3_0, ()), ((), ()), (c8_0, ()), b27, ()))) (fun w0 w1 => ks.1 (((), (), ()), (((), ()), (w0, ()), w1, ())))
def M9 {α : Type} (v : J9.den) (ks : KS α Ry) : Option α := (fun s29 c3_0 c8_0 b27 => ks.1 (((), (), ()), (((), ()), (c8_0, ()), b27, ()))) v.1.2.2.2.1 v.2.1.1 v.2.2.2.1.1 v.2.2.2.2.1
def Akk {α : Type} (n : Nat) (s29 : LI) (c3_0 : LI) (c8_0 : Int) (b27 : LI) (k0 : Int → LI → Option α) : Option α := Lr M7 (M8 n) M9 (((), (), (), s29, ()), ((c3_0, ()), ((), ()), (c8_0, ()), b27, ())) (fun w => k0 w.2.2.1.1 w.2.2.2.1, ())
def J8 {α : Type} (n : Nat) (zs : List Int) (i : Nat) (s29 : LI) (c3_0 : LI) (c8_0 : Int) (b27 : LI) (k0 : Int → LI → Option α) : Option α := Ls M7 (M8 n) zs i (((), (), (), s29, ()), ((c3_0, ()), ((), ()), (c8_0, ()), b27, ())) (fun v => M9 v (fun w => k0 w.2.2.1.1 w.2.2.2.1, ())) (fun w => k0 w.2.2.1.1 w.2.2.2.1, ())
theorem Ath {α : Type} (n : Nat) (s29 : LI) (c3_0 : LI) (c8_0 : Int) (b27 : LI) (k0 : Int → LI → Option α) : Akk (α := α) n s29 c3_0 c8_0 b27 k0 = gd (decide (s29.length ≤ 4611686018427387904)) (J8 n s29 s29.length s29 c3_0 c8_0 b27 k0) := rfl
theorem Ati {α : Type} (n : Nat) (zs : List Int) (s29 : LI) (c3_0 : LI) (c8_0 : Int) (b27 : LI) (k0 : Int → LI → Option α) : J8 (α := α) n zs 0 s29 c3_0 c8_0 b27 k0 = k0 c8_0 b27 := rfl
theorem Atg {α : Type} (n : Nat) (zs : List Int) (i : Nat) (s29 : LI) (c3_0 : LI) (c8_0 : Int) (b27 : LI) (k0 : Int → LI → Option α) : J8 (α := α) n zs (i + 1) s29 c3_0 c8_0 b27 k0 = A2i n i (zs.getD i 0) s29 c3_0 c8_0 b27 (fun s29 c3_0 c8_0 b27 => gd (decide (s29 = zs)) (J8 n zs i s29 c3_0 c8_0 b27 k0)) k0 := rfl
def Nv {α : Type} (n : Nat) (s6 s13 : Int) (c3_0 b62 b310 : LI) (f : Int → Int → LI → LI → LI → Option α) (k0 : LI → LI → Option α) : Option α :=
 bif (decide (s13 ≥ 0)) then
  gd (decide (0 ≤ s13) && decide (s13 ≤ (W ((W (s13 + s6)) + 1))) && decide ((W ((W (s13 + s6)) + 1)) ≤ (b310.length : Int))) (
   ob (Adc n (b310, s13.toNat, ((W ((W (s13 + s6)) + 1)).toNat - s13.toNat)) c3_0) fun r_9 =>
   gd (Nat.beq r_9.2.length b310.length && true) (
    gd (decide (0 ≤ s13) && decide (s13 < (b62.length : Int))) (
     gd (decide (s13.toNat < b62.length)) (
      f s6 (W (s13 - 1)) c3_0 (b62.set s13.toNat r_9.1) r_9.2))))
 else
  k0 b62 b310
abbrev Nu : Tm := ⟨[(3, .k (.hp 3 0 0)), (6, .d hI), (11, .k (.hw 310)), (12, .k (.hw 62)), (13, .d hI)], [(3, .var 28 true false [.d hIs]), (62, .arr 3 hI false), (310, .arr 3 hI false)], [55], []⟩
abbrev Ann : Tm := ⟨[(11, .k (.hw 310)), (12, .k (.hw 62))], [(62, .arr 3 hI false), (310, .arr 3 hI false)], [3], []⟩
abbrev Wj : List (Exit × Tm) := [(.exit 2, Ann)]
def Wi {α : Type} (n : Nat) (v : Nu.den) (f : Nu.den → Option α) (ks : KS α Wj) : Option α := Nv n v.1.2.1 v.1.2.2.2.2.1 v.2.1.1 v.2.2.1 v.2.2.2.1 (fun s6 s13 c3_0 b62 b310 => f (((), s6, (), (), s13, ()), ((c3_0, ()), b62, b310, ()))) (fun w0 w1 => ks.1 (((), (), ()), (w0, w1, ())))
def Rz {α : Type} (n m : Nat) (s6 s13 : Int) (c3_0 b62 b310 : LI) (k0 : LI → LI → Option α) : Option α := A4 (Wi n) m (((), s6, (), (), s13, ()), ((c3_0, ()), b62, b310, ())) (fun w => k0 w.2.1 w.2.2.1, ())
theorem A61 {α n m s6 s13 c3_0 b62 b310 k0} : Rz (α := α) n (m + 1) s6 s13 c3_0 b62 b310 k0 = Nv n s6 s13 c3_0 b62 b310 (fun s6 s13 c3_0 b62 b310 => Rz n m s6 s13 c3_0 b62 b310 k0) k0 := rfl
abbrev Ag3 : Tm := ⟨[(3, .k (.hp 3 0 0)), (7, .k (.hp 7 0 0)), (8, .k (.hp 8 0 0)), (9, .d hI), (10, .d hI), (29, .d (.clo 223 (.ref hIs))), (30, .d hI), (31, .d hI)], [(3, .var 28 true false [.d hIs]), (7, .var 28 false false [.k (.hw 27)]), (8, .var 3 true false [.d hI]), (27, .arr 3 hI false)], [], []⟩
abbrev Ag2 : Tm := ⟨[(7, .k (.hp 7 0 0)), (8, .k (.hp 8 0 0))], [(7, .var 28 false false [.k (.hw 27)]), (8, .var 3 true false [.d hI]), (27, .arr 3 hI false)], [], []⟩
abbrev Ag1 : Tm := ⟨[(0, .d hIs), (3, .k (.hp 3 0 0)), (6, .d hI)], [(3, .var 28 true false [.d hIs])], [], []⟩
abbrev Ag0 : Tm := ⟨[(3, .k (.hp 3 0 0)), (6, .d hI), (11, .k (.hw 310)), (12, .k (.hw 62)), (13, .d hI)], [(3, .var 28 true false [.d hIs]), (62, .arr 3 hI false), (310, .arr 3 hI false)], [], []⟩
def f184 (n : Nat) (a0 a1 : LI) : Option (LI × LI) :=
 ob (f170 n a0 a1) fun r_1 =>
 bif (decide (r_1 < 0)) then
  ob (f145 n a0) fun r_2 =>
  some ([], r_2)
 else
  bif ((a1.length : Int) == 1) then
   gd (decide (0 ≤ (a0.length : Int)) && decide ((a0.length : Int) ≤ 4611686018427387904) && decide ((8 : Int) * (a0.length : Int) ≤ 281474976710656)) (
    ob (f201 n a0) fun r_3 =>
    Akk n r_3 a1 0 (List.replicate ((a0.length : Int).toNat) 0)
     (fun z_4 z_5 => (
      ob (f185 n z_5) fun r_6 =>
      ob (f160 n z_4) fun r_7 =>
      some (r_6, r_7))))
  else
   ob (A68 n a0) fun r_8 =>
   gd (decide ((r_8.length + 1) * 8 ≤ 140737488355328)) (
    gd (decide (0 ≤ (W ((W ((a0.length : Int) - (a1.length : Int))) + 1))) && decide ((W ((W ((a0.length : Int) - (a1.length : Int))) + 1)) ≤ 4611686018427387904) && decide ((8 : Int) * (W ((W ((a0.length : Int) - (a1.length : Int))) + 1)) ≤ 281474976710656)) (
     Rz n n (a1.length : Int) (W ((a0.length : Int) - (a1.length : Int))) a1 (List.replicate ((W ((W ((a0.length : Int) - (a1.length : Int))) + 1)).toNat) 0) (r_8 ++ [0])
      (fun z_10 z_11 => (
       ob (f185 n z_10) fun r_12 =>
       ob (f185 n z_11) fun r_13 =>
       some (r_12, r_13)))))
def A62 (n : Nat) : Ent := ⟨184, [hIs, hIs], [hIs, hIs], fun x => f184 n x.1 x.2⟩
def Wk (α : Type) (n : Nat) : D3 α := { reg := [(1, ⟨0, [], [(2, { ent := some (Pp n) })]⟩), (2, ⟨0, [], [(0, { sh := some hI }), (2, { ent := some (Jz n) })]⟩), (6, ⟨0, [], [(1, { ent := some (Afq n) })]⟩), (11, ⟨0, [], [(1, { ent := some (Gi n), fz := [(49, hIs)] }), (3, { ent := some (Jy n) })]⟩), (12, ⟨0, [], [(1, { entB := some (Hf n), hb := 310 }), (2, { sh := some hI })]⟩), (16, ⟨0, [], [(10, { entB := some (J6 n), hb := 320 })]⟩), (17, ⟨0, [], [(1, { ent := some (Gi n), fz := [(83, hIs)] }), (3, { ent := some (Gi n), fz := [(85, hIs)] })]⟩)], join := [], loop := [(7, ⟨J9, Ry, Lr M7 (M8 n) M9⟩), (14, ⟨Nu, Wj, A4 (Wi n) n⟩)], any := [(10, Ag3), (11, Ag2), (12, Ag1), (16, Ag0)] }
set_option maxHeartbeats 8000000 in
theorem Azb (n : Nat) : Cj TT ⟨87, []⟩ [] Ag3 (Ak ((A2 Tryz.f184).at [1, 1, 1, 0, 1, 0, 1, 0, 1, 0, 1, 0, 1])) := by
 refine ⟨by kernel_rfl, fun w q hq => ?_⟩
 have e : WT [] (Ab (Ak ((A2 Tryz.f184).at [1, 1, 1, 0, 1, 0, 1, 0, 1, 0, 1, 0, 1])).toList) q = (q = []) := by kernel_rfl
 rw [e] at hq
 obtain rfl := hq
 all_goals exact .inr ⟨14, by kernel_rfl, by kernel_rfl, by kernel_rfl⟩
set_option maxHeartbeats 8000000 in
theorem Aza (n : Nat) : Cj TT ⟨87, []⟩ [(1, { ent := some (Gi n), fz := [(49, hIs)] }), (3, { ent := some (Jy n) })] Ag2 (Ak ((A2 Tryz.f184).at [1, 1, 1, 0, 1, 0, 1, 1, 0])) := by
 refine ⟨by kernel_rfl, fun w q hq => ?_⟩
 have e : WT [(1, { ent := some (Gi n), fz := [(49, hIs)] }), (3, { ent := some (Jy n) })] (Ab (Ak ((A2 Tryz.f184).at [1, 1, 1, 0, 1, 0, 1, 1, 0])).toList) q = (∃ (y0 : HL (Gi n).rs) (q0 : List (Nat × RV)), q = (1, .sv (C2 (Gi n).rs y0)) :: q0 ∧ ∃ (y1 : HL (Jy n).rs) (q1 : List (Nat × RV)), q0 = (3, .sv (C2 (Jy n).rs y1)) :: q1 ∧ q1 = []) := by kernel_rfl
 rw [e] at hq
 obtain ⟨y0, q0, rfl, y1, q1, rfl, rfl⟩ := hq
 all_goals exact .inl (U0.mk (by kernel_rfl))
set_option maxHeartbeats 8000000 in
theorem Az9 (n : Nat) : Cj TT ⟨87, []⟩ [(1, { entB := some (Hf n), hb := 310 }), (2, { sh := some hI })] Ag1 (Ak ((A2 Tryz.f184).at [1, 1, 1, 1, 0])) := by
 refine ⟨by kernel_rfl, fun w q hq => ?_⟩
 have e : WT [(1, { entB := some (Hf n), hb := 310 }), (2, { sh := some hI })] (Ab (Ak ((A2 Tryz.f184).at [1, 1, 1, 1, 0])).toList) q = (∃ (y0 : HF (Af 1000 (Hf n).ts) (Hf n).forms) (q0 : List (Nat × RV)), q = (1, .bx (Hf n) y0) :: q0 ∧ q0 = []) := by kernel_rfl
 rw [e] at hq
 obtain ⟨y0, q0, rfl, rfl⟩ := hq
 all_goals exact .inl (U0.mk (by kernel_rfl))
set_option maxHeartbeats 8000000 in
theorem Az8 (n : Nat) : Cj TT ⟨87, []⟩ [(10, { entB := some (J6 n), hb := 320 })] Ag0 (Ak ((A2 Tryz.f184).at [1, 1, 1, 1, 1, 0, 1, 0, 0, 1, 0, 0])) := by
 refine ⟨by kernel_rfl, fun w q hq => ?_⟩
 have e : WT [(10, { entB := some (J6 n), hb := 320 })] (Ab (Ak ((A2 Tryz.f184).at [1, 1, 1, 1, 1, 0, 1, 0, 0, 1, 0, 0])).toList) q = (∃ (y0 : HF (Af 1000 (J6 n).ts) (J6 n).forms) (q0 : List (Nat × RV)), q = (10, .bx (J6 n) y0) :: q0 ∧ q0 = []) := by kernel_rfl
 rw [e] at hq
 obtain ⟨y0, q0, rfl, rfl⟩ := hq
 all_goals exact .inr ⟨11, by kernel_rfl, by kernel_rfl, by kernel_rfl⟩
theorem Nt (α : Type) (n : Nat) : Al PP (Ad (Wk α n).reg) := ⟨Po n, Jc n, Ake n, Pk n, A9a n, Agf n, Az5 n, Pk n, Pk n, trivial⟩
theorem Anl (α : Type) (n : Nat) : D3.OK PP TT ⟨87, []⟩ (Wk α n) ((A2 Tryz.f184).at [1, 1, 1, 0, 1, 0, 1, 0, 1, 0, 0]) :=
 D3.OK.mk3a (Nt α n) (show Aa ((A2 Tryz.f184).at [1, 1, 1, 0, 1, 0, 1, 0, 1, 0, 0]) = [] by kernel_rfl) trivial (show B1 ((A2 Tryz.f184).at [1, 1, 1, 0, 1, 0, 1, 0, 1, 0, 0]) = [] by kernel_rfl) trivial
theorem Ank (α : Type) (n : Nat) : D3.OK PP TT ⟨87, []⟩ (Wk α n) ((A2 Tryz.f184).at [1, 1, 1, 0, 1, 0, 1, 0, 1, 0, 1]) :=
 D3.OK.mk3a (Nt α n) (show Aa ((A2 Tryz.f184).at [1, 1, 1, 0, 1, 0, 1, 0, 1, 0, 1]) = [] by kernel_rfl) trivial (show B1 ((A2 Tryz.f184).at [1, 1, 1, 0, 1, 0, 1, 0, 1, 0, 1]) = [(10, Ak ((A2 Tryz.f184).at [1, 1, 1, 0, 1, 0, 1, 0, 1, 0, 1, 0, 1]))] by kernel_rfl) ⟨fun X h => (by cases h; exact Azb n), trivial⟩
theorem Anj (α : Type) (n : Nat) : LO.Sound (α := α) PP ⟨87, []⟩ ⟨J9, Ry, Lr M7 (M8 n) M9⟩ (.rangeFunc (.tmp 29) #[30, 31] ((A2 Tryz.f184).at [1, 1, 1, 0, 1, 0, 1, 0, 1, 0, 0]) ((A2 Tryz.f184).at [1, 1, 1, 0, 1, 0, 1, 0, 1, 0, 1])) :=
 Ae7 (Oq _) Lt M7 (M8 n) M9 Al2 rfl rfl rfl rfl (Anl α n) (Ank α n) (by intro v; rfl) (by intro i z v f ks; kernel_rfl) (by intro v ks; kernel_rfl)
theorem Anm (α : Type) (n : Nat) : D3.OK PP TT ⟨87, []⟩ (Wk α n) ((A2 Tryz.f184).at [1, 1, 1, 1, 1, 0, 1, 0, 0]) :=
 D3.OK.mk3a (Nt α n) (show Aa ((A2 Tryz.f184).at [1, 1, 1, 1, 1, 0, 1, 0, 0]) = [] by kernel_rfl) trivial (show B1 ((A2 Tryz.f184).at [1, 1, 1, 1, 1, 0, 1, 0, 0]) = [(16, Ak ((A2 Tryz.f184).at [1, 1, 1, 1, 1, 0, 1, 0, 0, 1, 0, 0]))] by kernel_rfl) ⟨fun X h => (by cases h; exact Az8 n), trivial⟩
theorem Aim (α : Type) (n : Nat) : LO.Sound (α := α) PP ⟨87, []⟩ ⟨Nu, Wj, A4 (Wi n) n⟩ (.loop ((A2 Tryz.f184).at [1, 1, 1, 1, 1, 0, 1, 0, 0])) := lk (Anm α n) n
theorem B6m (α : Type) (n : Nat) : D3.OK PP TT ⟨87, []⟩ (Wk α n) (A2 Tryz.f184) :=
 D3.OK.mk3a (Nt α n) (show Aa (A2 Tryz.f184) = [(7, (.rangeFunc (.tmp 29) #[30, 31] ((A2 Tryz.f184).at [1, 1, 1, 0, 1, 0, 1, 0, 1, 0, 0]) ((A2 Tryz.f184).at [1, 1, 1, 0, 1, 0, 1, 0, 1, 0, 1]))), (14, (.loop ((A2 Tryz.f184).at [1, 1, 1, 1, 1, 0, 1, 0, 0])))] by kernel_rfl) ⟨A8 rfl (Anj α n), A8 rfl (Aim α n), trivial⟩ (show B1 (A2 Tryz.f184) = [(11, Ak ((A2 Tryz.f184).at [1, 1, 1, 0, 1, 0, 1, 1, 0])), (12, Ak ((A2 Tryz.f184).at [1, 1, 1, 1, 0]))] by kernel_rfl) ⟨fun X h => (by cases h; exact Aza n), fun X h => (by cases h; exact Az9 n), trivial⟩
theorem A92 (n : Nat) : (A62 n).Sound PP := fk (fn := Tryz.f184) (B6m _ n) 

end Go.Ev
