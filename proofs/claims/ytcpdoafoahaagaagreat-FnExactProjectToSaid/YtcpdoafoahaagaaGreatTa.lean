/- DERIVED. What the functions compute, and that they do. -/
import Derived.Test.YtcpdoafoahaagaaGreatEe

set_option linter.all false
set_option linter.unusedVariables false
set_option linter.unusedSimpArgs false

namespace Go.Ev
open Go Go.Proofs Go.RowKit Go.Shelf
def f149 (n : Nat) (a0 : LN) (a1 : Int) : Option Int :=
 bif (decide ((W (a1 - (a0.length : Int))) < 0)) then
  some (-1)
 else
  some (W (a1 - (a0.length : Int)))
def Ap8 (n : Nat) : Ent := ⟨149, [hNs, hI], [hI], fun x => f149 n x.1 x.2⟩
def B0k (α : Type) (n : Nat) : D3 α := { reg := [], join := [], loop := [] }
theorem Awv (n : Nat) : (Ap8 n).Sound PP := Ap (fn := Tryz.f149) (D := B0k _ n) trivial 

def f80 (n : Nat) (a0 : LN) (a1 : Int) : Option Int :=
 ob (f149 n a0 a1) fun r_1 =>
 bif (decide (r_1 < 0)) then
  some (-1)
 else
  some r_1
def Au7 (n : Nat) : Ent := ⟨80, [hE, hI], [hI], fun x => f80 n x.1 x.2⟩
def B20 (α : Type) (n : Nat) : D3 α := { reg := [(1, ⟨0, [], [(3, { ent := some (Ap8 n) })]⟩)], join := [], loop := [] }
theorem Ayl (n : Nat) : (Au7 n).Sound PP := Ap (fn := Tryz.f80) (D := B20 _ n) ⟨Awv n, trivial⟩ 

def f131 (n : Nat) (a0 : LI) (a1 : Int) : Option Int :=
 bif (decide ((W (a1 - (a0.length : Int))) < 0)) then
  some (-1)
 else
  some (W (a1 - (a0.length : Int)))
def Ac4 (n : Nat) : Ent := ⟨131, [hIs, hI], [hI], fun x => f131 n x.1 x.2⟩
def B0v (α : Type) (n : Nat) : D3 α := { reg := [], join := [], loop := [] }
theorem Ag8 (n : Nat) : (Ac4 n).Sound PP := Ap (fn := Tryz.f131) (D := B0v _ n) trivial 

def f60 (n : Nat) (a0 : Rq) (a1 : Int) : Option Int :=
 ob (f131 n a0.2.1 a1) fun r_1 =>
 bif (decide (r_1 < 0)) then
  some (-1)
 else
  ob (f131 n a0.2.2 r_1) fun r_2 =>
  bif (decide (r_2 < 0)) then
   some (-1)
  else
   some r_2
def Ahy (n : Nat) : Ent := ⟨60, [hR, hI], [hI], fun x => f60 n x.1 x.2⟩
def B2a (α : Type) (n : Nat) : D3 α := { reg := [(1, ⟨0, [], [(3, { ent := some (Ac4 n) })]⟩), (4, ⟨0, [], [(3, { ent := some (Ac4 n) })]⟩)], join := [], loop := [] }
theorem Amc (n : Nat) : (Ahy n).Sound PP := Ap (fn := Tryz.f60) (D := B2a _ n) ⟨Ag8 n, Ag8 n, trivial⟩ 

def A4f {α : Type} (n : Nat) (s0 : LR) (s1 s5 : Int) (f : LR → Int → Int → Option α) (k0 k1 : Int → Option α) : Option α :=
 bif (decide (s5 < (s0.length : Int))) then
  gd (decide (0 ≤ s5) && decide (s5 < (s0.length : Int))) (
   let x_1 := s0.getD s5.toNat (false, [], [])
   ob (f60 n x_1 s1) fun r_2 =>
   bif (decide (r_2 < 0)) then
    k0 (-1)
   else
    f s0 r_2 (W (s5 + 1)))
 else
  k1 s1
abbrev Va : Tm := ⟨[(0, .d hRs), (1, .d hI), (5, .d hI)], [], [], []⟩
abbrev Asn : Tm := ⟨[(4, .d hI)], [], [], []⟩
abbrev Asm : Tm := ⟨[(1, .d hI)], [], [], []⟩
abbrev A4e : List (Exit × Tm) := [(.ret, Asn), (.exit 0, Asm)]
def A4d {α : Type} (n : Nat) (v : Va.den) (f : Va.den → Option α) (ks : KS α A4e) : Option α := A4f n v.1.1 v.1.2.1 v.1.2.2.1 (fun s0 s1 s5 => f ((s0, s1, s5, ()), ())) (fun w0 => ks.1 ((w0, ()), ())) (fun w0 => ks.2.1 ((w0, ()), ()))
def A1o {α : Type} (n m : Nat) (s0 : LR) (s1 s5 : Int) (k0 k1 : Int → Option α) : Option α := A5 (A4d n) m ((s0, s1, s5, ()), ()) (fun w => k0 w.1.1, fun w => k1 w.1.1, ())
theorem Asl {α n m s0 s1 s5 k0 k1} : A1o (α := α) n (m + 1) s0 s1 s5 k0 k1 = A4f n s0 s1 s5 (fun s0 s1 s5 => A1o n m s0 s1 s5 k0 k1) k0 k1 := rfl
def f18 (n : Nat) (a0 : LR) (a1 : Int) : Option Int :=
 bif (decide ((W (a1 - (a0.length : Int))) < 0)) then
  some (-1)
 else
  A1o n n a0 (W (a1 - (a0.length : Int))) 0
   (fun z_3 => (
    some z_3))
   (fun z_4 => (
    some z_4))
def A1p (n : Nat) : Ent := ⟨18, [hRs, hI], [hI], fun x => f18 n x.1 x.2⟩
def Aio (α : Type) (n : Nat) : D3 α := { reg := [(7, ⟨0, [], [(5, { ent := some (Ahy n) })]⟩)], join := [], loop := [(5, ⟨Va, A4e, A5 (A4d n) n⟩)] }
theorem Ab4 (α : Type) (n : Nat) : Aj PP (Ah (Aio α n).reg) := ⟨Amc n, trivial⟩
theorem Anm (α : Type) (n : Nat) : LO.Sound (α := α) PP ⟨27, []⟩ ⟨Va, A4e, A5 (A4d n) n⟩ (.loop ((A1 Tryz.f18).at [1, 1, 1, 0, 1, 0, 0])) := Ay (D := Aio α n) (Ab4 α n) n
theorem B2l (α : Type) (n : Nat) : D3.OK PP TT ⟨27, []⟩ (Aio α n) (A1 Tryz.f18) :=
 D3.OK.mk3 (Ab4 α n) (show Ad (A1 Tryz.f18) = [(5, (.loop ((A1 Tryz.f18).at [1, 1, 1, 0, 1, 0, 0])))] by kernel_rfl) ⟨A9 rfl (Anm α n), trivial⟩
theorem A1n (n : Nat) : (A1p n).Sound PP := fk (fn := Tryz.f18) (B2l _ n) 

def f28 (n : Nat) (a0 : LN × LR × LR × LR × Int × Rq × Int × Int) (a1 : Int) : Option Int :=
 ob (f80 n a0.1 a1) fun r_1 =>
 bif (decide (r_1 < 0)) then
  some (-1)
 else
  ob (f18 n a0.2.1 r_1) fun r_2 =>
  bif (decide (r_2 < 0)) then
   some (-1)
  else
   ob (f18 n a0.2.2.1 r_2) fun r_3 =>
   bif (decide (r_3 < 0)) then
    some (-1)
   else
    ob (f18 n a0.2.2.2.1 r_3) fun r_4 =>
    bif (decide (r_4 < 0)) then
     some (-1)
    else
     ob (f60 n a0.2.2.2.2.2.1 r_4) fun r_5 =>
     bif (decide (r_5 < 0)) then
      some (-1)
     else
      some r_5
def Auc (n : Nat) : Ent := ⟨28, [(.st (.pair hE (.pair hRs (.pair hRs (.pair hRs (.pair hI (.pair hR (.pair hI hI)))))))), hI], [hI], fun x => f28 n x.1 x.2⟩
def B2g (α : Type) (n : Nat) : D3 α := { reg := [(1, ⟨0, [], [(3, { ent := some (Au7 n) })]⟩), (4, ⟨0, [], [(3, { ent := some (A1p n) })]⟩), (7, ⟨0, [], [(3, { ent := some (A1p n) })]⟩), (10, ⟨0, [], [(3, { ent := some (A1p n) })]⟩), (13, ⟨0, [], [(3, { ent := some (Ahy n) })]⟩)], join := [], loop := [] }
theorem Ayy (n : Nat) : (Auc n).Sound PP := Ap (fn := Tryz.f28) (D := B2g _ n) ⟨Ayl n, A1n n, A1n n, A1n n, Amc n, trivial⟩ 

def f193 (n : Nat) (a0 : Nq) : Option Nq :=
 some a0
def Aay (n : Nat) : Ent := ⟨193, [hN], [hN], fun x => f193 n x⟩
def Azo (α : Type) (n : Nat) : D3 α := { reg := [], join := [], loop := [] }
theorem Afk (n : Nat) : (Aay n).Sound PP := Ap (fn := Tryz.f193) (D := Azo _ n) trivial 

def Q6 {α : Type} (n : Nat) (s0 : LN) (s4 : Int) (b7 : LN) (f : LN → Int → LN → Option α) (k0 : LN → Option α) : Option α :=
 bif (decide (s4 < (s0.length : Int))) then
  gd (decide (0 ≤ s4) && decide (s4 < (s0.length : Int))) (
   let x_1 := s0.getD s4.toNat (0, 0, 0, 0)
   ob (f193 n x_1) fun r_2 =>
   gd (decide (0 ≤ s4) && decide (s4 < (b7.length : Int))) (
    gd (decide (s4.toNat < b7.length)) (
     f s0 (W (s4 + 1)) (b7.set s4.toNat r_2))))
 else
  k0 b7
abbrev Q5 : Tm := ⟨[(0, .d hNs), (3, .k (.hw 7)), (4, .d hI)], [(7, .arr 150 hN false)], [], []⟩
abbrev Ap2 : Tm := ⟨[(3, .k (.hw 7))], [(7, .arr 150 hN false)], [], []⟩
abbrev Zn : List (Exit × Tm) := [(.exit 0, Ap2)]
def Zm {α : Type} (n : Nat) (v : Q5.den) (f : Q5.den → Option α) (ks : KS α Zn) : Option α := Q6 n v.1.1 v.1.2.2.1 v.2.1 (fun s0 s4 b7 => f ((s0, (), s4, ()), (b7, ()))) (fun w0 => ks.1 (((), ()), (w0, ())))
def Nt {α : Type} (n m : Nat) (s0 : LN) (s4 : Int) (b7 : LN) (k0 : LN → Option α) : Option α := A5 (Zm n) m ((s0, (), s4, ()), (b7, ())) (fun w => k0 w.2.1, ())
theorem A79 {α n m s0 s4 b7 k0} : Nt (α := α) n (m + 1) s0 s4 b7 k0 = Q6 n s0 s4 b7 (fun s0 s4 b7 => Nt n m s0 s4 b7 k0) k0 := rfl
def f152 (n : Nat) (a0 : LN) : Option LN :=
 gd (decide (0 ≤ (a0.length : Int)) && decide ((a0.length : Int) ≤ 4611686018427387904) && decide ((32 : Int) * (a0.length : Int) ≤ 281474976710656)) (
  Nt n n a0 0 (List.replicate ((a0.length : Int).toNat) (0, 0, 0, 0))
   (fun z_3 => (
    some z_3)))
def Ap3 (n : Nat) : Ent := ⟨152, [hNs], [hNs], fun x => f152 n x⟩
def Abr (α : Type) (n : Nat) : D3 α := { reg := [(5, ⟨0, [], [(6, { ent := some (Aay n) })]⟩)], join := [], loop := [(3, ⟨Q5, Zn, A5 (Zm n) n⟩)] }
theorem A78 (α : Type) (n : Nat) : Aj PP (Ah (Abr α n).reg) := ⟨Afk n, trivial⟩
theorem Aje (α : Type) (n : Nat) : LO.Sound (α := α) PP ⟨23, []⟩ ⟨Q5, Zn, A5 (Zm n) n⟩ (.loop ((A1 Tryz.f152).at [1, 1, 0, 1, 0, 0])) := Ay (D := Abr α n) (A78 α n) n
theorem B0i (α : Type) (n : Nat) : D3.OK PP TT ⟨23, []⟩ (Abr α n) (A1 Tryz.f152) :=
 D3.OK.mk3 (A78 α n) (show Ad (A1 Tryz.f152) = [(3, (.loop ((A1 Tryz.f152).at [1, 1, 0, 1, 0, 0])))] by kernel_rfl) ⟨A9 rfl (Aje α n), trivial⟩
theorem Aws (n : Nat) : (Ap3 n).Sound PP := fk (fn := Tryz.f152) (B0i _ n) 

def f83 (n : Nat) (a0 : LN) : Option LN :=
 ob (f152 n a0) fun r_1 =>
 some r_1
def Au5 (n : Nat) : Ent := ⟨83, [hE], [hE], fun x => f83 n x⟩
def B1y (α : Type) (n : Nat) : D3 α := { reg := [(2, ⟨0, [], [(2, { ent := some (Ap3 n) })]⟩)], join := [], loop := [] }
theorem Ayf (n : Nat) : (Au5 n).Sound PP := Ap (fn := Tryz.f83) (D := B1y _ n) ⟨Aws n, trivial⟩ 

def A02 {α : Type} (n : Nat) (s0 : LI) (s4 : Int) (b7 : LI) (f : LI → Int → LI → Option α) (k0 : LI → Option α) : Option α :=
 bif (decide (s4 < (s0.length : Int))) then
  gd (decide (0 ≤ s4) && decide (s4 < (s0.length : Int))) (
   gd (decide (0 ≤ s4) && decide (s4 < (b7.length : Int))) (
    gd (decide (s4.toNat < b7.length)) (
     f s0 (W (s4 + 1)) (b7.set s4.toNat (s0.getD s4.toNat 0)))))
 else
  k0 b7
abbrev Qb : Tm := ⟨[(0, .d hIs), (3, .k (.hw 7)), (4, .d hI)], [(7, .arr 3 hI false)], [], []⟩
abbrev Apk : Tm := ⟨[(3, .k (.hw 7))], [(7, .arr 3 hI false)], [], []⟩
abbrev A01 : List (Exit × Tm) := [(.exit 0, Apk)]
def A00 {α : Type} (n : Nat) (v : Qb.den) (f : Qb.den → Option α) (ks : KS α A01) : Option α := A02 n v.1.1 v.1.2.2.1 v.2.1 (fun s0 s4 b7 => f ((s0, (), s4, ()), (b7, ()))) (fun w0 => ks.1 (((), ()), (w0, ())))
def Vp {α : Type} (n m : Nat) (s0 : LI) (s4 : Int) (b7 : LI) (k0 : LI → Option α) : Option α := A5 (A00 n) m ((s0, (), s4, ()), (b7, ())) (fun w => k0 w.2.1, ())
theorem Apj {α n m s0 s4 b7 k0} : Vp (α := α) n (m + 1) s0 s4 b7 k0 = A02 n s0 s4 b7 (fun s0 s4 b7 => Vp n m s0 s4 b7 k0) k0 := rfl
def f132 (n : Nat) (a0 : LI) : Option LI :=
 gd (decide (0 ≤ (a0.length : Int)) && decide ((a0.length : Int) ≤ 4611686018427387904) && decide ((8 : Int) * (a0.length : Int) ≤ 281474976710656)) (
  Vp n n a0 0 (List.replicate ((a0.length : Int).toNat) 0)
   (fun z_1 => (
    some z_1)))
def Ac0 (n : Nat) : Ent := ⟨132, [hIs], [hIs], fun x => f132 n x⟩
def Ac1 (α : Type) (n : Nat) : D3 α := { reg := [], join := [], loop := [(3, ⟨Qb, A01, A5 (A00 n) n⟩)] }
theorem A7h (α : Type) (n : Nat) : Aj PP (Ah (Ac1 α n).reg) := trivial
theorem Ajm (α : Type) (n : Nat) : LO.Sound (α := α) PP ⟨22, []⟩ ⟨Qb, A01, A5 (A00 n) n⟩ (.loop ((A1 Tryz.f132).at [1, 1, 0, 1, 0, 0])) := Ay (D := Ac1 α n) (A7h α n) n
theorem B0u (α : Type) (n : Nat) : D3.OK PP TT ⟨22, []⟩ (Ac1 α n) (A1 Tryz.f132) :=
 D3.OK.mk3 (A7h α n) (show Ad (A1 Tryz.f132) = [(3, (.loop ((A1 Tryz.f132).at [1, 1, 0, 1, 0, 0])))] by kernel_rfl) ⟨A9 rfl (Ajm α n), trivial⟩
theorem Ag6 (n : Nat) : (Ac0 n).Sound PP := fk (fn := Tryz.f132) (B0u _ n) 

def f61 (n : Nat) (a0 : Rq) : Option Rq :=
 ob (f132 n a0.2.1) fun r_1 =>
 ob (f132 n a0.2.2) fun r_2 =>
 some (a0.1, r_1, r_2)
def Ahx (n : Nat) : Ent := ⟨61, [hR], [hR], fun x => f61 n x⟩
def B29 (α : Type) (n : Nat) : D3 α := { reg := [(3, ⟨0, [], [(2, { ent := some (Ac0 n) })]⟩), (4, ⟨0, [], [(2, { ent := some (Ac0 n) })]⟩)], join := [], loop := [] }
theorem Ama (n : Nat) : (Ahx n).Sound PP := Ap (fn := Tryz.f61) (D := B29 _ n) ⟨Ag6 n, Ag6 n, trivial⟩ 

def A4c {α : Type} (n : Nat) (s0 : LR) (s4 : Int) (b7 : LR) (f : LR → Int → LR → Option α) (k0 : LR → Option α) : Option α :=
 bif (decide (s4 < (s0.length : Int))) then
  gd (decide (0 ≤ s4) && decide (s4 < (s0.length : Int))) (
   let x_1 := s0.getD s4.toNat (false, [], [])
   ob (f61 n x_1) fun r_2 =>
   gd (decide (0 ≤ s4) && decide (s4 < (b7.length : Int))) (
    gd (decide (s4.toNat < b7.length)) (
     f s0 (W (s4 + 1)) (b7.set s4.toNat r_2))))
 else
  k0 b7
abbrev V3 : Tm := ⟨[(0, .d hRs), (3, .k (.hw 7)), (4, .d hI)], [(7, .arr 30 hR false)], [], []⟩
abbrev Asi : Tm := ⟨[(3, .k (.hw 7))], [(7, .arr 30 hR false)], [], []⟩
abbrev A4b : List (Exit × Tm) := [(.exit 0, Asi)]
def A4a {α : Type} (n : Nat) (v : V3.den) (f : V3.den → Option α) (ks : KS α A4b) : Option α := A4c n v.1.1 v.1.2.2.1 v.2.1 (fun s0 s4 b7 => f ((s0, (), s4, ()), (b7, ()))) (fun w0 => ks.1 (((), ()), (w0, ())))
def A1m {α : Type} (n m : Nat) (s0 : LR) (s4 : Int) (b7 : LR) (k0 : LR → Option α) : Option α := A5 (A4a n) m ((s0, (), s4, ()), (b7, ())) (fun w => k0 w.2.1, ())
theorem Ash {α n m s0 s4 b7 k0} : A1m (α := α) n (m + 1) s0 s4 b7 k0 = A4c n s0 s4 b7 (fun s0 s4 b7 => A1m n m s0 s4 b7 k0) k0 := rfl
def f19 (n : Nat) (a0 : LR) : Option LR :=
 gd (decide (0 ≤ (a0.length : Int)) && decide ((a0.length : Int) ≤ 4611686018427387904) && decide ((56 : Int) * (a0.length : Int) ≤ 281474976710656)) (
  A1m n n a0 0 (List.replicate ((a0.length : Int).toNat) (false, [], []))
   (fun z_3 => (
    some z_3)))
def Ph (n : Nat) : Ent := ⟨19, [hRs], [hRs], fun x => f19 n x⟩
def Aij (α : Type) (n : Nat) : D3 α := { reg := [(5, ⟨0, [], [(6, { ent := some (Ahx n) })]⟩)], join := [], loop := [(3, ⟨V3, A4b, A5 (A4a n) n⟩)] }
theorem Aau (α : Type) (n : Nat) : Aj PP (Ah (Aij α n).reg) := ⟨Ama n, trivial⟩
theorem An8 (α : Type) (n : Nat) : LO.Sound (α := α) PP ⟨23, []⟩ ⟨V3, A4b, A5 (A4a n) n⟩ (.loop ((A1 Tryz.f19).at [1, 1, 0, 1, 0, 0])) := Ay (D := Aij α n) (Aau α n) n
theorem B2k (α : Type) (n : Nat) : D3.OK PP TT ⟨23, []⟩ (Aij α n) (A1 Tryz.f19) :=
 D3.OK.mk3 (Aau α n) (show Ad (A1 Tryz.f19) = [(3, (.loop ((A1 Tryz.f19).at [1, 1, 0, 1, 0, 0])))] by kernel_rfl) ⟨A9 rfl (An8 α n), trivial⟩
theorem Nj (n : Nat) : (Ph n).Sound PP := fk (fn := Tryz.f19) (B2k _ n) 

def f30 (n : Nat) (a0 : LN × LR × LR × LR × Int × Rq × Int × Int) : Option (LN × LR × LR × LR × Int × Rq × Int × Int) :=
 ob (f83 n a0.1) fun r_1 =>
 ob (f19 n a0.2.1) fun r_2 =>
 ob (f19 n a0.2.2.1) fun r_3 =>
 ob (f19 n a0.2.2.2.1) fun r_4 =>
 ob (f61 n a0.2.2.2.2.2.1) fun r_5 =>
 some (r_1, r_2, r_3, r_4, a0.2.2.2.2.1, r_5, a0.2.2.2.2.2.2)
def A8i (n : Nat) : Ent := ⟨30, [(.st (.pair hE (.pair hRs (.pair hRs (.pair hRs (.pair hI (.pair hR (.pair hI hI))))))))], [(.st (.pair hE (.pair hRs (.pair hRs (.pair hRs (.pair hI (.pair hR (.pair hI hI))))))))], fun x => f30 n x⟩
def B2f (α : Type) (n : Nat) : D3 α := { reg := [(2, ⟨0, [], [(2, { ent := some (Au5 n) })]⟩), (3, ⟨0, [], [(2, { ent := some (Ph n) })]⟩), (4, ⟨0, [], [(2, { ent := some (Ph n) })]⟩), (5, ⟨0, [], [(2, { ent := some (Ph n) })]⟩), (7, ⟨0, [], [(2, { ent := some (Ahx n) })]⟩)], join := [], loop := [] }
theorem Aaa (n : Nat) : (A8i n).Sound PP := Ap (fn := Tryz.f30) (D := B2f _ n) ⟨Ayf n, Nj n, Nj n, Nj n, Ama n, trivial⟩ 

def f65 (n : Nat) (a0 a1 a2 : Int) : Option Bool :=
 bif (decide (a1 ≤ a0)) then
  some (decide (a0 ≤ a2))
 else
  some false
def Es (n : Nat) : Ent := ⟨65, [hI, hI, hI], [.bool], fun x => f65 n x.1 x.2.1 x.2.2⟩
def B25 (α : Type) (n : Nat) : D3 α := { reg := [], join := [], loop := [] }
theorem Dr (n : Nat) : (Es n).Sound PP := Ap (fn := Tryz.f65) (D := B25 _ n) trivial 

def f206 (n : Nat) (a0 : Int) : Option Bool :=
 ob (f65 n a0 3 6) fun r_1 =>
 some r_1
def A1i (n : Nat) : Ent := ⟨206, [hI], [.bool], fun x => f206 n x⟩
def Azd (α : Type) (n : Nat) : D3 α := { reg := [(1, ⟨0, [], [(1, { ent := some (Es n) })]⟩)], join := [], loop := [] }
theorem A47 (n : Nat) : (A1i n).Sound PP := Ap (fn := Tryz.f206) (D := Azd _ n) ⟨Dr n, trivial⟩ 

def f208 (n : Nat) (a0 : Int) : Option Bool :=
 bif (a0 == 7) then
  some true
 else
  some (a0 == 8)
def A1h (n : Nat) : Ent := ⟨208, [hI], [.bool], fun x => f208 n x⟩
def Azb (α : Type) (n : Nat) : D3 α := { reg := [], join := [], loop := [] }
theorem A45 (n : Nat) : (A1h n).Sound PP := Ap (fn := Tryz.f208) (D := Azb _ n) trivial 

def f147 (n : Nat) (a0 : Bool) : Option Int :=
 bif a0 then
  some 1
 else
  some 0
def Th (n : Nat) : Ent := ⟨147, [.bool], [hI], fun x => f147 n x⟩
def B0m (α : Type) (n : Nat) : D3 α := { reg := [], join := [], loop := [] }
theorem Vk (n : Nat) : (Th n).Sound PP := Ap (fn := Tryz.f147) (D := B0m _ n) trivial 

def f205 (n : Nat) (a0 : Nq) (a1 : Int) : Option Bool :=
 ob (f65 n a0.1 1 8) fun r_1 =>
 bif (!r_1) then
  some false
 else
  ob (f206 n a0.1) fun r_2 =>
  bif r_2 then
   ob (f65 n a0.2.1 0 (W (a1 - 1))) fun r_3 =>
   bif r_3 then
    ob (f65 n a0.2.2.1 (W (a0.2.1 + 1)) (W (a1 - 1))) fun r_4 =>
    bif r_4 then
     some (a0.2.2.2 == 0)
    else
     some false
   else
    some false
  else
   ob (f208 n a0.1) fun r_5 =>
   bif r_5 then
    bif (a0.2.1 == (W (a1 - 1))) then
     bif (decide (a1 > 0)) then
      bif (a0.2.2.1 == 0) then
       ob (f147 n (a0.1 == 8)) fun r_6 =>
       ob (f65 n a0.2.2.2 0 (W (8 * r_6))) fun r_7 =>
       some r_7
      else
       some false
     else
      some false
    else
     some false
   else
    bif (a0.1 == 2) then
     bif (a0.2.1 == 0) then
      bif (a0.2.2.1 == 0) then
       ob (f65 n a0.2.2.2 0 3) fun r_8 =>
       some r_8
      else
       some false
     else
      some false
    else
     bif (a0.2.1 == 0) then
      bif (a0.2.2.1 == 0) then
       ob (f65 n a0.2.2.2 0 999999999) fun r_9 =>
       some r_9
      else
       some false
     else
      some false
def An0 (n : Nat) : Ent := ⟨205, [hN, hI], [.bool], fun x => f205 n x.1 x.2⟩
def Aze (α : Type) (n : Nat) : D3 α := { reg := [(1, ⟨0, [], [(2, { ent := some (Es n) })]⟩), (3, ⟨0, [], [(2, { ent := some (A1i n) })]⟩), (4, ⟨0, [], [(4, { ent := some (Es n) }), (13, { ent := some (Es n) })]⟩), (5, ⟨0, [], [(2, { ent := some (A1h n) })]⟩), (6, ⟨22, [], [(20, { ent := some (Th n) }), (22, { ent := some (Es n) })]⟩), (8, ⟨0, [], [(11, { ent := some (Es n) })]⟩), (9, ⟨0, [], [(11, { ent := some (Es n) })]⟩)], join := [], loop := [] }
theorem Avq (n : Nat) : (An0 n).Sound PP := Ap (fn := Tryz.f205) (D := Aze _ n) ⟨Dr n, A47 n, Dr n, Dr n, A45 n, Vk n, Dr n, Dr n, Dr n, trivial⟩ 

def Xv {α : Type} (n : Nat) (s1 : Int) (c2_0 : LN) (c5_0 c5_1 c5_2 c5_3 : Int) (f : Int → LN → Int → Int → Int → Int → Option α) (k0 : Int → Option α) : Option α :=
 let J_5 := fun (_ : Unit) => (
  gd (decide (0 ≤ c5_1) && decide (c5_1 < (c2_0.length : Int))) (
   let x_4 := c2_0.getD c5_1.toNat (0, 0, 0, 0)
   f c5_1 c2_0 x_4.1 x_4.2.1 x_4.2.2.1 x_4.2.2.2))
 ob (f206 n c5_0) fun r_2 =>
 bif r_2 then
  J_5 ()
 else
  ob (f208 n c5_0) fun r_3 =>
  bif r_3 then
   J_5 ()
  else
   k0 s1
abbrev P7 : Tm := ⟨[(1, .d hI), (2, .k (.hp 2 0 0)), (5, .k (.hp 5 0 0))], [(2, .var 54 true false [.d hNs]), (5, .var 150 true false [.d hI, .d hI, .d hI, .d hI])], [], []⟩
abbrev Amz : Tm := ⟨[(1, .d hI)], [], [2, 5], []⟩
abbrev Xu : List (Exit × Tm) := [(.exit 0, Amz)]
def Xt {α : Type} (n : Nat) (v : P7.den) (f : P7.den → Option α) (ks : KS α Xu) : Option α := Xv n v.1.1 v.2.1.1 v.2.2.1.1 v.2.2.1.2.1 v.2.2.1.2.2.1 v.2.2.1.2.2.2.1 (fun s1 c2_0 c5_0 c5_1 c5_2 c5_3 => f ((s1, (), (), ()), ((c2_0, ()), (c5_0, c5_1, c5_2, c5_3, ()), ()))) (fun w0 => ks.1 ((w0, ()), ()))
def Uz {α : Type} (n m : Nat) (s1 : Int) (c2_0 : LN) (c5_0 c5_1 c5_2 c5_3 : Int) (k0 : Int → Option α) : Option α := A5 (Xt n) m ((s1, (), (), ()), ((c2_0, ()), (c5_0, c5_1, c5_2, c5_3, ()), ())) (fun w => k0 w.1.1, ())
theorem Amy {α n m s1 c2_0 c5_0 c5_1 c5_2 c5_3 k0} : Uz (α := α) n (m + 1) s1 c2_0 c5_0 c5_1 c5_2 c5_3 k0 = Xv n s1 c2_0 c5_0 c5_1 c5_2 c5_3 (fun s1 c2_0 c5_0 c5_1 c5_2 c5_3 => Uz n m s1 c2_0 c5_0 c5_1 c5_2 c5_3 k0) k0 := rfl
abbrev Avp : Tm := ⟨[(2, .k (.hp 2 0 0)), (5, .k (.hp 5 0 0))], [(2, .var 54 true false [.d hNs]), (5, .var 150 true false [.d hI, .d hI, .d hI, .d hI])], [], []⟩
def f207 (n : Nat) (a0 : LN) (a1 : Int) : Option Int :=
 gd (decide (0 ≤ a1) && decide (a1 < (a0.length : Int))) (
  let x_1 := a0.getD a1.toNat (0, 0, 0, 0)
  Uz n n a1 a0 x_1.1 x_1.2.1 x_1.2.2.1 x_1.2.2.2
   (fun z_6 => (
    some z_6)))
def Aan (n : Nat) : Ent := ⟨207, [hE, hI], [hI], fun x => f207 n x.1 x.2⟩
def Aao (α : Type) (n : Nat) : D3 α := { reg := [(2, ⟨0, [], [(2, { ent := some (A1i n) }), (6, { ent := some (A1h n) })]⟩)], join := [(3, Avp)], loop := [(2, ⟨P7, Xu, A5 (Xt n) n⟩)] }
theorem A6j (α : Type) (n : Nat) : Aj PP (Ah (Aao α n).reg) := ⟨A47 n, A45 n, trivial⟩
theorem Aic (α : Type) (n : Nat) : LO.Sound (α := α) PP ⟨27, []⟩ ⟨P7, Xu, A5 (Xt n) n⟩ (.loop ((A1 Tryz.f207).at [1, 1, 0, 0, 0])) := Ay (D := Aao α n) (A6j α n) n
theorem Azc (α : Type) (n : Nat) : D3.OK PP TT ⟨27, []⟩ (Aao α n) (A1 Tryz.f207) :=
 D3.OK.mk3 (A6j α n) (show Ad (A1 Tryz.f207) = [(2, (.loop ((A1 Tryz.f207).at [1, 1, 0, 0, 0])))] by kernel_rfl) ⟨A9 rfl (Aic α n), trivial⟩
theorem Afe (n : Nat) : (Aan n).Sound PP := fk (fn := Tryz.f207) (Azc _ n) 

def Kw {α : Type} (n : Nat) (s4 : Int) (c1_0 : LN) (b12 : LI) (f : Int → LN → LI → Option α) (k0 : Bool → Option α) (k1 : LN → Option α) : Option α :=
 bif (decide (s4 < (c1_0.length : Int))) then
  gd (decide (0 ≤ s4) && decide (s4 < (c1_0.length : Int))) (
   let x_2 := c1_0.getD s4.toNat (0, 0, 0, 0)
   ob (f205 n x_2 s4) fun r_3 =>
   bif (!r_3) then
    k0 false
   else
    let J_10 := fun (y_6 : Int) => (
     let J_9 := fun (y_8 : Int) => (
      bif (decide (y_8 > 12)) then
       k0 false
      else
       gd (decide ((b12.length + 1) * 8 ≤ 140737488355328)) (
        f (W (s4 + 1)) c1_0 (b12 ++ [y_8])))
     ob (f208 n x_2.1) fun r_7 =>
     bif r_7 then
      gd (decide (0 ≤ x_2.2.1) && decide (x_2.2.1 < (b12.length : Int))) (
       gd (decide (x_2.2.1.toNat < b12.length)) (
        J_9 (W (1 + (b12.getD x_2.2.1.toNat 0)))))
     else
      J_9 y_6)
    ob (f206 n x_2.1) fun r_4 =>
    bif r_4 then
     bif (x_2.2.2.1 != (W (s4 - 1))) then
      k0 false
     else
      ob (f207 n c1_0 x_2.2.2.1) fun r_5 =>
      bif (r_5 != (W (x_2.2.1 + 1))) then
       k0 false
      else
       gd (decide (0 ≤ x_2.2.1) && decide (x_2.2.1 < (b12.length : Int))) (
        gd (decide (x_2.2.1.toNat < b12.length)) (
         gd (decide (0 ≤ x_2.2.2.1) && decide (x_2.2.2.1 < (b12.length : Int))) (
          gd (decide (x_2.2.2.1.toNat < b12.length)) (
           J_10 (W (1 + (max (b12.getD x_2.2.1.toNat 0) (b12.getD x_2.2.2.1.toNat 0))))))))
    else
     J_10 1)
 else
  k1 c1_0
abbrev Pk : Tm := ⟨[(1, .k (.hp 1 0 0)), (3, .k (.hw 12)), (4, .d hI)], [(1, .var 54 true false [.d hNs]), (12, .arr 3 hI false)], [72], []⟩
abbrev Anj : Tm := ⟨[(2, .d .bool)], [], [1, 5, 12], []⟩
abbrev Ani : Tm := ⟨[(1, .k (.hp 1 0 0))], [(1, .var 54 true false [.d hNs])], [12], []⟩
abbrev Y9 : List (Exit × Tm) := [(.ret, Anj), (.exit 0, Ani)]
def Y8 {α : Type} (n : Nat) (v : Pk.den) (f : Pk.den → Option α) (ks : KS α Y9) : Option α := Kw n v.1.2.2.1 v.2.1.1 v.2.2.1 (fun s4 c1_0 b12 => f (((), (), s4, ()), ((c1_0, ()), b12, ()))) (fun w0 => ks.1 ((w0, ()), ())) (fun w0 => ks.2.1 (((), ()), ((w0, ()), ())))
def V8 {α : Type} (n m : Nat) (s4 : Int) (c1_0 : LN) (b12 : LI) (k0 : Bool → Option α) (k1 : LN → Option α) : Option α := A5 (Y8 n) m (((), (), s4, ()), ((c1_0, ()), b12, ())) (fun w => k0 w.1.1, fun w => k1 w.2.1.1, ())
theorem A6q {α n m s4 c1_0 b12 k0 k1} : V8 (α := α) n (m + 1) s4 c1_0 b12 k0 k1 = Kw n s4 c1_0 b12 (fun s4 c1_0 b12 => V8 n m s4 c1_0 b12 k0 k1) k0 k1 := rfl
abbrev Ask : Tm := ⟨[(1, .k (.hp 1 0 0)), (3, .k (.hw 12)), (4, .d hI), (5, .k (.hp 5 0 0)), (6, .d hI)], [(1, .var 54 true false [.d hNs]), (5, .var 150 true false [.d hI, .d hI, .d hI, .d hI]), (12, .arr 3 hI false)], [], []⟩
abbrev Asj : Tm := ⟨[(1, .k (.hp 1 0 0)), (3, .k (.hw 12)), (4, .d hI), (6, .d hI)], [(1, .var 54 true false [.d hNs]), (12, .arr 3 hI false)], [5], []⟩
def f191 (n : Nat) (a0 : LN) : Option Bool :=
 ob (f65 n (a0.length : Int) 1 60) fun r_1 =>
 bif (!r_1) then
  some false
 else
  V8 n n 0 a0 []
   (fun z_11 => (
    some z_11))
   (fun z_12 => (
    ob (f207 n z_12 (W ((z_12.length : Int) - 1))) fun r_13 =>
    some (r_13 == 0)))
def Ank (n : Nat) : Ent := ⟨191, [hE], [.bool], fun x => f191 n x⟩
def Ab0 (α : Type) (n : Nat) : D3 α := { reg := [(1, ⟨0, [], [(3, { ent := some (Es n) })]⟩), (3, ⟨0, [], [(0, { sh := some hI })]⟩), (8, ⟨0, [], [(2, { ent := some (An0 n) })]⟩), (11, ⟨0, [], [(2, { ent := some (A1i n) })]⟩), (12, ⟨13, [], [(9, { ent := some (Aan n) })]⟩), (14, ⟨10, [], []⟩), (15, ⟨0, [], [(2, { ent := some (A1h n) })]⟩), (19, ⟨0, [], [(2, { sh := some hI })]⟩), (20, ⟨0, [], [(5, { ent := some (Aan n) })]⟩)], join := [(15, Ask), (17, Asj)], loop := [(5, ⟨Pk, Y9, A5 (Y8 n) n⟩)] }
theorem A6p (α : Type) (n : Nat) : Aj PP (Ah (Ab0 α n).reg) := ⟨Dr n, Avq n, A47 n, Afe n, A45 n, Afe n, trivial⟩
theorem Aim (α : Type) (n : Nat) : LO.Sound (α := α) PP ⟨81, []⟩ ⟨Pk, Y9, A5 (Y8 n) n⟩ (.loop ((A1 Tryz.f191).at [1, 1, 1, 0, 1, 0, 0])) := Ay (D := Ab0 α n) (A6p α n) n
theorem Azq (α : Type) (n : Nat) : D3.OK PP TT ⟨81, []⟩ (Ab0 α n) (A1 Tryz.f191) :=
 D3.OK.mk3 (A6p α n) (show Ad (A1 Tryz.f191) = [(5, (.loop ((A1 Tryz.f191).at [1, 1, 1, 0, 1, 0, 0])))] by kernel_rfl) ⟨A9 rfl (Aim α n), trivial⟩
theorem Aw0 (n : Nat) : (Ank n).Sound PP := fk (fn := Tryz.f191) (Azq _ n) 

def Yf {α : Type} (n : Nat) (s0 : LI) (s3 : Int) (f : LI → Int → Option α) (k0 : Bool → Option α) (k1 : LI → Option α) : Option α :=
 bif (decide (s3 < (s0.length : Int))) then
  gd (decide (0 ≤ s3) && decide (s3 < (s0.length : Int))) (
   ob (f65 n (s0.getD s3.toNat 0) 0 9999) fun r_1 =>
   bif (!r_1) then
    k0 false
   else
    f s0 (W (s3 + 1)))
 else
  k1 s0
abbrev Pm : Tm := ⟨[(0, .d hIs), (3, .d hI)], [], [], []⟩
abbrev Anp : Tm := ⟨[(2, .d .bool)], [], [], []⟩
abbrev Ano : Tm := ⟨[(0, .d hIs)], [], [], []⟩
abbrev Ye : List (Exit × Tm) := [(.ret, Anp), (.exit 0, Ano)]
def Yd {α : Type} (n : Nat) (v : Pm.den) (f : Pm.den → Option α) (ks : KS α Ye) : Option α := Yf n v.1.1 v.1.2.1 (fun s0 s3 => f ((s0, s3, ()), ())) (fun w0 => ks.1 ((w0, ()), ())) (fun w0 => ks.2.1 ((w0, ()), ()))
def Nk {α : Type} (n m : Nat) (s0 : LI) (s3 : Int) (k0 : Bool → Option α) (k1 : LI → Option α) : Option α := A5 (Yd n) m ((s0, s3, ()), ()) (fun w => k0 w.1.1, fun w => k1 w.1.1, ())
theorem Ann {α n m s0 s3 k0 k1} : Nk (α := α) n (m + 1) s0 s3 k0 k1 = Yf n s0 s3 (fun s0 s3 => Nk n m s0 s3 k0 k1) k0 k1 := rfl
def f189 (n : Nat) (a0 : LI) : Option Bool :=
 bif (decide ((a0.length : Int) > 4096)) then
  some false
 else
  Nk n n a0 0
   (fun z_2 => (
    some z_2))
   (fun z_3 => (
    bif (decide ((z_3.length : Int) ≤ 40)) then
     bif ((z_3.length : Int) == 0) then
      some true
     else
      gd (decide (0 ≤ (W ((z_3.length : Int) - 1))) && decide ((W ((z_3.length : Int) - 1)) < (z_3.length : Int))) (
       some (decide ((z_3.getD ((W ((z_3.length : Int) - 1)).toNat) 0) > 0)))
    else
     some false))
def Ab5 (n : Nat) : Ent := ⟨189, [hIs], [.bool], fun x => f189 n x⟩
def Ab6 (α : Type) (n : Nat) : D3 α := { reg := [(6, ⟨0, [], [(4, { ent := some (Es n) })]⟩)], join := [], loop := [(4, ⟨Pm, Ye, A5 (Yd n) n⟩)] }
theorem A6u (α : Type) (n : Nat) : Aj PP (Ah (Ab6 α n).reg) := ⟨Dr n, trivial⟩
theorem Aip (α : Type) (n : Nat) : LO.Sound (α := α) PP ⟨36, []⟩ ⟨Pm, Ye, A5 (Yd n) n⟩ (.loop ((A1 Tryz.f189).at [1, 1, 0, 1, 0, 0])) := Ay (D := Ab6 α n) (A6u α n) n
theorem Azt (α : Type) (n : Nat) : D3.OK PP TT ⟨36, []⟩ (Ab6 α n) (A1 Tryz.f189) :=
 D3.OK.mk3 (A6u α n) (show Ad (A1 Tryz.f189) = [(4, (.loop ((A1 Tryz.f189).at [1, 1, 0, 1, 0, 0])))] by kernel_rfl) ⟨A9 rfl (Aip α n), trivial⟩
theorem Afm (n : Nat) : (Ab5 n).Sound PP := fk (fn := Tryz.f189) (Azt _ n) 

def Xy {α : Type} (n : Nat) (s0 : LI) (s3 : Int) (f : LI → Int → Option α) (k0 : LI → Int → Option α) : Option α :=
 bif (decide (s3 > 0)) then
  gd (decide (0 ≤ (W (s3 - 1))) && decide ((W (s3 - 1)) < (s0.length : Int))) (
   bif ((s0.getD ((W (s3 - 1)).toNat) 0) == 0) then
    f s0 (W (s3 - 1))
   else
    k0 s0 s3)
 else
  k0 s0 s3
abbrev Pe : Tm := ⟨[(0, .d hIs), (3, .d hI)], [], [], []⟩
abbrev An5 : Tm := ⟨[(0, .d hIs), (3, .d hI)], [], [], []⟩
abbrev Xx : List (Exit × Tm) := [(.exit 0, An5)]
def Xw {α : Type} (n : Nat) (v : Pe.den) (f : Pe.den → Option α) (ks : KS α Xx) : Option α := Xy n v.1.1 v.1.2.1 (fun s0 s3 => f ((s0, s3, ()), ())) (fun w0 w1 => ks.1 ((w0, w1, ()), ()))
def V2 {α : Type} (n m : Nat) (s0 : LI) (s3 : Int) (k0 : LI → Int → Option α) : Option α := A5 (Xw n) m ((s0, s3, ()), ()) (fun w => k0 w.1.1 w.1.2.1, ())
theorem An4 {α n m s0 s3 k0} : V2 (α := α) n (m + 1) s0 s3 k0 = Xy n s0 s3 (fun s0 s3 => V2 n m s0 s3 k0) k0 := rfl
def f203 (n : Nat) (a0 : LI) : Option LI :=
 V2 n n a0 (a0.length : Int)
  (fun z_1 z_2 => (
   gd (decide (0 ≤ z_2) && decide (z_2 ≤ (z_1.length : Int))) (
    gd (decide ((0 + ((z_1.drop 0).take (z_2.toNat - 0)).length) * 8 ≤ 140737488355328)) (
     some ((z_1.drop 0).take (z_2.toNat - 0))))))
def Sy (n : Nat) : Ent := ⟨203, [hIs], [hIs], fun x => f203 n x⟩
def Aar (α : Type) (n : Nat) : D3 α := { reg := [(4, ⟨0, [], [(0, { sh := some hI })]⟩)], join := [], loop := [(2, ⟨Pe, Xx, A5 (Xw n) n⟩)] }
theorem A6k (α : Type) (n : Nat) : Aj PP (Ah (Aar α n).reg) := trivial
theorem Aif (α : Type) (n : Nat) : LO.Sound (α := α) PP ⟨23, []⟩ ⟨Pe, Xx, A5 (Xw n) n⟩ (.loop ((A1 Tryz.f203).at [1, 1, 0, 0, 0])) := Ay (D := Aar α n) (A6k α n) n
theorem Azf (α : Type) (n : Nat) : D3.OK PP TT ⟨23, []⟩ (Aar α n) (A1 Tryz.f203) :=
 D3.OK.mk3 (A6k α n) (show Ad (A1 Tryz.f203) = [(2, (.loop ((A1 Tryz.f203).at [1, 1, 0, 0, 0])))] by kernel_rfl) ⟨A9 rfl (Aif α n), trivial⟩
theorem V0 (n : Nat) : (Sy n).Sound PP := fk (fn := Tryz.f203) (Azf _ n) 

def Yl {α : Type} (n : Nat) (s0 s1 : LI) (s5 : Int) (f : LI → LI → Int → Option α) (k0 : Int → Option α) (k1 : Unit → Option α) : Option α :=
 bif (decide (s5 ≥ 0)) then
  gd (decide (0 ≤ s5) && decide (s5 < (s0.length : Int))) (
   gd (decide (0 ≤ s5) && decide (s5 < (s1.length : Int))) (
    bif ((s0.getD s5.toNat 0) != (s1.getD s5.toNat 0)) then
     gd (decide (0 ≤ s5) && decide (s5 < (s0.length : Int))) (
      gd (decide (0 ≤ s5) && decide (s5 < (s1.length : Int))) (
       ob (f147 n (decide ((s0.getD s5.toNat 0) > (s1.getD s5.toNat 0)))) fun r_2 =>
       k0 (W ((W (2 * r_2)) - 1))))
    else
     f s0 s1 (W (s5 - 1))))
 else
  k1 ()
abbrev Po : Tm := ⟨[(0, .d hIs), (1, .d hIs), (5, .d hI)], [], [], []⟩
abbrev Anu : Tm := ⟨[(4, .d hI)], [], [], []⟩
abbrev Ant : Tm := ⟨[], [], [], []⟩
abbrev Yk : List (Exit × Tm) := [(.ret, Anu), (.exit 0, Ant)]
def Yj {α : Type} (n : Nat) (v : Po.den) (f : Po.den → Option α) (ks : KS α Yk) : Option α := Yl n v.1.1 v.1.2.1 v.1.2.2.1 (fun s0 s1 s5 => f ((s0, s1, s5, ()), ())) (fun w0 => ks.1 ((w0, ()), ())) (fun _ => ks.2.1 ((), ()))
def Vc {α : Type} (n m : Nat) (s0 s1 : LI) (s5 : Int) (k0 : Int → Option α) (k1 : Unit → Option α) : Option α := A5 (Yj n) m ((s0, s1, s5, ()), ()) (fun w => k0 w.1.1, fun w => k1 (), ())
theorem Ans {α n m s0 s1 s5 k0 k1} : Vc (α := α) n (m + 1) s0 s1 s5 k0 k1 = Yl n s0 s1 s5 (fun s0 s1 s5 => Vc n m s0 s1 s5 k0 k1) k0 k1 := rfl
def f187 (n : Nat) (a0 a1 : LI) : Option Int :=
 bif ((a0.length : Int) != (a1.length : Int)) then
  ob (f147 n (decide ((a0.length : Int) > (a1.length : Int)))) fun r_1 =>
  some (W ((W (2 * r_1)) - 1))
 else
  Vc n n a0 a1 (W ((a0.length : Int) - 1))
   (fun z_3 => (
    some z_3))
   (fun (_ : Unit) => (
    some 0))
def T6 (n : Nat) : Ent := ⟨187, [hIs, hIs], [hI], fun x => f187 n x.1 x.2⟩
def Ab8 (α : Type) (n : Nat) : D3 α := { reg := [(2, ⟨0, [], [(5, { ent := some (Th n) })]⟩), (6, ⟨8, [], []⟩), (7, ⟨8, [], [(9, { ent := some (Th n) })]⟩)], join := [], loop := [(4, ⟨Po, Yk, A5 (Yj n) n⟩)] }
theorem A6w (α : Type) (n : Nat) : Aj PP (Ah (Ab8 α n).reg) := ⟨Vk n, Vk n, trivial⟩
theorem Air (α : Type) (n : Nat) : LO.Sound (α := α) PP ⟨47, []⟩ ⟨Po, Yk, A5 (Yj n) n⟩ (.loop ((A1 Tryz.f187).at [1, 1, 0, 1, 0, 0])) := Ay (D := Ab8 α n) (A6w α n) n
theorem Azv (α : Type) (n : Nat) : D3.OK PP TT ⟨47, []⟩ (Ab8 α n) (A1 Tryz.f187) :=
 D3.OK.mk3 (A6w α n) (show Ad (A1 Tryz.f187) = [(4, (.loop ((A1 Tryz.f187).at [1, 1, 0, 1, 0, 0])))] by kernel_rfl) ⟨A9 rfl (Air α n), trivial⟩
theorem Vb (n : Nat) : (T6 n).Sound PP := fk (fn := Tryz.f187) (Azv _ n) 

def Z5 {α : Type} (n : Nat) (s0 : Int) (b4 : LI) (f : Int → LI → Option α) (k0 : LI → Option α) : Option α :=
 bif (decide (s0 > 0)) then
  gd (decide ((b4.length + 1) * 8 ≤ 140737488355328)) (
   f (W (Int.tdiv s0 10000)) (b4 ++ [(Int.tmod s0 10000)]))
 else
  k0 b4
abbrev Px : Tm := ⟨[(0, .d hI), (3, .k (.hw 4))], [(4, .arr 3 hI false)], [10], []⟩
abbrev Aod : Tm := ⟨[(3, .k (.hw 4))], [(4, .arr 3 hI false)], [], []⟩
abbrev Z4 : List (Exit × Tm) := [(.exit 0, Aod)]
def Z3 {α : Type} (n : Nat) (v : Px.den) (f : Px.den → Option α) (ks : KS α Z4) : Option α := Z5 n v.1.1 v.2.1 (fun s0 b4 => f ((s0, (), ()), (b4, ()))) (fun w0 => ks.1 (((), ()), (w0, ())))
def Vg {α : Type} (n m : Nat) (s0 : Int) (b4 : LI) (k0 : LI → Option α) : Option α := A5 (Z3 n) m ((s0, (), ()), (b4, ())) (fun w => k0 w.2.1, ())
theorem Aoc {α n m s0 b4 k0} : Vg (α := α) n (m + 1) s0 b4 k0 = Z5 n s0 b4 (fun s0 b4 => Vg n m s0 b4 k0) k0 := rfl
def f172 (n : Nat) (a0 : Int) : Option LI :=
 Vg n n a0 []
  (fun z_1 => (
   some z_1))
def Abg (n : Nat) : Ent := ⟨172, [hI], [hIs], fun x => f172 n x⟩
def Abh (α : Type) (n : Nat) : D3 α := { reg := [(1, ⟨0, [], [(0, { sh := some hI })]⟩), (3, ⟨0, [], [(3, { sh := some hI })]⟩)], join := [], loop := [(2, ⟨Px, Z4, A5 (Z3 n) n⟩)] }
theorem A71 (α : Type) (n : Nat) : Aj PP (Ah (Abh α n).reg) := trivial
theorem Aj3 (α : Type) (n : Nat) : LO.Sound (α := α) PP ⟨15, []⟩ ⟨Px, Z4, A5 (Z3 n) n⟩ (.loop ((A1 Tryz.f172).at [1, 1, 0, 0, 0])) := Ay (D := Abh α n) (A71 α n) n
theorem B03 (α : Type) (n : Nat) : D3.OK PP TT ⟨15, []⟩ (Abh α n) (A1 Tryz.f172) :=
 D3.OK.mk3 (A71 α n) (show Ad (A1 Tryz.f172) = [(2, (.loop ((A1 Tryz.f172).at [1, 1, 0, 0, 0])))] by kernel_rfl) ⟨A9 rfl (Aj3 α n), trivial⟩
theorem Afp (n : Nat) : (Abg n).Sound PP := fk (fn := Tryz.f172) (B03 _ n) 

def Yy {α : Type} (n : Nat) (s0 s1 : LI) (s6 s7 s8 : Int) (b16 : LI) (f : LI → LI → Int → Int → Int → LI → Option α) (k0 : LI → LI → Int → LI → Option α) : Option α :=
 let J_3 := fun (_ : Unit) => (
  gd (decide (0 ≤ (W (s6 + s8))) && decide ((W (s6 + s8)) < (b16.length : Int))) (
   gd (decide ((W (s6 + s8)).toNat < b16.length)) (
    let J_2 := fun (y_1 : Int) => (
     gd (decide (0 ≤ (W (s6 + s8))) && decide ((W (s6 + s8)) < (b16.length : Int))) (
      gd (decide ((W (s6 + s8)).toNat < b16.length)) (
       f s0 s1 s6 (W (Int.tdiv y_1 10000)) (W (s8 + 1)) (b16.set ((W (s6 + s8)).toNat) (Int.tmod y_1 10000)))))
    bif (decide (s8 < (s1.length : Int))) then
     gd (decide (0 ≤ s6) && decide (s6 < (s0.length : Int))) (
      gd (decide (0 ≤ s8) && decide (s8 < (s1.length : Int))) (
       J_2 (W ((W ((b16.getD ((W (s6 + s8)).toNat) 0) + s7)) + (W ((s0.getD s6.toNat 0) * (s1.getD s8.toNat 0)))))))
    else
     J_2 (W ((b16.getD ((W (s6 + s8)).toNat) 0) + s7)))))
 bif (decide (s8 < (s1.length : Int))) then
  J_3 ()
 else
  bif (decide (s7 > 0)) then
   J_3 ()
  else
   k0 s0 s1 s6 b16
abbrev Pu : Tm := ⟨[(0, .d hIs), (1, .d hIs), (5, .k (.hw 16)), (6, .d hI), (7, .d hI), (8, .d hI)], [(16, .arr 3 hI false)], [], []⟩
abbrev Ao8 : Tm := ⟨[(0, .d hIs), (1, .d hIs), (5, .k (.hw 16)), (6, .d hI)], [(16, .arr 3 hI false)], [], []⟩
abbrev Yx : List (Exit × Tm) := [(.exit 2, Ao8)]
def Yw {α : Type} (n : Nat) (v : Pu.den) (f : Pu.den → Option α) (ks : KS α Yx) : Option α := Yy n v.1.1 v.1.2.1 v.1.2.2.2.1 v.1.2.2.2.2.1 v.1.2.2.2.2.2.1 v.2.1 (fun s0 s1 s6 s7 s8 b16 => f ((s0, s1, (), s6, s7, s8, ()), (b16, ()))) (fun w0 w1 w2 w3 => ks.1 ((w0, w1, (), w2, ()), (w3, ())))
def Jw {α : Type} (n m : Nat) (s0 s1 : LI) (s6 s7 s8 : Int) (b16 : LI) (k0 : LI → LI → Int → LI → Option α) : Option α := A5 (Yw n) m ((s0, s1, (), s6, s7, s8, ()), (b16, ())) (fun w => k0 w.1.1 w.1.2.1 w.1.2.2.2.1 w.2.1, ())
theorem Ao7 {α n m s0 s1 s6 s7 s8 b16 k0} : Jw (α := α) n (m + 1) s0 s1 s6 s7 s8 b16 k0 = Yy n s0 s1 s6 s7 s8 b16 (fun s0 s1 s6 s7 s8 b16 => Jw n m s0 s1 s6 s7 s8 b16 k0) k0 := rfl
def Z1 {α : Type} (n : Nat) (s0 s1 : LI) (s6 : Int) (b16 : LI) (f : LI → LI → Int → LI → Option α) (k0 : LI → Option α) : Option α :=
 bif (decide (s6 < (s0.length : Int))) then
  Jw n n s0 s1 s6 0 0 b16
   (fun z_1 z_2 z_3 z_4 => (
    f z_1 z_2 (W (z_3 + 1)) z_4))
 else
  k0 b16
abbrev Pv : Tm := ⟨[(0, .d hIs), (1, .d hIs), (5, .k (.hw 16)), (6, .d hI)], [(16, .arr 3 hI false)], [], []⟩
abbrev Aob : Tm := ⟨[(5, .k (.hw 16))], [(16, .arr 3 hI false)], [], []⟩
abbrev Z0 : List (Exit × Tm) := [(.exit 0, Aob)]
def Yz {α : Type} (n : Nat) (v : Pv.den) (f : Pv.den → Option α) (ks : KS α Z0) : Option α := Z1 n v.1.1 v.1.2.1 v.1.2.2.2.1 v.2.1 (fun s0 s1 s6 b16 => f ((s0, s1, (), s6, ()), (b16, ()))) (fun w0 => ks.1 (((), ()), (w0, ())))
def Jy {α : Type} (n m : Nat) (s0 s1 : LI) (s6 : Int) (b16 : LI) (k0 : LI → Option α) : Option α := A5 (Yz n) m ((s0, s1, (), s6, ()), (b16, ())) (fun w => k0 w.2.1, ())
theorem Ao9 {α n m s0 s1 s6 b16 k0} : Jy (α := α) n (m + 1) s0 s1 s6 b16 k0 = Z1 n s0 s1 s6 b16 (fun s0 s1 s6 b16 => Jy n m s0 s1 s6 b16 k0) k0 := rfl
abbrev Awc : Tm := ⟨[(0, .d hIs), (1, .d hIs), (5, .k (.hw 16)), (6, .d hI), (7, .d hI), (8, .d hI)], [(16, .arr 3 hI false)], [], []⟩
abbrev Asu : Tm := ⟨[(0, .d hIs), (1, .d hIs), (5, .k (.hw 16)), (6, .d hI), (8, .d hI), (9, .d hI)], [(16, .arr 3 hI false)], [], []⟩
def f178 (n : Nat) (a0 a1 : LI) : Option LI :=
 gd (decide (0 ≤ (W ((W ((a0.length : Int) + (a1.length : Int))) + 1))) && decide ((W ((W ((a0.length : Int) + (a1.length : Int))) + 1)) ≤ 4611686018427387904) && decide ((8 : Int) * (W ((W ((a0.length : Int) + (a1.length : Int))) + 1)) ≤ 281474976710656)) (
  Jy n n a0 a1 0 (List.replicate ((W ((W ((a0.length : Int) + (a1.length : Int))) + 1)).toNat) 0)
   (fun z_5 => (
    ob (f203 n z_5) fun r_6 =>
    some r_6)))
def Nn (n : Nat) : Ent := ⟨178, [hIs, hIs], [hIs], fun x => f178 n x.1 x.2⟩
def A1t (α : Type) (n : Nat) : D3 α := { reg := [(11, ⟨10, [], []⟩), (14, ⟨0, [], [(1, { ent := some (Sy n), fz := [(65, hIs)] })]⟩)], join := [(9, Awc), (12, Asu)], loop := [(7, ⟨Pu, Yx, A5 (Yw n) n⟩), (3, ⟨Pv, Z0, A5 (Yz n) n⟩)] }
theorem Ta (α : Type) (n : Nat) : Aj PP (Ah (A1t α n).reg) := ⟨V0 n, trivial⟩
theorem Aj0 (α : Type) (n : Nat) : LO.Sound (α := α) PP ⟨67, []⟩ ⟨Pu, Yx, A5 (Yw n) n⟩ (.loop ((A1 Tryz.f178).at [1, 1, 0, 1, 0, 0, 1, 0, 0, 1, 1, 0, 0])) := Ay (D := A1t α n) (Ta α n) n
theorem Aoa (α : Type) (n : Nat) : D3.OK PP TT ⟨67, []⟩ (A1t α n) ((A1 Tryz.f178).at [1, 1, 0, 1, 0, 0]) :=
 D3.OK.mk3 (Ta α n) (show Ad ((A1 Tryz.f178).at [1, 1, 0, 1, 0, 0]) = [(7, (.loop ((A1 Tryz.f178).at [1, 1, 0, 1, 0, 0, 1, 0, 0, 1, 1, 0, 0])))] by kernel_rfl) ⟨A9 rfl (Aj0 α n), trivial⟩
theorem Aj1 (α : Type) (n : Nat) : LO.Sound (α := α) PP ⟨67, []⟩ ⟨Pv, Z0, A5 (Yz n) n⟩ (.loop ((A1 Tryz.f178).at [1, 1, 0, 1, 0, 0])) := lk (Aoa α n) n
theorem B01 (α : Type) (n : Nat) : D3.OK PP TT ⟨67, []⟩ (A1t α n) (A1 Tryz.f178) :=
 D3.OK.mk3 (Ta α n) (show Ad (A1 Tryz.f178) = [(3, (.loop ((A1 Tryz.f178).at [1, 1, 0, 1, 0, 0])))] by kernel_rfl) ⟨A9 rfl (Aj1 α n), trivial⟩
theorem Nm (n : Nat) : (Nn n).Sound PP := fk (fn := Tryz.f178) (B01 _ n) 

def Yi {α : Type} (n : Nat) (s0 s1 : LI) (s6 s7 : Int) (b9 : LI) (f : LI → LI → Int → Int → LI → Option α) (k0 : LI → Option α) : Option α :=
 bif (decide (s7 < (s0.length : Int))) then
  gd (decide (0 ≤ s7) && decide (s7 < (s0.length : Int))) (
   let J_3 := fun (y_1 : Int) => (
    ob (f147 n (decide (y_1 < 0))) fun r_2 =>
    gd (decide ((b9.length + 1) * 8 ≤ 140737488355328)) (
     f s0 s1 r_2 (W (s7 + 1)) (b9 ++ [(W (y_1 + (W (r_2 * 10000))))])))
   bif (decide (s7 < (s1.length : Int))) then
    gd (decide (0 ≤ s7) && decide (s7 < (s1.length : Int))) (
     J_3 (W ((W ((s0.getD s7.toNat 0) - s6)) - (s1.getD s7.toNat 0))))
   else
    J_3 (W ((s0.getD s7.toNat 0) - s6)))
 else
  k0 b9
abbrev Pn : Tm := ⟨[(0, .d hIs), (1, .d hIs), (5, .k (.hw 9)), (6, .d hI), (7, .d hI)], [(9, .arr 3 hI false)], [40], []⟩
abbrev Anr : Tm := ⟨[(5, .k (.hw 9))], [(9, .arr 3 hI false)], [], []⟩
abbrev Yh : List (Exit × Tm) := [(.exit 0, Anr)]
def Yg {α : Type} (n : Nat) (v : Pn.den) (f : Pn.den → Option α) (ks : KS α Yh) : Option α := Yi n v.1.1 v.1.2.1 v.1.2.2.2.1 v.1.2.2.2.2.1 v.2.1 (fun s0 s1 s6 s7 b9 => f ((s0, s1, (), s6, s7, ()), (b9, ()))) (fun w0 => ks.1 (((), ()), (w0, ())))
def Jv {α : Type} (n m : Nat) (s0 s1 : LI) (s6 s7 : Int) (b9 : LI) (k0 : LI → Option α) : Option α := A5 (Yg n) m ((s0, s1, (), s6, s7, ()), (b9, ())) (fun w => k0 w.2.1, ())
theorem Anq {α n m s0 s1 s6 s7 b9 k0} : Jv (α := α) n (m + 1) s0 s1 s6 s7 b9 k0 = Yi n s0 s1 s6 s7 b9 (fun s0 s1 s6 s7 b9 => Jv n m s0 s1 s6 s7 b9 k0) k0 := rfl
abbrev Aw3 : Tm := ⟨[(0, .d hIs), (1, .d hIs), (5, .k (.hw 9)), (7, .d hI), (8, .d hI)], [(9, .arr 3 hI false)], [], []⟩
def f188 (n : Nat) (a0 a1 : LI) : Option LI :=
 Jv n n a0 a1 0 0 []
  (fun z_4 => (
   ob (f203 n z_4) fun r_5 =>
   some r_5))
def A1q (n : Nat) : Ent := ⟨188, [hIs, hIs], [hIs], fun x => f188 n x.1 x.2⟩
def Ab7 (α : Type) (n : Nat) : D3 α := { reg := [(1, ⟨0, [], [(0, { sh := some hI })]⟩), (9, ⟨0, [], [(2, { ent := some (Th n) })]⟩), (10, ⟨0, [], [(5, { sh := some hI })]⟩), (11, ⟨0, [], [(1, { ent := some (Sy n), fz := [(42, hIs)] })]⟩)], join := [(9, Aw3)], loop := [(4, ⟨Pn, Yh, A5 (Yg n) n⟩)] }
theorem A6v (α : Type) (n : Nat) : Aj PP (Ah (Ab7 α n).reg) := ⟨Vk n, V0 n, trivial⟩
theorem Aiq (α : Type) (n : Nat) : LO.Sound (α := α) PP ⟨44, []⟩ ⟨Pn, Yh, A5 (Yg n) n⟩ (.loop ((A1 Tryz.f188).at [1, 1, 1, 0, 1, 0, 0])) := Ay (D := Ab7 α n) (A6v α n) n
theorem Azu (α : Type) (n : Nat) : D3.OK PP TT ⟨44, []⟩ (Ab7 α n) (A1 Tryz.f188) :=
 D3.OK.mk3 (A6v α n) (show Ad (A1 Tryz.f188) = [(4, (.loop ((A1 Tryz.f188).at [1, 1, 1, 0, 1, 0, 0])))] by kernel_rfl) ⟨A9 rfl (Aiq α n), trivial⟩
theorem A4g (n : Nat) : (A1q n).Sound PP := fk (fn := Tryz.f188) (Azu _ n) 

def T3 {α : Type} (n : Nat) (s0 s1 s7 : LI) (s8 s9 s10 : Int) (b14 : LI) (f : LI → LI → LI → Int → Int → Int → LI → Option α) (k0 : LI → LI → LI → Int → Int → LI → Option α) : Option α :=
 bif (decide ((W (s10 - s9)) > 1)) then
  ob (f172 n (W (Int.tdiv (W (s9 + s10)) 2))) fun r_3 =>
  ob (f178 n s1 r_3) fun r_4 =>
  ob (f187 n r_4 s7) fun r_5 =>
  bif (decide (r_5 ≤ 0)) then
   f s0 s1 s7 s8 (W (Int.tdiv (W (s9 + s10)) 2)) s10 b14
  else
   f s0 s1 s7 s8 s9 (W (Int.tdiv (W (s9 + s10)) 2)) b14
 else
  k0 s0 s1 s7 s8 s9 b14
abbrev M0 : Tm := ⟨[(0, .d hIs), (1, .d hIs), (6, .k (.hw 14)), (7, .d hIs), (8, .d hI), (9, .d hI), (10, .d hI)], [(14, .arr 3 hI false)], [27], []⟩
abbrev Aii : Tm := ⟨[(0, .d hIs), (1, .d hIs), (6, .k (.hw 14)), (7, .d hIs), (8, .d hI), (9, .d hI)], [(14, .arr 3 hI false)], [], []⟩
abbrev T2 : List (Exit × Tm) := [(.exit 2, Aii)]
def T1 {α : Type} (n : Nat) (v : M0.den) (f : M0.den → Option α) (ks : KS α T2) : Option α := T3 n v.1.1 v.1.2.1 v.1.2.2.2.1 v.1.2.2.2.2.1 v.1.2.2.2.2.2.1 v.1.2.2.2.2.2.2.1 v.2.1 (fun s0 s1 s7 s8 s9 s10 b14 => f ((s0, s1, (), s7, s8, s9, s10, ()), (b14, ()))) (fun w0 w1 w2 w3 w4 w5 => ks.1 ((w0, w1, (), w2, w3, w4, ()), (w5, ())))
def Kv {α : Type} (n m : Nat) (s0 s1 s7 : LI) (s8 s9 s10 : Int) (b14 : LI) (k0 : LI → LI → LI → Int → Int → LI → Option α) : Option α := A5 (T1 n) m ((s0, s1, (), s7, s8, s9, s10, ()), (b14, ())) (fun w => k0 w.1.1 w.1.2.1 w.1.2.2.2.1 w.1.2.2.2.2.1 w.1.2.2.2.2.2.1 w.2.1, ())
theorem Aih {α n m s0 s1 s7 s8 s9 s10 b14 k0} : Kv (α := α) n (m + 1) s0 s1 s7 s8 s9 s10 b14 k0 = T3 n s0 s1 s7 s8 s9 s10 b14 (fun s0 s1 s7 s8 s9 s10 b14 => Kv n m s0 s1 s7 s8 s9 s10 b14 k0) k0 := rfl
def Pg {α : Type} (n : Nat) (s0 s1 s7 : LI) (s8 : Int) (b14 : LI) (f : LI → LI → LI → Int → LI → Option α) (k0 : LI → LI → Option α) : Option α :=
 bif (decide (s8 ≥ 0)) then
  gd (decide (0 ≤ s8) && decide (s8 < (s0.length : Int))) (
   gd (decide ((1 + s7.length) * 8 ≤ 140737488355328)) (
    ob (f203 n ([(s0.getD s8.toNat 0)] ++ s7)) fun r_1 =>
    ob (f187 n r_1 s1) fun r_2 =>
    bif (decide (r_2 < 0)) then
     f s0 s1 r_1 (W (s8 - 1)) b14
    else
     Kv n n s0 s1 r_1 s8 0 10000 b14
      (fun z_3 z_4 z_5 z_6 z_7 z_8 => (
       gd (decide (0 ≤ z_6) && decide (z_6 < (z_8.length : Int))) (
        gd (decide (z_6.toNat < z_8.length)) (
         ob (f172 n z_7) fun r_9 =>
         ob (f178 n z_4 r_9) fun r_10 =>
         ob (f188 n z_5 r_10) fun r_11 =>
         f z_3 z_4 r_11 (W (z_6 - 1)) (z_8.set z_6.toNat z_7)))))))
 else
  k0 s7 b14
abbrev Pf : Tm := ⟨[(0, .d hIs), (1, .d hIs), (6, .k (.hw 14)), (7, .d hIs), (8, .d hI)], [(14, .arr 3 hI false)], [15, 27], [(7, hIs)]⟩
abbrev An7 : Tm := ⟨[(6, .k (.hw 14)), (7, .d hIs)], [(14, .arr 3 hI false)], [], []⟩
abbrev Y0 : List (Exit × Tm) := [(.exit 0, An7)]
def Xz {α : Type} (n : Nat) (v : Pf.den) (f : Pf.den → Option α) (ks : KS α Y0) : Option α := Pg n v.1.1 v.1.2.1 v.1.2.2.2.1 v.1.2.2.2.2.1 v.2.1 (fun s0 s1 s7 s8 b14 => f ((s0, s1, (), s7, s8, ()), (b14, ()))) (fun w0 w1 => ks.1 (((), w0, ()), (w1, ())))
def Ni {α : Type} (n m : Nat) (s0 s1 s7 : LI) (s8 : Int) (b14 : LI) (k0 : LI → LI → Option α) : Option α := A5 (Xz n) m ((s0, s1, (), s7, s8, ()), (b14, ())) (fun w => k0 w.1.2.1 w.2.1, ())
theorem A6l {α n m s0 s1 s7 s8 b14 k0} : Ni (α := α) n (m + 1) s0 s1 s7 s8 b14 k0 = Pg n s0 s1 s7 s8 b14 (fun s0 s1 s7 s8 b14 => Ni n m s0 s1 s7 s8 b14 k0) k0 := rfl
def f202 (n : Nat) (a0 a1 : LI) : Option (LI × LI) :=
 gd (decide (0 ≤ (a0.length : Int)) && decide ((a0.length : Int) ≤ 4611686018427387904) && decide ((8 : Int) * (a0.length : Int) ≤ 281474976710656)) (
  Ni n n a0 a1 [] (W ((a0.length : Int) - 1)) (List.replicate ((a0.length : Int).toNat) 0)
   (fun z_12 z_13 => (
    ob (f203 n z_13) fun r_14 =>
    some (r_14, z_12))))
def A1j (n : Nat) : Ent := ⟨202, [hIs, hIs], [hIs, hIs], fun x => f202 n x.1 x.2⟩
def A1k (α : Type) (n : Nat) : D3 α := { reg := [(2, ⟨0, [], [(0, { sh := some hI })]⟩), (6, ⟨0, [], [(4, { sh := some hI }), (7, { ent := some (Sy n), fz := [(29, hIs)] })]⟩), (7, ⟨0, [], [(2, { ent := some (T6 n) })]⟩), (12, ⟨0, [], [(2, { ent := some (Abg n) }), (3, { ent := some (Nn n) }), (5, { ent := some (T6 n) })]⟩), (16, ⟨0, [], [(3, { ent := some (Abg n) }), (4, { ent := some (Nn n) }), (5, { ent := some (A1q n) })]⟩), (17, ⟨0, [], [(1, { ent := some (Sy n), fz := [(62, hIs)] })]⟩)], join := [], loop := [(10, ⟨M0, T2, A5 (T1 n) n⟩), (4, ⟨Pf, Y0, A5 (Xz n) n⟩)] }
theorem T0 (α : Type) (n : Nat) : Aj PP (Ah (A1k α n).reg) := ⟨V0 n, Vb n, Afp n, Nm n, Vb n, Afp n, Nm n, A4g n, V0 n, trivial⟩
theorem Adu (α : Type) (n : Nat) : LO.Sound (α := α) PP ⟨65, []⟩ ⟨M0, T2, A5 (T1 n) n⟩ (.loop ((A1 Tryz.f202).at [1, 1, 1, 0, 1, 0, 0, 1, 0, 0, 1, 1, 1, 1, 0, 0, 0])) := Ay (D := A1k α n) (T0 α n) n
theorem An6 (α : Type) (n : Nat) : D3.OK PP TT ⟨65, []⟩ (A1k α n) ((A1 Tryz.f202).at [1, 1, 1, 0, 1, 0, 0]) :=
 D3.OK.mk3 (T0 α n) (show Ad ((A1 Tryz.f202).at [1, 1, 1, 0, 1, 0, 0]) = [(10, (.loop ((A1 Tryz.f202).at [1, 1, 1, 0, 1, 0, 0, 1, 0, 0, 1, 1, 1, 1, 0, 0, 0])))] by kernel_rfl) ⟨A9 rfl (Adu α n), trivial⟩
theorem Aig (α : Type) (n : Nat) : LO.Sound (α := α) PP ⟨65, []⟩ ⟨Pf, Y0, A5 (Xz n) n⟩ (.loop ((A1 Tryz.f202).at [1, 1, 1, 0, 1, 0, 0])) := lk (An6 α n) n
theorem Azg (α : Type) (n : Nat) : D3.OK PP TT ⟨65, []⟩ (A1k α n) (A1 Tryz.f202) :=
 D3.OK.mk3 (T0 α n) (show Ad (A1 Tryz.f202) = [(4, (.loop ((A1 Tryz.f202).at [1, 1, 1, 0, 1, 0, 0])))] by kernel_rfl) ⟨A9 rfl (Aig α n), trivial⟩
theorem A49 (n : Nat) : (A1j n).Sound PP := fk (fn := Tryz.f202) (Azg _ n) 

def Yc {α : Type} (n : Nat) (s0 s1 : LI) (f : LI → LI → Option α) (k0 : LI → Option α) : Option α :=
 bif (decide ((s1.length : Int) > 0)) then
  ob (f202 n s0 s1) fun r_1 =>
  f s1 r_1.2
 else
  k0 s0
abbrev Pl : Tm := ⟨[(0, .d hIs), (1, .d hIs)], [], [], []⟩
abbrev Anl : Tm := ⟨[(0, .d hIs)], [], [], []⟩
abbrev Yb : List (Exit × Tm) := [(.exit 0, Anl)]
def Ya {α : Type} (n : Nat) (v : Pl.den) (f : Pl.den → Option α) (ks : KS α Yb) : Option α := Yc n v.1.1 v.1.2.1 (fun s0 s1 => f ((s0, s1, ()), ())) (fun w0 => ks.1 ((w0, ()), ()))
def Hx {α : Type} (n m : Nat) (s0 s1 : LI) (k0 : LI → Option α) : Option α := A5 (Ya n) m ((s0, s1, ()), ()) (fun w => k0 w.1.1, ())
theorem A6s {α n m s0 s1 k0} : Hx (α := α) n (m + 1) s0 s1 k0 = Yc n s0 s1 (fun s0 s1 => Hx n m s0 s1 k0) k0 := rfl
def f190 (n : Nat) (a0 a1 : LI) : Option LI :=
 Hx n n a0 a1
  (fun z_2 => (
   gd (decide ((0 + z_2.length) * 8 ≤ 140737488355328)) (
    some z_2)))
def Ab1 (n : Nat) : Ent := ⟨190, [hIs, hIs], [hIs], fun x => f190 n x.1 x.2⟩
def Ab2 (α : Type) (n : Nat) : D3 α := { reg := [(2, ⟨0, [], [(2, { ent := some (A1j n) })]⟩), (5, ⟨0, [], [(0, { sh := some hI })]⟩)], join := [], loop := [(1, ⟨Pl, Yb, A5 (Ya n) n⟩)] }
theorem A6r (α : Type) (n : Nat) : Aj PP (Ah (Ab2 α n).reg) := ⟨A49 n, trivial⟩
theorem Ain (α : Type) (n : Nat) : LO.Sound (α := α) PP ⟨21, []⟩ ⟨Pl, Yb, A5 (Ya n) n⟩ (.loop ((A1 Tryz.f190).at [1, 0, 0, 0])) := Ay (D := Ab2 α n) (A6r α n) n
theorem Azr (α : Type) (n : Nat) : D3.OK PP TT ⟨21, []⟩ (Ab2 α n) (A1 Tryz.f190) :=
 D3.OK.mk3 (A6r α n) (show Ad (A1 Tryz.f190) = [(1, (.loop ((A1 Tryz.f190).at [1, 0, 0, 0])))] by kernel_rfl) ⟨A9 rfl (Ain α n), trivial⟩
theorem Afl (n : Nat) : (Ab1 n).Sound PP := fk (fn := Tryz.f190) (Azr _ n) 

abbrev Aww : Tm := ⟨[(1, .k (.hp 1 0 0))], [(1, .var 30 true false [.d .bool, .d hIs, .d hIs])], [], []⟩
def f148 (n : Nat) (a0 : Rq) : Option Bool :=
 let J_5 := fun (_ : Unit) => (
  ob (f190 n a0.2.1 a0.2.2) fun r_3 =>
  ob (f187 n r_3 [1]) fun r_4 =>
  some (r_4 == 0))
 ob (f189 n a0.2.1) fun r_1 =>
 bif (!r_1) then
  some false
 else
  ob (f189 n a0.2.2) fun r_2 =>
  bif (!r_2) then
   some false
  else
   bif ((a0.2.2.length : Int) == 0) then
    some false
   else
    bif ((a0.2.1.length : Int) == 0) then
     bif a0.1 then
      some false
     else
      J_5 ()
    else
     J_5 ()
def Abt (n : Nat) : Ent := ⟨148, [hR], [.bool], fun x => f148 n x⟩
def B0l (α : Type) (n : Nat) : D3 α := { reg := [(1, ⟨0, [], [(2, { ent := some (Ab5 n) }), (7, { ent := some (Ab5 n) })]⟩), (3, ⟨0, [], [(4, { ent := some (Ab1 n) }), (5, { sh := some hI }), (6, { ent := some (T6 n) })]⟩)], join := [(3, Aww)], loop := [] }
theorem Ag0 (n : Nat) : (Abt n).Sound PP := Ap (fn := Tryz.f148) (D := B0l _ n) ⟨Afm n, Afm n, Afl n, Vb n, trivial⟩ 

def A07 {α : Type} (n : Nat) (s0 : LR) (s3 : Int) (f : LR → Int → Option α) (k0 : Bool → Option α) (k1 : LR → Option α) : Option α :=
 bif (decide (s3 < (s0.length : Int))) then
  gd (decide (0 ≤ s3) && decide (s3 < (s0.length : Int))) (
   let x_1 := s0.getD s3.toNat (false, [], [])
   ob (f148 n x_1) fun r_2 =>
   bif (!r_2) then
    k0 false
   else
    f s0 (W (s3 + 1)))
 else
  k1 s0
abbrev Qf : Tm := ⟨[(0, .d hRs), (3, .d hI)], [], [], []⟩
abbrev Apt : Tm := ⟨[(2, .d .bool)], [], [], []⟩
abbrev Aps : Tm := ⟨[(0, .d hRs)], [], [], []⟩
abbrev A06 : List (Exit × Tm) := [(.ret, Apt), (.exit 0, Aps)]
def A05 {α : Type} (n : Nat) (v : Qf.den) (f : Qf.den → Option α) (ks : KS α A06) : Option α := A07 n v.1.1 v.1.2.1 (fun s0 s3 => f ((s0, s3, ()), ())) (fun w0 => ks.1 ((w0, ()), ())) (fun w0 => ks.2.1 ((w0, ()), ()))
def O0 {α : Type} (n m : Nat) (s0 : LR) (s3 : Int) (k0 : Bool → Option α) (k1 : LR → Option α) : Option α := A5 (A05 n) m ((s0, s3, ()), ()) (fun w => k0 w.1.1, fun w => k1 w.1.1, ())
theorem Apr {α n m s0 s3 k0 k1} : O0 (α := α) n (m + 1) s0 s3 k0 k1 = A07 n s0 s3 (fun s0 s3 => O0 n m s0 s3 k0 k1) k0 k1 := rfl
def f114 (n : Nat) (a0 : LR) : Option Bool :=
 bif (decide ((a0.length : Int) > 4096)) then
  some false
 else
  O0 n n a0 0
   (fun z_3 => (
    some z_3))
   (fun z_4 => (
    ob (f65 n (z_4.length : Int) 1 4) fun r_5 =>
    some r_5))
def Tp (n : Nat) : Ent := ⟨114, [hRs], [.bool], fun x => f114 n x⟩
def Ac9 (α : Type) (n : Nat) : D3 α := { reg := [(6, ⟨0, [], [(4, { ent := some (Abt n) })]⟩), (8, ⟨0, [], [(2, { ent := some (Es n) })]⟩)], join := [], loop := [(4, ⟨Qf, A06, A5 (A05 n) n⟩)] }
theorem A7j (α : Type) (n : Nat) : Aj PP (Ah (Ac9 α n).reg) := ⟨Ag0 n, Dr n, trivial⟩
theorem Ajr (α : Type) (n : Nat) : LO.Sound (α := α) PP ⟨22, []⟩ ⟨Qf, A06, A5 (A05 n) n⟩ (.loop ((A1 Tryz.f114).at [1, 1, 0, 1, 0, 0])) := Ay (D := Ac9 α n) (A7j α n) n
theorem B10 (α : Type) (n : Nat) : D3.OK PP TT ⟨22, []⟩ (Ac9 α n) (A1 Tryz.f114) :=
 D3.OK.mk3 (A7j α n) (show Ad (A1 Tryz.f114) = [(4, (.loop ((A1 Tryz.f114).at [1, 1, 0, 1, 0, 0])))] by kernel_rfl) ⟨A9 rfl (Ajr α n), trivial⟩
theorem Vq (n : Nat) : (Tp n).Sound PP := fk (fn := Tryz.f114) (B10 _ n) 

def Y7 {α : Type} (n : Nat) (s3 s4 : Int) (c1_0 : LN) (f : Int → Int → LN → Option α) (k0 : Int → Option α) : Option α :=
 bif (decide (s4 < (c1_0.length : Int))) then
  gd (decide (0 ≤ s4) && decide (s4 < (c1_0.length : Int))) (
   let x_1 := c1_0.getD s4.toNat (0, 0, 0, 0)
   bif (x_1.1 == 2) then
    gd (decide (0 ≤ s4) && decide (s4 < (c1_0.length : Int))) (
     let x_2 := c1_0.getD s4.toNat (0, 0, 0, 0)
     f (max s3 (W (x_2.2.2.2 + 1))) (W (s4 + 1)) c1_0)
   else
    f s3 (W (s4 + 1)) c1_0)
 else
  k0 s3
abbrev Pj : Tm := ⟨[(1, .k (.hp 1 0 0)), (3, .d hI), (4, .d hI)], [(1, .var 54 true false [.d hNs])], [], []⟩
abbrev Ang : Tm := ⟨[(3, .d hI)], [], [1], []⟩
abbrev Y6 : List (Exit × Tm) := [(.exit 0, Ang)]
def Y5 {α : Type} (n : Nat) (v : Pj.den) (f : Pj.den → Option α) (ks : KS α Y6) : Option α := Y7 n v.1.2.1 v.1.2.2.1 v.2.1.1 (fun s3 s4 c1_0 => f (((), s3, s4, ()), ((c1_0, ()), ()))) (fun w0 => ks.1 ((w0, ()), ()))
def V7 {α : Type} (n m : Nat) (s3 s4 : Int) (c1_0 : LN) (k0 : Int → Option α) : Option α := A5 (Y5 n) m (((), s3, s4, ()), ((c1_0, ()), ())) (fun w => k0 w.1.1, ())
theorem Anf {α n m s3 s4 c1_0 k0} : V7 (α := α) n (m + 1) s3 s4 c1_0 k0 = Y7 n s3 s4 c1_0 (fun s3 s4 c1_0 => V7 n m s3 s4 c1_0 k0) k0 := rfl
def f192 (n : Nat) (a0 : LN) : Option Int :=
 V7 n n 0 0 a0
  (fun z_3 => (
   some z_3))
def Anh (n : Nat) : Ent := ⟨192, [hE], [hI], fun x => f192 n x⟩
def Aaz (α : Type) (n : Nat) : D3 α := { reg := [], join := [], loop := [(3, ⟨Pj, Y6, A5 (Y5 n) n⟩)] }
theorem A6o (α : Type) (n : Nat) : Aj PP (Ah (Aaz α n).reg) := trivial
theorem Ail (α : Type) (n : Nat) : LO.Sound (α := α) PP ⟨29, []⟩ ⟨Pj, Y6, A5 (Y5 n) n⟩ (.loop ((A1 Tryz.f192).at [1, 1, 0, 1, 0, 0])) := Ay (D := Aaz α n) (A6o α n) n
theorem Azp (α : Type) (n : Nat) : D3.OK PP TT ⟨29, []⟩ (Aaz α n) (A1 Tryz.f192) :=
 D3.OK.mk3 (A6o α n) (show Ad (A1 Tryz.f192) = [(3, (.loop ((A1 Tryz.f192).at [1, 1, 0, 1, 0, 0])))] by kernel_rfl) ⟨A9 rfl (Ail α n), trivial⟩
theorem Avy (n : Nat) : (Anh n).Sound PP := fk (fn := Tryz.f192) (Azp _ n) 

def f116 (n : Nat) (a0 : Rq) : Option Bool :=
 some ((a0.2.1.length : Int) == 0)
def Apq (n : Nat) : Ent := ⟨116, [hR], [.bool], fun x => f116 n x⟩
def B0z (α : Type) (n : Nat) : D3 α := { reg := [], join := [], loop := [] }
theorem Ax9 (n : Nat) : (Apq n).Sound PP := Ap (fn := Tryz.f116) (D := B0z _ n) trivial 

def f135 (n : Nat) (a0 : Rq) : Option Int :=
 ob (f116 n a0) fun r_1 =>
 bif r_1 then
  some 0
 else
  bif a0.1 then
   some (-1)
  else
   some 1
def Abx (n : Nat) : Ent := ⟨135, [hR], [hI], fun x => f135 n x⟩
def B0r (α : Type) (n : Nat) : D3 α := { reg := [(1, ⟨0, [], [(1, { ent := some (Apq n) })]⟩)], join := [], loop := [] }
theorem Ag3 (n : Nat) : (Abx n).Sound PP := Ap (fn := Tryz.f135) (D := B0r _ n) ⟨Ax9 n, trivial⟩ 

def f155 (n : Nat) (a0 : LN × LR × LR × LR × Int × Rq × Int × Int) : Option Bool :=
 some (decide ((a0.2.2.1.length : Int) > 0))
def Abp (n : Nat) : Ent := ⟨155, [(.st (.pair hE (.pair hRs (.pair hRs (.pair hRs (.pair hI (.pair hR (.pair hI hI))))))))], [.bool], fun x => f155 n x⟩
def B0f (α : Type) (n : Nat) : D3 α := { reg := [], join := [], loop := [] }
theorem Afy (n : Nat) : (Abp n).Sound PP := Ap (fn := Tryz.f155) (D := B0f _ n) trivial 

def f138 (n : Nat) (a0 : Rq) : Option Rq :=
 bif (!a0.1) then
  some ((decide ((a0.2.1.length : Int) > 0)), a0.2)
 else
  some (false, a0.2)
def Apf (n : Nat) : Ent := ⟨138, [hR], [hR], fun x => f138 n x⟩
def B0q (α : Type) (n : Nat) : D3 α := { reg := [], join := [], loop := [] }
theorem Ax3 (n : Nat) : (Apf n).Sound PP := Ap (fn := Tryz.f138) (D := B0q _ n) trivial 

def Yo {α : Type} (n : Nat) (s0 s1 : LI) (s6 s7 : Int) (b8 : LI) (f : LI → LI → Int → Int → LI → Option α) (k0 : LI → Option α) : Option α :=
 let J_5 := fun (_ : Unit) => (
  let J_4 := fun (y_1 : Int) => (
   let J_3 := fun (y_2 : Int) => (
    gd (decide ((b8.length + 1) * 8 ≤ 140737488355328)) (
     f s0 s1 (W (Int.tdiv y_2 10000)) (W (s7 + 1)) (b8 ++ [(Int.tmod y_2 10000)])))
   bif (decide (s7 < (s1.length : Int))) then
    gd (decide (0 ≤ s7) && decide (s7 < (s1.length : Int))) (
     J_3 (W (y_1 + (s1.getD s7.toNat 0))))
   else
    J_3 y_1)
  bif (decide (s7 < (s0.length : Int))) then
   gd (decide (0 ≤ s7) && decide (s7 < (s0.length : Int))) (
    J_4 (W (s6 + (s0.getD s7.toNat 0))))
  else
   J_4 s6)
 bif (decide (s7 < (s0.length : Int))) then
  J_5 ()
 else
  bif (decide (s7 < (s1.length : Int))) then
   J_5 ()
  else
   bif (decide (s6 > 0)) then
    J_5 ()
   else
    k0 b8
abbrev Pp : Tm := ⟨[(0, .d hIs), (1, .d hIs), (5, .k (.hw 8)), (6, .d hI), (7, .d hI)], [(8, .arr 3 hI false)], [48], []⟩
abbrev Anw : Tm := ⟨[(5, .k (.hw 8))], [(8, .arr 3 hI false)], [], []⟩
abbrev Yn : List (Exit × Tm) := [(.exit 0, Anw)]
def Ym {α : Type} (n : Nat) (v : Pp.den) (f : Pp.den → Option α) (ks : KS α Yn) : Option α := Yo n v.1.1 v.1.2.1 v.1.2.2.2.1 v.1.2.2.2.2.1 v.2.1 (fun s0 s1 s6 s7 b8 => f ((s0, s1, (), s6, s7, ()), (b8, ()))) (fun w0 => ks.1 (((), ()), (w0, ())))
def Nl {α : Type} (n m : Nat) (s0 s1 : LI) (s6 s7 : Int) (b8 : LI) (k0 : LI → Option α) : Option α := A5 (Ym n) m ((s0, s1, (), s6, s7, ()), (b8, ())) (fun w => k0 w.2.1, ())
theorem Anv {α n m s0 s1 s6 s7 b8 k0} : Nl (α := α) n (m + 1) s0 s1 s6 s7 b8 k0 = Yo n s0 s1 s6 s7 b8 (fun s0 s1 s6 s7 b8 => Nl n m s0 s1 s6 s7 b8 k0) k0 := rfl
abbrev Aw8 : Tm := ⟨[(0, .d hIs), (1, .d hIs), (5, .k (.hw 8)), (6, .d hI), (7, .d hI)], [(8, .arr 3 hI false)], [], []⟩
abbrev Aw7 : Tm := ⟨[(0, .d hIs), (1, .d hIs), (5, .k (.hw 8)), (6, .d hI), (7, .d hI)], [(8, .arr 3 hI false)], [], []⟩
abbrev Aso : Tm := ⟨[(0, .d hIs), (1, .d hIs), (5, .k (.hw 8)), (6, .d hI), (7, .d hI)], [(8, .arr 3 hI false)], [], []⟩
def f186 (n : Nat) (a0 a1 : LI) : Option LI :=
 Nl n n a0 a1 0 0 []
  (fun z_6 => (
   some z_6))
def Anx (n : Nat) : Ent := ⟨186, [hIs, hIs], [hIs], fun x => f186 n x.1 x.2⟩
def Ab9 (α : Type) (n : Nat) : D3 α := { reg := [(1, ⟨0, [], [(0, { sh := some hI })]⟩), (10, ⟨0, [], [(3, { sh := some hI })]⟩)], join := [(6, Aw8), (8, Aw7), (10, Aso)], loop := [(4, ⟨Pp, Yn, A5 (Ym n) n⟩)] }
theorem A6x (α : Type) (n : Nat) : Aj PP (Ah (Ab9 α n).reg) := trivial
theorem Ais (α : Type) (n : Nat) : LO.Sound (α := α) PP ⟨53, []⟩ ⟨Pp, Yn, A5 (Ym n) n⟩ (.loop ((A1 Tryz.f186).at [1, 1, 1, 0, 1, 0, 0])) := Ay (D := Ab9 α n) (A6x α n) n
theorem Azw (α : Type) (n : Nat) : D3.OK PP TT ⟨53, []⟩ (Ab9 α n) (A1 Tryz.f186) :=
 D3.OK.mk3 (A6x α n) (show Ad (A1 Tryz.f186) = [(4, (.loop ((A1 Tryz.f186).at [1, 1, 1, 0, 1, 0, 0])))] by kernel_rfl) ⟨A9 rfl (Ais α n), trivial⟩
theorem Aw5 (n : Nat) : (Anx n).Sound PP := fk (fn := Tryz.f186) (Azw _ n) 

def f177 (n : Nat) (a0 : Bool) (a1 a2 : LI) : Option Rq :=
 ob (f190 n a1 a2) fun r_1 =>
 ob (f202 n a1 r_1) fun r_2 =>
 ob (f202 n a2 r_1) fun r_3 =>
 bif a0 then
  some ((decide ((r_2.1.length : Int) > 0)), r_2.1, r_3.1)
 else
  some (false, r_2.1, r_3.1)
def A1u (n : Nat) : Ent := ⟨177, [.bool, hIs, hIs], [hR], fun x => f177 n x.1 x.2.1 x.2.2⟩
def B02 (α : Type) (n : Nat) : D3 α := { reg := [(1, ⟨0, [], [(2, { ent := some (Ab1 n) })]⟩), (2, ⟨0, [], [(2, { ent := some (A1j n) })]⟩), (3, ⟨0, [], [(2, { ent := some (A1j n) })]⟩)], join := [], loop := [] }
theorem A4j (n : Nat) : (A1u n).Sound PP := Ap (fn := Tryz.f177) (D := B02 _ n) ⟨Afl n, A49 n, A49 n, trivial⟩ 

def f146 (n : Nat) (a0 a1 : Rq) : Option Rq :=
 ob (f178 n a0.2.1 a1.2.2) fun r_1 =>
 ob (f178 n a1.2.1 a0.2.2) fun r_2 =>
 ob (f178 n a0.2.2 a1.2.2) fun r_3 =>
 bif (a0.1 == a1.1) then
  ob (f186 n r_1 r_2) fun r_4 =>
  ob (f177 n a0.1 r_4 r_3) fun r_5 =>
  some r_5
 else
  ob (f187 n r_1 r_2) fun r_6 =>
  bif (decide (r_6 ≥ 0)) then
   ob (f188 n r_1 r_2) fun r_7 =>
   ob (f177 n a0.1 r_7 r_3) fun r_8 =>
   some r_8
  else
   ob (f188 n r_2 r_1) fun r_9 =>
   ob (f177 n a1.1 r_9 r_3) fun r_10 =>
   some r_10
def Ap9 (n : Nat) : Ent := ⟨146, [hR, hR], [hR], fun x => f146 n x.1 x.2⟩
def B0n (α : Type) (n : Nat) : D3 α := { reg := [(1, ⟨0, [], [(4, { ent := some (Nn n) })]⟩), (2, ⟨0, [], [(4, { ent := some (Nn n) })]⟩), (3, ⟨0, [], [(4, { ent := some (Nn n) })]⟩), (5, ⟨6, [], [(4, { ent := some (Anx n) }), (6, { ent := some (A1u n) })]⟩), (6, ⟨0, [], [(2, { ent := some (T6 n) })]⟩), (7, ⟨6, [], [(4, { ent := some (A1q n) }), (6, { ent := some (A1u n) })]⟩), (8, ⟨6, [], [(4, { ent := some (A1q n) }), (6, { ent := some (A1u n) })]⟩)], join := [], loop := [] }
theorem Awx (n : Nat) : (Ap9 n).Sound PP := Ap (fn := Tryz.f146) (D := B0n _ n) ⟨Nm n, Nm n, Nm n, Aw5 n, A4j n, Vb n, A4g n, A4j n, A4g n, A4j n, trivial⟩ 

def f119 (n : Nat) (a0 a1 : Rq) : Option Rq :=
 ob (f138 n a1) fun r_1 =>
 ob (f146 n a0 r_1) fun r_2 =>
 some r_2
def App (n : Nat) : Ent := ⟨119, [hR, hR], [hR], fun x => f119 n x.1 x.2⟩
def B0y (α : Type) (n : Nat) : D3 α := { reg := [(1, ⟨3, [], [(2, { ent := some (Apf n) }), (3, { ent := some (Ap9 n) })]⟩)], join := [], loop := [] }
theorem Ax8 (n : Nat) : (App n).Sound PP := Ap (fn := Tryz.f119) (D := B0y _ n) ⟨Ax3 n, Awx n, trivial⟩ 

def f134 (n : Nat) (a0 a1 : Rq) : Option Int :=
 ob (f119 n a0 a1) fun r_1 =>
 ob (f135 n r_1) fun r_2 =>
 some r_2
def Tk (n : Nat) : Ent := ⟨134, [hR, hR], [hI], fun x => f134 n x.1 x.2⟩
def B0s (α : Type) (n : Nat) : D3 α := { reg := [(1, ⟨0, [], [(2, { ent := some (App n) }), (3, { ent := some (Abx n) })]⟩)], join := [], loop := [] }
theorem Vm (n : Nat) : (Tk n).Sound PP := Ap (fn := Tryz.f134) (D := B0s _ n) ⟨Ax8 n, Ag3 n, trivial⟩ 

def Zq {α : Type} (n : Nat) (s3 : Int) (c1_0 : LN) (c1_1 c1_2 c1_3 : LR) (c1_4 : Int) (c1_5 : Bool) (c1_6 c1_7 : LI) (c1_8 c1_9 : Int) (f : Int → LN → LR → LR → LR → Int → Bool → LI → LI → Int → Int → Option α) (k0 : Bool → Option α) (k1 : Unit → Option α) : Option α :=
 bif (decide (s3 < (c1_2.length : Int))) then
  gd (decide (0 ≤ s3) && decide (s3 < (c1_2.length : Int))) (
   let x_12 := c1_2.getD s3.toNat (false, [], [])
   gd (decide (0 ≤ s3) && decide (s3 < (c1_1.length : Int))) (
    let x_13 := c1_1.getD s3.toNat (false, [], [])
    ob (f134 n x_12 x_13) fun r_14 =>
    bif (decide (r_14 > 0)) then
     k0 false
    else
     gd (decide (0 ≤ s3) && decide (s3 < (c1_1.length : Int))) (
      let x_15 := c1_1.getD s3.toNat (false, [], [])
      gd (decide (0 ≤ s3) && decide (s3 < (c1_3.length : Int))) (
       let x_16 := c1_3.getD s3.toNat (false, [], [])
       ob (f134 n x_15 x_16) fun r_17 =>
       bif (decide (r_17 > 0)) then
        k0 false
       else
        f (W (s3 + 1)) c1_0 c1_1 c1_2 c1_3 c1_4 c1_5 c1_6 c1_7 c1_8 c1_9))))
 else
  k1 ()
abbrev Q7 : Tm := ⟨[(1, .k (.hp 1 0 0)), (3, .d hI)], [(1, .var 56 true false [.d hNs, .d hRs, .d hRs, .d hRs, .d hI, .d .bool, .d hIs, .d hIs, .d hI, .d hI])], [], []⟩
abbrev Ap6 : Tm := ⟨[(2, .d .bool)], [], [1], []⟩
abbrev Ap5 : Tm := ⟨[], [], [1], []⟩
abbrev Zp : List (Exit × Tm) := [(.ret, Ap6), (.exit 0, Ap5)]
def Zo {α : Type} (n : Nat) (v : Q7.den) (f : Q7.den → Option α) (ks : KS α Zp) : Option α := Zq n v.1.2.1 v.2.1.1 v.2.1.2.1 v.2.1.2.2.1 v.2.1.2.2.2.1 v.2.1.2.2.2.2.1 v.2.1.2.2.2.2.2.1 v.2.1.2.2.2.2.2.2.1 v.2.1.2.2.2.2.2.2.2.1 v.2.1.2.2.2.2.2.2.2.2.1 v.2.1.2.2.2.2.2.2.2.2.2.1 (fun s3 c1_0 c1_1 c1_2 c1_3 c1_4 c1_5 c1_6 c1_7 c1_8 c1_9 => f (((), s3, ()), ((c1_0, c1_1, c1_2, c1_3, c1_4, c1_5, c1_6, c1_7, c1_8, c1_9, ()), ()))) (fun w0 => ks.1 ((w0, ()), ())) (fun _ => ks.2.1 ((), ()))
def Vj {α : Type} (n m : Nat) (s3 : Int) (c1_0 : LN) (c1_1 c1_2 c1_3 : LR) (c1_4 : Int) (c1_5 : Bool) (c1_6 c1_7 : LI) (c1_8 c1_9 : Int) (k0 : Bool → Option α) (k1 : Unit → Option α) : Option α := A5 (Zo n) m (((), s3, ()), ((c1_0, c1_1, c1_2, c1_3, c1_4, c1_5, c1_6, c1_7, c1_8, c1_9, ()), ())) (fun w => k0 w.1.1, fun w => k1 (), ())
theorem Ap4 {α n m s3 c1_0 c1_1 c1_2 c1_3 c1_4 c1_5 c1_6 c1_7 c1_8 c1_9 k0 k1} : Vj (α := α) n (m + 1) s3 c1_0 c1_1 c1_2 c1_3 c1_4 c1_5 c1_6 c1_7 c1_8 c1_9 k0 k1 = Zq n s3 c1_0 c1_1 c1_2 c1_3 c1_4 c1_5 c1_6 c1_7 c1_8 c1_9 (fun s3 c1_0 c1_1 c1_2 c1_3 c1_4 c1_5 c1_6 c1_7 c1_8 c1_9 => Vj n m s3 c1_0 c1_1 c1_2 c1_3 c1_4 c1_5 c1_6 c1_7 c1_8 c1_9 k0 k1) k0 k1 := rfl
def f150 (n : Nat) (a0 : LN × LR × LR × LR × Int × Rq × Int × Int) : Option Bool :=
 ob (f191 n a0.1) fun r_1 =>
 bif (!r_1) then
  some false
 else
  ob (f114 n a0.2.1) fun r_2 =>
  bif (!r_2) then
   some false
  else
   ob (f192 n a0.1) fun r_3 =>
   bif (decide (r_3 > (a0.2.1.length : Int))) then
    some false
   else
    ob (f65 n a0.2.2.2.2.1 1 4) fun r_4 =>
    bif (!r_4) then
     some false
    else
     ob (f148 n a0.2.2.2.2.2.1) fun r_5 =>
     bif (!r_5) then
      some false
     else
      ob (f135 n a0.2.2.2.2.2.1) fun r_6 =>
      bif (decide (r_6 < 0)) then
       some false
      else
       ob (f65 n a0.2.2.2.2.2.2.1 0 6) fun r_7 =>
       bif (!r_7) then
        some false
       else
        ob (f65 n a0.2.2.2.2.2.2.2 0 30) fun r_8 =>
        bif (!r_8) then
         some false
        else
         bif ((a0.2.2.1.length : Int) != (a0.2.2.2.1.length : Int)) then
          some false
         else
          ob (f155 n a0) fun r_9 =>
          bif (!r_9) then
           some true
          else
           bif ((a0.2.2.1.length : Int) != (a0.2.1.length : Int)) then
            some false
           else
            ob (f114 n a0.2.2.1) fun r_10 =>
            bif (!r_10) then
             some false
            else
             ob (f114 n a0.2.2.2.1) fun r_11 =>
             bif (!r_11) then
              some false
             else
              Vj n n 0 a0.1 a0.2.1 a0.2.2.1 a0.2.2.2.1 a0.2.2.2.2.1 a0.2.2.2.2.2.1.1 a0.2.2.2.2.2.1.2.1 a0.2.2.2.2.2.1.2.2 a0.2.2.2.2.2.2.1 a0.2.2.2.2.2.2.2
               (fun z_18 => (
                some z_18))
               (fun (_ : Unit) => (
                some true))
def Ap7 (n : Nat) : Ent := ⟨150, [(.st (.pair hE (.pair hRs (.pair hRs (.pair hRs (.pair hI (.pair hR (.pair hI hI))))))))], [.bool], fun x => f150 n x⟩
def Abs (α : Type) (n : Nat) : D3 α := { reg := [(1, ⟨56, [], [(2, { ent := some (Ank n) }), (7, { ent := some (Tp n) }), (13, { ent := some (Anh n) }), (22, { ent := some (Es n) }), (28, { ent := some (Abt n) }), (34, { ent := some (Abx n) }), (40, { ent := some (Es n) }), (46, { ent := some (Es n) })]⟩), (3, ⟨0, [], [(1, { ent := some (Abp n) })]⟩), (5, ⟨0, [], [(10, { ent := some (Tp n) }), (16, { ent := some (Tp n) })]⟩), (10, ⟨23, [], [(10, { ent := some (Tk n) }), (23, { ent := some (Tk n) })]⟩)], join := [], loop := [(8, ⟨Q7, Zp, A5 (Zo n) n⟩)] }
theorem A7b (α : Type) (n : Nat) : Aj PP (Ah (Abs α n).reg) := ⟨Aw0 n, Vq n, Avy n, Dr n, Ag0 n, Ag3 n, Dr n, Dr n, Afy n, Vq n, Vq n, Vm n, Vm n, trivial⟩
theorem Ajh (α : Type) (n : Nat) : LO.Sound (α := α) PP ⟨117, []⟩ ⟨Q7, Zp, A5 (Zo n) n⟩ (.loop ((A1 Tryz.f150).at [1, 1, 1, 1, 0, 1, 0, 0])) := Ay (D := Abs α n) (A7b α n) n
theorem B0j (α : Type) (n : Nat) : D3.OK PP TT ⟨117, []⟩ (Abs α n) (A1 Tryz.f150) :=
 D3.OK.mk3 (A7b α n) (show Ad (A1 Tryz.f150) = [(8, (.loop ((A1 Tryz.f150).at [1, 1, 1, 1, 0, 1, 0, 0])))] by kernel_rfl) ⟨A9 rfl (Ajh α n), trivial⟩
theorem Awu (n : Nat) : (Ap7 n).Sound PP := fk (fn := Tryz.f150) (B0j _ n) 

abbrev Ayk : Tm := ⟨[(1, .d hRs), (2, .k (.hp 2 0 0)), (9, .d .bool)], [(2, .var 56 true false [.d hNs, .d hRs, .d hRs, .d hRs, .d hI, .d .bool, .d hIs, .d hIs, .d hI, .d hI])], [], []⟩
def f81 (n : Nat) (a0 : LN × LR × LR × LR × Int × Rq × Int × Int) (a1 : LR) : Option Int :=
 bif (decide ((a1.length : Int) > 4096)) then
  some 2
 else
  let J_4 := fun (y_3 : Bool) => (
   bif y_3 then
    some 1
   else
    bif ((a1.length : Int) != (a0.2.1.length : Int)) then
     some 8
    else
     some 0)
  ob (f150 n a0) fun r_1 =>
  bif (!r_1) then
   J_4 true
  else
   ob (f114 n a1) fun r_2 =>
   J_4 (!r_2)
def Au6 (n : Nat) : Ent := ⟨81, [(.st (.pair hE (.pair hRs (.pair hRs (.pair hRs (.pair hI (.pair hR (.pair hI hI)))))))), hRs], [hI], fun x => f81 n x.1 x.2⟩
def B1z (α : Type) (n : Nat) : D3 α := { reg := [(3, ⟨0, [], [(1, { ent := some (Ap7 n) }), (5, { ent := some (Tp n) })]⟩)], join := [(4, Ayk)], loop := [] }
theorem Ayi (n : Nat) : (Au6 n).Sound PP := Ap (fn := Tryz.f81) (D := B1z _ n) ⟨Awu n, Vq n, trivial⟩ 

def Zi {α : Type} (n : Nat) (s0 s1 s2 : LR) (s8 : Int) (b9 : LR) (f : LR → LR → LR → Int → LR → Option α) (k0 : LR → Option α) : Option α :=
 bif (decide (s8 < (s0.length : Int))) then
  gd (decide (0 ≤ s8) && decide (s8 < (s0.length : Int))) (
   let x_1 := s0.getD s8.toNat (false, [], [])
   gd (decide (0 ≤ s8) && decide (s8 < (s1.length : Int))) (
    let x_2 := s1.getD s8.toNat (false, [], [])
    ob (f134 n x_1 x_2) fun r_3 =>
    bif (decide (r_3 < 0)) then
     gd (decide (0 ≤ s8) && decide (s8 < (s1.length : Int))) (
      let x_4 := s1.getD s8.toNat (false, [], [])
      gd (decide ((b9.length + 1) * 56 ≤ 140737488355328)) (
       f s0 s1 s2 (W (s8 + 1)) (b9 ++ [x_4])))
    else
     gd (decide (0 ≤ s8) && decide (s8 < (s0.length : Int))) (
      let x_5 := s0.getD s8.toNat (false, [], [])
      gd (decide (0 ≤ s8) && decide (s8 < (s2.length : Int))) (
       let x_6 := s2.getD s8.toNat (false, [], [])
       ob (f134 n x_5 x_6) fun r_7 =>
       bif (decide (r_7 > 0)) then
        gd (decide (0 ≤ s8) && decide (s8 < (s2.length : Int))) (
         let x_8 := s2.getD s8.toNat (false, [], [])
         gd (decide ((b9.length + 1) * 56 ≤ 140737488355328)) (
          f s0 s1 s2 (W (s8 + 1)) (b9 ++ [x_8])))
       else
        gd (decide (0 ≤ s8) && decide (s8 < (s0.length : Int))) (
         let x_9 := s0.getD s8.toNat (false, [], [])
         gd (decide ((b9.length + 1) * 56 ≤ 140737488355328)) (
          f s0 s1 s2 (W (s8 + 1)) (b9 ++ [x_9])))))))
 else
  k0 b9
abbrev Q3 : Tm := ⟨[(0, .d hRs), (1, .d hRs), (2, .d hRs), (7, .k (.hw 9)), (8, .d hI)], [(9, .arr 30 hR false)], [21, 39, 57], []⟩
abbrev Aow : Tm := ⟨[(7, .k (.hw 9))], [(9, .arr 30 hR false)], [], []⟩
abbrev Zh : List (Exit × Tm) := [(.exit 0, Aow)]
def Zg {α : Type} (n : Nat) (v : Q3.den) (f : Q3.den → Option α) (ks : KS α Zh) : Option α := Zi n v.1.1 v.1.2.1 v.1.2.2.1 v.1.2.2.2.2.1 v.2.1 (fun s0 s1 s2 s8 b9 => f ((s0, s1, s2, (), s8, ()), (b9, ()))) (fun w0 => ks.1 (((), ()), (w0, ())))
def Jz {α : Type} (n m : Nat) (s0 s1 s2 : LR) (s8 : Int) (b9 : LR) (k0 : LR → Option α) : Option α := A5 (Zg n) m ((s0, s1, s2, (), s8, ()), (b9, ())) (fun w => k0 w.2.1, ())
theorem Aov {α n m s0 s1 s2 s8 b9 k0} : Jz (α := α) n (m + 1) s0 s1 s2 s8 b9 k0 = Zi n s0 s1 s2 s8 b9 (fun s0 s1 s2 s8 b9 => Jz n m s0 s1 s2 s8 b9 k0) k0 := rfl
def f156 (n : Nat) (a0 a1 a2 : LR) : Option LR :=
 Jz n n a0 a1 a2 0 []
  (fun z_10 => (
   some z_10))
def Aox (n : Nat) : Ent := ⟨156, [hRs, hRs, hRs], [hRs], fun x => f156 n x.1 x.2.1 x.2.2⟩
def Abo (α : Type) (n : Nat) : D3 α := { reg := [(1, ⟨0, [], [(0, { sh := some hR })]⟩), (5, ⟨0, [], [(5, { sh := some hR })]⟩), (6, ⟨8, [], [(8, { ent := some (Tk n) })]⟩), (7, ⟨0, [], [(5, { sh := some hR })]⟩), (8, ⟨8, [], [(8, { ent := some (Tk n) })]⟩), (9, ⟨0, [], [(5, { sh := some hR })]⟩)], join := [], loop := [(3, ⟨Q3, Zh, A5 (Zg n) n⟩)] }
theorem A76 (α : Type) (n : Nat) : Aj PP (Ah (Abo α n).reg) := ⟨Vm n, Vm n, trivial⟩
theorem Ajc (α : Type) (n : Nat) : LO.Sound (α := α) PP ⟨60, []⟩ ⟨Q3, Zh, A5 (Zg n) n⟩ (.loop ((A1 Tryz.f156).at [1, 1, 0, 1, 0, 0])) := Ay (D := Abo α n) (A76 α n) n
theorem B0e (α : Type) (n : Nat) : D3.OK PP TT ⟨60, []⟩ (Abo α n) (A1 Tryz.f156) :=
 D3.OK.mk3 (A76 α n) (show Ad (A1 Tryz.f156) = [(3, (.loop ((A1 Tryz.f156).at [1, 1, 0, 1, 0, 0])))] by kernel_rfl) ⟨A9 rfl (Ajc α n), trivial⟩
theorem Awp (n : Nat) : (Aox n).Sound PP := fk (fn := Tryz.f156) (B0e _ n) 

def f87 (n : Nat) (a0 : LN × LR × LR × LR × Int × Rq × Int × Int) (a1 : LR) : Option LR :=
 ob (f155 n a0) fun r_1 =>
 bif (!r_1) then
  gd (decide ((0 + a1.length) * 56 ≤ 140737488355328)) (
   some a1)
 else
  ob (f156 n a1 a0.2.2.1 a0.2.2.2.1) fun r_2 =>
  some r_2
def Au2 (n : Nat) : Ent := ⟨87, [(.st (.pair hE (.pair hRs (.pair hRs (.pair hRs (.pair hI (.pair hR (.pair hI hI)))))))), hRs], [hRs], fun x => f87 n x.1 x.2⟩
def B1v (α : Type) (n : Nat) : D3 α := { reg := [(1, ⟨0, [], [(1, { ent := some (Abp n) })]⟩), (2, ⟨0, [], [(0, { sh := some hR })]⟩), (3, ⟨0, [], [(5, { ent := some (Aox n) })]⟩)], join := [], loop := [] }
theorem Aya (n : Nat) : (Au2 n).Sound PP := Ap (fn := Tryz.f87) (D := B1v _ n) ⟨Afy n, Awp n, trivial⟩ 

def f121 (n : Nat) (a0 : Rq) : Option Bool :=
 bif (decide ((a0.2.1.length : Int) ≤ 40)) then
  some (decide ((a0.2.2.length : Int) ≤ 40))
 else
  some false
def Apo (n : Nat) : Ent := ⟨121, [hR], [.bool], fun x => f121 n x⟩
def B0x (α : Type) (n : Nat) : D3 α := { reg := [], join := [], loop := [] }
theorem Ax7 (n : Nat) : (Apo n).Sound PP := Ap (fn := Tryz.f121) (D := B0x _ n) trivial 

abbrev Aga : Tm := ⟨[(1, .k (.hp 1 0 0)), (2, .k (.hp 2 0 0))], [(1, .var 30 true false [.d .bool, .d hIs, .d hIs]), (2, .var 30 true false [.d .bool, .d .nil, .d .nil])], [], []⟩
def f122 (n : Nat) (a0 : Rq) : Option Rq :=
 gd (decide ((0 + a0.2.1.length) * 8 ≤ 140737488355328)) (
  gd (decide ((0 + a0.2.2.length) * 8 ≤ 140737488355328)) (
   some a0))
def Apm (n : Nat) : Ent := ⟨122, [hR], [hR], fun x => f122 n x⟩
def Apn (α : Type) (n : Nat) : D3 α := { reg := [(1, ⟨0, [], [(2, { sh := some hI }), (6, { sh := some hI })]⟩)], join := [], loop := [], any := [(1, Aga)] }
set_option maxHeartbeats 8000000 in
theorem Ax6 (n : Nat) : Fb TT ⟨14, []⟩ [(2, { sh := some hI }), (6, { sh := some hI })] Aga (Bi ((A1 Tryz.f122).at [1, 0])) := by
 refine ⟨by kernel_rfl, fun w q hq => ?_⟩
 have e : WT [(2, { sh := some hI }), (6, { sh := some hI })] (Aa (Bi ((A1 Tryz.f122).at [1, 0])).toList) q = (q = []) := by kernel_rfl
 rw [e] at hq
 obtain rfl := hq
 all_goals exact .inl (R0.mk (by kernel_rfl))
theorem Apl (α : Type) (n : Nat) : Aj PP (Ah (Apn α n).reg) := trivial
theorem B0w (α : Type) (n : Nat) : D3.OK PP TT ⟨14, []⟩ (Apn α n) (A1 Tryz.f122) :=
 D3.OK.mk3a (Apl α n) (show Ad (A1 Tryz.f122) = [] by kernel_rfl) trivial (show Co (A1 Tryz.f122) = [(1, Bi ((A1 Tryz.f122).at [1, 0]))] by kernel_rfl) ⟨fun X h => (by cases h; exact Ax6 n), trivial⟩
theorem Ax5 (n : Nat) : (Apm n).Sound PP := fk (fn := Tryz.f122) (B0w _ n) 

def A3v {α : Type} (n : Nat) (s0 : LR) (s5 : Int) (b6 : LR) (f : LR → Int → LR → Option α) (k0 : Int → LR → Option α) (k1 : LR → Option α) : Option α :=
 bif (decide (s5 < (s0.length : Int))) then
  gd (decide (0 ≤ s5) && decide (s5 < (s0.length : Int))) (
   let x_1 := s0.getD s5.toNat (false, [], [])
   ob (f121 n x_1) fun r_2 =>
   bif (!r_2) then
    k0 7 []
   else
    gd (decide (0 ≤ s5) && decide (s5 < (s0.length : Int))) (
     let x_3 := s0.getD s5.toNat (false, [], [])
     ob (f122 n x_3) fun r_4 =>
     gd (decide ((b6.length + 1) * 56 ≤ 140737488355328)) (
      f s0 (W (s5 + 1)) (b6 ++ [r_4]))))
 else
  k1 b6
abbrev Ur : Tm := ⟨[(0, .d hRs), (4, .k (.hw 6)), (5, .d hI)], [(6, .arr 30 hR false)], [26], []⟩
abbrev As6 : Tm := ⟨[(2, .k (.hw 19)), (3, .d hI)], [(19, .arr 30 hR false)], [6], []⟩
abbrev As5 : Tm := ⟨[(4, .k (.hw 6))], [(6, .arr 30 hR false)], [], []⟩
abbrev A3u : List (Exit × Tm) := [(.ret, As6), (.exit 0, As5)]
def A3t {α : Type} (n : Nat) (v : Ur.den) (f : Ur.den → Option α) (ks : KS α A3u) : Option α := A3v n v.1.1 v.1.2.2.1 v.2.1 (fun s0 s5 b6 => f ((s0, (), s5, ()), (b6, ()))) (fun w0 w1 => ks.1 (((), w0, ()), (w1, ()))) (fun w0 => ks.2.1 (((), ()), (w0, ())))
def Sr {α : Type} (n m : Nat) (s0 : LR) (s5 : Int) (b6 : LR) (k0 : Int → LR → Option α) (k1 : LR → Option α) : Option α := A5 (A3t n) m ((s0, (), s5, ()), (b6, ())) (fun w => k0 w.1.2.1 w.2.1, fun w => k1 w.2.1, ())
theorem As4 {α n m s0 s5 b6 k0 k1} : Sr (α := α) n (m + 1) s0 s5 b6 k0 k1 = A3v n s0 s5 b6 (fun s0 s5 b6 => Sr n m s0 s5 b6 k0 k1) k0 k1 := rfl
def f54 (n : Nat) (a0 : LR) : Option (LR × Int) :=
 Sr n n a0 0 []
  (fun z_5 z_6 => (
   some (z_6, z_5)))
  (fun z_7 => (
   some (z_7, 0)))
def Au8 (n : Nat) : Ent := ⟨54, [hRs], [hRs, hI], fun x => f54 n x⟩
def Ahz (α : Type) (n : Nat) : D3 α := { reg := [(1, ⟨0, [], [(0, { sh := some hR })]⟩), (5, ⟨0, [], [(4, { ent := some (Apo n) })]⟩), (6, ⟨0, [], [(0, { sh := some hR })]⟩), (7, ⟨0, [], [(5, { ent := some (Apm n) }), (6, { sh := some hR })]⟩)], join := [], loop := [(3, ⟨Ur, A3u, A5 (A3t n) n⟩)] }
theorem Aa8 (α : Type) (n : Nat) : Aj PP (Ah (Ahz α n).reg) := ⟨Ax7 n, Ax5 n, trivial⟩
theorem Ame (α : Type) (n : Nat) : LO.Sound (α := α) PP ⟨29, []⟩ ⟨Ur, A3u, A5 (A3t n) n⟩ (.loop ((A1 Tryz.f54).at [1, 1, 0, 1, 0, 0])) := Ay (D := Ahz α n) (Aa8 α n) n
theorem B2b (α : Type) (n : Nat) : D3.OK PP TT ⟨29, []⟩ (Ahz α n) (A1 Tryz.f54) :=
 D3.OK.mk3 (Aa8 α n) (show Ad (A1 Tryz.f54) = [(3, (.loop ((A1 Tryz.f54).at [1, 1, 0, 1, 0, 0])))] by kernel_rfl) ⟨A9 rfl (Ame α n), trivial⟩
theorem Ayp (n : Nat) : (Au8 n).Sound PP := fk (fn := Tryz.f54) (B2b _ n) 

def f33 (n : Nat) (a0 : LN × LR × LR × LR × Int × Rq × Int × Int) (a1 : LR) : Option (LR × Int) :=
 bif (decide ((a1.length : Int) > 4096)) then
  some ([], 2)
 else
  ob (f81 n a0 a1) fun r_1 =>
  bif (r_1 != 0) then
   some ([], r_1)
  else
   ob (f87 n a0 a1) fun r_2 =>
   ob (f54 n r_2) fun r_3 =>
   some (r_3.1, r_3.2)
def Aua (n : Nat) : Ent := ⟨33, [(.st (.pair hE (.pair hRs (.pair hRs (.pair hRs (.pair hI (.pair hR (.pair hI hI)))))))), hRs], [hRs, hI], fun x => f33 n x.1 x.2⟩
def B2d (α : Type) (n : Nat) : D3 α := { reg := [(2, ⟨0, [], [(0, { sh := some hR })]⟩), (3, ⟨0, [], [(2, { ent := some (Au6 n) })]⟩), (5, ⟨0, [], [(0, { sh := some hR })]⟩), (6, ⟨0, [], [(2, { ent := some (Au2 n) }), (3, { ent := some (Au8 n) })]⟩)], join := [], loop := [] }
theorem Ayt (n : Nat) : (Aua n).Sound PP := Ap (fn := Tryz.f33) (D := B2d _ n) ⟨Ayi n, Aya n, Ayp n, trivial⟩ 

def M6 {α : Type} (n : Nat) (s0 : LN) (s4 : Int) (b7 : LN) (f : LN → Int → LN → Option α) (k0 : LN → Option α) : Option α :=
 bif (decide (s4 < (s0.length : Int))) then
  gd (decide (0 ≤ s4) && decide (s4 < (s0.length : Int))) (
   let x_1 := s0.getD s4.toNat (0, 0, 0, 0)
   ob (f193 n x_1) fun r_2 =>
   gd (decide (0 ≤ s4) && decide (s4 < (b7.length : Int))) (
    gd (decide (s4.toNat < b7.length)) (
     f s0 (W (s4 + 1)) (b7.set s4.toNat r_2))))
 else
  k0 b7
abbrev M5 : Tm := ⟨[(0, .d hNs), (3, .k (.hw 7)), (4, .d hI)], [(7, .arr 150 hN false)], [], []⟩
abbrev Ajf : Tm := ⟨[(3, .k (.hw 7))], [(7, .arr 150 hN false)], [], []⟩
abbrev Tg : List (Exit × Tm) := [(.exit 0, Ajf)]
def Tf {α : Type} (n : Nat) (v : M5.den) (f : M5.den → Option α) (ks : KS α Tg) : Option α := M6 n v.1.1 v.1.2.2.1 v.2.1 (fun s0 s4 b7 => f ((s0, (), s4, ()), (b7, ()))) (fun w0 => ks.1 (((), ()), (w0, ())))
def La {α : Type} (n m : Nat) (s0 : LN) (s4 : Int) (b7 : LN) (k0 : LN → Option α) : Option α := A5 (Tf n) m ((s0, (), s4, ()), (b7, ())) (fun w => k0 w.2.1, ())
theorem A21 {α n m s0 s4 b7 k0} : La (α := α) n (m + 1) s0 s4 b7 k0 = M6 n s0 s4 b7 (fun s0 s4 b7 => La n m s0 s4 b7 k0) k0 := rfl
def Ajg (n : Nat) (a0 : LN) : Option LN :=
 gd (decide (0 ≤ (a0.length : Int)) && decide ((a0.length : Int) ≤ 4611686018427387904) && decide ((32 : Int) * (a0.length : Int) ≤ 281474976710656)) (
  La n n a0 0 (List.replicate ((a0.length : Int).toNat) (0, 0, 0, 0))
   (fun z_3 => (
    some z_3)))
def Afz (n : Nat) : Ent3 := ⟨152, [.im hNs], [[.one (.own 150 hN)]], fun x => Ajg n x⟩
def A4n (α : Type) (n : Nat) : D3 α := { reg := [(5, ⟨0, [], [(6, { ent := some (Aay n) })]⟩)], join := [], loop := [(3, ⟨M5, Tg, A5 (Tf n) n⟩)] }
theorem A20 (α : Type) (n : Nat) : Aj PP (Ah (A4n α n).reg) := ⟨Afk n, trivial⟩
theorem Ady (α : Type) (n : Nat) : LO.Sound (α := α) PP ⟨23, []⟩ ⟨M5, Tg, A5 (Tf n) n⟩ (.loop ((A1 Tryz.f152).at [1, 1, 0, 1, 0, 0])) := Ay (D := A4n α n) (A20 α n) n
theorem Awt (α : Type) (n : Nat) : D3.OK PP TT ⟨23, []⟩ (A4n α n) (A1 Tryz.f152) :=
 D3.OK.mk3 (A20 α n) (show Ad (A1 Tryz.f152) = [(3, (.loop ((A1 Tryz.f152).at [1, 1, 0, 1, 0, 0])))] by kernel_rfl) ⟨A9 rfl (Ady α n), trivial⟩
theorem Asy (n : Nat) : (Afz n).Sound PP := Si (fn := Tryz.f152) (Awt _ n) 

end Go.Ev
