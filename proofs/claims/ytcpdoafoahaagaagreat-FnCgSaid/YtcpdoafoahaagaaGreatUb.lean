/- DERIVED. What the functions compute, and that they do. -/
import Derived.Test.YtcpdoafoahaagaaGreatUa

set_option linter.all false
set_option linter.unusedVariables false
set_option linter.unusedSimpArgs false

namespace Go.Ev
open Go Go.Proofs Go.RowKit Go.Shelf
def A2l {α : Type} (n : Nat) (s0 s1 : LI) (f : LI → LI → Option α) (k0 : LI → Option α) : Option α :=
 bif (decide ((s1.length : Int) > 0)) then
  ob (f184 n s0 s1) fun r_1 =>
  f s1 r_1.2
 else
  k0 s0
abbrev S0 : Tm := ⟨[(0, .d hIs), (1, .d hIs)], [], [], []⟩
abbrev Atk : Tm := ⟨[(0, .d hIs)], [], [], []⟩
abbrev A2k : List (Exit × Tm) := [(.exit 0, Atk)]
def A2j {α : Type} (n : Nat) (v : S0.den) (f : S0.den → Option α) (ks : KS α A2k) : Option α := A2l n v.1.1 v.1.2.1 (fun s0 s1 => f ((s0, s1, ()), ())) (fun w0 => ks.1 ((w0, ()), ()))
def Ja {α : Type} (n m : Nat) (s0 s1 : LI) (k0 : LI → Option α) : Option α := A4 (A2j n) m ((s0, s1, ()), ()) (fun w => k0 w.1.1, ())
theorem Abe {α n m s0 s1 k0} : Ja (α := α) n (m + 1) s0 s1 k0 = A2l n s0 s1 (fun s0 s1 => Ja n m s0 s1 k0) k0 := rfl
def f183 (n : Nat) (a0 a1 : LI) : Option LI :=
 Ja n n a0 a1
  (fun z_2 => (
   some z_2))
def Ag4 (n : Nat) : Ent := ⟨183, [hIs, hIs], [hIs], fun x => f183 n x.1 x.2⟩
def Ag5 (α : Type) (n : Nat) : D3 α := { reg := [(2, ⟨0, [], [(2, { ent := some (A62 n) })]⟩)], join := [], loop := [(1, ⟨S0, A2k, A4 (A2j n) n⟩)] }
theorem Abd (α : Type) (n : Nat) : Al PP (Ad (Ag5 α n).reg) := ⟨A92 n, trivial⟩
theorem Ano (α : Type) (n : Nat) : LO.Sound (α := α) PP ⟨19, []⟩ ⟨S0, A2k, A4 (A2j n) n⟩ (.loop ((A2 Tryz.f183).at [1, 0, 0, 0])) := Bm (D := Ag5 α n) (Abd α n) n
theorem B6n (α : Type) (n : Nat) : D3.OK PP TT ⟨19, []⟩ (Ag5 α n) (A2 Tryz.f183) :=
 D3.OK.mk3 (Abd α n) (show Aa (A2 Tryz.f183) = [(1, (.loop ((A2 Tryz.f183).at [1, 0, 0, 0])))] by kernel_rfl) ⟨A8 rfl (Ano α n), trivial⟩
theorem Akl (n : Nat) : (Ag4 n).Sound PP := fk (fn := Tryz.f183) (B6n _ n) 

def f161 (n : Nat)  : Option LI :=
 some [1]
def Wr (n : Nat) : Ent := ⟨161, [], [hIs], fun _ => f161 n⟩
def B72 (α : Type) (n : Nat) : D3 α := { reg := [(1, ⟨0, [], [(0, { sh := some hI })]⟩)], join := [], loop := [] }
theorem Z1 (n : Nat) : (Wr n).Sound PP := Az (fn := Tryz.f161) (D := B72 _ n) trivial 

abbrev B34 : Tm := ⟨[(1, .k (.hp 1 0 0))], [(1, .var 30 true false [.d .bool, .d hIs, .d hIs])], [], []⟩
def f163 (n : Nat) (a0 : Rq) : Option Bool :=
 let J_7 := fun (_ : Unit) => (
  ob (f183 n a0.2.1 a0.2.2) fun r_4 =>
  ob (f161 n) fun r_5 =>
  ob (f170 n r_4 r_5) fun r_6 =>
  some (r_6 == 0))
 ob (f197 n a0.2.1) fun r_1 =>
 bif (!r_1) then
  some false
 else
  ob (f197 n a0.2.2) fun r_2 =>
  bif (!r_2) then
   some false
  else
   bif ((a0.2.2.length : Int) == 0) then
    some false
   else
    bif a0.1 then
     ob (f74 n a0) fun r_3 =>
     bif r_3 then
      some false
     else
      J_7 ()
    else
     J_7 ()
def Auc (n : Nat) : Ent := ⟨163, [hR], [.bool], fun x => f163 n x⟩
def B70 (α : Type) (n : Nat) : D3 α := { reg := [(1, ⟨0, [], [(2, { ent := some (Afr n) }), (7, { ent := some (Afr n) }), (21, { ent := some (Qw n) })]⟩), (3, ⟨0, [], [(4, { ent := some (Ag4 n) }), (5, { ent := some (Wr n) }), (6, { ent := some (Pp n) })]⟩)], join := [(3, B34)], loop := [] }
theorem B32 (n : Nat) : (Auc n).Sound PP := Az (fn := Tryz.f163) (D := B70 _ n) ⟨Akf n, Akf n, P8 n, Akl n, Z1 n, Po n, trivial⟩ 

def f162 (n : Nat) (a0 : Rq) : Option Bool :=
 ob (f163 n a0) fun r_1 =>
 some (!r_1)
def Aud (n : Nat) : Ent := ⟨162, [hR], [.bool], fun x => f162 n x⟩
def B71 (α : Type) (n : Nat) : D3 α := { reg := [(1, ⟨0, [], [(1, { ent := some (Auc n) })]⟩)], join := [], loop := [] }
theorem B35 (n : Nat) : (Aud n).Sound PP := Az (fn := Tryz.f162) (D := B71 _ n) ⟨B32 n, trivial⟩ 

def Mg {α : Type} (n : Nat) (s0 : LR) (s7 s8 : Int) (f : LR → Int → Int → Option α) (k0 : Int → Option α) (k1 : Unit → Option α) : Option α :=
 bif (decide (s8 < s7)) then
  gd (decide (0 ≤ s8) && decide (s8 < (s0.length : Int))) (
   let x_1 := s0.getD s8.toNat (false, [], [])
   ob (f162 n x_1) fun r_2 =>
   bif r_2 then
    k0 s8
   else
    f s0 s7 (W (s8 + 1)))
 else
  k1 ()
abbrev I6 : Tm := ⟨[(0, .d hRs), (1, .d (.fn 162)), (7, .d hI), (8, .d hI)], [], [], []⟩
abbrev Ack : Tm := ⟨[(4, .d hI)], [], [], []⟩
abbrev Acj : Tm := ⟨[], [], [], []⟩
abbrev Mf : List (Exit × Tm) := [(.ret, Ack), (.exit 0, Acj)]
def Me {α : Type} (n : Nat) (v : I6.den) (f : I6.den → Option α) (ks : KS α Mf) : Option α := Mg n v.1.1 v.1.2.2.1 v.1.2.2.2.1 (fun s0 s7 s8 => f ((s0, (), s7, s8, ()), ())) (fun w0 => ks.1 ((w0, ()), ())) (fun _ => ks.2.1 ((), ()))
def Gl {α : Type} (n m : Nat) (s0 : LR) (s7 s8 : Int) (k0 : Int → Option α) (k1 : Unit → Option α) : Option α := A4 (Me n) m ((s0, (), s7, s8, ()), ()) (fun w => k0 w.1.1, fun w => k1 (), ())
theorem Aci {α n m s0 s7 s8 k0 k1} : Gl (α := α) n (m + 1) s0 s7 s8 k0 k1 = Mg n s0 s7 s8 (fun s0 s7 s8 => Gl n m s0 s7 s8 k0 k1) k0 k1 := rfl
def A2s (n : Nat) (a0 : LR) (a1 : Unit) : Option Int :=
 Gl n n a0 (a0.length : Int) 0
  (fun z_3 => (
   some z_3))
  (fun (_ : Unit) => (
   some (-1)))
def A65 (n : Nat) : Ent := ⟨175, [hRs, (.fn 162)], [hI], fun x => A2s n x.1 x.2⟩
def S6 (α : Type) (n : Nat) : D3 α := { reg := [(4, ⟨0, [], [(5, { ent := some (Aud n) })]⟩)], join := [], loop := [(2, ⟨I6, Mf, A4 (Me n) n⟩)] }
theorem Uf (α : Type) (n : Nat) : Al PP (Ad (S6 α n).reg) := ⟨B35 n, trivial⟩
theorem A94 (α : Type) (n : Nat) : LO.Sound (α := α) PP ⟨19, []⟩ ⟨I6, Mf, A4 (Me n) n⟩ (.loop ((A2 Tryz.f175).at [1, 0, 1, 0, 0])) := Bm (D := S6 α n) (Uf α n) n
theorem Ans (α : Type) (n : Nat) : D3.OK PP TT ⟨19, []⟩ (S6 α n) (A2 Tryz.f175) :=
 D3.OK.mk3 (Uf α n) (show Aa (A2 Tryz.f175) = [(2, (.loop ((A2 Tryz.f175).at [1, 0, 1, 0, 0])))] by kernel_rfl) ⟨A8 rfl (A94 α n), trivial⟩
theorem Aio (n : Nat) : (A65 n).Sound PP := fk (fn := Tryz.f175) (Ans _ n) 

def T9 (n : Nat) (a0 : LR) (a1 : Unit) : Option Bool :=
 ob (A2s n a0 a1) fun r_1 =>
 some (decide (r_1 ≥ 0))
def A6o (n : Nat) : Ent := ⟨111, [hRs, (.fn 162)], [.bool], fun x => T9 n x.1 x.2⟩
def Aou (α : Type) (n : Nat) : D3 α := { reg := [(1, ⟨0, [], [(2, { ent := some (A65 n) })]⟩)], join := [], loop := [] }
theorem Aj0 (n : Nat) : (A6o n).Sound PP := Az (fn := Tryz.f111) (D := Aou _ n) ⟨Aio n, trivial⟩ 

def f69 (n : Nat) (a0 : Bool) (a1 : Int) : Option Int :=
 bif a0 then
  some 0
 else
  some a1
def Yh (n : Nat) : Ent := ⟨69, [.bool, hI], [hI], fun x => f69 n x.1 x.2⟩
def B9h (α : Type) (n : Nat) : D3 α := { reg := [], join := [], loop := [] }
theorem Vr (n : Nat) : (Yh n).Sound PP := Az (fn := Tryz.f69) (D := B9h _ n) trivial 

def f94 (n : Nat) (a0 : LR) : Option Int :=
 ob (T9 n a0 ()) fun r_1 =>
 ob (f69 n (!r_1) 1) fun r_2 =>
 some r_2
def Am7 (n : Nat) : Ent := ⟨94, [hRs], [hI], fun x => f94 n x⟩
def B94 (α : Type) (n : Nat) : D3 α := { reg := [(1, ⟨0, [], [(1, { ent := some (A6o n) }), (3, { ent := some (Yh n) })]⟩)], join := [], loop := [] }
theorem Ar8 (n : Nat) : (Am7 n).Sound PP := Az (fn := Tryz.f94) (D := B94 _ n) ⟨Aj0 n, Vr n, trivial⟩ 

def f125 (n : Nat) (a0 : LR) (a1 : Int) : Option Bool :=
 ob (f70 n a1 1 4) fun r_1 =>
 bif r_1 then
  bif ((a0.length : Int) == (W (a1 * a1))) then
   ob (f94 n a0) fun r_2 =>
   some (r_2 == 0)
  else
   some false
 else
  some false
def Aux (n : Nat) : Ent := ⟨125, [hRs, hI], [.bool], fun x => f125 n x.1 x.2⟩
def B7n (α : Type) (n : Nat) : D3 α := { reg := [(1, ⟨0, [], [(1, { ent := some (Ami n) }), (12, { ent := some (Am7 n) })]⟩)], join := [], loop := [] }
theorem B3o (n : Nat) : (Aux n).Sound PP := Az (fn := Tryz.f125) (D := B7n _ n) ⟨Arw n, Ar8 n, trivial⟩ 

def f124 (n : Nat) (a0 : LR) (a1 : Int) : Option Bool :=
 ob (f125 n a0 a1) fun r_1 =>
 some (!r_1)
def Auy (n : Nat) : Ent := ⟨124, [hRs, (.ref hI)], [.bool], fun x => f124 n x.1 x.2⟩
def B7o (α : Type) (n : Nat) : D3 α := { reg := [(1, ⟨0, [], [(2, { ent := some (Aux n) })]⟩)], join := [], loop := [] }
theorem B3q (n : Nat) : (Auy n).Sound PP := Az (fn := Tryz.f124) (D := B7o _ n) ⟨B3o n, trivial⟩ 

def N1 {α : Type} (n : Nat) (s0 : List LR) (s1 s7 s8 : Int) (f : (List LR) → Int → Int → Int → Option α) (k0 : Int → Option α) (k1 : Unit → Option α) : Option α :=
 bif (decide (s8 < s7)) then
  gd (decide (0 ≤ s8) && decide (s8 < (s0.length : Int))) (
   ob (f124 n (s0.getD s8.toNat []) s1) fun r_1 =>
   bif r_1 then
    k0 s8
   else
    f s0 s1 s7 (W (s8 + 1)))
 else
  k1 ()
abbrev Ie : Tm := ⟨[(0, .d (.sl hRs)), (1, .d (.clo 124 (.ref hI))), (7, .d hI), (8, .d hI)], [], [], []⟩
abbrev Acz : Tm := ⟨[(4, .d hI)], [], [], []⟩
abbrev Acy : Tm := ⟨[], [], [], []⟩
abbrev N0 : List (Exit × Tm) := [(.ret, Acz), (.exit 0, Acy)]
def Mz {α : Type} (n : Nat) (v : Ie.den) (f : Ie.den → Option α) (ks : KS α N0) : Option α := N1 n v.1.1 v.1.2.1 v.1.2.2.1 v.1.2.2.2.1 (fun s0 s1 s7 s8 => f ((s0, s1, s7, s8, ()), ())) (fun w0 => ks.1 ((w0, ()), ())) (fun _ => ks.2.1 ((), ()))
def Gr {α : Type} (n m : Nat) (s0 : List LR) (s1 s7 s8 : Int) (k0 : Int → Option α) (k1 : Unit → Option α) : Option α := A4 (Mz n) m ((s0, s1, s7, s8, ()), ()) (fun w => k0 w.1.1, fun w => k1 (), ())
theorem Acx {α n m s0 s1 s7 s8 k0 k1} : Gr (α := α) n (m + 1) s0 s1 s7 s8 k0 k1 = N1 n s0 s1 s7 s8 (fun s0 s1 s7 s8 => Gr n m s0 s1 s7 s8 k0 k1) k0 k1 := rfl
def A3o (n : Nat) (a0 : List LR) (a1 : Int) : Option Int :=
 Gr n n a0 a1 (a0.length : Int) 0
  (fun z_2 => (
   some z_2))
  (fun (_ : Unit) => (
   some (-1)))
def A6j (n : Nat) : Ent := ⟨126, [(.sl hRs), (.clo 124 (.ref hI))], [hI], fun x => A3o n x.1 x.2⟩
def Ss (α : Type) (n : Nat) : D3 α := { reg := [(4, ⟨0, [], [(5, { ent := some (Auy n) })]⟩)], join := [], loop := [(2, ⟨Ie, N0, A4 (Mz n) n⟩)] }
theorem Uo (α : Type) (n : Nat) : Al PP (Ad (Ss α n).reg) := ⟨B3q n, trivial⟩
theorem A9i (α : Type) (n : Nat) : LO.Sound (α := α) PP ⟨19, []⟩ ⟨Ie, N0, A4 (Mz n) n⟩ (.loop ((A2 Tryz.f126).at [1, 0, 1, 0, 0])) := Bm (D := Ss α n) (Uo α n) n
theorem Aod (α : Type) (n : Nat) : D3.OK PP TT ⟨19, []⟩ (Ss α n) (A2 Tryz.f126) :=
 D3.OK.mk3 (Uo α n) (show Aa (A2 Tryz.f126) = [(2, (.loop ((A2 Tryz.f126).at [1, 0, 1, 0, 0])))] by kernel_rfl) ⟨A8 rfl (A9i α n), trivial⟩
theorem Aiu (n : Nat) : (A6j n).Sound PP := fk (fn := Tryz.f126) (Aod _ n) 

def Su (n : Nat) (a0 : List LR) (a1 : Int) : Option Bool :=
 ob (A3o n a0 a1) fun r_1 =>
 some (decide (r_1 ≥ 0))
def A6k (n : Nat) : Ent := ⟨123, [(.sl hRs), (.clo 124 (.ref hI))], [.bool], fun x => Su n x.1 x.2⟩
def Aoe (α : Type) (n : Nat) : D3 α := { reg := [(1, ⟨0, [], [(2, { ent := some (A6j n) })]⟩)], join := [], loop := [] }
theorem Aiv (n : Nat) : (A6k n).Sound PP := Az (fn := Tryz.f123) (D := Aoe _ n) ⟨Aiu n, trivial⟩ 

def A8e {α : Type} (n : Nat) (s5 : LI) (s6 s7 : Int) (f : LI → Int → Int → Option α) (k0 : Int → Option α) (k1 : Unit → Option α) : Option α :=
 bif (decide (s7 < s6)) then
  gd (decide (0 ≤ s7) && decide (s7 < (s5.length : Int))) (
   bif ((s5.getD s7.toNat 0) != 0) then
    k0 (s5.getD s7.toNat 0)
   else
    f s5 s6 (W (s7 + 1)))
 else
  k1 ()
abbrev Yi : Tm := ⟨[(5, .d hIs), (6, .d hI), (7, .d hI)], [], [], []⟩
abbrev Ayi : Tm := ⟨[(2, .d hI)], [], [], []⟩
abbrev Ayh : Tm := ⟨[], [], [], []⟩
abbrev A8d : List (Exit × Tm) := [(.ret, Ayi), (.exit 0, Ayh)]
def A8c {α : Type} (n : Nat) (v : Yi.den) (f : Yi.den → Option α) (ks : KS α A8d) : Option α := A8e n v.1.1 v.1.2.1 v.1.2.2.1 (fun s5 s6 s7 => f ((s5, s6, s7, ()), ())) (fun w0 => ks.1 ((w0, ()), ())) (fun _ => ks.2.1 ((), ()))
def A5q {α : Type} (n m : Nat) (s5 : LI) (s6 s7 : Int) (k0 : Int → Option α) (k1 : Unit → Option α) : Option α := A4 (A8c n) m ((s5, s6, s7, ()), ()) (fun w => k0 w.1.1, fun w => k1 (), ())
theorem Ayg {α n m s5 s6 s7 k0 k1} : A5q (α := α) n (m + 1) s5 s6 s7 k0 k1 = A8e n s5 s6 s7 (fun s5 s6 s7 => A5q n m s5 s6 s7 k0 k1) k0 k1 := rfl
def f68 (n : Nat) (a0 : LI) : Option Int :=
 A5q n n a0 (a0.length : Int) 0
  (fun z_1 => (
   some z_1))
  (fun (_ : Unit) => (
   some 0))
def A5r (n : Nat) : Ent := ⟨68, [hIs], [hI], fun x => f68 n x⟩
def Amj (α : Type) (n : Nat) : D3 α := { reg := [], join := [], loop := [(2, ⟨Yi, A8d, A4 (A8c n) n⟩)] }
theorem Af9 (α : Type) (n : Nat) : Al PP (Ad (Amj α n).reg) := trivial
theorem Ary (α : Type) (n : Nat) : LO.Sound (α := α) PP ⟨15, []⟩ ⟨Yi, A8d, A4 (A8c n) n⟩ (.loop ((A2 Tryz.f68).at [1, 0, 1, 0, 0])) := Bm (D := Amj α n) (Af9 α n) n
theorem B9i (α : Type) (n : Nat) : D3.OK PP TT ⟨15, []⟩ (Amj α n) (A2 Tryz.f68) :=
 D3.OK.mk3 (Af9 α n) (show Aa (A2 Tryz.f68) = [(2, (.loop ((A2 Tryz.f68).at [1, 0, 1, 0, 0])))] by kernel_rfl) ⟨A8 rfl (Ary α n), trivial⟩
theorem A5o (n : Nat) : (A5r n).Sound PP := fk (fn := Tryz.f68) (B9i _ n) 

def f55 (n : Nat) (a0 : Int) (a1 : List LR) : Option Int :=
 ob (f98 n a1) fun r_1 =>
 ob (Su n a1 a0) fun r_2 =>
 ob (f69 n (!r_2) 1) fun r_3 =>
 ob (f68 n [r_1, r_3]) fun r_4 =>
 some r_4
def Amv (n : Nat) : Ent := ⟨55, [hI, (.sl hRs)], [hI], fun x => f55 n x.1 x.2⟩
def B9n (α : Type) (n : Nat) : D3 α := { reg := [(1, ⟨0, [], [(1, { ent := some (Am5 n) }), (3, { sh := some (.ref hI) }), (4, { ent := some (A6k n) }), (6, { ent := some (Yh n) }), (7, { sh := some hI }), (8, { ent := some (A5r n) })]⟩)], join := [], loop := [] }
theorem Asf (n : Nat) : (Amv n).Sound PP := Az (fn := Tryz.f55) (D := B9n _ n) ⟨Ar6 n, Aiv n, Vr n, A5o n, trivial⟩ 

def f182 (n : Nat) (a0 : Int) (a1 : LR) (a2 : Int) : Option Rq :=
 gd (decide (a2 ≠ 0)) (
  gd (decide (a2 ≠ 0)) (
   gd (decide (0 ≤ (W ((W ((Int.tmod a0 a2) * a2)) + (W (Int.tdiv a0 a2))))) && decide ((W ((W ((Int.tmod a0 a2) * a2)) + (W (Int.tdiv a0 a2)))) < (a1.length : Int))) (
    let x_1 := a1.getD ((W ((W ((Int.tmod a0 a2) * a2)) + (W (Int.tdiv a0 a2)))).toNat) (false, [], [])
    some x_1)))
def Atl (n : Nat) : Ent := ⟨182, [hI, (.ref hRs), (.ref hI)], [hR], fun x => f182 n x.1 x.2.1 x.2.2⟩
def B6o (α : Type) (n : Nat) : D3 α := { reg := [(1, ⟨10, [], []⟩)], join := [], loop := [] }
theorem B2l (n : Nat) : (Atl n).Sound PP := Az (fn := Tryz.f182) (D := B6o _ n) trivial 

def f97 (n : Nat) (a0 : Rq) : Option Rq :=
 ob (f145 n a0.2.1) fun r_1 =>
 ob (f145 n a0.2.2) fun r_2 =>
 some (a0.1, r_1, r_2)
def Ad9 (n : Nat) : Ent := ⟨97, [hR], [hR], fun x => f97 n x⟩
def B93 (α : Type) (n : Nat) : D3 α := { reg := [(1, ⟨8, [], [(4, { ent := some (Jz n) }), (7, { ent := some (Jz n) })]⟩)], join := [], loop := [] }
theorem Aez (n : Nat) : (Ad9 n).Sound PP := Az (fn := Tryz.f97) (D := B93 _ n) ⟨Jc n, Jc n, trivial⟩ 

def Mq {α : Type} (n : Nat) (s1 : LR × Int) (s8 s9 : Int) (b7 : LR) (f : (LR × Int) → Int → Int → LR → Option α) (k0 : LR → Option α) : Option α :=
 bif (decide (s9 < s8)) then
  ob (f182 n s9 s1.1 s1.2) fun r_1 =>
  ob (f97 n r_1) fun r_2 =>
  gd (decide ((b7.length + 1) * 56 ≤ 140737488355328)) (
   f s1 s8 (W (s9 + 1)) (b7 ++ [r_2]))
 else
  k0 b7
abbrev I9 : Tm := ⟨[(1, .d (.clo 182 (.pair (.ref hRs) (.ref hI)))), (5, .k (.hw 7)), (8, .d hI), (9, .d hI)], [(7, .arr 30 hR false)], [17], []⟩
abbrev Acp : Tm := ⟨[(5, .k (.hw 7))], [(7, .arr 30 hR false)], [], []⟩
abbrev Mp : List (Exit × Tm) := [(.exit 0, Acp)]
def Mo {α : Type} (n : Nat) (v : I9.den) (f : I9.den → Option α) (ks : KS α Mp) : Option α := Mq n v.1.1 v.1.2.2.1 v.1.2.2.2.1 v.2.1 (fun s1 s8 s9 b7 => f ((s1, (), s8, s9, ()), (b7, ()))) (fun w0 => ks.1 (((), ()), (w0, ())))
def Jp {α : Type} (n m : Nat) (s1 : LR × Int) (s8 s9 : Int) (b7 : LR) (k0 : LR → Option α) : Option α := A4 (Mo n) m ((s1, (), s8, s9, ()), (b7, ())) (fun w => k0 w.2.1, ())
theorem Aco {α n m s1 s8 s9 b7 k0} : Jp (α := α) n (m + 1) s1 s8 s9 b7 k0 = Mq n s1 s8 s9 b7 (fun s1 s8 s9 b7 => Jp n m s1 s8 s9 b7 k0) k0 := rfl
def Sn (n : Nat) (a0 : Int) (a1 : LR × Int) : Option LR :=
 Jp n n a1 a0 0 []
  (fun z_3 => (
   some z_3))
def A6d (n : Nat) : Ent := ⟨129, [hI, (.clo 182 (.pair (.ref hRs) (.ref hI)))], [hRs], fun x => Sn n x.1 x.2⟩
def Sl (α : Type) (n : Nat) : D3 α := { reg := [(1, ⟨0, [], [(0, { sh := some hR })]⟩), (5, ⟨0, [], [(3, { ent := some (Atl n) }), (4, { ent := some (Ad9 n) }), (5, { sh := some hR })]⟩)], join := [], loop := [(3, ⟨I9, Mp, A4 (Mo n) n⟩)] }
theorem Ui (α : Type) (n : Nat) : Al PP (Ad (Sl α n).reg) := ⟨B2l n, Aez n, trivial⟩
theorem A9d (α : Type) (n : Nat) : LO.Sound (α := α) PP ⟨21, []⟩ ⟨I9, Mp, A4 (Mo n) n⟩ (.loop ((A2 Tryz.f129).at [1, 1, 0, 1, 0, 0])) := Bm (D := Sl α n) (Ui α n) n
theorem Ao9 (α : Type) (n : Nat) : D3.OK PP TT ⟨21, []⟩ (Sl α n) (A2 Tryz.f129) :=
 D3.OK.mk3 (Ui α n) (show Aa (A2 Tryz.f129) = [(3, (.loop ((A2 Tryz.f129).at [1, 1, 0, 1, 0, 0])))] by kernel_rfl) ⟨A8 rfl (A9d α n), trivial⟩
theorem Aiq (n : Nat) : (A6d n).Sound PP := fk (fn := Tryz.f129) (Ao9 _ n) 

def f140 (n : Nat) (a0 : LR) (a1 : Int) : Option LR :=
 ob (Sn n (W (a1 * a1)) (a0, a1)) fun r_1 =>
 some r_1
def Aum (n : Nat) : Ent := ⟨140, [hRs, hI], [hRs], fun x => f140 n x.1 x.2⟩
def B7b (α : Type) (n : Nat) : D3 α := { reg := [(1, ⟨0, [], [(3, { sh := some (.pair (.ref hRs) (.ref hI)) }), (4, { ent := some (A6d n) })]⟩)], join := [], loop := [] }
theorem B3e (n : Nat) : (Aum n).Sound PP := Az (fn := Tryz.f140) (D := B7b _ n) ⟨Aiq n, trivial⟩ 

def f141 (n : Nat) (a0 : Rq) : Option Int :=
 ob (f74 n a0) fun r_1 =>
 bif r_1 then
  some 0
 else
  bif a0.1 then
   some (-1)
  else
   some 1
def Pv (n : Nat) : Ent := ⟨141, [hR], [hI], fun x => f141 n x⟩
def B7a (α : Type) (n : Nat) : D3 α := { reg := [(1, ⟨0, [], [(1, { ent := some (Qw n) })]⟩)], join := [], loop := [] }
theorem Pu (n : Nat) : (Pv n).Sound PP := Az (fn := Tryz.f141) (D := B7a _ n) ⟨P8 n, trivial⟩ 

def A3c {α : Type} (n : Nat) (s1 : LI) (s6 s7 s8 s9 : Int) (s16 : LI) (s17 s18 : Int) (b15 : LI) (f : LI → Int → Int → Int → Int → LI → Int → Int → LI → Option α) (k0 : LI → LI → Int → Int → LI → Option α) : Option α :=
 let J_3 := fun (_ : Unit) => (
  let J_2 := fun (y_1 : Int) => (
   gd (decide (0 ≤ (W (s6 + s9))) && decide ((W (s6 + s9)) < (b15.length : Int))) (
    gd (decide ((W (s6 + s9)).toNat < b15.length)) (
     gd (decide (0 ≤ (W (s6 + s9))) && decide ((W (s6 + s9)) < (b15.length : Int))) (
      gd (decide ((W (s6 + s9)).toNat < b15.length)) (
       f s1 s6 s7 (W (Int.tdiv (W (y_1 + (b15.getD ((W (s6 + s9)).toNat) 0))) 10000)) (W (s9 + 1)) s16 s17 s18 (b15.set ((W (s6 + s9)).toNat) (Int.tmod (W (y_1 + (b15.getD ((W (s6 + s9)).toNat) 0))) 10000)))))))
  bif (decide (s9 < (s1.length : Int))) then
   gd (decide (0 ≤ s9) && decide (s9 < (s1.length : Int))) (
    J_2 (W (s8 + (W (s7 * (s1.getD s9.toNat 0))))))
  else
   J_2 s8)
 bif (decide (s9 < (s1.length : Int))) then
  J_3 ()
 else
  bif (decide (s8 > 0)) then
   J_3 ()
  else
   k0 s1 s16 s17 s18 b15
abbrev Sg : Tm := ⟨[(1, .d hIs), (5, .k (.hw 15)), (6, .d hI), (7, .d hI), (8, .d hI), (9, .d hI), (16, .d hIs), (17, .d hI), (18, .d hI)], [(15, .arr 3 hI false)], [], []⟩
abbrev Aui : Tm := ⟨[(1, .d hIs), (5, .k (.hw 15)), (16, .d hIs), (17, .d hI), (18, .d hI)], [(15, .arr 3 hI false)], [], []⟩
abbrev A3b : List (Exit × Tm) := [(.exit 2, Aui)]
def A3a {α : Type} (n : Nat) (v : Sg.den) (f : Sg.den → Option α) (ks : KS α A3b) : Option α := A3c n v.1.1 v.1.2.2.1 v.1.2.2.2.1 v.1.2.2.2.2.1 v.1.2.2.2.2.2.1 v.1.2.2.2.2.2.2.1 v.1.2.2.2.2.2.2.2.1 v.1.2.2.2.2.2.2.2.2.1 v.2.1 (fun s1 s6 s7 s8 s9 s16 s17 s18 b15 => f ((s1, (), s6, s7, s8, s9, s16, s17, s18, ()), (b15, ()))) (fun w0 w1 w2 w3 w4 => ks.1 ((w0, (), w1, w2, w3, ()), (w4, ())))
def Ld {α : Type} (n m : Nat) (s1 : LI) (s6 s7 s8 s9 : Int) (s16 : LI) (s17 s18 : Int) (b15 : LI) (k0 : LI → LI → Int → Int → LI → Option α) : Option α := A4 (A3a n) m ((s1, (), s6, s7, s8, s9, s16, s17, s18, ()), (b15, ())) (fun w => k0 w.1.1 w.1.2.2.1 w.1.2.2.2.1 w.1.2.2.2.2.1 w.2.1, ())
theorem Auh {α n m s1 s6 s7 s8 s9 s16 s17 s18 b15 k0} : Ld (α := α) n (m + 1) s1 s6 s7 s8 s9 s16 s17 s18 b15 k0 = A3c n s1 s6 s7 s8 s9 s16 s17 s18 b15 (fun s1 s6 s7 s8 s9 s16 s17 s18 b15 => Ld n m s1 s6 s7 s8 s9 s16 s17 s18 b15 k0) k0 := rfl
def A3f {α : Type} (n : Nat) (s1 s16 : LI) (s17 s18 : Int) (b15 : LI) (f : LI → LI → Int → Int → LI → Option α) (k0 : LI → Option α) : Option α :=
 bif (decide (s18 < s17)) then
  gd (decide (0 ≤ s18) && decide (s18 < (s16.length : Int))) (
   Ld n n s1 s18 (s16.getD s18.toNat 0) 0 0 s16 s17 s18 b15
    (fun z_1 z_2 z_3 z_4 z_5 => (
     f z_1 z_2 z_3 (W (z_4 + 1)) z_5)))
 else
  k0 b15
abbrev Si : Tm := ⟨[(1, .d hIs), (5, .k (.hw 15)), (16, .d hIs), (17, .d hI), (18, .d hI)], [(15, .arr 3 hI false)], [], []⟩
abbrev Aul : Tm := ⟨[(5, .k (.hw 15))], [(15, .arr 3 hI false)], [], []⟩
abbrev A3e : List (Exit × Tm) := [(.exit 0, Aul)]
def A3d {α : Type} (n : Nat) (v : Si.den) (f : Si.den → Option α) (ks : KS α A3e) : Option α := A3f n v.1.1 v.1.2.2.1 v.1.2.2.2.1 v.1.2.2.2.2.1 v.2.1 (fun s1 s16 s17 s18 b15 => f ((s1, (), s16, s17, s18, ()), (b15, ()))) (fun w0 => ks.1 (((), ()), (w0, ())))
def Le {α : Type} (n m : Nat) (s1 s16 : LI) (s17 s18 : Int) (b15 : LI) (k0 : LI → Option α) : Option α := A4 (A3d n) m ((s1, (), s16, s17, s18, ()), (b15, ())) (fun w => k0 w.2.1, ())
theorem Auj {α n m s1 s16 s17 s18 b15 k0} : Le (α := α) n (m + 1) s1 s16 s17 s18 b15 k0 = A3f n s1 s16 s17 s18 b15 (fun s1 s16 s17 s18 b15 => Le n m s1 s16 s17 s18 b15 k0) k0 := rfl
abbrev B3c : Tm := ⟨[(1, .d hIs), (5, .k (.hw 15)), (6, .d hI), (7, .d hI), (8, .d hI), (9, .d hI), (16, .d hIs), (17, .d hI), (18, .d hI)], [(15, .arr 3 hI false)], [], []⟩
abbrev Azj : Tm := ⟨[(1, .d hIs), (5, .k (.hw 15)), (6, .d hI), (7, .d hI), (8, .d hI), (9, .d hI), (16, .d hIs), (17, .d hI), (18, .d hI)], [(15, .arr 3 hI false)], [], []⟩
def f143 (n : Nat) (a0 a1 : LI) : Option LI :=
 gd (decide (0 ≤ (W ((a0.length : Int) + (a1.length : Int)))) && decide ((W ((a0.length : Int) + (a1.length : Int))) ≤ 4611686018427387904) && decide ((8 : Int) * (W ((a0.length : Int) + (a1.length : Int))) ≤ 281474976710656)) (
  Le n n a1 a0 (a0.length : Int) 0 (List.replicate ((W ((a0.length : Int) + (a1.length : Int))).toNat) 0)
   (fun z_6 => (
    ob (f185 n z_6) fun r_7 =>
    some r_7)))
def Gn (n : Nat) : Ent := ⟨143, [hIs, hIs], [hIs], fun x => f143 n x.1 x.2⟩
def A69 (α : Type) (n : Nat) : D3 α := { reg := [(14, ⟨0, [], [(1, { ent := some (Gi n), fz := [(63, hIs)] })]⟩)], join := [(9, B3c), (11, Azj)], loop := [(7, ⟨Sg, A3b, A4 (A3a n) n⟩), (3, ⟨Si, A3e, A4 (A3d n) n⟩)] }
theorem Ws (α : Type) (n : Nat) : Al PP (Ad (A69 α n).reg) := ⟨Pk n, trivial⟩
theorem Ao5 (α : Type) (n : Nat) : LO.Sound (α := α) PP ⟨65, []⟩ ⟨Sg, A3b, A4 (A3a n) n⟩ (.loop ((A2 Tryz.f143).at [1, 1, 0, 1, 0, 0, 1, 1, 0, 0, 1, 1, 1, 0, 0])) := Bm (D := A69 α n) (Ws α n) n
theorem Auk (α : Type) (n : Nat) : D3.OK PP TT ⟨65, []⟩ (A69 α n) ((A2 Tryz.f143).at [1, 1, 0, 1, 0, 0]) :=
 D3.OK.mk3 (Ws α n) (show Aa ((A2 Tryz.f143).at [1, 1, 0, 1, 0, 0]) = [(7, (.loop ((A2 Tryz.f143).at [1, 1, 0, 1, 0, 0, 1, 1, 0, 0, 1, 1, 1, 0, 0])))] by kernel_rfl) ⟨A8 rfl (Ao5 α n), trivial⟩
theorem Ao6 (α : Type) (n : Nat) : LO.Sound (α := α) PP ⟨65, []⟩ ⟨Si, A3e, A4 (A3d n) n⟩ (.loop ((A2 Tryz.f143).at [1, 1, 0, 1, 0, 0])) := lk (Auk α n) n
theorem B78 (α : Type) (n : Nat) : D3.OK PP TT ⟨65, []⟩ (A69 α n) (A2 Tryz.f143) :=
 D3.OK.mk3 (Ws α n) (show Aa (A2 Tryz.f143) = [(3, (.loop ((A2 Tryz.f143).at [1, 1, 0, 1, 0, 0])))] by kernel_rfl) ⟨A8 rfl (Ao6 α n), trivial⟩
theorem G0 (n : Nat) : (Gn n).Sound PP := fk (fn := Tryz.f143) (B78 _ n) 

def f181 (n : Nat) (a0 a1 : Rq) : Option Int :=
 ob (f141 n a0) fun r_1 =>
 ob (f141 n a1) fun r_2 =>
 bif (r_1 != r_2) then
  ob (f141 n a0) fun r_3 =>
  ob (f141 n a1) fun r_4 =>
  some (W (r_3 - r_4))
 else
  ob (f143 n a0.2.1 a1.2.2) fun r_5 =>
  ob (f143 n a1.2.1 a0.2.2) fun r_6 =>
  ob (f170 n r_5 r_6) fun r_7 =>
  bif a0.1 then
   some (W (0 - r_7))
  else
   some r_7
def Atm (n : Nat) : Ent := ⟨181, [hR, hR], [hI], fun x => f181 n x.1 x.2⟩
def B6p (α : Type) (n : Nat) : D3 α := { reg := [(1, ⟨3, [], [(1, { ent := some (Pv n) }), (3, { ent := some (Pv n) })]⟩), (2, ⟨3, [], [(1, { ent := some (Pv n) }), (3, { ent := some (Pv n) })]⟩), (3, ⟨9, [], [(4, { ent := some (Gn n) }), (9, { ent := some (Gn n) }), (10, { ent := some (Pp n) })]⟩)], join := [], loop := [] }
theorem B2n (n : Nat) : (Atm n).Sound PP := Az (fn := Tryz.f181) (D := B6p _ n) ⟨Pu n, Pu n, Pu n, Pu n, G0 n, G0 n, Po n, trivial⟩ 

def f180 (n : Nat) (a0 a1 : Rq) : Option Bool :=
 ob (f181 n a0 a1) fun r_1 =>
 some (r_1 == 0)
def Atn (n : Nat) : Ent := ⟨180, [hR, hR], [.bool], fun x => f180 n x.1 x.2⟩
def B6q (α : Type) (n : Nat) : D3 α := { reg := [(1, ⟨0, [], [(2, { ent := some (Atm n) })]⟩)], join := [], loop := [] }
theorem B2p (n : Nat) : (Atn n).Sound PP := Az (fn := Tryz.f180) (D := B6q _ n) ⟨B2n n, trivial⟩ 

def Mc {α : Type} (n : Nat) (s1 s15 : LR) (s16 s17 : Int) (f : LR → LR → Int → Int → Option α) (k0 : Bool → Option α) (k1 : Unit → Option α) : Option α :=
 bif (decide (s17 < s16)) then
  gd (decide (0 ≤ s17) && decide (s17 < (s15.length : Int))) (
   let x_1 := s15.getD s17.toNat (false, [], [])
   gd (decide (0 ≤ s17) && decide (s17 < (s1.length : Int))) (
    let x_2 := s1.getD s17.toNat (false, [], [])
    ob (f180 n x_1 x_2) fun r_3 =>
    bif (!r_3) then
     k0 false
    else
     f s1 s15 s16 (W (s17 + 1))))
 else
  k1 ()
abbrev I5 : Tm := ⟨[(1, .d hRs), (2, .d (.fn 180)), (15, .d hRs), (16, .d hI), (17, .d hI)], [], [8, 9], []⟩
abbrev Ach : Tm := ⟨[(6, .d .bool)], [], [8, 9], []⟩
abbrev Acg : Tm := ⟨[], [], [], []⟩
abbrev Mb : List (Exit × Tm) := [(.ret, Ach), (.exit 0, Acg)]
def Ma {α : Type} (n : Nat) (v : I5.den) (f : I5.den → Option α) (ks : KS α Mb) : Option α := Mc n v.1.1 v.1.2.2.1 v.1.2.2.2.1 v.1.2.2.2.2.1 (fun s1 s15 s16 s17 => f ((s1, (), s15, s16, s17, ()), ())) (fun w0 => ks.1 ((w0, ()), ())) (fun _ => ks.2.1 ((), ()))
def F8 {α : Type} (n m : Nat) (s1 s15 : LR) (s16 s17 : Int) (k0 : Bool → Option α) (k1 : Unit → Option α) : Option α := A4 (Ma n) m ((s1, (), s15, s16, s17, ()), ()) (fun w => k0 w.1.1, fun w => k1 (), ())
theorem Acf {α n m s1 s15 s16 s17 k0 k1} : F8 (α := α) n (m + 1) s1 s15 s16 s17 k0 k1 = Mc n s1 s15 s16 s17 (fun s1 s15 s16 s17 => F8 n m s1 s15 s16 s17 k0 k1) k0 k1 := rfl
def S2 (n : Nat) (a0 a1 : LR) (a2 : Unit) : Option Bool :=
 bif ((a0.length : Int) != (a1.length : Int)) then
  some false
 else
  F8 n n a1 a0 (a0.length : Int) 0
   (fun z_4 => (
    some z_4))
   (fun (_ : Unit) => (
    some true))
def A63 (n : Nat) : Ent := ⟨179, [hRs, hRs, (.fn 180)], [.bool], fun x => S2 n x.1 x.2.1 x.2.2⟩
def S1 (α : Type) (n : Nat) : D3 α := { reg := [(7, ⟨0, [], [(3, { ent := some (Atn n) })]⟩)], join := [], loop := [(4, ⟨I5, Mb, A4 (Ma n) n⟩)] }
theorem Ud (α : Type) (n : Nat) : Al PP (Ad (S1 α n).reg) := ⟨B2p n, trivial⟩
theorem A93 (α : Type) (n : Nat) : LO.Sound (α := α) PP ⟨32, []⟩ ⟨I5, Mb, A4 (Ma n) n⟩ (.loop ((A2 Tryz.f179).at [1, 1, 0, 1, 0, 0])) := Bm (D := S1 α n) (Ud α n) n
theorem Anp (α : Type) (n : Nat) : D3.OK PP TT ⟨32, []⟩ (S1 α n) (A2 Tryz.f179) :=
 D3.OK.mk3 (Ud α n) (show Aa (A2 Tryz.f179) = [(4, (.loop ((A2 Tryz.f179).at [1, 1, 0, 1, 0, 0])))] by kernel_rfl) ⟨A8 rfl (A93 α n), trivial⟩
theorem Ain (n : Nat) : (A63 n).Sound PP := fk (fn := Tryz.f179) (Anp _ n) 

def f139 (n : Nat) (a0 a1 : LR) : Option Bool :=
 ob (S2 n a0 a1 ()) fun r_1 =>
 some r_1
def Aun (n : Nat) : Ent := ⟨139, [hRs, hRs], [.bool], fun x => f139 n x.1 x.2⟩
def B7d (α : Type) (n : Nat) : D3 α := { reg := [(1, ⟨0, [], [(2, { ent := some (A63 n) })]⟩)], join := [], loop := [] }
theorem B3f (n : Nat) : (Aun n).Sound PP := Az (fn := Tryz.f139) (D := B7d _ n) ⟨Ain n, trivial⟩ 

def A6h (n : Nat) (a0 : LR) : Option LR :=
 gd ((!a0.isEmpty)) (
  gd (decide ((0 + a0.length) * 56 ≤ 140737488355328)) (
   some a0))
def A9g (n : Nat) : Ent3 := ⟨128, [.im hRs], [[.one (.own 30 hR)]], fun x => A6h n x⟩
def B3l (α : Type) (n : Nat) : D3 α := { reg := [(3, ⟨0, [], [(0, { sh := some hR })]⟩)], join := [], loop := [] }
theorem Agl (n : Nat) : (A9g n).Sound PP := A7t (fn := Tryz.f128) (D := B3l _ n) trivial 

def A1k {α : Type} (n : Nat) (s0 : LR) (s1 s11 s12 : Int) (b10 : List LR) (f : LR → Int → Int → Int → (List LR) → Option α) (k0 : (List LR) → Option α) : Option α :=
 bif (decide (s12 < s11)) then
  gd (decide (0 ≤ (W (s12 * s1))) && decide ((W (s12 * s1)) ≤ (W ((W (s12 + 1)) * s1))) && decide ((W ((W (s12 + 1)) * s1)) ≤ (s0.length : Int))) (
   ob (A6h n ((s0.drop ((W (s12 * s1)).toNat)).take ((W ((W (s12 + 1)) * s1)).toNat - (W (s12 * s1)).toNat))) fun r_1 =>
   gd (decide ((b10.length + 1) * 24 ≤ 140737488355328)) (
    f s0 s1 s11 (W (s12 + 1)) (b10 ++ [r_1])))
 else
  k0 b10
abbrev R6 : Tm := ⟨[(0, .d hRs), (1, .d hI), (2, .d .nil), (7, .k (.hw 10)), (11, .d hI), (12, .d hI)], [(10, .arr 24 hRs false)], [36, 310], []⟩
abbrev As9 : Tm := ⟨[(7, .k (.hw 10))], [(10, .arr 24 hRs false)], [], []⟩
abbrev A1j : List (Exit × Tm) := [(.exit 0, As9)]
def A1i {α : Type} (n : Nat) (v : R6.den) (f : R6.den → Option α) (ks : KS α A1j) : Option α := A1k n v.1.1 v.1.2.1 v.1.2.2.2.2.1 v.1.2.2.2.2.2.1 v.2.1 (fun s0 s1 s11 s12 b10 => f ((s0, s1, (), (), s11, s12, ()), (b10, ()))) (fun w0 => ks.1 (((), ()), (w0, ())))
def Yn {α : Type} (n m : Nat) (s0 : LR) (s1 s11 s12 : Int) (b10 : List LR) (k0 : (List LR) → Option α) : Option α := A4 (A1i n) m ((s0, s1, (), (), s11, s12, ()), (b10, ())) (fun w => k0 w.2.1, ())
theorem As8 {α n m s0 s1 s11 s12 b10 k0} : Yn (α := α) n (m + 1) s0 s1 s11 s12 b10 k0 = A1k n s0 s1 s11 s12 b10 (fun s0 s1 s11 s12 b10 => Yn n m s0 s1 s11 s12 b10 k0) k0 := rfl
def Afc (n : Nat) (a0 : LR) (a1 : Int) (a2 : Unit) : Option (List LR) :=
 Yn n n a0 a1 a1 0 []
  (fun z_2 => (
   some z_2))
def Asa (n : Nat) : Ent3 := ⟨58, [.im hRs, .im hI, .im .nil], [[.one (.own 24 hRs)]], fun x => Afc n x.1 x.2.1 x.2.2⟩
def Afb (α : Type) (n : Nat) : D3 α := { reg := [(1, ⟨0, [], [(0, { sh := some hRs })]⟩), (5, ⟨0, [], [(9, { entB := some (A9g n), hb := 310 })]⟩), (8, ⟨0, [], [(2, { sh := some hRs, fz := [(35, hRs)] })]⟩)], join := [], loop := [(3, ⟨R6, A1j, A4 (A1i n) n⟩)] }
theorem Aay (α : Type) (n : Nat) : Al PP (Ad (Afb α n).reg) := ⟨Agl n, trivial⟩
theorem Amo (α : Type) (n : Nat) : LO.Sound (α := α) PP ⟨40, []⟩ ⟨R6, A1j, A4 (A1i n) n⟩ (.loop ((A2 Tryz.f58).at [1, 1, 0, 1, 0, 0])) := Bm (D := Afb α n) (Aay α n) n
theorem B5u (α : Type) (n : Nat) : D3.OK PP TT ⟨40, []⟩ (Afb α n) (A2 Tryz.f58) :=
 D3.OK.mk3 (Aay α n) (show Aa (A2 Tryz.f58) = [(3, (.loop ((A2 Tryz.f58).at [1, 1, 0, 1, 0, 0])))] by kernel_rfl) ⟨A8 rfl (Amo α n), trivial⟩
theorem B27 (n : Nat) : (Asa n).Sound PP := fkB (fn := Tryz.f58) (B5u _ n) 

def f92 (n : Nat) (a0 : Int) : Option Rq :=
 bif (decide (a0 < 0)) then
  ob (f160 n (W (0 - a0))) fun r_1 =>
  ob (f161 n) fun r_2 =>
  some (true, r_1, r_2)
 else
  ob (f160 n a0) fun r_3 =>
  ob (f161 n) fun r_4 =>
  some (false, r_3, r_4)
def Qt (n : Nat) : Ent := ⟨92, [hI], [hR], fun x => f92 n x⟩
def B95 (α : Type) (n : Nat) : D3 α := { reg := [(2, ⟨0, [], [(2, { ent := some (Jy n) }), (3, { ent := some (Wr n) })]⟩), (3, ⟨0, [], [(1, { ent := some (Jy n) }), (2, { ent := some (Wr n) })]⟩)], join := [], loop := [] }
theorem P6 (n : Nat) : (Qt n).Sound PP := Az (fn := Tryz.f92) (D := B95 _ n) ⟨A9a n, Z1 n, A9a n, Z1 n, trivial⟩ 

def f127 (n : Nat) (a0 : LR) (a1 : Int) : Option Bool :=
 gd (decide (0 ≤ a1) && decide (a1 < (a0.length : Int))) (
  let x_1 := a0.getD a1.toNat (false, [], [])
  ob (f74 n x_1) fun r_2 =>
  some (!r_2))
def Auw (n : Nat) : Ent := ⟨127, [hRs, (.ref hI)], [.bool], fun x => f127 n x.1 x.2⟩
def B7m (α : Type) (n : Nat) : D3 α := { reg := [(1, ⟨0, [], [(4, { ent := some (Qw n) })]⟩)], join := [], loop := [] }
theorem B3m (n : Nat) : (Auw n).Sound PP := Az (fn := Tryz.f127) (D := B7m _ n) ⟨P8 n, trivial⟩ 

def Id {α : Type} (n : Nat) (s0 : List LR) (s1 s7 s8 : Int) (f : (List LR) → Int → Int → Int → Option α) (k0 : Int → Option α) (k1 : Unit → Option α) : Option α :=
 bif (decide (s8 < s7)) then
  gd (decide (0 ≤ s8) && decide (s8 < (s0.length : Int))) (
   ob (f127 n (s0.getD s8.toNat []) s1) fun r_1 =>
   bif r_1 then
    k0 s8
   else
    f s0 s1 s7 (W (s8 + 1)))
 else
  k1 ()
abbrev Ic : Tm := ⟨[(0, .d (.sl hRs)), (1, .d (.clo 127 (.ref hI))), (7, .d hI), (8, .d hI)], [], [], []⟩
abbrev Acw : Tm := ⟨[(4, .d hI)], [], [], []⟩
abbrev Acv : Tm := ⟨[], [], [], []⟩
abbrev My : List (Exit × Tm) := [(.ret, Acw), (.exit 0, Acv)]
def Mx {α : Type} (n : Nat) (v : Ic.den) (f : Ic.den → Option α) (ks : KS α My) : Option α := Id n v.1.1 v.1.2.1 v.1.2.2.1 v.1.2.2.2.1 (fun s0 s1 s7 s8 => f ((s0, s1, s7, s8, ()), ())) (fun w0 => ks.1 ((w0, ()), ())) (fun _ => ks.2.1 ((), ()))
def Jq {α : Type} (n m : Nat) (s0 : List LR) (s1 s7 s8 : Int) (k0 : Int → Option α) (k1 : Unit → Option α) : Option α := A4 (Mx n) m ((s0, s1, s7, s8, ()), ()) (fun w => k0 w.1.1, fun w => k1 (), ())
theorem Um {α n m s0 s1 s7 s8 k0 k1} : Jq (α := α) n (m + 1) s0 s1 s7 s8 k0 k1 = Id n s0 s1 s7 s8 (fun s0 s1 s7 s8 => Jq n m s0 s1 s7 s8 k0 k1) k0 k1 := rfl
def Sr (n : Nat) (a0 : List LR) (a1 : Int) : Option Int :=
 Jq n n a0 a1 (a0.length : Int) 0
  (fun z_2 => (
   some z_2))
  (fun (_ : Unit) => (
   some (-1)))
def A6i (n : Nat) : Ent := ⟨126, [(.sl hRs), (.clo 127 (.ref hI))], [hI], fun x => Sr n x.1 x.2⟩
def Sq (α : Type) (n : Nat) : D3 α := { reg := [(4, ⟨0, [], [(5, { ent := some (Auw n) })]⟩)], join := [], loop := [(2, ⟨Ic, My, A4 (Mx n) n⟩)] }
theorem Ul (α : Type) (n : Nat) : Al PP (Ad (Sq α n).reg) := ⟨B3m n, trivial⟩
theorem A9h (α : Type) (n : Nat) : LO.Sound (α := α) PP ⟨19, []⟩ ⟨Ic, My, A4 (Mx n) n⟩ (.loop ((A2 Tryz.f126).at [1, 0, 1, 0, 0])) := Bm (D := Sq α n) (Ul α n) n
theorem Aoc (α : Type) (n : Nat) : D3.OK PP TT ⟨19, []⟩ (Sq α n) (A2 Tryz.f126) :=
 D3.OK.mk3 (Ul α n) (show Aa (A2 Tryz.f126) = [(2, (.loop ((A2 Tryz.f126).at [1, 0, 1, 0, 0])))] by kernel_rfl) ⟨A8 rfl (A9h α n), trivial⟩
theorem Ait (n : Nat) : (A6i n).Sound PP := fk (fn := Tryz.f126) (Aoc _ n) 

def f77 (n : Nat) (a0 : Rq) : Option Rq :=
 bif (!a0.1) then
  ob (f74 n a0) fun r_1 =>
  ob (f145 n a0.2.1) fun r_2 =>
  ob (f145 n a0.2.2) fun r_3 =>
  some ((!r_1), r_2, r_3)
 else
  ob (f145 n a0.2.1) fun r_4 =>
  ob (f145 n a0.2.2) fun r_5 =>
  some (false, r_4, r_5)
def A5i (n : Nat) : Ent := ⟨77, [hR], [hR], fun x => f77 n x⟩
def B97 (α : Type) (n : Nat) : D3 α := { reg := [(1, ⟨14, [], [(5, { ent := some (Qw n) }), (10, { ent := some (Jz n) }), (13, { ent := some (Jz n) })]⟩)], join := [], loop := [] }
theorem A5h (n : Nat) : (A5i n).Sound PP := Az (fn := Tryz.f77) (D := B97 _ n) ⟨P8 n, Jc n, Jc n, trivial⟩ 

abbrev B3d : Tm := ⟨[(0, .d .bool), (1, .d hIs), (2, .d hIs), (6, .k (.hp 6 0 0))], [(6, .var 30 true false [.d .bool, .d .nil, .d .nil])], [], []⟩
def f142 (n : Nat) (a0 : Bool) (a1 a2 : LI) : Option Rq :=
 let J_12 := fun (y_6 : LI) (y_7 : LI) => (
  bif a0 then
   ob (f145 n y_6) fun r_8 =>
   ob (f145 n y_7) fun r_9 =>
   some ((decide ((y_6.length : Int) > 0)), r_8, r_9)
  else
   ob (f145 n y_6) fun r_10 =>
   ob (f145 n y_7) fun r_11 =>
   some (false, r_10, r_11))
 ob (f183 n a1 a2) fun r_1 =>
 ob (f161 n) fun r_2 =>
 ob (f170 n r_1 r_2) fun r_3 =>
 bif (r_3 != 0) then
  ob (f184 n a1 r_1) fun r_4 =>
  ob (f184 n a2 r_1) fun r_5 =>
  J_12 r_4.1 r_5.1
 else
  J_12 a1 a2
def Pt (n : Nat) : Ent := ⟨142, [.bool, hIs, hIs], [hR], fun x => f142 n x.1 x.2.1 x.2.2⟩
def B79 (α : Type) (n : Nat) : D3 α := { reg := [(1, ⟨0, [], [(2, { ent := some (Ag4 n) })]⟩), (2, ⟨0, [], [(1, { ent := some (Wr n) }), (2, { ent := some (Pp n) })]⟩), (3, ⟨0, [], [(2, { ent := some (A62 n) })]⟩), (4, ⟨0, [], [(2, { ent := some (A62 n) })]⟩), (5, ⟨0, [], [(7, { ent := some (Jz n) }), (9, { ent := some (Jz n) })]⟩)], join := [(5, B3d)], loop := [] }
theorem Ps (n : Nat) : (Pt n).Sound PP := Az (fn := Tryz.f142) (D := B79 _ n) ⟨Akl n, Z1 n, Po n, A92 n, A92 n, Jc n, Jc n, trivial⟩ 

def f103 (n : Nat) (a0 a1 : Rq) : Option Rq :=
 ob (f143 n a0.2.1 a1.2.1) fun r_1 =>
 ob (f143 n a0.2.2 a1.2.2) fun r_2 =>
 ob (f142 n (!(a0.1 == a1.1)) r_1 r_2) fun r_3 =>
 some r_3
def X5 (n : Nat) : Ent := ⟨103, [hR, hR], [hR], fun x => f103 n x.1 x.2⟩
def B87 (α : Type) (n : Nat) : D3 α := { reg := [(1, ⟨15, [], [(9, { ent := some (Gn n) }), (14, { ent := some (Gn n) }), (15, { ent := some (Pt n) })]⟩)], join := [], loop := [] }
theorem Za (n : Nat) : (X5 n).Sound PP := Az (fn := Tryz.f103) (D := B87 _ n) ⟨G0 n, G0 n, Ps n, trivial⟩ 

def f75 (n : Nat) (a0 a1 : Rq) : Option Rq :=
 ob (f143 n a0.2.1 a1.2.2) fun r_1 =>
 ob (f143 n a0.2.2 a1.2.1) fun r_2 =>
 ob (f142 n (!(a0.1 == a1.1)) r_1 r_2) fun r_3 =>
 some r_3
def Fw (n : Nat) : Ent := ⟨75, [hR, hR], [hR], fun x => f75 n x.1 x.2⟩
def B99 (α : Type) (n : Nat) : D3 α := { reg := [(1, ⟨15, [], [(9, { ent := some (Gn n) }), (14, { ent := some (Gn n) }), (15, { ent := some (Pt n) })]⟩)], join := [], loop := [] }
theorem A5l (n : Nat) : (Fw n).Sound PP := Az (fn := Tryz.f75) (D := B99 _ n) ⟨G0 n, G0 n, Ps n, trivial⟩ 

def A33 {α : Type} (n : Nat) (s0 s1 : LI) (s6 s7 : Int) (b8 : LI) (f : LI → LI → Int → Int → LI → Option α) (k0 : LI → Option α) : Option α :=
 let J_5 := fun (_ : Unit) => (
  let J_4 := fun (y_1 : Int) => (
   let J_3 := fun (y_2 : Int) => (
    gd (decide ((b8.length + 1) * 8 ≤ 140737488355328)) (
     f s0 s1 (W (Int.tdiv y_2 10000)) (W (s7 + 1)) (b8 ++ [(Int.tmod y_2 10000)])))
   bif (decide (s7 < (s1.length : Int))) then
    gd (decide (0 ≤ s7) && decide (s7 < (s1.length : Int))) (
     J_3 (W (y_1 + (s1.getD s7.toNat 0))))
   else
    J_3 y_1)
  bif (decide (s7 < (s0.length : Int))) then
   gd (decide (0 ≤ s7) && decide (s7 < (s0.length : Int))) (
    J_4 (W (s6 + (s0.getD s7.toNat 0))))
  else
   J_4 s6)
 bif (decide (s7 < (max (s0.length : Int) (s1.length : Int)))) then
  J_5 ()
 else
  bif (decide (s6 > 0)) then
   J_5 ()
  else
   k0 b8
abbrev Sd : Tm := ⟨[(0, .d hIs), (1, .d hIs), (5, .k (.hw 8)), (6, .d hI), (7, .d hI)], [(8, .arr 3 hI false)], [45], []⟩
abbrev Au6 : Tm := ⟨[(5, .k (.hw 8))], [(8, .arr 3 hI false)], [], []⟩
abbrev A32 : List (Exit × Tm) := [(.exit 0, Au6)]
def A31 {α : Type} (n : Nat) (v : Sd.den) (f : Sd.den → Option α) (ks : KS α A32) : Option α := A33 n v.1.1 v.1.2.1 v.1.2.2.2.1 v.1.2.2.2.2.1 v.2.1 (fun s0 s1 s6 s7 b8 => f ((s0, s1, (), s6, s7, ()), (b8, ()))) (fun w0 => ks.1 (((), ()), (w0, ())))
def Lc {α : Type} (n m : Nat) (s0 s1 : LI) (s6 s7 : Int) (b8 : LI) (k0 : LI → Option α) : Option α := A4 (A31 n) m ((s0, s1, (), s6, s7, ()), (b8, ())) (fun w => k0 w.2.1, ())
theorem Au5 {α n m s0 s1 s6 s7 b8 k0} : Lc (α := α) n (m + 1) s0 s1 s6 s7 b8 k0 = A33 n s0 s1 s6 s7 b8 (fun s0 s1 s6 s7 b8 => Lc n m s0 s1 s6 s7 b8 k0) k0 := rfl
abbrev B30 : Tm := ⟨[(0, .d hIs), (1, .d hIs), (5, .k (.hw 8)), (6, .d hI), (7, .d hI)], [(8, .arr 3 hI false)], [], []⟩
abbrev B2z : Tm := ⟨[(0, .d hIs), (1, .d hIs), (5, .k (.hw 8)), (6, .d hI), (7, .d hI)], [(8, .arr 3 hI false)], [], []⟩
abbrev B2y : Tm := ⟨[(0, .d hIs), (1, .d hIs), (5, .k (.hw 8)), (6, .d hI), (7, .d hI)], [(8, .arr 3 hI false)], [], []⟩
def f169 (n : Nat) (a0 a1 : LI) : Option LI :=
 Lc n n a0 a1 0 0 []
  (fun z_6 => (
   some z_6))
def Au7 (n : Nat) : Ent := ⟨169, [hIs, hIs], [hIs], fun x => f169 n x.1 x.2⟩
def Agb (α : Type) (n : Nat) : D3 α := { reg := [(1, ⟨0, [], [(0, { sh := some hI })]⟩), (9, ⟨0, [], [(3, { sh := some hI })]⟩)], join := [(5, B30), (7, B2z), (9, B2y)], loop := [(3, ⟨Sd, A32, A4 (A31 n) n⟩)] }
theorem Abh (α : Type) (n : Nat) : Al PP (Ad (Agb α n).reg) := trivial
theorem Ao1 (α : Type) (n : Nat) : LO.Sound (α := α) PP ⟨50, []⟩ ⟨Sd, A32, A4 (A31 n) n⟩ (.loop ((A2 Tryz.f169).at [1, 1, 0, 1, 0, 0])) := Bm (D := Agb α n) (Abh α n) n
theorem B6y (α : Type) (n : Nat) : D3.OK PP TT ⟨50, []⟩ (Agb α n) (A2 Tryz.f169) :=
 D3.OK.mk3 (Abh α n) (show Aa (A2 Tryz.f169) = [(3, (.loop ((A2 Tryz.f169).at [1, 1, 0, 1, 0, 0])))] by kernel_rfl) ⟨A8 rfl (Ao1 α n), trivial⟩
theorem B2x (n : Nat) : (Au7 n).Sound PP := fk (fn := Tryz.f169) (B6y _ n) 

def A2z {α : Type} (n : Nat) (s1 : LI) (s6 s12 s13 : Int) (b310 : LI) (f : LI → Int → Int → Int → LI → Option α) (k0 : LI → Option α) : Option α :=
 bif (decide (s13 < s12)) then
  gd (decide (0 ≤ s13) && decide (s13 < (b310.length : Int))) (
   gd (decide (s13.toNat < b310.length)) (
    let J_3 := fun (y_2 : Int) => (
     bif (decide (y_2 < 0)) then
      gd (decide (0 ≤ s13) && decide (s13 < (b310.length : Int))) (
       gd (decide (s13.toNat < b310.length)) (
        f s1 1 s12 (W (s13 + 1)) (b310.set s13.toNat (W (y_2 + 10000)))))
     else
      gd (decide (0 ≤ s13) && decide (s13 < (b310.length : Int))) (
       gd (decide (s13.toNat < b310.length)) (
        f s1 0 s12 (W (s13 + 1)) (b310.set s13.toNat y_2))))
    bif (decide (s13 < (s1.length : Int))) then
     gd (decide (0 ≤ s13) && decide (s13 < (s1.length : Int))) (
      J_3 (W ((W ((b310.getD s13.toNat 0) - s6)) - (s1.getD s13.toNat 0))))
    else
     J_3 (W ((b310.getD s13.toNat 0) - s6))))
 else
  k0 b310
abbrev Sb : Tm := ⟨[(1, .d hIs), (5, .k (.hw 310)), (6, .d hI), (12, .d hI), (13, .d hI)], [(310, .arr 3 hI false)], [], []⟩
abbrev Atx : Tm := ⟨[(5, .k (.hw 310))], [(310, .arr 3 hI false)], [], []⟩
abbrev A2y : List (Exit × Tm) := [(.exit 0, Atx)]
def A2x {α : Type} (n : Nat) (v : Sb.den) (f : Sb.den → Option α) (ks : KS α A2y) : Option α := A2z n v.1.1 v.1.2.2.1 v.1.2.2.2.1 v.1.2.2.2.2.1 v.2.1 (fun s1 s6 s12 s13 b310 => f ((s1, (), s6, s12, s13, ()), (b310, ()))) (fun w0 => ks.1 (((), ()), (w0, ())))
def He {α : Type} (n m : Nat) (s1 : LI) (s6 s12 s13 : Int) (b310 : LI) (k0 : LI → Option α) : Option α := A4 (A2x n) m ((s1, (), s6, s12, s13, ()), (b310, ())) (fun w => k0 w.2.1, ())
theorem Atw {α n m s1 s6 s12 s13 b310 k0} : He (α := α) n (m + 1) s1 s6 s12 s13 b310 k0 = A2z n s1 s6 s12 s13 b310 (fun s1 s6 s12 s13 b310 => He n m s1 s6 s12 s13 b310 k0) k0 := rfl
abbrev B2v : Tm := ⟨[(1, .d hIs), (5, .k (.hw 310)), (7, .d hI), (8, .d hI), (12, .d hI), (13, .d hI)], [(310, .arr 3 hI false)], [], []⟩
def f171 (n : Nat) (a0 a1 : LI) : Option LI :=
 ob (A68 n a0) fun r_1 =>
 He n n a1 0 (r_1.length : Int) 0 r_1
  (fun z_4 => (
   ob (f185 n z_4) fun r_5 =>
   some r_5))
def Ag7 (n : Nat) : Ent := ⟨171, [hIs, hIs], [hIs], fun x => f171 n x.1 x.2⟩
def Ag8 (α : Type) (n : Nat) : D3 α := { reg := [(1, ⟨0, [], [(1, { entB := some (Hf n), hb := 310 })]⟩), (13, ⟨0, [], [(1, { ent := some (Gi n), fz := [(41, hIs)] })]⟩)], join := [(8, B2v)], loop := [(3, ⟨Sb, A2y, A4 (A2x n) n⟩)] }
theorem Abg (α : Type) (n : Nat) : Al PP (Ad (Ag8 α n).reg) := ⟨Agf n, Pk n, trivial⟩
theorem Anv (α : Type) (n : Nat) : LO.Sound (α := α) PP ⟨43, []⟩ ⟨Sb, A2y, A4 (A2x n) n⟩ (.loop ((A2 Tryz.f171).at [1, 1, 0, 1, 0, 0])) := Bm (D := Ag8 α n) (Abg α n) n
theorem B6w (α : Type) (n : Nat) : D3.OK PP TT ⟨43, []⟩ (Ag8 α n) (A2 Tryz.f171) :=
 D3.OK.mk3 (Abg α n) (show Aa (A2 Tryz.f171) = [(3, (.loop ((A2 Tryz.f171).at [1, 1, 0, 1, 0, 0])))] by kernel_rfl) ⟨A8 rfl (Anv α n), trivial⟩
theorem Akm (n : Nat) : (Ag7 n).Sound PP := fk (fn := Tryz.f171) (B6w _ n) 

def f104 (n : Nat) (a0 a1 : Rq) : Option Rq :=
 ob (f143 n a0.2.1 a1.2.2) fun r_1 =>
 ob (f143 n a1.2.1 a0.2.2) fun r_2 =>
 ob (f143 n a0.2.2 a1.2.2) fun r_3 =>
 bif (a0.1 == a1.1) then
  ob (f169 n r_1 r_2) fun r_4 =>
  ob (f142 n a0.1 r_4 r_3) fun r_5 =>
  some r_5
 else
  ob (f170 n r_1 r_2) fun r_6 =>
  bif (decide (r_6 ≥ 0)) then
   ob (f171 n r_1 r_2) fun r_7 =>
   ob (f142 n a0.1 r_7 r_3) fun r_8 =>
   some r_8
  else
   ob (f171 n r_2 r_1) fun r_9 =>
   ob (f142 n a1.1 r_9 r_3) fun r_10 =>
   some r_10
def X4 (n : Nat) : Ent := ⟨104, [hR, hR], [hR], fun x => f104 n x.1 x.2⟩
def B86 (α : Type) (n : Nat) : D3 α := { reg := [(1, ⟨9, [], [(4, { ent := some (Gn n) }), (9, { ent := some (Gn n) })]⟩), (2, ⟨0, [], [(4, { ent := some (Gn n) })]⟩), (4, ⟨6, [], [(4, { ent := some (Au7 n) }), (6, { ent := some (Pt n) })]⟩), (5, ⟨0, [], [(2, { ent := some (Pp n) })]⟩), (6, ⟨6, [], [(4, { ent := some (Ag7 n) }), (6, { ent := some (Pt n) })]⟩), (7, ⟨6, [], [(4, { ent := some (Ag7 n) }), (6, { ent := some (Pt n) })]⟩)], join := [], loop := [] }
theorem Z9 (n : Nat) : (X4 n).Sound PP := Az (fn := Tryz.f104) (D := B86 _ n) ⟨G0 n, G0 n, G0 n, B2x n, Ps n, Po n, Akm n, Ps n, Akm n, Ps n, trivial⟩ 

def f144 (n : Nat) (a0 : Int) (a1 : Rq) (a2 a3 : LR) : Option Rq :=
 gd (decide (0 ≤ a0) && decide (a0 < (a2.length : Int))) (
  let x_1 := a2.getD a0.toNat (false, [], [])
  ob (f103 n a1 x_1) fun r_2 =>
  gd (decide (0 ≤ a0) && decide (a0 < (a3.length : Int))) (
   let x_3 := a3.getD a0.toNat (false, [], [])
   ob (f104 n r_2 x_3) fun r_4 =>
   some r_4))
def Aug (n : Nat) : Ent := ⟨144, [hI, (.ref hR), (.ref hRs), (.ref hRs)], [hR], fun x => f144 n x.1 x.2.1 x.2.2.1 x.2.2.2⟩
def B77 (α : Type) (n : Nat) : D3 α := { reg := [(1, ⟨10, [], [(5, { ent := some (X5 n) }), (10, { ent := some (X4 n) })]⟩)], join := [], loop := [] }
theorem B3a (n : Nat) : (Aug n).Sound PP := Az (fn := Tryz.f144) (D := B77 _ n) ⟨Za n, Z9 n, trivial⟩ 

def Mt {α : Type} (n : Nat) (s1 : Rq × LR × LR) (s8 s9 : Int) (b7 : LR) (f : (Rq × LR × LR) → Int → Int → LR → Option α) (k0 : LR → Option α) : Option α :=
 bif (decide (s9 < s8)) then
  ob (f144 n s9 s1.1 s1.2.1 s1.2.2) fun r_1 =>
  ob (f97 n r_1) fun r_2 =>
  gd (decide ((b7.length + 1) * 56 ≤ 140737488355328)) (
   f s1 s8 (W (s9 + 1)) (b7 ++ [r_2]))
 else
  k0 b7
abbrev Ia : Tm := ⟨[(1, .d (.clo 144 (.pair (.ref hR) (.pair (.ref hRs) (.ref hRs))))), (5, .k (.hw 7)), (8, .d hI), (9, .d hI)], [(7, .arr 30 hR false)], [17], []⟩
abbrev Acr : Tm := ⟨[(5, .k (.hw 7))], [(7, .arr 30 hR false)], [], []⟩
abbrev Ms : List (Exit × Tm) := [(.exit 0, Acr)]
def Mr {α : Type} (n : Nat) (v : Ia.den) (f : Ia.den → Option α) (ks : KS α Ms) : Option α := Mt n v.1.1 v.1.2.2.1 v.1.2.2.2.1 v.2.1 (fun s1 s8 s9 b7 => f ((s1, (), s8, s9, ()), (b7, ()))) (fun w0 => ks.1 (((), ()), (w0, ())))
def Gp {α : Type} (n m : Nat) (s1 : Rq × LR × LR) (s8 s9 : Int) (b7 : LR) (k0 : LR → Option α) : Option α := A4 (Mr n) m ((s1, (), s8, s9, ()), (b7, ())) (fun w => k0 w.2.1, ())
theorem Acq {α n m s1 s8 s9 b7 k0} : Gp (α := α) n (m + 1) s1 s8 s9 b7 k0 = Mt n s1 s8 s9 b7 (fun s1 s8 s9 b7 => Gp n m s1 s8 s9 b7 k0) k0 := rfl
def A3m (n : Nat) (a0 : Int) (a1 : Rq × LR × LR) : Option LR :=
 Gp n n a1 a0 0 []
  (fun z_3 => (
   some z_3))
def A6e (n : Nat) : Ent := ⟨129, [hI, (.clo 144 (.pair (.ref hR) (.pair (.ref hRs) (.ref hRs))))], [hRs], fun x => A3m n x.1 x.2⟩
def So (α : Type) (n : Nat) : D3 α := { reg := [(1, ⟨0, [], [(0, { sh := some hR })]⟩), (5, ⟨0, [], [(3, { ent := some (Aug n) }), (4, { ent := some (Ad9 n) }), (5, { sh := some hR })]⟩)], join := [], loop := [(3, ⟨Ia, Ms, A4 (Mr n) n⟩)] }
theorem Uj (α : Type) (n : Nat) : Al PP (Ad (So α n).reg) := ⟨B3a n, Aez n, trivial⟩
theorem A9e (α : Type) (n : Nat) : LO.Sound (α := α) PP ⟨21, []⟩ ⟨Ia, Ms, A4 (Mr n) n⟩ (.loop ((A2 Tryz.f129).at [1, 1, 0, 1, 0, 0])) := Bm (D := So α n) (Uj α n) n
theorem Aoa (α : Type) (n : Nat) : D3.OK PP TT ⟨21, []⟩ (So α n) (A2 Tryz.f129) :=
 D3.OK.mk3 (Uj α n) (show Aa (A2 Tryz.f129) = [(3, (.loop ((A2 Tryz.f129).at [1, 1, 0, 1, 0, 0])))] by kernel_rfl) ⟨A8 rfl (A9e α n), trivial⟩
theorem Air (n : Nat) : (A6e n).Sound PP := fk (fn := Tryz.f129) (Aoa _ n) 

def f76 (n : Nat) (a0 : Rq) (a1 a2 : LR) : Option LR :=
 ob (A3m n (a1.length : Int) (a0, a1, a2)) fun r_1 =>
 some r_1
def A5k (n : Nat) : Ent := ⟨76, [hR, hRs, hRs], [hRs], fun x => f76 n x.1 x.2.1 x.2.2⟩
def B98 (α : Type) (n : Nat) : D3 α := { reg := [(1, ⟨0, [], [(2, { sh := some (.pair (.ref hR) (.pair (.ref hRs) (.ref hRs))) }), (3, { ent := some (A6e n) })]⟩)], join := [], loop := [] }
theorem A5j (n : Nat) : (A5k n).Sound PP := Az (fn := Tryz.f76) (D := B98 _ n) ⟨Air n, trivial⟩ 

def W0 {α : Type} (n : Nat) (s6 s9 s10 : Int) (c2_0 c3_0 : Bool) (c3_1 c3_2 : LI) (c4_0 : Int) (b1000 : List LR) (f : Int → Int → Int → Bool → Bool → LI → LI → Int → (List LR) → Option α) (k0 : Int → Int → Bool → Bool → LI → LI → (List LR) → Option α) : Option α :=
 bif (decide (s6 < (b1000.length : Int))) then
  gd (decide (0 ≤ s6) && decide (s6 < (b1000.length : Int))) (
   gd (decide (s6.toNat < b1000.length)) (
    gd (decide (0 ≤ c4_0) && decide (c4_0 < (((b1000.getD s6.toNat []).length : Nat) : Int))) (
     let x_11 := (b1000.getD s6.toNat []).getD c4_0.toNat (false, [], [])
     gd (decide (0 ≤ c4_0) && decide (c4_0 < (b1000.length : Int))) (
      gd (decide (c4_0.toNat < b1000.length)) (
       gd (decide (0 ≤ c4_0) && decide (c4_0 < (((b1000.getD c4_0.toNat []).length : Nat) : Int))) (
        let x_12 := (b1000.getD c4_0.toNat []).getD c4_0.toNat (false, [], [])
        ob (f75 n x_11 x_12) fun r_13 =>
        ob (f77 n r_13) fun r_14 =>
        gd (decide (0 ≤ c4_0) && decide (c4_0 < (b1000.length : Int))) (
         gd (decide (c4_0.toNat < b1000.length)) (
          gd (decide (0 ≤ s6) && decide (s6 < (b1000.length : Int))) (
           gd (decide (s6.toNat < b1000.length)) (
            ob (f76 n r_14 (b1000.getD c4_0.toNat []) (b1000.getD s6.toNat [])) fun r_15 =>
            gd (decide (0 ≤ s6) && decide (s6 < (b1000.length : Int))) (
             gd (decide (s6.toNat < b1000.length)) (
              f (W (s6 + 1)) s9 s10 c2_0 c3_0 c3_1 c3_2 c4_0 (b1000.set s6.toNat r_15)))))))))))))
 else
  k0 s9 s10 c2_0 c3_0 c3_1 c3_2 b1000
abbrev Nq : Tm := ⟨[(0, .k (.hw 1000)), (2, .k (.hp 2 0 0)), (3, .k (.hp 3 0 0)), (4, .k (.hp 4 0 0)), (6, .d hI), (9, .d hI), (10, .d hI)], [(2, .var 30 true false [.d .bool, .d .nil, .d .nil]), (3, .var 30 true false [.d .bool, .d hIs, .d hIs]), (4, .var 3 true true [.d hI]), (1000, .arr 24 hRs false)], [], []⟩
abbrev Amu : Tm := ⟨[(0, .k (.hw 1000)), (2, .k (.hp 2 0 0)), (3, .k (.hp 3 0 0)), (9, .d hI), (10, .d hI)], [(2, .var 30 true false [.d .bool, .d .nil, .d .nil]), (3, .var 30 true false [.d .bool, .d hIs, .d hIs]), (1000, .arr 24 hRs false)], [4], []⟩
abbrev Vz : List (Exit × Tm) := [(.exit 2, Amu)]
def Vy {α : Type} (n : Nat) (v : Nq.den) (f : Nq.den → Option α) (ks : KS α Vz) : Option α := W0 n v.1.2.2.2.2.1 v.1.2.2.2.2.2.1 v.1.2.2.2.2.2.2.1 v.2.1.1 v.2.2.1.1 v.2.2.1.2.1 v.2.2.1.2.2.1 v.2.2.2.1.1 v.2.2.2.2.1 (fun s6 s9 s10 c2_0 c3_0 c3_1 c3_2 c4_0 b1000 => f (((), (), (), (), s6, s9, s10, ()), ((c2_0, (), (), ()), (c3_0, c3_1, c3_2, ()), (c4_0, ()), b1000, ()))) (fun w0 w1 w2 w3 w4 w5 w6 => ks.1 (((), (), (), w0, w1, ()), ((w2, (), (), ()), (w3, w4, w5, ()), w6, ())))
def J5 {α : Type} (n m : Nat) (s6 s9 s10 : Int) (c2_0 c3_0 : Bool) (c3_1 c3_2 : LI) (c4_0 : Int) (b1000 : List LR) (k0 : Int → Int → Bool → Bool → LI → LI → (List LR) → Option α) : Option α := A4 (Vy n) m (((), (), (), (), s6, s9, s10, ()), ((c2_0, (), (), ()), (c3_0, c3_1, c3_2, ()), (c4_0, ()), b1000, ())) (fun w => k0 w.1.2.2.2.1 w.1.2.2.2.2.1 w.2.1.1 w.2.2.1.1 w.2.2.1.2.1 w.2.2.1.2.2.1 w.2.2.2.1, ())
theorem Ams {α n m s6 s9 s10 c2_0 c3_0 c3_1 c3_2 c4_0 b1000 k0} : J5 (α := α) n (m + 1) s6 s9 s10 c2_0 c3_0 c3_1 c3_2 c4_0 b1000 k0 = W0 n s6 s9 s10 c2_0 c3_0 c3_1 c3_2 c4_0 b1000 (fun s6 s9 s10 c2_0 c3_0 c3_1 c3_2 c4_0 b1000 => J5 n m s6 s9 s10 c2_0 c3_0 c3_1 c3_2 c4_0 b1000 k0) k0 := rfl
def R9 {α : Type} (n : Nat) (s9 s10 : Int) (c2_0 c3_0 : Bool) (c3_1 c3_2 : LI) (b1000 : List LR) (f : Int → Int → Bool → Bool → LI → LI → (List LR) → Option α) (k0 : Bool → LI → LI → (List LR) → Option α) (k1 : Bool → Bool → LI → LI → (List LR) → Option α) : Option α :=
 bif (decide (s10 < s9)) then
  gd (decide (0 ≤ s10) && decide (s10 ≤ (b1000.length : Int)) && decide ((b1000.length : Int) ≤ (b1000.length : Int))) (
   gd ((decide (s10.toNat + ((b1000.length : Int).toNat - s10.toNat) ≤ b1000.length)) && true) (
    ob (Sr n ((b1000.drop s10.toNat).take ((b1000.length : Int).toNat - s10.toNat)) s10) fun r_2 =>
    bif (decide (r_2 < 0)) then
     ob (f92 n 0) fun r_3 =>
     k0 r_3.1 r_3.2.1 r_3.2.2 b1000
    else
     let J_18 := fun (y_5 : Bool) (y_6 : LI) (y_7 : LI) (y_8 : List LR) => (
      gd (decide (0 ≤ s10) && decide (s10 < (y_8.length : Int))) (
       gd (decide (s10.toNat < y_8.length)) (
        gd (decide (0 ≤ s10) && decide (s10 < (((y_8.getD s10.toNat []).length : Nat) : Int))) (
         let x_9 := (y_8.getD s10.toNat []).getD s10.toNat (false, [], [])
         ob (f103 n (y_5, y_6, y_7) x_9) fun r_10 =>
         J5 n n (W (s10 + 1)) s9 s10 c2_0 r_10.1 r_10.2.1 r_10.2.2 s10 y_8
          (fun z_11 z_12 z_13 z_14 z_15 z_16 z_17 => (
           f z_11 (W (z_12 + 1)) z_13 z_14 z_15 z_16 z_17))))))
     bif (decide (r_2 > 0)) then
      gd (decide (0 ≤ (W (s10 + r_2))) && decide ((W (s10 + r_2)) < (b1000.length : Int))) (
       gd (decide ((W (s10 + r_2)).toNat < b1000.length)) (
        gd (decide (0 ≤ s10) && decide (s10 < (b1000.length : Int))) (
         gd (decide (s10.toNat < b1000.length)) (
          gd (decide (0 ≤ s10) && decide (s10 < (b1000.length : Int))) (
           gd (decide (s10.toNat < b1000.length)) (
            gd (decide (0 ≤ (W (s10 + r_2))) && decide ((W (s10 + r_2)) < (((b1000.set s10.toNat (b1000.getD ((W (s10 + r_2)).toNat) [])).length : Nat) : Int))) (
             gd (decide ((W (s10 + r_2)).toNat < (b1000.set s10.toNat (b1000.getD ((W (s10 + r_2)).toNat) [])).length)) (
              ob (f77 n (c3_0, c3_1, c3_2)) fun r_4 =>
              J_18 r_4.1 r_4.2.1 r_4.2.2 ((b1000.set s10.toNat (b1000.getD ((W (s10 + r_2)).toNat) [])).set ((W (s10 + r_2)).toNat) (b1000.getD s10.toNat []))))))))))
     else
      J_18 c3_0 c3_1 c3_2 b1000))
 else
  k1 c2_0 c3_0 c3_1 c3_2 b1000
abbrev R8 : Tm := ⟨[(0, .k (.hw 1000)), (2, .k (.hp 2 0 0)), (3, .k (.hp 3 0 0)), (9, .d hI), (10, .d hI)], [(2, .var 30 true false [.d .bool, .d .nil, .d .nil]), (3, .var 30 true false [.d .bool, .d hIs, .d hIs]), (1000, .arr 24 hRs false)], [], []⟩
abbrev Ase : Tm := ⟨[(2, .k (.hp 2 0 0))], [(2, .var 30 true false [.d .bool, .d hIs, .d hIs]), (1000, .arr 24 hRs false)], [3, 4], []⟩
abbrev Asd : Tm := ⟨[(2, .k (.hp 2 0 0)), (3, .k (.hp 3 0 0))], [(2, .var 30 true false [.d .bool, .d .nil, .d .nil]), (3, .var 30 true false [.d .bool, .d hIs, .d hIs]), (1000, .arr 24 hRs false)], [], []⟩
abbrev A1m : List (Exit × Tm) := [(.ret, Ase), (.exit 0, Asd)]
def A1l {α : Type} (n : Nat) (v : R8.den) (f : R8.den → Option α) (ks : KS α A1m) : Option α := R9 n v.1.2.2.2.1 v.1.2.2.2.2.1 v.2.1.1 v.2.2.1.1 v.2.2.1.2.1 v.2.2.1.2.2.1 v.2.2.2.1 (fun s9 s10 c2_0 c3_0 c3_1 c3_2 b1000 => f (((), (), (), s9, s10, ()), ((c2_0, (), (), ()), (c3_0, c3_1, c3_2, ()), b1000, ()))) (fun w0 w1 w2 w3 => ks.1 (((), ()), ((w0, w1, w2, ()), w3, ()))) (fun w0 w1 w2 w3 w4 => ks.2.1 (((), (), ()), ((w0, (), (), ()), (w1, w2, w3, ()), w4, ())))
def J4 {α : Type} (n m : Nat) (s9 s10 : Int) (c2_0 c3_0 : Bool) (c3_1 c3_2 : LI) (b1000 : List LR) (k0 : Bool → LI → LI → (List LR) → Option α) (k1 : Bool → Bool → LI → LI → (List LR) → Option α) : Option α := A4 (A1l n) m (((), (), (), s9, s10, ()), ((c2_0, (), (), ()), (c3_0, c3_1, c3_2, ()), b1000, ())) (fun w => k0 w.2.1.1 w.2.1.2.1 w.2.1.2.2.1 w.2.2.1, fun w => k1 w.2.1.1 w.2.2.1.1 w.2.2.1.2.1 w.2.2.1.2.2.1 w.2.2.2.1, ())
theorem Aaz {α n m s9 s10 c2_0 c3_0 c3_1 c3_2 b1000 k0 k1} : J4 (α := α) n (m + 1) s9 s10 c2_0 c3_0 c3_1 c3_2 b1000 k0 k1 = R9 n s9 s10 c2_0 c3_0 c3_1 c3_2 b1000 (fun s9 s10 c2_0 c3_0 c3_1 c3_2 b1000 => J4 n m s9 s10 c2_0 c3_0 c3_1 c3_2 b1000 k0 k1) k0 k1 := rfl
abbrev Akb : Tm := ⟨[(0, .k (.hw 1000)), (2, .k (.hp 2 0 0)), (3, .k (.hp 3 0 0)), (4, .k (.hp 4 0 0)), (5, .d hI), (9, .d hI), (10, .d hI)], [(2, .var 30 true false [.d .bool, .d .nil, .d .nil]), (3, .var 30 true false [.d .bool, .d hIs, .d hIs]), (4, .var 3 true true [.d hI]), (1000, .arr 24 hRs false)], [], []⟩
abbrev Ayv : Tm := ⟨[(0, .k (.hw 1000)), (2, .k (.hp 2 0 0)), (3, .k (.hp 3 0 0)), (4, .k (.hp 4 0 0)), (9, .d hI), (10, .d hI)], [(2, .var 30 true false [.d .bool, .d .nil, .d .nil]), (3, .var 30 true false [.d .bool, .d hIs, .d hIs]), (4, .var 3 true true [.d hI]), (1000, .arr 24 hRs false)], [], []⟩
def A8p (n : Nat) (a0 : List LR) : Option (Rq × (List LR)) :=
 ob (f92 n 1) fun r_1 =>
 J4 n n (a0.length : Int) 0 false r_1.1 r_1.2.1 r_1.2.2 a0
  (fun z_19 z_20 z_21 z_22 => (
   some ((z_19, z_20, z_21), z_22)))
  (fun z_23 z_24 z_25 z_26 z_27 => (
   some ((z_24, z_25, z_26), z_27)))
def Afd (n : Nat) : Ent3 := ⟨57, [.one (.own 24 hRs)], [[.im hR]], fun x => A8p n x⟩
def A5t (α : Type) (n : Nat) : D3 α := { reg := [(1, ⟨0, [], [(0, { ent := some (Qt n) })]⟩), (5, ⟨0, [], [(3, { sh := some (.ref hI) }), (4, { ent := some (A6i n) })]⟩), (7, ⟨0, [], [(0, { ent := some (Qt n) })]⟩), (10, ⟨0, [], [(1, { ent := some (A5i n) })]⟩), (11, ⟨8, [], [(8, { ent := some (X5 n) })]⟩), (15, ⟨27, [], [(16, { ent := some (Fw n) }), (17, { ent := some (A5i n) }), (26, { ent := some (A5k n) })]⟩)], join := [(11, Ayv)], loop := [(13, ⟨Nq, Vz, A4 (Vy n) n⟩), (3, ⟨R8, A1m, A4 (A1l n) n⟩)], any := [(9, Akb)] }
set_option maxHeartbeats 8000000 in
theorem B29 (n : Nat) : Cj TT ⟨90, []⟩ [] Akb (Ak ((A2 Tryz.f57).at [1, 1, 0, 1, 0, 0, 1, 1, 0, 0, 1, 1, 1, 0, 1, 0, 0])) := by
 refine ⟨by kernel_rfl, fun w q hq => ?_⟩
 have e : WT [] (Ab (Ak ((A2 Tryz.f57).at [1, 1, 0, 1, 0, 0, 1, 1, 0, 0, 1, 1, 1, 0, 1, 0, 0])).toList) q = (q = []) := by kernel_rfl
 rw [e] at hq
 obtain rfl := hq
 all_goals exact .inr ⟨18, by kernel_rfl, by kernel_rfl, by kernel_rfl⟩
theorem Vx (α : Type) (n : Nat) : Al PP (Ad (A5t α n).reg) := ⟨P6 n, Ait n, P6 n, A5h n, Za n, A5l n, A5h n, A5j n, trivial⟩
theorem Amt (α : Type) (n : Nat) : D3.OK PP TT ⟨90, []⟩ (A5t α n) ((A2 Tryz.f57).at [1, 1, 0, 1, 0, 0, 1, 1, 0, 0, 1, 1, 1, 1, 1, 1, 0, 0]) :=
 D3.OK.mk3a (Vx α n) (show Aa ((A2 Tryz.f57).at [1, 1, 0, 1, 0, 0, 1, 1, 0, 0, 1, 1, 1, 1, 1, 1, 0, 0]) = [] by kernel_rfl) trivial (show B1 ((A2 Tryz.f57).at [1, 1, 0, 1, 0, 0, 1, 1, 0, 0, 1, 1, 1, 1, 1, 1, 0, 0]) = [(15, Ak ((A2 Tryz.f57).at [1, 1, 0, 1, 0, 0, 1, 1, 0, 0, 1, 1, 1, 1, 1, 1, 0, 0, 1, 0, 0]))] by kernel_rfl) ⟨fun X h => (by cases h), trivial⟩
theorem Aic (α : Type) (n : Nat) : LO.Sound (α := α) PP ⟨90, []⟩ ⟨Nq, Vz, A4 (Vy n) n⟩ (.loop ((A2 Tryz.f57).at [1, 1, 0, 1, 0, 0, 1, 1, 0, 0, 1, 1, 1, 1, 1, 1, 0, 0])) := lk (Amt α n) n
theorem Asc (α : Type) (n : Nat) : D3.OK PP TT ⟨90, []⟩ (A5t α n) ((A2 Tryz.f57).at [1, 1, 0, 1, 0, 0]) :=
 D3.OK.mk3a (Vx α n) (show Aa ((A2 Tryz.f57).at [1, 1, 0, 1, 0, 0]) = [(13, (.loop ((A2 Tryz.f57).at [1, 1, 0, 1, 0, 0, 1, 1, 0, 0, 1, 1, 1, 1, 1, 1, 0, 0])))] by kernel_rfl) ⟨A8 rfl (Aic α n), trivial⟩ (show B1 ((A2 Tryz.f57).at [1, 1, 0, 1, 0, 0]) = [(9, Ak ((A2 Tryz.f57).at [1, 1, 0, 1, 0, 0, 1, 1, 0, 0, 1, 1, 1, 0, 1, 0, 0])), (11, Ak ((A2 Tryz.f57).at [1, 1, 0, 1, 0, 0, 1, 1, 0, 0, 1, 1, 1, 1, 0]))] by kernel_rfl) ⟨fun X h => (by cases h; exact B29 n), fun X h => (by cases h), trivial⟩
theorem Amr (α : Type) (n : Nat) : LO.Sound (α := α) PP ⟨90, []⟩ ⟨R8, A1m, A4 (A1l n) n⟩ (.loop ((A2 Tryz.f57).at [1, 1, 0, 1, 0, 0])) := lk (Asc α n) n
theorem B5v (α : Type) (n : Nat) : D3.OK PP TT ⟨90, []⟩ (A5t α n) (A2 Tryz.f57) :=
 D3.OK.mk3a (Vx α n) (show Aa (A2 Tryz.f57) = [(3, (.loop ((A2 Tryz.f57).at [1, 1, 0, 1, 0, 0])))] by kernel_rfl) ⟨A8 rfl (Amr α n), trivial⟩ (show B1 (A2 Tryz.f57) = [] by kernel_rfl) trivial
theorem Aka (n : Nat) : (Afd n).Sound PP := fkB (fn := Tryz.f57) (B5v _ n) 

def A89 {α : Type} (n : Nat) (s0 : LR) (s1 s5 s20 s21 : Int) (b19 : LR) (f : LR → Int → Int → Int → Int → LR → Option α) (k0 : LR → Int → Int → LR → Option α) : Option α :=
 bif (decide (s21 < s20)) then
  gd (decide (0 ≤ (W (s21 * s1))) && decide ((W (s21 * s1)) ≤ (W ((W (s21 * s1)) + s5))) && decide ((W ((W (s21 * s1)) + s5)) ≤ (s0.length : Int))) (
   gd (decide ((b19.length + ((s0.drop ((W (s21 * s1)).toNat)).take ((W ((W (s21 * s1)) + s5)).toNat - (W (s21 * s1)).toNat)).length) * 56 ≤ 140737488355328)) (
    f s0 s1 s5 s20 (W (s21 + 1)) (b19 ++ ((s0.drop ((W (s21 * s1)).toNat)).take ((W ((W (s21 * s1)) + s5)).toNat - (W (s21 * s1)).toNat)))))
 else
  k0 s0 s1 s5 b19
abbrev Yd : Tm := ⟨[(0, .d hRs), (1, .d hI), (5, .d hI), (6, .k (.hw 19)), (20, .d hI), (21, .d hI)], [(19, .arr 30 hR false)], [], []⟩
abbrev Ayc : Tm := ⟨[(0, .d hRs), (1, .d hI), (5, .d hI), (6, .k (.hw 19))], [(19, .arr 30 hR false)], [], []⟩
abbrev A88 : List (Exit × Tm) := [(.exit 2, Ayc)]
def A87 {α : Type} (n : Nat) (v : Yd.den) (f : Yd.den → Option α) (ks : KS α A88) : Option α := A89 n v.1.1 v.1.2.1 v.1.2.2.1 v.1.2.2.2.2.1 v.1.2.2.2.2.2.1 v.2.1 (fun s0 s1 s5 s20 s21 b19 => f ((s0, s1, s5, (), s20, s21, ()), (b19, ()))) (fun w0 w1 w2 w3 => ks.1 ((w0, w1, w2, (), ()), (w3, ())))
def Vq {α : Type} (n m : Nat) (s0 : LR) (s1 s5 s20 s21 : Int) (b19 : LR) (k0 : LR → Int → Int → LR → Option α) : Option α := A4 (A87 n) m ((s0, s1, s5, (), s20, s21, ()), (b19, ())) (fun w => k0 w.1.1 w.1.2.1 w.1.2.2.1 w.2.1, ())
theorem Ayb {α n m s0 s1 s5 s20 s21 b19 k0} : Vq (α := α) n (m + 1) s0 s1 s5 s20 s21 b19 k0 = A89 n s0 s1 s5 s20 s21 b19 (fun s0 s1 s5 s20 s21 b19 => Vq n m s0 s1 s5 s20 s21 b19 k0) k0 := rfl
def Yf {α : Type} (n : Nat) (s0 : LR) (s1 s5 : Int) (f : LR → Int → Int → Option α) (k0 : Bool → Option α) (k1 : Unit → Option α) : Option α :=
 bif (decide (s5 ≤ s1)) then
  Vq n n s0 s1 s5 s5 0 []
   (fun z_3 z_4 z_5 z_6 => (
    ob (Afc n z_6 z_5 ()) fun r_7 =>
    ob (A8p n r_7) fun r_8 =>
    gd (Nat.beq r_8.2.length r_7.length && true) (
     ob (f141 n r_8.1) fun r_9 =>
     bif (decide (r_9 ≤ 0)) then
      k0 false
     else
      f z_3 z_4 (W (z_5 + 1)))))
 else
  k1 ()
abbrev Ye : Tm := ⟨[(0, .d hRs), (1, .d hI), (5, .d hI)], [], [19, 310], []⟩
abbrev Ayf : Tm := ⟨[(4, .d .bool)], [], [19, 310], []⟩
abbrev Aye : Tm := ⟨[], [], [], []⟩
abbrev A8b : List (Exit × Tm) := [(.ret, Ayf), (.exit 0, Aye)]
def A8a {α : Type} (n : Nat) (v : Ye.den) (f : Ye.den → Option α) (ks : KS α A8b) : Option α := Yf n v.1.1 v.1.2.1 v.1.2.2.1 (fun s0 s1 s5 => f ((s0, s1, s5, ()), ())) (fun w0 => ks.1 ((w0, ()), ())) (fun _ => ks.2.1 ((), ()))
def Lz {α : Type} (n m : Nat) (s0 : LR) (s1 s5 : Int) (k0 : Bool → Option α) (k1 : Unit → Option α) : Option α := A4 (A8a n) m ((s0, s1, s5, ()), ()) (fun w => k0 w.1.1, fun w => k1 (), ())
theorem Af7 {α n m s0 s1 s5 k0 k1} : Lz (α := α) n (m + 1) s0 s1 s5 k0 k1 = Yf n s0 s1 s5 (fun s0 s1 s5 => Lz n m s0 s1 s5 k0 k1) k0 k1 := rfl
def f71 (n : Nat) (a0 : LR) (a1 : Int) : Option Bool :=
 ob (f140 n a0 a1) fun r_1 =>
 ob (f139 n a0 r_1) fun r_2 =>
 bif (!r_2) then
  some false
 else
  Lz n n a0 a1 1
   (fun z_10 => (
    some z_10))
   (fun (_ : Unit) => (
    some true))
def Amh (n : Nat) : Ent := ⟨71, [hRs, hI], [.bool], fun x => f71 n x.1 x.2⟩
def Ada (α : Type) (n : Nat) : D3 α := { reg := [(1, ⟨0, [], [(3, { ent := some (Aum n) }), (4, { ent := some (Aun n) })]⟩), (6, ⟨0, [], [(0, { sh := some hR })]⟩), (12, ⟨0, [], [(2, { entB := some (Asa n), hb := 310, fz := [(37, hRs)] }), (3, { entB := some (Afd n), hb := 320 }), (4, { ent := some (Pv n) })]⟩)], join := [], loop := [(8, ⟨Yd, A88, A4 (A87 n) n⟩), (4, ⟨Ye, A8b, A4 (A8a n) n⟩)] }
theorem A1c (α : Type) (n : Nat) : Al PP (Ad (Ada α n).reg) := ⟨B3e n, B3f n, B27 n, Aka n, Pu n, trivial⟩
theorem Aru (α : Type) (n : Nat) : LO.Sound (α := α) PP ⟨43, []⟩ ⟨Yd, A88, A4 (A87 n) n⟩ (.loop ((A2 Tryz.f71).at [1, 1, 0, 1, 0, 0, 1, 0, 0, 1, 0, 1, 0, 0])) := Bm (D := Ada α n) (A1c α n) n
theorem Ayd (α : Type) (n : Nat) : D3.OK PP TT ⟨43, []⟩ (Ada α n) ((A2 Tryz.f71).at [1, 1, 0, 1, 0, 0]) :=
 D3.OK.mk3 (A1c α n) (show Aa ((A2 Tryz.f71).at [1, 1, 0, 1, 0, 0]) = [(8, (.loop ((A2 Tryz.f71).at [1, 1, 0, 1, 0, 0, 1, 0, 0, 1, 0, 1, 0, 0])))] by kernel_rfl) ⟨A8 rfl (Aru α n), trivial⟩
theorem Arv (α : Type) (n : Nat) : LO.Sound (α := α) PP ⟨43, []⟩ ⟨Ye, A8b, A4 (A8a n) n⟩ (.loop ((A2 Tryz.f71).at [1, 1, 0, 1, 0, 0])) := lk (Ayd α n) n
theorem B9d (α : Type) (n : Nat) : D3.OK PP TT ⟨43, []⟩ (Ada α n) (A2 Tryz.f71) :=
 D3.OK.mk3 (A1c α n) (show Aa (A2 Tryz.f71) = [(4, (.loop ((A2 Tryz.f71).at [1, 1, 0, 1, 0, 0])))] by kernel_rfl) ⟨A8 rfl (Arv α n), trivial⟩
theorem Art (n : Nat) : (Amh n).Sound PP := fk (fn := Tryz.f71) (B9d _ n) 

def f26 (n : Nat) (a0 : LR) (a1 : Int) : Option (Bool × Int) :=
 ob (f55 n a1 [a0]) fun r_1 =>
 bif (r_1 != 0) then
  some (false, r_1)
 else
  ob (f71 n a0 a1) fun r_2 =>
  some (r_2, 0)
def An2 (n : Nat) : Ent := ⟨26, [hRs, hI], [.bool, hI], fun x => f26 n x.1 x.2⟩
def B9v (α : Type) (n : Nat) : D3 α := { reg := [(1, ⟨0, [], [(2, { sh := some hRs }), (3, { ent := some (Amv n) })]⟩), (4, ⟨0, [], [(2, { ent := some (Amh n) })]⟩)], join := [], loop := [] }
theorem Asr (n : Nat) : (An2 n).Sound PP := Az (fn := Tryz.f26) (D := B9v _ n) ⟨Asf n, Art n, trivial⟩ 

def f109 (n : Nat) (a0 : LR) : Option Bool :=
 bif (decide ((a0.length : Int) ≥ 1)) then
  bif (decide ((a0.length : Int) ≤ 4)) then
   ob (f94 n a0) fun r_1 =>
   some (r_1 == 0)
  else
   some false
 else
  some false
def Avj (n : Nat) : Ent := ⟨109, [hRs], [.bool], fun x => f109 n x⟩
def B83 (α : Type) (n : Nat) : D3 α := { reg := [(1, ⟨0, [], [(10, { ent := some (Am7 n) })]⟩)], join := [], loop := [] }
theorem B41 (n : Nat) : (Avj n).Sound PP := Az (fn := Tryz.f109) (D := B83 _ n) ⟨Ar8 n, trivial⟩ 

def f49 (n : Nat) (a0 a1 : LR) : Option Int :=
 ob (f98 n [a0, a1]) fun r_1 =>
 ob (f109 n a1) fun r_2 =>
 ob (f69 n r_2 1) fun r_3 =>
 ob (f55 n (a1.length : Int) [a0]) fun r_4 =>
 ob (f68 n [r_1, r_3, r_4]) fun r_5 =>
 some r_5
def Amz (n : Nat) : Ent := ⟨49, [hRs, hRs], [hI], fun x => f49 n x.1 x.2⟩
def B9s (α : Type) (n : Nat) : D3 α := { reg := [(1, ⟨0, [], [(2, { sh := some hRs }), (3, { ent := some (Am5 n) }), (5, { ent := some (Avj n) }), (6, { ent := some (Yh n) }), (10, { sh := some hRs }), (11, { ent := some (Amv n) }), (12, { sh := some hI }), (13, { ent := some (A5r n) })]⟩)], join := [], loop := [] }
theorem Ask (n : Nat) : (Amz n).Sound PP := Az (fn := Tryz.f49) (D := B9s _ n) ⟨Ar6 n, B41 n, Vr n, Asf n, A5o n, trivial⟩ 

def A86 {α : Type} (n : Nat) (s5 s6 : Int) (b4 : LR) (f : Int → Int → LR → Option α) (k0 : LR → Option α) : Option α :=
 bif (decide (s6 < s5)) then
  ob (f92 n 0) fun r_1 =>
  gd (decide ((b4.length + 1) * 56 ≤ 140737488355328)) (
   f s5 (W (s6 + 1)) (b4 ++ [r_1]))
 else
  k0 b4
abbrev Yb : Tm := ⟨[(3, .k (.hw 4)), (5, .d hI), (6, .d hI)], [(4, .arr 30 hR false)], [10], []⟩
abbrev Aya : Tm := ⟨[(3, .k (.hw 4))], [(4, .arr 30 hR false)], [], []⟩
abbrev A85 : List (Exit × Tm) := [(.exit 0, Aya)]
def A84 {α : Type} (n : Nat) (v : Yb.den) (f : Yb.den → Option α) (ks : KS α A85) : Option α := A86 n v.1.2.1 v.1.2.2.1 v.2.1 (fun s5 s6 b4 => f (((), s5, s6, ()), (b4, ()))) (fun w0 => ks.1 (((), ()), (w0, ())))
def A5n {α : Type} (n m : Nat) (s5 s6 : Int) (b4 : LR) (k0 : LR → Option α) : Option α := A4 (A84 n) m (((), s5, s6, ()), (b4, ())) (fun w => k0 w.2.1, ())
theorem Ay9 {α n m s5 s6 b4 k0} : A5n (α := α) n (m + 1) s5 s6 b4 k0 = A86 n s5 s6 b4 (fun s5 s6 b4 => A5n n m s5 s6 b4 k0) k0 := rfl
def f72 (n : Nat) (a0 : Int) : Option LR :=
 A5n n n a0 0 []
  (fun z_2 => (
   some z_2))
def B0v (n : Nat) : Ent := ⟨72, [hI], [hRs], fun x => f72 n x⟩
def Ame (α : Type) (n : Nat) : D3 α := { reg := [(1, ⟨0, [], [(0, { sh := some hR })]⟩), (4, ⟨0, [], [(1, { ent := some (Qt n) }), (2, { sh := some hR })]⟩)], join := [], loop := [(3, ⟨Yb, A85, A4 (A84 n) n⟩)] }
theorem Af5 (α : Type) (n : Nat) : Al PP (Ad (Ame α n).reg) := ⟨P6 n, trivial⟩
theorem Arp (α : Type) (n : Nat) : LO.Sound (α := α) PP ⟨14, []⟩ ⟨Yb, A85, A4 (A84 n) n⟩ (.loop ((A2 Tryz.f72).at [1, 1, 0, 1, 0, 0])) := Bm (D := Ame α n) (Af5 α n) n
theorem B9c (α : Type) (n : Nat) : D3.OK PP TT ⟨14, []⟩ (Ame α n) (A2 Tryz.f72) :=
 D3.OK.mk3 (Af5 α n) (show Aa (A2 Tryz.f72) = [(3, (.loop ((A2 Tryz.f72).at [1, 1, 0, 1, 0, 0])))] by kernel_rfl) ⟨A8 rfl (Arp α n), trivial⟩
theorem B5q (n : Nat) : (B0v n).Sound PP := fk (fn := Tryz.f72) (B9c _ n) 

def A83 {α : Type} (n : Nat) (s1 s9 : LR) (s10 s11 : Int) (c4_0 c5_0 : Bool) (c5_1 c5_2 : LI) (f : LR → LR → Int → Int → Bool → Bool → LI → LI → Option α) (k0 : Bool → Bool → LI → LI → Option α) : Option α :=
 bif (decide (s11 < s10)) then
  gd (decide (0 ≤ s11) && decide (s11 < (s9.length : Int))) (
   let x_2 := s9.getD s11.toNat (false, [], [])
   gd (decide (0 ≤ s11) && decide (s11 < (s1.length : Int))) (
    let x_3 := s1.getD s11.toNat (false, [], [])
    ob (f103 n x_2 x_3) fun r_4 =>
    ob (f104 n (c5_0, c5_1, c5_2) r_4) fun r_5 =>
    f s1 s9 s10 (W (s11 + 1)) c4_0 r_5.1 r_5.2.1 r_5.2.2))
 else
  k0 c4_0 c5_0 c5_1 c5_2
abbrev Ya : Tm := ⟨[(1, .d hRs), (4, .k (.hp 4 0 0)), (5, .k (.hp 5 0 0)), (9, .d hRs), (10, .d hI), (11, .d hI)], [(4, .var 30 true false [.d .bool, .d .nil, .d .nil]), (5, .var 30 true false [.d .bool, .d hIs, .d hIs])], [7], []⟩
abbrev Ay8 : Tm := ⟨[(4, .k (.hp 4 0 0)), (5, .k (.hp 5 0 0))], [(4, .var 30 true false [.d .bool, .d .nil, .d .nil]), (5, .var 30 true false [.d .bool, .d hIs, .d hIs])], [], []⟩
abbrev A82 : List (Exit × Tm) := [(.exit 0, Ay8)]
def A81 {α : Type} (n : Nat) (v : Ya.den) (f : Ya.den → Option α) (ks : KS α A82) : Option α := A83 n v.1.1 v.1.2.2.2.1 v.1.2.2.2.2.1 v.1.2.2.2.2.2.1 v.2.1.1 v.2.2.1.1 v.2.2.1.2.1 v.2.2.1.2.2.1 (fun s1 s9 s10 s11 c4_0 c5_0 c5_1 c5_2 => f ((s1, (), (), s9, s10, s11, ()), ((c4_0, (), (), ()), (c5_0, c5_1, c5_2, ()), ()))) (fun w0 w1 w2 w3 => ks.1 (((), (), ()), ((w0, (), (), ()), (w1, w2, w3, ()), ())))
def Vp {α : Type} (n m : Nat) (s1 s9 : LR) (s10 s11 : Int) (c4_0 c5_0 : Bool) (c5_1 c5_2 : LI) (k0 : Bool → Bool → LI → LI → Option α) : Option α := A4 (A81 n) m ((s1, (), (), s9, s10, s11, ()), ((c4_0, (), (), ()), (c5_0, c5_1, c5_2, ()), ())) (fun w => k0 w.2.1.1 w.2.2.1.1 w.2.2.1.2.1 w.2.2.1.2.2.1, ())
theorem Ay7 {α n m s1 s9 s10 s11 c4_0 c5_0 c5_1 c5_2 k0} : Vp (α := α) n (m + 1) s1 s9 s10 s11 c4_0 c5_0 c5_1 c5_2 k0 = A83 n s1 s9 s10 s11 c4_0 c5_0 c5_1 c5_2 (fun s1 s9 s10 s11 c4_0 c5_0 c5_1 c5_2 => Vp n m s1 s9 s10 s11 c4_0 c5_0 c5_1 c5_2 k0) k0 := rfl
def f73 (n : Nat) (a0 a1 : LR) : Option Rq :=
 ob (f92 n 0) fun r_1 =>
 Vp n n a1 a0 (a0.length : Int) 0 false r_1.1 r_1.2.1 r_1.2.2
  (fun z_6 z_7 z_8 z_9 => (
   some (z_7, z_8, z_9)))
def Kl (n : Nat) : Ent := ⟨73, [hRs, hRs], [hR], fun x => f73 n x.1 x.2⟩
def Amc (α : Type) (n : Nat) : D3 α := { reg := [(1, ⟨0, [], [(0, { ent := some (Qt n) })]⟩), (5, ⟨7, [], [(6, { ent := some (X5 n) }), (7, { ent := some (X4 n) })]⟩)], join := [], loop := [(3, ⟨Ya, A82, A4 (A81 n) n⟩)] }
theorem Af2 (α : Type) (n : Nat) : Al PP (Ad (Amc α n).reg) := ⟨P6 n, Za n, Z9 n, trivial⟩
theorem Arm (α : Type) (n : Nat) : LO.Sound (α := α) PP ⟨26, []⟩ ⟨Ya, A82, A4 (A81 n) n⟩ (.loop ((A2 Tryz.f73).at [1, 1, 0, 1, 0, 0])) := Bm (D := Amc α n) (Af2 α n) n
theorem B9b (α : Type) (n : Nat) : D3.OK PP TT ⟨26, []⟩ (Amc α n) (A2 Tryz.f73) :=
 D3.OK.mk3 (Af2 α n) (show Aa (A2 Tryz.f73) = [(3, (.loop ((A2 Tryz.f73).at [1, 1, 0, 1, 0, 0])))] by kernel_rfl) ⟨A8 rfl (Arm α n), trivial⟩
theorem A5m (n : Nat) : (Kl n).Sound PP := fk (fn := Tryz.f73) (B9b _ n) 

def f130 (n : Nat) (a0 : Int) (a1 : LR) (a2 : Int) (a3 : LR) : Option Rq :=
 gd (decide (0 ≤ (W (a0 * a2))) && decide ((W (a0 * a2)) ≤ (W ((W (a0 + 1)) * a2))) && decide ((W ((W (a0 + 1)) * a2)) ≤ (a1.length : Int))) (
  ob (f73 n ((a1.drop ((W (a0 * a2)).toNat)).take ((W ((W (a0 + 1)) * a2)).toNat - (W (a0 * a2)).toNat)) a3) fun r_1 =>
  some r_1)
def Auv (n : Nat) : Ent := ⟨130, [hI, (.ref hRs), (.ref hI), (.ref hRs)], [hR], fun x => f130 n x.1 x.2.1 x.2.2.1 x.2.2.2⟩
def B7j (α : Type) (n : Nat) : D3 α := { reg := [(1, ⟨10, [], [(10, { ent := some (Kl n) })]⟩)], join := [], loop := [] }
theorem B3k (n : Nat) : (Auv n).Sound PP := Az (fn := Tryz.f130) (D := B7j _ n) ⟨A5m n, trivial⟩ 

def Mw {α : Type} (n : Nat) (s1 : LR × Int × LR) (s8 s9 : Int) (b7 : LR) (f : (LR × Int × LR) → Int → Int → LR → Option α) (k0 : LR → Option α) : Option α :=
 bif (decide (s9 < s8)) then
  ob (f130 n s9 s1.1 s1.2.1 s1.2.2) fun r_1 =>
  ob (f97 n r_1) fun r_2 =>
  gd (decide ((b7.length + 1) * 56 ≤ 140737488355328)) (
   f s1 s8 (W (s9 + 1)) (b7 ++ [r_2]))
 else
  k0 b7
abbrev Ib : Tm := ⟨[(1, .d (.clo 130 (.pair (.ref hRs) (.pair (.ref hI) (.ref hRs))))), (5, .k (.hw 7)), (8, .d hI), (9, .d hI)], [(7, .arr 30 hR false)], [17], []⟩
abbrev Acu : Tm := ⟨[(5, .k (.hw 7))], [(7, .arr 30 hR false)], [], []⟩
abbrev Mv : List (Exit × Tm) := [(.exit 0, Acu)]
def Mu {α : Type} (n : Nat) (v : Ib.den) (f : Ib.den → Option α) (ks : KS α Mv) : Option α := Mw n v.1.1 v.1.2.2.1 v.1.2.2.2.1 v.2.1 (fun s1 s8 s9 b7 => f ((s1, (), s8, s9, ()), (b7, ()))) (fun w0 => ks.1 (((), ()), (w0, ())))
def Gq {α : Type} (n m : Nat) (s1 : LR × Int × LR) (s8 s9 : Int) (b7 : LR) (k0 : LR → Option α) : Option α := A4 (Mu n) m ((s1, (), s8, s9, ()), (b7, ())) (fun w => k0 w.2.1, ())
theorem Acs {α n m s1 s8 s9 b7 k0} : Gq (α := α) n (m + 1) s1 s8 s9 b7 k0 = Mw n s1 s8 s9 b7 (fun s1 s8 s9 b7 => Gq n m s1 s8 s9 b7 k0) k0 := rfl
def A3n (n : Nat) (a0 : Int) (a1 : LR × Int × LR) : Option LR :=
 Gq n n a1 a0 0 []
  (fun z_3 => (
   some z_3))
def A6f (n : Nat) : Ent := ⟨129, [hI, (.clo 130 (.pair (.ref hRs) (.pair (.ref hI) (.ref hRs))))], [hRs], fun x => A3n n x.1 x.2⟩
def Sp (α : Type) (n : Nat) : D3 α := { reg := [(1, ⟨0, [], [(0, { sh := some hR })]⟩), (5, ⟨0, [], [(3, { ent := some (Auv n) }), (4, { ent := some (Ad9 n) }), (5, { sh := some hR })]⟩)], join := [], loop := [(3, ⟨Ib, Mv, A4 (Mu n) n⟩)] }
theorem Uk (α : Type) (n : Nat) : Al PP (Ad (Sp α n).reg) := ⟨B3k n, Aez n, trivial⟩
theorem A9f (α : Type) (n : Nat) : LO.Sound (α := α) PP ⟨21, []⟩ ⟨Ib, Mv, A4 (Mu n) n⟩ (.loop ((A2 Tryz.f129).at [1, 1, 0, 1, 0, 0])) := Bm (D := Sp α n) (Uk α n) n
theorem Aob (α : Type) (n : Nat) : D3.OK PP TT ⟨21, []⟩ (Sp α n) (A2 Tryz.f129) :=
 D3.OK.mk3 (Uk α n) (show Aa (A2 Tryz.f129) = [(3, (.loop ((A2 Tryz.f129).at [1, 1, 0, 1, 0, 0])))] by kernel_rfl) ⟨A8 rfl (A9f α n), trivial⟩
theorem Ais (n : Nat) : (A6f n).Sound PP := fk (fn := Tryz.f129) (Aob _ n) 

def f59 (n : Nat) (a0 a1 : LR) : Option LR :=
 ob (A3n n (a1.length : Int) (a0, (a1.length : Int), a1)) fun r_1 =>
 some r_1
def B0x (n : Nat) : Ent := ⟨59, [hRs, hRs], [hRs], fun x => f59 n x.1 x.2⟩
def B9m (α : Type) (n : Nat) : D3 α := { reg := [(2, ⟨0, [], [(1, { sh := some (.pair (.ref hRs) (.pair (.ref hI) (.ref hRs))) }), (2, { ent := some (A6f n) })]⟩)], join := [], loop := [] }
theorem B5t (n : Nat) : (B0x n).Sound PP := Az (fn := Tryz.f59) (D := B9m _ n) ⟨Ais n, trivial⟩ 

def f113 (n : Nat) (a0 : Rq) : Option Bool :=
 bif (decide ((a0.2.1.length : Int) ≤ 40)) then
  some (decide ((a0.2.2.length : Int) ≤ 40))
 else
  some false
def Avh (n : Nat) : Ent := ⟨113, [hR], [.bool], fun x => f113 n x⟩
def B7y (α : Type) (n : Nat) : D3 α := { reg := [], join := [], loop := [] }
theorem B3y (n : Nat) : (Avh n).Sound PP := Az (fn := Tryz.f113) (D := B7y _ n) trivial 

def f112 (n : Nat) (a0 : Rq) : Option Bool :=
 ob (f113 n a0) fun r_1 =>
 some (!r_1)
def Avi (n : Nat) : Ent := ⟨112, [hR], [.bool], fun x => f112 n x⟩
def B7z (α : Type) (n : Nat) : D3 α := { reg := [(1, ⟨0, [], [(1, { ent := some (Avh n) })]⟩)], join := [], loop := [] }
theorem B3z (n : Nat) : (Avi n).Sound PP := Az (fn := Tryz.f112) (D := B7z _ n) ⟨B3y n, trivial⟩ 

def Mj {α : Type} (n : Nat) (s0 : LR) (s7 s8 : Int) (f : LR → Int → Int → Option α) (k0 : Int → Option α) (k1 : Unit → Option α) : Option α :=
 bif (decide (s8 < s7)) then
  gd (decide (0 ≤ s8) && decide (s8 < (s0.length : Int))) (
   let x_1 := s0.getD s8.toNat (false, [], [])
   ob (f112 n x_1) fun r_2 =>
   bif r_2 then
    k0 s8
   else
    f s0 s7 (W (s8 + 1)))
 else
  k1 ()
abbrev I7 : Tm := ⟨[(0, .d hRs), (1, .d (.fn 112)), (7, .d hI), (8, .d hI)], [], [], []⟩
abbrev Acn : Tm := ⟨[(4, .d hI)], [], [], []⟩
abbrev Acm : Tm := ⟨[], [], [], []⟩
abbrev Mi : List (Exit × Tm) := [(.ret, Acn), (.exit 0, Acm)]
def Mh {α : Type} (n : Nat) (v : I7.den) (f : I7.den → Option α) (ks : KS α Mi) : Option α := Mj n v.1.1 v.1.2.2.1 v.1.2.2.2.1 (fun s0 s7 s8 => f ((s0, (), s7, s8, ()), ())) (fun w0 => ks.1 ((w0, ()), ())) (fun _ => ks.2.1 ((), ()))
def Gm {α : Type} (n m : Nat) (s0 : LR) (s7 s8 : Int) (k0 : Int → Option α) (k1 : Unit → Option α) : Option α := A4 (Mh n) m ((s0, (), s7, s8, ()), ()) (fun w => k0 w.1.1, fun w => k1 (), ())
theorem Acl {α n m s0 s7 s8 k0 k1} : Gm (α := α) n (m + 1) s0 s7 s8 k0 k1 = Mj n s0 s7 s8 (fun s0 s7 s8 => Gm n m s0 s7 s8 k0 k1) k0 k1 := rfl
def A2t (n : Nat) (a0 : LR) (a1 : Unit) : Option Int :=
 Gm n n a0 (a0.length : Int) 0
  (fun z_3 => (
   some z_3))
  (fun (_ : Unit) => (
   some (-1)))
def A66 (n : Nat) : Ent := ⟨175, [hRs, (.fn 112)], [hI], fun x => A2t n x.1 x.2⟩
def S7 (α : Type) (n : Nat) : D3 α := { reg := [(4, ⟨0, [], [(5, { ent := some (Avi n) })]⟩)], join := [], loop := [(2, ⟨I7, Mi, A4 (Mh n) n⟩)] }
theorem Uh (α : Type) (n : Nat) : Al PP (Ad (S7 α n).reg) := ⟨B3z n, trivial⟩
theorem A95 (α : Type) (n : Nat) : LO.Sound (α := α) PP ⟨19, []⟩ ⟨I7, Mi, A4 (Mh n) n⟩ (.loop ((A2 Tryz.f175).at [1, 0, 1, 0, 0])) := Bm (D := S7 α n) (Uh α n) n
theorem Ant (α : Type) (n : Nat) : D3.OK PP TT ⟨19, []⟩ (S7 α n) (A2 Tryz.f175) :=
 D3.OK.mk3 (Uh α n) (show Aa (A2 Tryz.f175) = [(2, (.loop ((A2 Tryz.f175).at [1, 0, 1, 0, 0])))] by kernel_rfl) ⟨A8 rfl (A95 α n), trivial⟩
theorem Aip (n : Nat) : (A66 n).Sound PP := fk (fn := Tryz.f175) (Ant _ n) 

def A41 (n : Nat) (a0 : LR) (a1 : Unit) : Option Bool :=
 ob (A2t n a0 a1) fun r_1 =>
 some (decide (r_1 ≥ 0))
def A6p (n : Nat) : Ent := ⟨111, [hRs, (.fn 112)], [.bool], fun x => A41 n x.1 x.2⟩
def Aov (α : Type) (n : Nat) : D3 α := { reg := [(1, ⟨0, [], [(2, { ent := some (A66 n) })]⟩)], join := [], loop := [] }
theorem Aj2 (n : Nat) : (A6p n).Sound PP := Az (fn := Tryz.f111) (D := Aov _ n) ⟨Aip n, trivial⟩ 

def f51 (n : Nat) (a0 : LR) : Option (LR × Int) :=
 ob (A41 n a0 ()) fun r_1 =>
 bif r_1 then
  some ([], 7)
 else
  some (a0, 0)
def Amx (n : Nat) : Ent := ⟨51, [hRs], [hRs, hI], fun x => f51 n x⟩
def B9q (α : Type) (n : Nat) : D3 α := { reg := [(1, ⟨0, [], [(1, { ent := some (A6p n) })]⟩)], join := [], loop := [] }
theorem Ash (n : Nat) : (Amx n).Sound PP := Az (fn := Tryz.f51) (D := B9q _ n) ⟨Aj2 n, trivial⟩ 

def A8y {α : Type} (n : Nat) (s0 s9 s10 s11 : LR) (s43 s44 : Int) (f : LR → LR → LR → LR → Int → Int → Option α) (k0 : LR → Option α) : Option α :=
 bif (decide (s44 < s43)) then
  ob (f73 n s10 s10) fun r_11 =>
  ob (f74 n r_11) fun r_12 =>
  bif r_12 then
   k0 s9
  else
   ob (f59 n s0 s11) fun r_13 =>
   ob (f73 n s11 r_13) fun r_14 =>
   ob (f75 n r_11 r_14) fun r_15 =>
   ob (f76 n r_15 s11 s9) fun r_16 =>
   ob (f77 n r_15) fun r_17 =>
   ob (f76 n r_17 r_13 s10) fun r_18 =>
   ob (f73 n r_18 r_18) fun r_19 =>
   ob (f75 n r_19 r_11) fun r_20 =>
   ob (f76 n r_20 s11 r_18) fun r_21 =>
   f s0 r_16 r_18 r_21 s43 (W (s44 + 1))
 else
  k0 s9
abbrev Yr : Tm := ⟨[(0, .d hRs), (9, .d hRs), (10, .d hRs), (11, .d hRs), (43, .d hI), (44, .d hI)], [], [12, 14], []⟩
abbrev Az4 : Tm := ⟨[(9, .d hRs)], [], [12], []⟩
abbrev A8x : List (Exit × Tm) := [(.exit 0, Az4)]
def A8w {α : Type} (n : Nat) (v : Yr.den) (f : Yr.den → Option α) (ks : KS α A8x) : Option α := A8y n v.1.1 v.1.2.1 v.1.2.2.1 v.1.2.2.2.1 v.1.2.2.2.2.1 v.1.2.2.2.2.2.1 (fun s0 s9 s10 s11 s43 s44 => f ((s0, s9, s10, s11, s43, s44, ()), ())) (fun w0 => ks.1 ((w0, ()), ()))
def W6 {α : Type} (n m : Nat) (s0 s9 s10 s11 : LR) (s43 s44 : Int) (k0 : LR → Option α) : Option α := A4 (A8w n) m ((s0, s9, s10, s11, s43, s44, ()), ()) (fun w => k0 w.1.1, ())
theorem Az2 {α n m s0 s9 s10 s11 s43 s44 k0} : W6 (α := α) n (m + 1) s0 s9 s10 s11 s43 s44 k0 = A8y n s0 s9 s10 s11 s43 s44 (fun s0 s9 s10 s11 s43 s44 => W6 n m s0 s9 s10 s11 s43 s44 k0) k0 := rfl
abbrev Akd : Tm := ⟨[(0, .d hRs), (9, .d hRs), (10, .d hRs), (11, .d hRs), (12, .k (.hp 12 0 0)), (13, .d hRs), (43, .d hI), (44, .d hI)], [(12, .var 30 true false [.d .bool, .d hIs, .d hIs])], [], []⟩
abbrev B69 : Tm := ⟨[(0, .d hRs), (1, .d hRs), (2, .d hI)], [], [21, 33], []⟩
def f24 (n : Nat) (a0 a1 : LR) (a2 : Int) : Option (LR × Int) :=
 ob (f49 n a0 a1) fun r_1 =>
 ob (f70 n a2 0 8) fun r_2 =>
 ob (f69 n r_2 4) fun r_3 =>
 ob (f68 n [r_1, r_3]) fun r_4 =>
 let J_24 := fun (_ : Unit) => (
  ob (f72 n (a1.length : Int)) fun r_10 =>
  W6 n n a0 r_10 a1 a1 a2 0
   (fun z_22 => (
    ob (f51 n z_22) fun r_23 =>
    some (r_23.1, r_23.2))))
 bif (r_4 != 0) then
  ob (f69 n true 10) fun r_5 =>
  ob (f68 n [r_4, r_5]) fun r_6 =>
  bif (r_6 != 0) then
   some ([], r_6)
  else
   J_24 ()
 else
  ob (f71 n a0 (a1.length : Int)) fun r_7 =>
  ob (f69 n r_7 10) fun r_8 =>
  ob (f68 n [r_4, r_8]) fun r_9 =>
  bif (r_9 != 0) then
   some ([], r_9)
  else
   J_24 ()
def An3 (n : Nat) : Ent := ⟨24, [hRs, hRs, hI], [hRs, hI], fun x => f24 n x.1 x.2.1 x.2.2⟩
def An4 (α : Type) (n : Nat) : D3 α := { reg := [(1, ⟨0, [], [(2, { ent := some (Amz n) }), (4, { ent := some (Ami n) }), (5, { ent := some (Yh n) }), (6, { sh := some hI }), (7, { ent := some (A5r n) })]⟩), (2, ⟨0, [], [(7, { ent := some (Amh n) }), (9, { ent := some (Yh n) }), (10, { sh := some hI }), (11, { ent := some (A5r n) })]⟩), (5, ⟨0, [], [(2, { ent := some (B0v n) })]⟩), (8, ⟨0, [], [(2, { ent := some (Kl n) })]⟩), (9, ⟨0, [], [(1, { ent := some (Qw n) })]⟩), (10, ⟨0, [], [(2, { ent := some (B0x n) })]⟩), (11, ⟨0, [], [(3, { ent := some (Kl n) }), (4, { ent := some (Fw n) })]⟩), (12, ⟨8, [], [(3, { ent := some (A5k n) }), (5, { ent := some (A5i n) }), (8, { ent := some (A5k n) })]⟩), (13, ⟨7, [], [(2, { ent := some (Kl n) }), (4, { ent := some (Fw n) }), (7, { ent := some (A5k n) })]⟩), (15, ⟨0, [], [(1, { ent := some (Amx n) })]⟩)], join := [(5, B69)], loop := [(7, ⟨Yr, A8x, A4 (A8w n) n⟩)], any := [(11, Akd)] }
set_option maxHeartbeats 8000000 in
theorem B2b (n : Nat) : Cj TT ⟨81, []⟩ [(3, { ent := some (Kl n) }), (4, { ent := some (Fw n) })] Akd (Ak ((A2 Tryz.f24).at [1, 1, 1, 1, 0, 1, 0, 0, 1, 1, 0, 0, 1, 1, 1, 0])) := by
 refine ⟨by kernel_rfl, fun w q hq => ?_⟩
 have e : WT [(3, { ent := some (Kl n) }), (4, { ent := some (Fw n) })] (Ab (Ak ((A2 Tryz.f24).at [1, 1, 1, 1, 0, 1, 0, 0, 1, 1, 0, 0, 1, 1, 1, 0])).toList) q = (∃ (y0 : HL (Kl n).rs) (q0 : List (Nat × RV)), q = (3, .sv (C2 (Kl n).rs y0)) :: q0 ∧ ∃ (y1 : HL (Fw n).rs) (q1 : List (Nat × RV)), q0 = (4, .sv (C2 (Fw n).rs y1)) :: q1 ∧ q1 = []) := by kernel_rfl
 rw [e] at hq
 obtain ⟨y0, q0, rfl, y1, q1, rfl, rfl⟩ := hq
 all_goals exact .inr ⟨6, by kernel_rfl, by kernel_rfl, by kernel_rfl⟩
theorem Afm (α : Type) (n : Nat) : Al PP (Ad (An4 α n).reg) := ⟨Ask n, Arw n, Vr n, A5o n, Art n, Vr n, A5o n, B5q n, A5m n, P8 n, B5t n, A5m n, A5l n, A5j n, A5h n, A5j n, A5m n, A5l n, A5j n, Ash n, trivial⟩
theorem Az3 (α : Type) (n : Nat) : D3.OK PP TT ⟨81, []⟩ (An4 α n) ((A2 Tryz.f24).at [1, 1, 1, 1, 0, 1, 0, 0]) :=
 D3.OK.mk3a (Afm α n) (show Aa ((A2 Tryz.f24).at [1, 1, 1, 1, 0, 1, 0, 0]) = [] by kernel_rfl) trivial (show B1 ((A2 Tryz.f24).at [1, 1, 1, 1, 0, 1, 0, 0]) = [(11, Ak ((A2 Tryz.f24).at [1, 1, 1, 1, 0, 1, 0, 0, 1, 1, 0, 0, 1, 1, 1, 0])), (12, Ak ((A2 Tryz.f24).at [1, 1, 1, 1, 0, 1, 0, 0, 1, 1, 0, 0, 1, 1, 1, 1, 0])), (13, Ak ((A2 Tryz.f24).at [1, 1, 1, 1, 0, 1, 0, 0, 1, 1, 0, 0, 1, 1, 1, 1, 1]))] by kernel_rfl) ⟨fun X h => (by cases h; exact B2b n), fun X h => (by cases h), fun X h => (by cases h), trivial⟩
theorem Ast (α : Type) (n : Nat) : LO.Sound (α := α) PP ⟨81, []⟩ ⟨Yr, A8x, A4 (A8w n) n⟩ (.loop ((A2 Tryz.f24).at [1, 1, 1, 1, 0, 1, 0, 0])) := lk (Az3 α n) n
theorem B9x (α : Type) (n : Nat) : D3.OK PP TT ⟨81, []⟩ (An4 α n) (A2 Tryz.f24) :=
 D3.OK.mk3a (Afm α n) (show Aa (A2 Tryz.f24) = [(7, (.loop ((A2 Tryz.f24).at [1, 1, 1, 1, 0, 1, 0, 0])))] by kernel_rfl) ⟨A8 rfl (Ast α n), trivial⟩ (show B1 (A2 Tryz.f24) = [] by kernel_rfl) trivial
theorem Ass (n : Nat) : (An3 n).Sound PP := fk (fn := Tryz.f24) (B9x _ n) 

def Vw {α : Type} (n : Nat) (s0 : LR) (s1 : Int) (s2 : LR) (s11 s12 : Int) (b10 : List LR) (f : LR → Int → LR → Int → Int → (List LR) → Option α) (k0 : (List LR) → Option α) : Option α :=
 bif (decide (s12 < s11)) then
  gd (decide (0 ≤ (W (s12 * s1))) && decide ((W (s12 * s1)) ≤ (W ((W (s12 + 1)) * s1))) && decide ((W ((W (s12 + 1)) * s1)) ≤ (s0.length : Int))) (
   ob (A6h n ((s0.drop ((W (s12 * s1)).toNat)).take ((W ((W (s12 + 1)) * s1)).toNat - (W (s12 * s1)).toNat))) fun r_1 =>
   gd ((!s2.isEmpty)) (
    gd (decide (0 ≤ s12) && decide (s12 < (s2.length : Int))) (
     let x_2 := s2.getD s12.toNat (false, [], [])
     gd (decide ((r_1.length + 1) * 56 ≤ 140737488355328)) (
      gd (decide ((b10.length + 1) * 24 ≤ 140737488355328)) (
       f s0 s1 s2 s11 (W (s12 + 1)) (b10 ++ [(r_1 ++ [x_2])]))))))
 else
  k0 b10
abbrev Np : Tm := ⟨[(0, .d hRs), (1, .d hI), (2, .d hRs), (7, .k (.hw 10)), (11, .d hI), (12, .d hI)], [(10, .arr 24 hRs false)], [32, 36, 310], []⟩
abbrev Amq : Tm := ⟨[(7, .k (.hw 10))], [(10, .arr 24 hRs false)], [], []⟩
abbrev Vv : List (Exit × Tm) := [(.exit 0, Amq)]
def Vu {α : Type} (n : Nat) (v : Np.den) (f : Np.den → Option α) (ks : KS α Vv) : Option α := Vw n v.1.1 v.1.2.1 v.1.2.2.1 v.1.2.2.2.2.1 v.1.2.2.2.2.2.1 v.2.1 (fun s0 s1 s2 s11 s12 b10 => f ((s0, s1, s2, (), s11, s12, ()), (b10, ()))) (fun w0 => ks.1 (((), ()), (w0, ())))
def R7 {α : Type} (n m : Nat) (s0 : LR) (s1 : Int) (s2 : LR) (s11 s12 : Int) (b10 : List LR) (k0 : (List LR) → Option α) : Option α := A4 (Vu n) m ((s0, s1, s2, (), s11, s12, ()), (b10, ())) (fun w => k0 w.2.1, ())
theorem Amp {α n m s0 s1 s2 s11 s12 b10 k0} : R7 (α := α) n (m + 1) s0 s1 s2 s11 s12 b10 k0 = Vw n s0 s1 s2 s11 s12 b10 (fun s0 s1 s2 s11 s12 b10 => R7 n m s0 s1 s2 s11 s12 b10 k0) k0 := rfl
def Adb (n : Nat) (a0 : LR) (a1 : Int) (a2 : LR) : Option (List LR) :=
 R7 n n a0 a1 a2 a1 0 []
  (fun z_3 => (
   some z_3))
def Ak9 (n : Nat) : Ent3 := ⟨58, [.im hRs, .im hI, .im hRs], [[.one (.own 24 hRs)]], fun x => Adb n x.1 x.2.1 x.2.2⟩
def A8o (α : Type) (n : Nat) : D3 α := { reg := [(1, ⟨0, [], [(0, { sh := some hRs })]⟩), (5, ⟨0, [], [(9, { entB := some (A9g n), hb := 310 })]⟩), (7, ⟨0, [], [(5, { sh := some hR })]⟩), (8, ⟨0, [], [(2, { sh := some hRs, fz := [(35, hRs)] })]⟩)], join := [], loop := [(3, ⟨Np, Vv, A4 (Vu n) n⟩)] }
theorem A5s (α : Type) (n : Nat) : Al PP (Ad (A8o α n).reg) := ⟨Agl n, trivial⟩
theorem Aib (α : Type) (n : Nat) : LO.Sound (α := α) PP ⟨40, []⟩ ⟨Np, Vv, A4 (Vu n) n⟩ (.loop ((A2 Tryz.f58).at [1, 1, 0, 1, 0, 0])) := Bm (D := A8o α n) (A5s α n) n
theorem B28 (α : Type) (n : Nat) : D3.OK PP TT ⟨40, []⟩ (A8o α n) (A2 Tryz.f58) :=
 D3.OK.mk3 (A5s α n) (show Aa (A2 Tryz.f58) = [(3, (.loop ((A2 Tryz.f58).at [1, 1, 0, 1, 0, 0])))] by kernel_rfl) ⟨A8 rfl (Aib α n), trivial⟩
theorem Ayu (n : Nat) : (Ak9 n).Sound PP := fkB (fn := Tryz.f58) (B28 _ n) 

def A1b {α : Type} (n : Nat) (s5 s6 : Int) (b4 : LR) (f : Int → Int → LR → Option α) (k0 : LR → Option α) : Option α :=
 bif (decide (s6 < s5)) then
  ob (f92 n 0) fun r_1 =>
  gd (decide ((b4.length + 1) * 56 ≤ 140737488355328)) (
   f s5 (W (s6 + 1)) (b4 ++ [r_1]))
 else
  k0 b4
abbrev Qy : Tm := ⟨[(3, .k (.hw 4)), (5, .d hI), (6, .d hI)], [(4, .arr 30 hR false)], [10], []⟩
abbrev Arr : Tm := ⟨[(3, .k (.hw 4))], [(4, .arr 30 hR false)], [], []⟩
abbrev A1a : List (Exit × Tm) := [(.exit 0, Arr)]
def A19 {α : Type} (n : Nat) (v : Qy.den) (f : Qy.den → Option α) (ks : KS α A1a) : Option α := A1b n v.1.2.1 v.1.2.2.1 v.2.1 (fun s5 s6 b4 => f (((), s5, s6, ()), (b4, ()))) (fun w0 => ks.1 (((), ()), (w0, ())))
def Yc {α : Type} (n m : Nat) (s5 s6 : Int) (b4 : LR) (k0 : LR → Option α) : Option α := A4 (A19 n) m (((), s5, s6, ()), (b4, ())) (fun w => k0 w.2.1, ())
theorem Arq {α n m s5 s6 b4 k0} : Yc (α := α) n (m + 1) s5 s6 b4 k0 = A1b n s5 s6 b4 (fun s5 s6 b4 => Yc n m s5 s6 b4 k0) k0 := rfl
def Amg (n : Nat) (a0 : Int) : Option LR :=
 Yc n n a0 0 []
  (fun z_2 => (
   some z_2))
def Ars (n : Nat) : Ent3 := ⟨72, [.im hI], [[.one (.own 30 hR)]], fun x => Amg n x⟩
def Af6 (α : Type) (n : Nat) : D3 α := { reg := [(1, ⟨0, [], [(0, { sh := some hR })]⟩), (4, ⟨0, [], [(1, { ent := some (Qt n) }), (2, { sh := some hR })]⟩)], join := [], loop := [(3, ⟨Qy, A1a, A4 (A19 n) n⟩)] }
theorem Aaw (α : Type) (n : Nat) : Al PP (Ad (Af6 α n).reg) := ⟨P6 n, trivial⟩
theorem Amf (α : Type) (n : Nat) : LO.Sound (α := α) PP ⟨14, []⟩ ⟨Qy, A1a, A4 (A19 n) n⟩ (.loop ((A2 Tryz.f72).at [1, 1, 0, 1, 0, 0])) := Bm (D := Af6 α n) (Aaw α n) n
theorem B5r (α : Type) (n : Nat) : D3.OK PP TT ⟨14, []⟩ (Af6 α n) (A2 Tryz.f72) :=
 D3.OK.mk3 (Aaw α n) (show Aa (A2 Tryz.f72) = [(3, (.loop ((A2 Tryz.f72).at [1, 1, 0, 1, 0, 0])))] by kernel_rfl) ⟨A8 rfl (Amf α n), trivial⟩
theorem B25 (n : Nat) : (Ars n).Sound PP := fkB (fn := Tryz.f72) (B5r _ n) 

end Go.Ev
