/- DERIVED. What the functions compute, and that they do. -/
import Derived.Test.YtcpdoafoahaagaaGreatUb

set_option linter.all false
set_option linter.unusedVariables false
set_option linter.unusedSimpArgs false

namespace Go.Ev
open Go Go.Proofs Go.RowKit Go.Shelf
def A18 {α : Type} (n : Nat) (s9 : LR) (s10 s11 : Int) (c4_0 c5_0 : Bool) (c5_1 c5_2 : LI) (b1001 : LR) (f : LR → Int → Int → Bool → Bool → LI → LI → LR → Option α) (k0 : Bool → Bool → LI → LI → LR → Option α) : Option α :=
 bif (decide (s11 < s10)) then
  gd (decide (0 ≤ s11) && decide (s11 < (s9.length : Int))) (
   let x_2 := s9.getD s11.toNat (false, [], [])
   gd (decide (0 ≤ s11) && decide (s11 < (b1001.length : Int))) (
    gd (decide (s11.toNat < b1001.length)) (
     let x_3 := b1001.getD s11.toNat (false, [], [])
     ob (f103 n x_2 x_3) fun r_4 =>
     ob (f104 n (c5_0, c5_1, c5_2) r_4) fun r_5 =>
     f s9 s10 (W (s11 + 1)) c4_0 r_5.1 r_5.2.1 r_5.2.2 b1001)))
 else
  k0 c4_0 c5_0 c5_1 c5_2 b1001
abbrev Qx : Tm := ⟨[(1, .k (.hw 1001)), (4, .k (.hp 4 0 0)), (5, .k (.hp 5 0 0)), (9, .d hRs), (10, .d hI), (11, .d hI)], [(4, .var 30 true false [.d .bool, .d .nil, .d .nil]), (5, .var 30 true false [.d .bool, .d hIs, .d hIs]), (1001, .arr 30 hR false)], [7], []⟩
abbrev Aro : Tm := ⟨[(4, .k (.hp 4 0 0)), (5, .k (.hp 5 0 0))], [(4, .var 30 true false [.d .bool, .d .nil, .d .nil]), (5, .var 30 true false [.d .bool, .d hIs, .d hIs]), (1001, .arr 30 hR false)], [], []⟩
abbrev A17 : List (Exit × Tm) := [(.exit 0, Aro)]
def A16 {α : Type} (n : Nat) (v : Qx.den) (f : Qx.den → Option α) (ks : KS α A17) : Option α := A18 n v.1.2.2.2.1 v.1.2.2.2.2.1 v.1.2.2.2.2.2.1 v.2.1.1 v.2.2.1.1 v.2.2.1.2.1 v.2.2.1.2.2.1 v.2.2.2.1 (fun s9 s10 s11 c4_0 c5_0 c5_1 c5_2 b1001 => f (((), (), (), s9, s10, s11, ()), ((c4_0, (), (), ()), (c5_0, c5_1, c5_2, ()), b1001, ()))) (fun w0 w1 w2 w3 w4 => ks.1 (((), (), ()), ((w0, (), (), ()), (w1, w2, w3, ()), w4, ())))
def P9 {α : Type} (n m : Nat) (s9 : LR) (s10 s11 : Int) (c4_0 c5_0 : Bool) (c5_1 c5_2 : LI) (b1001 : LR) (k0 : Bool → Bool → LI → LI → LR → Option α) : Option α := A4 (A16 n) m (((), (), (), s9, s10, s11, ()), ((c4_0, (), (), ()), (c5_0, c5_1, c5_2, ()), b1001, ())) (fun w => k0 w.2.1.1 w.2.2.1.1 w.2.2.1.2.1 w.2.2.1.2.2.1 w.2.2.2.1, ())
theorem Arn {α n m s9 s10 s11 c4_0 c5_0 c5_1 c5_2 b1001 k0} : P9 (α := α) n (m + 1) s9 s10 s11 c4_0 c5_0 c5_1 c5_2 b1001 k0 = A18 n s9 s10 s11 c4_0 c5_0 c5_1 c5_2 b1001 (fun s9 s10 s11 c4_0 c5_0 c5_1 c5_2 b1001 => P9 n m s9 s10 s11 c4_0 c5_0 c5_1 c5_2 b1001 k0) k0 := rfl
def Af4 (n : Nat) (a0 a1 : LR) : Option (Rq × LR) :=
 ob (f92 n 0) fun r_1 =>
 P9 n n a0 (a0.length : Int) 0 false r_1.1 r_1.2.1 r_1.2.2 a1
  (fun z_6 z_7 z_8 z_9 z_10 => (
   some ((z_7, z_8, z_9), z_10)))
def Ly (n : Nat) : Ent3 := ⟨73, [.im hRs, .one (.own 30 hR)], [[.im hR]], fun x => Af4 n x.1 x.2⟩
def Af3 (α : Type) (n : Nat) : D3 α := { reg := [(1, ⟨0, [], [(0, { ent := some (Qt n) })]⟩), (5, ⟨7, [], [(6, { ent := some (X5 n) }), (7, { ent := some (X4 n) })]⟩)], join := [], loop := [(3, ⟨Qx, A17, A4 (A16 n) n⟩)] }
theorem Aav (α : Type) (n : Nat) : Al PP (Ad (Af3 α n).reg) := ⟨P6 n, Za n, Z9 n, trivial⟩
theorem Amd (α : Type) (n : Nat) : LO.Sound (α := α) PP ⟨26, []⟩ ⟨Qx, A17, A4 (A16 n) n⟩ (.loop ((A2 Tryz.f73).at [1, 1, 0, 1, 0, 0])) := Bm (D := Af3 α n) (Aav α n) n
theorem B5p (α : Type) (n : Nat) : D3.OK PP TT ⟨26, []⟩ (Af3 α n) (A2 Tryz.f73) :=
 D3.OK.mk3 (Aav α n) (show Aa (A2 Tryz.f73) = [(3, (.loop ((A2 Tryz.f73).at [1, 1, 0, 1, 0, 0])))] by kernel_rfl) ⟨A8 rfl (Amd α n), trivial⟩
theorem B24 (n : Nat) : (Ly n).Sound PP := fkB (fn := Tryz.f73) (B5p _ n) 

def f110 (n : Nat) (a0 a1 : Rq) : Option Rq :=
 ob (f77 n a1) fun r_1 =>
 ob (f104 n a0 r_1) fun r_2 =>
 some r_2
def Q0 (n : Nat) : Ent := ⟨110, [hR, hR], [hR], fun x => f110 n x.1 x.2⟩
def B80 (α : Type) (n : Nat) : D3 α := { reg := [(1, ⟨3, [], [(2, { ent := some (A5i n) }), (3, { ent := some (X4 n) })]⟩)], join := [], loop := [] }
theorem B40 (n : Nat) : (Q0 n).Sound PP := Az (fn := Tryz.f110) (D := B80 _ n) ⟨A5h n, Z9 n, trivial⟩ 

def Yq {α : Type} (n : Nat) (s6 s9 : Int) (b310 : List LR) (b330 : LR) (f : Int → Int → (List LR) → LR → Option α) (k0 : LR → Option α) : Option α :=
 bif (decide (s9 ≥ 0)) then
  gd (decide (0 ≤ s9) && decide (s9 < (b310.length : Int))) (
   gd (decide (s9.toNat < b310.length)) (
    gd (decide (0 ≤ s6) && decide (s6 < (((b310.getD s9.toNat []).length : Nat) : Int))) (
     let x_5 := (b310.getD s9.toNat []).getD s6.toNat (false, [], [])
     gd (decide (0 ≤ s9) && decide (s9 < (b310.length : Int))) (
      gd (decide (s9.toNat < b310.length)) (
       gd (decide (0 ≤ s6) && decide (s6 ≤ (((b310.getD s9.toNat []).length : Nat) : Int))) (
        ob (Af4 n (((b310.getD s9.toNat []).drop 0).take (s6.toNat - 0)) b330) fun r_6 =>
        gd (Nat.beq r_6.2.length b330.length && true) (
         ob (f110 n x_5 r_6.1) fun r_7 =>
         gd (decide (0 ≤ s9) && decide (s9 < (b310.length : Int))) (
          gd (decide (s9.toNat < b310.length)) (
           gd (decide (0 ≤ s9) && decide (s9 < (((b310.getD s9.toNat []).length : Nat) : Int))) (
            let x_8 := (b310.getD s9.toNat []).getD s9.toNat (false, [], [])
            ob (f75 n r_7 x_8) fun r_9 =>
            gd (decide (0 ≤ s9) && decide (s9 < (r_6.2.length : Int))) (
             gd (decide (s9.toNat < r_6.2.length)) (
              f s6 (W (s9 - 1)) b310 (r_6.2.set s9.toNat r_9)))))))))))))
 else
  k0 b330
abbrev Yp : Tm := ⟨[(6, .d hI), (7, .k (.hw 310)), (8, .k (.hw 330)), (9, .d hI)], [(310, .arr 24 hRs false), (330, .arr 30 hR false)], [], []⟩
abbrev Az0 : Tm := ⟨[(8, .k (.hw 330))], [(330, .arr 30 hR false)], [310], []⟩
abbrev A8u : List (Exit × Tm) := [(.exit 0, Az0)]
def A8t {α : Type} (n : Nat) (v : Yp.den) (f : Yp.den → Option α) (ks : KS α A8u) : Option α := Yq n v.1.1 v.1.2.2.2.1 v.2.1 v.2.2.1 (fun s6 s9 b310 b330 => f ((s6, (), (), s9, ()), (b310, b330, ()))) (fun w0 => ks.1 (((), ()), (w0, ())))
def A5u {α : Type} (n m : Nat) (s6 s9 : Int) (b310 : List LR) (b330 : LR) (k0 : LR → Option α) : Option α := A4 (A8t n) m ((s6, (), (), s9, ()), (b310, b330, ())) (fun w => k0 w.2.1, ())
theorem Afg {α n m s6 s9 b310 b330 k0} : A5u (α := α) n (m + 1) s6 s9 b310 b330 k0 = Yq n s6 s9 b310 b330 (fun s6 s9 b310 b330 => A5u n m s6 s9 b310 b330 k0) k0 := rfl
abbrev Asj : Tm := ⟨[(6, .d hI), (7, .k (.hw 310)), (8, .k (.hw 330)), (9, .d hI)], [(310, .arr 24 hRs false), (330, .arr 30 hR false)], [], []⟩
def f50 (n : Nat) (a0 a1 : LR) : Option (LR × Bool) :=
 ob (Adb n a0 (a1.length : Int) a1) fun r_1 =>
 ob (A8p n r_1) fun r_2 =>
 gd (Nat.beq r_2.2.length r_1.length && true) (
  ob (f74 n r_2.1) fun r_3 =>
  bif r_3 then
   some ([], false)
  else
   ob (Amg n (a1.length : Int)) fun r_4 =>
   A5u n n (a1.length : Int) (W ((a1.length : Int) - 1)) r_2.2 r_4
    (fun z_10 => (
     some (z_10, true))))
def B10 (n : Nat) : Ent := ⟨50, [hRs, hRs], [hRs, .bool], fun x => f50 n x.1 x.2⟩
def Amy (α : Type) (n : Nat) : D3 α := { reg := [(2, ⟨0, [], [(3, { entB := some (Ak9 n), hb := 310 })]⟩), (3, ⟨0, [], [(1, { entB := some (Afd n), hb := 320 }), (2, { ent := some (Qw n) })]⟩), (5, ⟨0, [], [(1, { entB := some (Ars n), hb := 330 })]⟩), (9, ⟨0, [], [(16, { entB := some (Ly n), hb := 340 }), (17, { ent := some (Q0 n) }), (25, { ent := some (Fw n) })]⟩)], join := [], loop := [(7, ⟨Yp, A8u, A4 (A8t n) n⟩)], any := [(9, Asj)] }
set_option maxHeartbeats 8000000 in
theorem B61 (n : Nat) : Cj TT ⟨55, []⟩ [(16, { entB := some (Ly n), hb := 340 }), (17, { ent := some (Q0 n) }), (25, { ent := some (Fw n) })] Asj (Ak ((A2 Tryz.f50).at [1, 1, 1, 1, 1, 0, 1, 0, 0, 1, 0, 0])) := by
 refine ⟨by kernel_rfl, fun w q hq => ?_⟩
 have e : WT [(16, { entB := some (Ly n), hb := 340 }), (17, { ent := some (Q0 n) }), (25, { ent := some (Fw n) })] (Ab (Ak ((A2 Tryz.f50).at [1, 1, 1, 1, 1, 0, 1, 0, 0, 1, 0, 0])).toList) q = (∃ (y0 : HF (Af 1000 (Ly n).ts) (Ly n).forms) (q0 : List (Nat × RV)), q = (16, .bx (Ly n) y0) :: q0 ∧ ∃ (y1 : HL (Q0 n).rs) (q1 : List (Nat × RV)), q0 = (17, .sv (C2 (Q0 n).rs y1)) :: q1 ∧ ∃ (y2 : HL (Fw n).rs) (q2 : List (Nat × RV)), q1 = (25, .sv (C2 (Fw n).rs y2)) :: q2 ∧ q2 = []) := by kernel_rfl
 rw [e] at hq
 obtain ⟨y0, q0, rfl, y1, q1, rfl, y2, q2, rfl, rfl⟩ := hq
 all_goals exact .inr ⟨26, by kernel_rfl, by kernel_rfl, by kernel_rfl⟩
theorem Aff (α : Type) (n : Nat) : Al PP (Ad (Amy α n).reg) := ⟨Ayu n, Aka n, P8 n, B25 n, B24 n, B40 n, A5l n, trivial⟩
theorem Ayz (α : Type) (n : Nat) : D3.OK PP TT ⟨55, []⟩ (Amy α n) ((A2 Tryz.f50).at [1, 1, 1, 1, 1, 0, 1, 0, 0]) :=
 D3.OK.mk3a (Aff α n) (show Aa ((A2 Tryz.f50).at [1, 1, 1, 1, 1, 0, 1, 0, 0]) = [] by kernel_rfl) trivial (show B1 ((A2 Tryz.f50).at [1, 1, 1, 1, 1, 0, 1, 0, 0]) = [(9, Ak ((A2 Tryz.f50).at [1, 1, 1, 1, 1, 0, 1, 0, 0, 1, 0, 0]))] by kernel_rfl) ⟨fun X h => (by cases h; exact B61 n), trivial⟩
theorem Asi (α : Type) (n : Nat) : LO.Sound (α := α) PP ⟨55, []⟩ ⟨Yp, A8u, A4 (A8t n) n⟩ (.loop ((A2 Tryz.f50).at [1, 1, 1, 1, 1, 0, 1, 0, 0])) := lk (Ayz α n) n
theorem B9r (α : Type) (n : Nat) : D3.OK PP TT ⟨55, []⟩ (Amy α n) (A2 Tryz.f50) :=
 D3.OK.mk3a (Aff α n) (show Aa (A2 Tryz.f50) = [(7, (.loop ((A2 Tryz.f50).at [1, 1, 1, 1, 1, 0, 1, 0, 0])))] by kernel_rfl) ⟨A8 rfl (Asi α n), trivial⟩ (show B1 (A2 Tryz.f50) = [] by kernel_rfl) trivial
theorem B60 (n : Nat) : (B10 n).Sound PP := fk (fn := Tryz.f50) (B9r _ n) 

def f13 (n : Nat) (a0 a1 : LR) : Option (LR × Int) :=
 ob (f49 n a0 a1) fun r_1 =>
 bif (r_1 != 0) then
  some ([], r_1)
 else
  ob (f50 n a0 a1) fun r_2 =>
  bif (!r_2.2) then
   some ([], 5)
  else
   ob (f51 n r_2.1) fun r_3 =>
   some (r_3.1, r_3.2)
def B15 (n : Nat) : Ent := ⟨13, [hRs, hRs], [hRs, hI], fun x => f13 n x.1 x.2⟩
def Ba0 (α : Type) (n : Nat) : D3 α := { reg := [(1, ⟨0, [], [(2, { ent := some (Amz n) })]⟩), (4, ⟨0, [], [(2, { ent := some (B10 n) })]⟩), (7, ⟨0, [], [(1, { ent := some (Amx n) })]⟩)], join := [], loop := [] }
theorem B7c (n : Nat) : (B15 n).Sound PP := Az (fn := Tryz.f13) (D := Ba0 _ n) ⟨Ask n, B60 n, Ash n, trivial⟩ 

def A25 {α : Type} (n : Nat) (s0 : LI) (s3 : Int) (f : LI → Int → Option α) (k0 : Bool → Option α) (k1 : LI → Option α) : Option α :=
 bif (decide (s3 < (s0.length : Int))) then
  gd (decide (0 ≤ s3) && decide (s3 < (s0.length : Int))) (
   ob (f65 n (s0.getD s3.toNat 0) 0 9999) fun r_1 =>
   bif (!r_1) then
    k0 false
   else
    f s0 (W (s3 + 1)))
 else
  k1 s0
abbrev Rp : Tm := ⟨[(0, .d hIs), (3, .d hI)], [], [], []⟩
abbrev At5 : Tm := ⟨[(2, .d .bool)], [], [], []⟩
abbrev At4 : Tm := ⟨[(0, .d hIs)], [], [], []⟩
abbrev A24 : List (Exit × Tm) := [(.ret, At5), (.exit 0, At4)]
def A23 {α : Type} (n : Nat) (v : Rp.den) (f : Rp.den → Option α) (ks : KS α A24) : Option α := A25 n v.1.1 v.1.2.1 (fun s0 s3 => f ((s0, s3, ()), ())) (fun w0 => ks.1 ((w0, ()), ())) (fun w0 => ks.2.1 ((w0, ()), ()))
def Pi {α : Type} (n m : Nat) (s0 : LI) (s3 : Int) (k0 : Bool → Option α) (k1 : LI → Option α) : Option α := A4 (A23 n) m ((s0, s3, ()), ()) (fun w => k0 w.1.1, fun w => k1 w.1.1, ())
theorem At3 {α n m s0 s3 k0 k1} : Pi (α := α) n (m + 1) s0 s3 k0 k1 = A25 n s0 s3 (fun s0 s3 => Pi n m s0 s3 k0 k1) k0 k1 := rfl
def f189 (n : Nat) (a0 : LI) : Option Bool :=
 bif (decide ((a0.length : Int) > 4096)) then
  some false
 else
  Pi n n a0 0
   (fun z_2 => (
    some z_2))
   (fun z_3 => (
    bif (decide ((z_3.length : Int) ≤ 40)) then
     bif ((z_3.length : Int) == 0) then
      some true
     else
      gd (decide (0 ≤ (W ((z_3.length : Int) - 1))) && decide ((W ((z_3.length : Int) - 1)) < (z_3.length : Int))) (
       some (decide ((z_3.getD ((W ((z_3.length : Int) - 1)).toNat) 0) > 0)))
    else
     some false))
def Afu (n : Nat) : Ent := ⟨189, [hIs], [.bool], fun x => f189 n x⟩
def Afv (α : Type) (n : Nat) : D3 α := { reg := [(6, ⟨0, [], [(4, { ent := some (R5 n) })]⟩)], join := [], loop := [(4, ⟨Rp, A24, A4 (A23 n) n⟩)] }
theorem Ab8 (α : Type) (n : Nat) : Al PP (Ad (Afv α n).reg) := ⟨Pb n, trivial⟩
theorem Ane (α : Type) (n : Nat) : LO.Sound (α := α) PP ⟨36, []⟩ ⟨Rp, A24, A4 (A23 n) n⟩ (.loop ((A2 Tryz.f189).at [1, 1, 0, 1, 0, 0])) := Bm (D := Afv α n) (Ab8 α n) n
theorem B6h (α : Type) (n : Nat) : D3.OK PP TT ⟨36, []⟩ (Afv α n) (A2 Tryz.f189) :=
 D3.OK.mk3 (Ab8 α n) (show Aa (A2 Tryz.f189) = [(4, (.loop ((A2 Tryz.f189).at [1, 1, 0, 1, 0, 0])))] by kernel_rfl) ⟨A8 rfl (Ane α n), trivial⟩
theorem Aki (n : Nat) : (Afu n).Sound PP := fk (fn := Tryz.f189) (B6h _ n) 

abbrev B36 : Tm := ⟨[(1, .k (.hp 1 0 0))], [(1, .var 30 true false [.d .bool, .d hIs, .d hIs])], [], []⟩
def f148 (n : Nat) (a0 : Rq) : Option Bool :=
 let J_5 := fun (_ : Unit) => (
  ob (f190 n a0.2.1 a0.2.2) fun r_3 =>
  ob (f187 n r_3 [1]) fun r_4 =>
  some (r_4 == 0))
 ob (f189 n a0.2.1) fun r_1 =>
 bif (!r_1) then
  some false
 else
  ob (f189 n a0.2.2) fun r_2 =>
  bif (!r_2) then
   some false
  else
   bif ((a0.2.2.length : Int) == 0) then
    some false
   else
    bif ((a0.2.1.length : Int) == 0) then
     bif a0.1 then
      some false
     else
      J_5 ()
    else
     J_5 ()
def Age (n : Nat) : Ent := ⟨148, [hR], [.bool], fun x => f148 n x⟩
def B74 (α : Type) (n : Nat) : D3 α := { reg := [(1, ⟨0, [], [(2, { ent := some (Afu n) }), (7, { ent := some (Afu n) })]⟩), (3, ⟨0, [], [(4, { ent := some (Afs n) }), (5, { sh := some hI }), (6, { ent := some (Wh n) })]⟩)], join := [(3, B36)], loop := [] }
theorem Akp (n : Nat) : (Age n).Sound PP := Az (fn := Tryz.f148) (D := B74 _ n) ⟨Aki n, Aki n, Akh n, Yv n, trivial⟩ 

def A40 {α : Type} (n : Nat) (s0 : LR) (s3 : Int) (f : LR → Int → Option α) (k0 : Bool → Option α) (k1 : LR → Option α) : Option α :=
 bif (decide (s3 < (s0.length : Int))) then
  gd (decide (0 ≤ s3) && decide (s3 < (s0.length : Int))) (
   let x_1 := s0.getD s3.toNat (false, [], [])
   ob (f148 n x_1) fun r_2 =>
   bif (!r_2) then
    k0 false
   else
    f s0 (W (s3 + 1)))
 else
  k1 s0
abbrev T8 : Tm := ⟨[(0, .d hRs), (3, .d hI)], [], [], []⟩
abbrev Avf : Tm := ⟨[(2, .d .bool)], [], [], []⟩
abbrev Ave : Tm := ⟨[(0, .d hRs)], [], [], []⟩
abbrev A3z : List (Exit × Tm) := [(.ret, Avf), (.exit 0, Ave)]
def A3y {α : Type} (n : Nat) (v : T8.den) (f : T8.den → Option α) (ks : KS α A3z) : Option α := A40 n v.1.1 v.1.2.1 (fun s0 s3 => f ((s0, s3, ()), ())) (fun w0 => ks.1 ((w0, ()), ())) (fun w0 => ks.2.1 ((w0, ()), ()))
def Pz {α : Type} (n m : Nat) (s0 : LR) (s3 : Int) (k0 : Bool → Option α) (k1 : LR → Option α) : Option α := A4 (A3y n) m ((s0, s3, ()), ()) (fun w => k0 w.1.1, fun w => k1 w.1.1, ())
theorem Avd {α n m s0 s3 k0 k1} : Pz (α := α) n (m + 1) s0 s3 k0 k1 = A40 n s0 s3 (fun s0 s3 => Pz n m s0 s3 k0 k1) k0 k1 := rfl
def f114 (n : Nat) (a0 : LR) : Option Bool :=
 bif (decide ((a0.length : Int) > 4096)) then
  some false
 else
  Pz n n a0 0
   (fun z_3 => (
    some z_3))
   (fun z_4 => (
    ob (f65 n (z_4.length : Int) 1 4) fun r_5 =>
    some r_5))
def Avg (n : Nat) : Ent := ⟨114, [hRs], [.bool], fun x => f114 n x⟩
def Agq (α : Type) (n : Nat) : D3 α := { reg := [(6, ⟨0, [], [(4, { ent := some (Age n) })]⟩), (8, ⟨0, [], [(2, { ent := some (R5 n) })]⟩)], join := [], loop := [(4, ⟨T8, A3z, A4 (A3y n) n⟩)] }
theorem Abu (α : Type) (n : Nat) : Al PP (Ad (Agq α n).reg) := ⟨Akp n, Pb n, trivial⟩
theorem Aot (α : Type) (n : Nat) : LO.Sound (α := α) PP ⟨22, []⟩ ⟨T8, A3z, A4 (A3y n) n⟩ (.loop ((A2 Tryz.f114).at [1, 1, 0, 1, 0, 0])) := Bm (D := Agq α n) (Abu α n) n
theorem B7x (α : Type) (n : Nat) : D3.OK PP TT ⟨22, []⟩ (Agq α n) (A2 Tryz.f114) :=
 D3.OK.mk3 (Abu α n) (show Aa (A2 Tryz.f114) = [(4, (.loop ((A2 Tryz.f114).at [1, 1, 0, 1, 0, 0])))] by kernel_rfl) ⟨A8 rfl (Aot α n), trivial⟩
theorem B3w (n : Nat) : (Avg n).Sound PP := fk (fn := Tryz.f114) (B7x _ n) 

def A80 {α : Type} (n : Nat) (s0 : LR) (s5 : Int) (f : LR → Int → Option α) (k0 : Bool → Option α) (k1 : Unit → Option α) : Option α :=
 bif (decide (s5 < (s0.length : Int))) then
  gd (decide (0 ≤ s5) && decide (s5 < (s0.length : Int))) (
   let x_2 := s0.getD s5.toNat (false, [], [])
   ob (f148 n x_2) fun r_3 =>
   bif (!r_3) then
    k0 false
   else
    f s0 (W (s5 + 1)))
 else
  k1 ()
abbrev Y8 : Tm := ⟨[(0, .d hRs), (5, .d hI)], [], [], []⟩
abbrev Ay5 : Tm := ⟨[(4, .d .bool)], [], [], []⟩
abbrev Ay4 : Tm := ⟨[], [], [], []⟩
abbrev A7z : List (Exit × Tm) := [(.ret, Ay5), (.exit 0, Ay4)]
def A7y {α : Type} (n : Nat) (v : Y8.den) (f : Y8.den → Option α) (ks : KS α A7z) : Option α := A80 n v.1.1 v.1.2.1 (fun s0 s5 => f ((s0, s5, ()), ())) (fun w0 => ks.1 ((w0, ()), ())) (fun _ => ks.2.1 ((), ()))
def Vn {α : Type} (n m : Nat) (s0 : LR) (s5 : Int) (k0 : Bool → Option α) (k1 : Unit → Option α) : Option α := A4 (A7y n) m ((s0, s5, ()), ()) (fun w => k0 w.1.1, fun w => k1 (), ())
theorem Ay3 {α n m s0 s5 k0 k1} : Vn (α := α) n (m + 1) s0 s5 k0 k1 = A80 n s0 s5 (fun s0 s5 => Vn n m s0 s5 k0 k1) k0 k1 := rfl
def f79 (n : Nat) (a0 : LR) (a1 : Int) : Option Bool :=
 bif (decide ((a0.length : Int) > 4096)) then
  some false
 else
  ob (f65 n a1 1 4) fun r_1 =>
  bif (!r_1) then
   some false
  else
   bif ((a0.length : Int) != (W (a1 * a1))) then
    some false
   else
    Vn n n a0 0
     (fun z_4 => (
      some z_4))
     (fun (_ : Unit) => (
      some true))
def Am8 (n : Nat) : Ent := ⟨79, [hRs, hI], [.bool], fun x => f79 n x.1 x.2⟩
def Am9 (α : Type) (n : Nat) : D3 α := { reg := [(3, ⟨0, [], [(1, { ent := some (R5 n) })]⟩), (8, ⟨0, [], [(4, { ent := some (Age n) })]⟩)], join := [], loop := [(6, ⟨Y8, A7z, A4 (A7y n) n⟩)] }
theorem Af1 (α : Type) (n : Nat) : Al PP (Ad (Am9 α n).reg) := ⟨Pb n, Akp n, trivial⟩
theorem Ard (α : Type) (n : Nat) : LO.Sound (α := α) PP ⟨32, []⟩ ⟨Y8, A7z, A4 (A7y n) n⟩ (.loop ((A2 Tryz.f79).at [1, 1, 1, 0, 1, 0, 0])) := Bm (D := Am9 α n) (Af1 α n) n
theorem B96 (α : Type) (n : Nat) : D3.OK PP TT ⟨32, []⟩ (Am9 α n) (A2 Tryz.f79) :=
 D3.OK.mk3 (Af1 α n) (show Aa (A2 Tryz.f79) = [(6, (.loop ((A2 Tryz.f79).at [1, 1, 1, 0, 1, 0, 0])))] by kernel_rfl) ⟨A8 rfl (Ard α n), trivial⟩
theorem Arb (n : Nat) : (Am8 n).Sound PP := fk (fn := Tryz.f79) (B96 _ n) 

abbrev B5z : Tm := ⟨[(0, .d hRs), (1, .d hRs), (5, .d .bool)], [], [], []⟩
def f52 (n : Nat) (a0 a1 : LR) : Option Int :=
 let J_4 := fun (y_1 : Bool) => (
  bif y_1 then
   some 2
  else
   ob (f114 n a1) fun r_2 =>
   bif (!r_2) then
    some 1
   else
    ob (f79 n a0 (a1.length : Int)) fun r_3 =>
    bif (!r_3) then
     some 1
    else
     some 0)
 bif (decide ((a0.length : Int) > 4096)) then
  J_4 true
 else
  J_4 (decide ((a1.length : Int) > 4096))
def B0z (n : Nat) : Ent := ⟨52, [hRs, hRs], [hI], fun x => f52 n x.1 x.2⟩
def B9p (α : Type) (n : Nat) : D3 α := { reg := [(3, ⟨0, [], [(1, { ent := some (Avg n) }), (7, { ent := some (Am8 n) })]⟩)], join := [(2, B5z)], loop := [] }
theorem B5x (n : Nat) : (B0z n).Sound PP := Az (fn := Tryz.f52) (D := B9p _ n) ⟨B3w n, Arb n, trivial⟩ 

def f138 (n : Nat) (a0 : Rq) : Option Rq :=
 bif (!a0.1) then
  some ((decide ((a0.2.1.length : Int) > 0)), a0.2)
 else
  some (false, a0.2)
def A6a (n : Nat) : Ent := ⟨138, [hR], [hR], fun x => f138 n x⟩
def B7e (α : Type) (n : Nat) : D3 α := { reg := [], join := [], loop := [] }
theorem A9b (n : Nat) : (A6a n).Sound PP := Az (fn := Tryz.f138) (D := B7e _ n) trivial 

def f119 (n : Nat) (a0 a1 : Rq) : Option Rq :=
 ob (f138 n a1) fun r_1 =>
 ob (f146 n a0 r_1) fun r_2 =>
 some r_2
def A6m (n : Nat) : Ent := ⟨119, [hR, hR], [hR], fun x => f119 n x.1 x.2⟩
def B7s (α : Type) (n : Nat) : D3 α := { reg := [(1, ⟨3, [], [(2, { ent := some (A6a n) }), (3, { ent := some (Dz n) })]⟩)], join := [], loop := [] }
theorem A9j (n : Nat) : (A6m n).Sound PP := Az (fn := Tryz.f119) (D := B7s _ n) ⟨A9b n, Z4 n, trivial⟩ 

def f116 (n : Nat) (a0 : Rq) : Option Bool :=
 some ((a0.2.1.length : Int) == 0)
def A6n (n : Nat) : Ent := ⟨116, [hR], [.bool], fun x => f116 n x⟩
def B7v (α : Type) (n : Nat) : D3 α := { reg := [], join := [], loop := [] }
theorem A9l (n : Nat) : (A6n n).Sound PP := Az (fn := Tryz.f116) (D := B7v _ n) trivial 

def f135 (n : Nat) (a0 : Rq) : Option Int :=
 ob (f116 n a0) fun r_1 =>
 bif r_1 then
  some 0
 else
  bif a0.1 then
   some (-1)
  else
   some 1
def Agj (n : Nat) : Ent := ⟨135, [hR], [hI], fun x => f135 n x⟩
def B7h (α : Type) (n : Nat) : D3 α := { reg := [(1, ⟨0, [], [(1, { ent := some (A6n n) })]⟩)], join := [], loop := [] }
theorem Aks (n : Nat) : (Agj n).Sound PP := Az (fn := Tryz.f135) (D := B7h _ n) ⟨A9l n, trivial⟩ 

def f134 (n : Nat) (a0 a1 : Rq) : Option Int :=
 ob (f119 n a0 a1) fun r_1 =>
 ob (f135 n r_1) fun r_2 =>
 some r_2
def Auu (n : Nat) : Ent := ⟨134, [hR, hR], [hI], fun x => f134 n x.1 x.2⟩
def B7i (α : Type) (n : Nat) : D3 α := { reg := [(1, ⟨0, [], [(2, { ent := some (A6m n) }), (3, { ent := some (Agj n) })]⟩)], join := [], loop := [] }
theorem B3i (n : Nat) : (Auu n).Sound PP := Az (fn := Tryz.f134) (D := B7i _ n) ⟨A9j n, Aks n, trivial⟩ 

def A3t {α : Type} (n : Nat) (s0 s4 : Int) (b5 : LR) (f : Int → Int → LR → Option α) (k0 : LR → Option α) : Option α :=
 bif (decide (s4 < s0)) then
  ob (f106 n 0) fun r_1 =>
  gd (decide ((b5.length + 1) * 56 ≤ 140737488355328)) (
   f s0 (W (s4 + 1)) (b5 ++ [r_1]))
 else
  k0 b5
abbrev Sy : Tm := ⟨[(0, .d hI), (3, .k (.hw 5)), (4, .d hI)], [(5, .arr 30 hR false)], [13], []⟩
abbrev Av6 : Tm := ⟨[(3, .k (.hw 5))], [(5, .arr 30 hR false)], [], []⟩
abbrev A3s : List (Exit × Tm) := [(.exit 0, Av6)]
def A3r {α : Type} (n : Nat) (v : Sy.den) (f : Sy.den → Option α) (ks : KS α A3s) : Option α := A3t n v.1.1 v.1.2.2.1 v.2.1 (fun s0 s4 b5 => f ((s0, (), s4, ()), (b5, ()))) (fun w0 => ks.1 (((), ()), (w0, ())))
def Z6 {α : Type} (n m : Nat) (s0 s4 : Int) (b5 : LR) (k0 : LR → Option α) : Option α := A4 (A3r n) m ((s0, (), s4, ()), (b5, ())) (fun w => k0 w.2.1, ())
theorem Av5 {α n m s0 s4 b5 k0} : Z6 (α := α) n (m + 1) s0 s4 b5 k0 = A3t n s0 s4 b5 (fun s0 s4 b5 => Z6 n m s0 s4 b5 k0) k0 := rfl
def f117 (n : Nat) (a0 : Int) : Option LR :=
 Z6 n n a0 0 []
  (fun z_2 => (
   some z_2))
def Agn (n : Nat) : Ent := ⟨117, [hI], [hRs], fun x => f117 n x⟩
def Ago (α : Type) (n : Nat) : D3 α := { reg := [(1, ⟨0, [], [(0, { sh := some hR })]⟩), (5, ⟨0, [], [(1, { ent := some (E6 n) }), (2, { sh := some hR })]⟩)], join := [], loop := [(3, ⟨Sy, A3s, A4 (A3r n) n⟩)] }
theorem Abq (α : Type) (n : Nat) : Al PP (Ad (Ago α n).reg) := ⟨Hi n, trivial⟩
theorem Aoh (α : Type) (n : Nat) : LO.Sound (α := α) PP ⟨16, []⟩ ⟨Sy, A3s, A4 (A3r n) n⟩ (.loop ((A2 Tryz.f117).at [1, 1, 0, 1, 0, 0])) := Bm (D := Ago α n) (Abq α n) n
theorem B7u (α : Type) (n : Nat) : D3.OK PP TT ⟨16, []⟩ (Ago α n) (A2 Tryz.f117) :=
 D3.OK.mk3 (Abq α n) (show Aa (A2 Tryz.f117) = [(3, (.loop ((A2 Tryz.f117).at [1, 1, 0, 1, 0, 0])))] by kernel_rfl) ⟨A8 rfl (Aoh α n), trivial⟩
theorem Aku (n : Nat) : (Agn n).Sound PP := fk (fn := Tryz.f117) (B7u _ n) 

def f118 (n : Nat) (a0 a1 : Rq) : Option Rq :=
 ob (f178 n a0.2.1 a1.2.2) fun r_1 =>
 ob (f178 n a0.2.2 a1.2.1) fun r_2 =>
 ob (f177 n (!(a0.1 == a1.1)) r_1 r_2) fun r_3 =>
 some r_3
def Ex (n : Nat) : Ent := ⟨118, [hR, hR], [hR], fun x => f118 n x.1 x.2⟩
def B7t (α : Type) (n : Nat) : D3 α := { reg := [(1, ⟨15, [], [(9, { ent := some (Gj n) }), (14, { ent := some (Gj n) }), (15, { ent := some (Md n) })]⟩)], join := [], loop := [] }
theorem A9k (n : Nat) : (Ex n).Sound PP := Az (fn := Tryz.f118) (D := B7t _ n) ⟨Fy n, Fy n, La n, trivial⟩ 

def T4 {α : Type} (n : Nat) (s7 s9 s10 : Int) (c6_0 c8_0 : Bool) (c8_1 c8_2 : LI) (b19 b22 : LR) (f : Int → Int → Int → Bool → Bool → LI → LI → LR → LR → Option α) (k0 : Int → Int → Int → Bool → Bool → LI → LI → LR → LR → Option α) : Option α :=
 bif (decide (s10 < s7)) then
  gd (decide (0 ≤ (W ((W (s10 * s7)) + s9))) && decide ((W ((W (s10 * s7)) + s9)) < (b19.length : Int))) (
   gd (decide ((W ((W (s10 * s7)) + s9)).toNat < b19.length)) (
    let x_2 := b19.getD ((W ((W (s10 * s7)) + s9)).toNat) (false, [], [])
    ob (f116 n x_2) fun r_3 =>
    bif r_3 then
     f s7 s9 (W (s10 + 1)) c6_0 c8_0 c8_1 c8_2 b19 b22
    else
     k0 s7 s9 s10 c6_0 c8_0 c8_1 c8_2 b19 b22))
 else
  k0 s7 s9 s10 c6_0 c8_0 c8_1 c8_2 b19 b22
abbrev T3 : Tm := ⟨[(0, .k (.hw 19)), (1, .k (.hw 22)), (6, .k (.hp 6 0 0)), (7, .d hI), (8, .k (.hp 8 0 0)), (9, .d hI), (10, .d hI)], [(6, .var 30 true false [.d .bool, .d .nil, .d .nil]), (8, .var 30 true false [.d .bool, .d hIs, .d hIs]), (19, .arr 30 hR false), (22, .arr 30 hR false)], [], []⟩
abbrev Av8 : Tm := ⟨[(0, .k (.hw 19)), (1, .k (.hw 22)), (6, .k (.hp 6 0 0)), (7, .d hI), (8, .k (.hp 8 0 0)), (9, .d hI), (10, .d hI)], [(6, .var 30 true false [.d .bool, .d .nil, .d .nil]), (8, .var 30 true false [.d .bool, .d hIs, .d hIs]), (19, .arr 30 hR false), (22, .arr 30 hR false)], [], []⟩
abbrev A3v : List (Exit × Tm) := [(.exit 2, Av8)]
def A3u {α : Type} (n : Nat) (v : T3.den) (f : T3.den → Option α) (ks : KS α A3v) : Option α := T4 n v.1.2.2.2.1 v.1.2.2.2.2.2.1 v.1.2.2.2.2.2.2.1 v.2.1.1 v.2.2.1.1 v.2.2.1.2.1 v.2.2.1.2.2.1 v.2.2.2.1 v.2.2.2.2.1 (fun s7 s9 s10 c6_0 c8_0 c8_1 c8_2 b19 b22 => f (((), (), (), s7, (), s9, s10, ()), ((c6_0, (), (), ()), (c8_0, c8_1, c8_2, ()), b19, b22, ()))) (fun w0 w1 w2 w3 w4 w5 w6 w7 w8 => ks.1 (((), (), (), w0, (), w1, w2, ()), ((w3, (), (), ()), (w4, w5, w6, ()), w7, w8, ())))
def Z7 {α : Type} (n m : Nat) (s7 s9 s10 : Int) (c6_0 c8_0 : Bool) (c8_1 c8_2 : LI) (b19 b22 : LR) (k0 : Int → Int → Int → Bool → Bool → LI → LI → LR → LR → Option α) : Option α := A4 (A3u n) m (((), (), (), s7, (), s9, s10, ()), ((c6_0, (), (), ()), (c8_0, c8_1, c8_2, ()), b19, b22, ())) (fun w => k0 w.1.2.2.2.1 w.1.2.2.2.2.2.1 w.1.2.2.2.2.2.2.1 w.2.1.1 w.2.2.1.1 w.2.2.1.2.1 w.2.2.1.2.2.1 w.2.2.2.1 w.2.2.2.2.1, ())
theorem Abr {α n m s7 s9 s10 c6_0 c8_0 c8_1 c8_2 b19 b22 k0} : Z7 (α := α) n (m + 1) s7 s9 s10 c6_0 c8_0 c8_1 c8_2 b19 b22 k0 = T4 n s7 s9 s10 c6_0 c8_0 c8_1 c8_2 b19 b22 (fun s7 s9 s10 c6_0 c8_0 c8_1 c8_2 b19 b22 => Z7 n m s7 s9 s10 c6_0 c8_0 c8_1 c8_2 b19 b22 k0) k0 := rfl
def X3 {α : Type} (n : Nat) (s7 s9 s10 s11 : Int) (c6_0 c8_0 : Bool) (c8_1 c8_2 : LI) (b19 b22 : LR) (f : Int → Int → Int → Int → Bool → Bool → LI → LI → LR → LR → Option α) (k0 : Int → Int → Int → Bool → Bool → LI → LI → LR → LR → Option α) : Option α :=
 bif (decide (s11 < s7)) then
  gd (decide (0 ≤ (W ((W (s10 * s7)) + s11))) && decide ((W ((W (s10 * s7)) + s11)) < (b19.length : Int))) (
   gd (decide ((W ((W (s10 * s7)) + s11)).toNat < b19.length)) (
    let x_15 := b19.getD ((W ((W (s10 * s7)) + s11)).toNat) (false, [], [])
    gd (decide (0 ≤ (W ((W (s9 * s7)) + s11))) && decide ((W ((W (s9 * s7)) + s11)) < (b19.length : Int))) (
     gd (decide ((W ((W (s9 * s7)) + s11)).toNat < b19.length)) (
      let x_16 := b19.getD ((W ((W (s9 * s7)) + s11)).toNat) (false, [], [])
      gd (decide (0 ≤ (W ((W (s10 * s7)) + s11))) && decide ((W ((W (s10 * s7)) + s11)) < (b19.length : Int))) (
       gd (decide ((W ((W (s10 * s7)) + s11)).toNat < b19.length)) (
        gd (decide (0 ≤ (W ((W (s9 * s7)) + s11))) && decide ((W ((W (s9 * s7)) + s11)) < (((b19.set ((W ((W (s10 * s7)) + s11)).toNat) x_16).length : Nat) : Int))) (
         gd (decide ((W ((W (s9 * s7)) + s11)).toNat < (b19.set ((W ((W (s10 * s7)) + s11)).toNat) x_16).length)) (
          f s7 s9 s10 (W (s11 + 1)) c6_0 c8_0 c8_1 c8_2 ((b19.set ((W ((W (s10 * s7)) + s11)).toNat) x_16).set ((W ((W (s9 * s7)) + s11)).toNat) x_15) b22))))))))
 else
  k0 s7 s9 s10 c6_0 c8_0 c8_1 c8_2 b19 b22
abbrev Ny : Tm := ⟨[(0, .k (.hw 19)), (1, .k (.hw 22)), (6, .k (.hp 6 0 0)), (7, .d hI), (8, .k (.hp 8 0 0)), (9, .d hI), (10, .d hI), (11, .d hI)], [(6, .var 30 true false [.d .bool, .d .nil, .d .nil]), (8, .var 30 true false [.d .bool, .d hIs, .d hIs]), (19, .arr 30 hR false), (22, .arr 30 hR false)], [12], []⟩
abbrev Aos : Tm := ⟨[(0, .k (.hw 19)), (1, .k (.hw 22)), (6, .k (.hp 6 0 0)), (7, .d hI), (8, .k (.hp 8 0 0)), (9, .d hI), (10, .d hI)], [(6, .var 30 true false [.d .bool, .d .nil, .d .nil]), (8, .var 30 true false [.d .bool, .d hIs, .d hIs]), (19, .arr 30 hR false), (22, .arr 30 hR false)], [], []⟩
abbrev X0 : List (Exit × Tm) := [(.exit 4, Aos)]
def Wz {α : Type} (n : Nat) (v : Ny.den) (f : Ny.den → Option α) (ks : KS α X0) : Option α := X3 n v.1.2.2.2.1 v.1.2.2.2.2.2.1 v.1.2.2.2.2.2.2.1 v.1.2.2.2.2.2.2.2.1 v.2.1.1 v.2.2.1.1 v.2.2.1.2.1 v.2.2.1.2.2.1 v.2.2.2.1 v.2.2.2.2.1 (fun s7 s9 s10 s11 c6_0 c8_0 c8_1 c8_2 b19 b22 => f (((), (), (), s7, (), s9, s10, s11, ()), ((c6_0, (), (), ()), (c8_0, c8_1, c8_2, ()), b19, b22, ()))) (fun w0 w1 w2 w3 w4 w5 w6 w7 w8 => ks.1 (((), (), (), w0, (), w1, w2, ()), ((w3, (), (), ()), (w4, w5, w6, ()), w7, w8, ())))
def N2 {α : Type} (n m : Nat) (s7 s9 s10 s11 : Int) (c6_0 c8_0 : Bool) (c8_1 c8_2 : LI) (b19 b22 : LR) (k0 : Int → Int → Int → Bool → Bool → LI → LI → LR → LR → Option α) : Option α := A4 (Wz n) m (((), (), (), s7, (), s9, s10, s11, ()), ((c6_0, (), (), ()), (c8_0, c8_1, c8_2, ()), b19, b22, ())) (fun w => k0 w.1.2.2.2.1 w.1.2.2.2.2.2.1 w.1.2.2.2.2.2.2.1 w.2.1.1 w.2.2.1.1 w.2.2.1.2.1 w.2.2.1.2.2.1 w.2.2.2.1 w.2.2.2.2.1, ())
theorem Aoq {α n m s7 s9 s10 s11 c6_0 c8_0 c8_1 c8_2 b19 b22 k0} : N2 (α := α) n (m + 1) s7 s9 s10 s11 c6_0 c8_0 c8_1 c8_2 b19 b22 k0 = X3 n s7 s9 s10 s11 c6_0 c8_0 c8_1 c8_2 b19 b22 (fun s7 s9 s10 s11 c6_0 c8_0 c8_1 c8_2 b19 b22 => N2 n m s7 s9 s10 s11 c6_0 c8_0 c8_1 c8_2 b19 b22 k0) k0 := rfl
def Wv {α : Type} (n : Nat) (s7 s9 s14 s16 : Int) (c6_0 c8_0 : Bool) (c8_1 c8_2 : LI) (c15_0 : Bool) (c15_1 c15_2 : LI) (b19 b22 : LR) (f : Int → Int → Int → Int → Bool → Bool → LI → LI → Bool → LI → LI → LR → LR → Option α) (k0 : Int → Int → Int → Bool → Bool → LI → LI → Bool → LI → LI → LR → LR → Option α) : Option α :=
 bif (decide (s16 < s7)) then
  gd (decide (0 ≤ (W ((W (s14 * s7)) + s16))) && decide ((W ((W (s14 * s7)) + s16)) < (b19.length : Int))) (
   gd (decide ((W ((W (s14 * s7)) + s16)).toNat < b19.length)) (
    let x_39 := b19.getD ((W ((W (s14 * s7)) + s16)).toNat) (false, [], [])
    gd (decide (0 ≤ (W ((W (s9 * s7)) + s16))) && decide ((W ((W (s9 * s7)) + s16)) < (b19.length : Int))) (
     gd (decide ((W ((W (s9 * s7)) + s16)).toNat < b19.length)) (
      let x_40 := b19.getD ((W ((W (s9 * s7)) + s16)).toNat) (false, [], [])
      ob (f176 n (c15_0, c15_1, c15_2) x_40) fun r_41 =>
      ob (f119 n x_39 r_41) fun r_42 =>
      gd (decide (0 ≤ (W ((W (s14 * s7)) + s16))) && decide ((W ((W (s14 * s7)) + s16)) < (b19.length : Int))) (
       gd (decide ((W ((W (s14 * s7)) + s16)).toNat < b19.length)) (
        f s7 s9 s14 (W (s16 + 1)) c6_0 c8_0 c8_1 c8_2 c15_0 c15_1 c15_2 (b19.set ((W ((W (s14 * s7)) + s16)).toNat) r_42) b22))))))
 else
  k0 s7 s9 s14 c6_0 c8_0 c8_1 c8_2 c15_0 c15_1 c15_2 b19 b22
abbrev Nw : Tm := ⟨[(0, .k (.hw 19)), (1, .k (.hw 22)), (6, .k (.hp 6 0 0)), (7, .d hI), (8, .k (.hp 8 0 0)), (9, .d hI), (14, .d hI), (15, .k (.hp 15 0 0)), (16, .d hI)], [(6, .var 30 true false [.d .bool, .d .nil, .d .nil]), (8, .var 30 true false [.d .bool, .d hIs, .d hIs]), (15, .var 30 true false [.d .bool, .d hIs, .d hIs]), (19, .arr 30 hR false), (22, .arr 30 hR false)], [], []⟩
abbrev Aom : Tm := ⟨[(0, .k (.hw 19)), (1, .k (.hw 22)), (6, .k (.hp 6 0 0)), (7, .d hI), (8, .k (.hp 8 0 0)), (9, .d hI), (14, .d hI), (15, .k (.hp 15 0 0))], [(6, .var 30 true false [.d .bool, .d .nil, .d .nil]), (8, .var 30 true false [.d .bool, .d hIs, .d hIs]), (15, .var 30 true false [.d .bool, .d hIs, .d hIs]), (19, .arr 30 hR false), (22, .arr 30 hR false)], [], []⟩
abbrev Wu : List (Exit × Tm) := [(.exit 8, Aom)]
def Wt {α : Type} (n : Nat) (v : Nw.den) (f : Nw.den → Option α) (ks : KS α Wu) : Option α := Wv n v.1.2.2.2.1 v.1.2.2.2.2.2.1 v.1.2.2.2.2.2.2.1 v.1.2.2.2.2.2.2.2.2.1 v.2.1.1 v.2.2.1.1 v.2.2.1.2.1 v.2.2.1.2.2.1 v.2.2.2.1.1 v.2.2.2.1.2.1 v.2.2.2.1.2.2.1 v.2.2.2.2.1 v.2.2.2.2.2.1 (fun s7 s9 s14 s16 c6_0 c8_0 c8_1 c8_2 c15_0 c15_1 c15_2 b19 b22 => f (((), (), (), s7, (), s9, s14, (), s16, ()), ((c6_0, (), (), ()), (c8_0, c8_1, c8_2, ()), (c15_0, c15_1, c15_2, ()), b19, b22, ()))) (fun w0 w1 w2 w3 w4 w5 w6 w7 w8 w9 w10 w11 => ks.1 (((), (), (), w0, (), w1, w2, (), ()), ((w3, (), (), ()), (w4, w5, w6, ()), (w7, w8, w9, ()), w10, w11, ())))
def T7 {α : Type} (n m : Nat) (s7 s9 s14 s16 : Int) (c6_0 c8_0 : Bool) (c8_1 c8_2 : LI) (c15_0 : Bool) (c15_1 c15_2 : LI) (b19 b22 : LR) (k0 : Int → Int → Int → Bool → Bool → LI → LI → Bool → LI → LI → LR → LR → Option α) : Option α := A4 (Wt n) m (((), (), (), s7, (), s9, s14, (), s16, ()), ((c6_0, (), (), ()), (c8_0, c8_1, c8_2, ()), (c15_0, c15_1, c15_2, ()), b19, b22, ())) (fun w => k0 w.1.2.2.2.1 w.1.2.2.2.2.2.1 w.1.2.2.2.2.2.2.1 w.2.1.1 w.2.2.1.1 w.2.2.1.2.1 w.2.2.1.2.2.1 w.2.2.2.1.1 w.2.2.2.1.2.1 w.2.2.2.1.2.2.1 w.2.2.2.2.1 w.2.2.2.2.2.1, ())
theorem Aok {α n m s7 s9 s14 s16 c6_0 c8_0 c8_1 c8_2 c15_0 c15_1 c15_2 b19 b22 k0} : T7 (α := α) n (m + 1) s7 s9 s14 s16 c6_0 c8_0 c8_1 c8_2 c15_0 c15_1 c15_2 b19 b22 k0 = Wv n s7 s9 s14 s16 c6_0 c8_0 c8_1 c8_2 c15_0 c15_1 c15_2 b19 b22 (fun s7 s9 s14 s16 c6_0 c8_0 c8_1 c8_2 c15_0 c15_1 c15_2 b19 b22 => T7 n m s7 s9 s14 s16 c6_0 c8_0 c8_1 c8_2 c15_0 c15_1 c15_2 b19 b22 k0) k0 := rfl
def Wy {α : Type} (n : Nat) (s7 s9 s14 : Int) (c6_0 c8_0 : Bool) (c8_1 c8_2 : LI) (b19 b22 : LR) (f : Int → Int → Int → Bool → Bool → LI → LI → LR → LR → Option α) (k0 : Int → Int → Bool → Bool → LI → LI → LR → LR → Option α) : Option α :=
 bif (decide (s14 < s7)) then
  gd (decide (0 ≤ (W ((W (s14 * s7)) + s9))) && decide ((W ((W (s14 * s7)) + s9)) < (b19.length : Int))) (
   gd (decide ((W ((W (s14 * s7)) + s9)).toNat < b19.length)) (
    let x_36 := b19.getD ((W ((W (s14 * s7)) + s9)).toNat) (false, [], [])
    gd (decide (0 ≤ (W ((W (s9 * s7)) + s9))) && decide ((W ((W (s9 * s7)) + s9)) < (b19.length : Int))) (
     gd (decide ((W ((W (s9 * s7)) + s9)).toNat < b19.length)) (
      let x_37 := b19.getD ((W ((W (s9 * s7)) + s9)).toNat) (false, [], [])
      ob (f118 n x_36 x_37) fun r_38 =>
      T7 n n s7 s9 s14 s9 c6_0 c8_0 c8_1 c8_2 r_38.1 r_38.2.1 r_38.2.2 b19 b22
       (fun z_39 z_40 z_41 z_42 z_43 z_44 z_45 z_46 z_47 z_48 z_49 z_50 => (
        gd (decide (0 ≤ z_41) && decide (z_41 < (z_50.length : Int))) (
         gd (decide (z_41.toNat < z_50.length)) (
          let x_51 := z_50.getD z_41.toNat (false, [], [])
          gd (decide (0 ≤ z_40) && decide (z_40 < (z_50.length : Int))) (
           gd (decide (z_40.toNat < z_50.length)) (
            let x_52 := z_50.getD z_40.toNat (false, [], [])
            ob (f176 n (z_46, z_47, z_48) x_52) fun r_53 =>
            ob (f119 n x_51 r_53) fun r_54 =>
            gd (decide (0 ≤ z_41) && decide (z_41 < (z_50.length : Int))) (
             gd (decide (z_41.toNat < z_50.length)) (
              f z_39 z_40 (W (z_41 + 1)) z_42 z_43 z_44 z_45 z_49 (z_50.set z_41.toNat r_54)))))))))))))
 else
  k0 s7 s9 c6_0 c8_0 c8_1 c8_2 b19 b22
abbrev Nx : Tm := ⟨[(0, .k (.hw 19)), (1, .k (.hw 22)), (6, .k (.hp 6 0 0)), (7, .d hI), (8, .k (.hp 8 0 0)), (9, .d hI), (14, .d hI)], [(6, .var 30 true false [.d .bool, .d .nil, .d .nil]), (8, .var 30 true false [.d .bool, .d hIs, .d hIs]), (19, .arr 30 hR false), (22, .arr 30 hR false)], [15], []⟩
abbrev Aop : Tm := ⟨[(0, .k (.hw 19)), (1, .k (.hw 22)), (6, .k (.hp 6 0 0)), (7, .d hI), (8, .k (.hp 8 0 0)), (9, .d hI)], [(6, .var 30 true false [.d .bool, .d .nil, .d .nil]), (8, .var 30 true false [.d .bool, .d hIs, .d hIs]), (19, .arr 30 hR false), (22, .arr 30 hR false)], [], []⟩
abbrev Wx : List (Exit × Tm) := [(.exit 6, Aop)]
def Ww {α : Type} (n : Nat) (v : Nx.den) (f : Nx.den → Option α) (ks : KS α Wx) : Option α := Wy n v.1.2.2.2.1 v.1.2.2.2.2.2.1 v.1.2.2.2.2.2.2.1 v.2.1.1 v.2.2.1.1 v.2.2.1.2.1 v.2.2.1.2.2.1 v.2.2.2.1 v.2.2.2.2.1 (fun s7 s9 s14 c6_0 c8_0 c8_1 c8_2 b19 b22 => f (((), (), (), s7, (), s9, s14, ()), ((c6_0, (), (), ()), (c8_0, c8_1, c8_2, ()), b19, b22, ()))) (fun w0 w1 w2 w3 w4 w5 w6 w7 => ks.1 (((), (), (), w0, (), w1, ()), ((w2, (), (), ()), (w3, w4, w5, ()), w6, w7, ())))
def Fk {α : Type} (n m : Nat) (s7 s9 s14 : Int) (c6_0 c8_0 : Bool) (c8_1 c8_2 : LI) (b19 b22 : LR) (k0 : Int → Int → Bool → Bool → LI → LI → LR → LR → Option α) : Option α := A4 (Ww n) m (((), (), (), s7, (), s9, s14, ()), ((c6_0, (), (), ()), (c8_0, c8_1, c8_2, ()), b19, b22, ())) (fun w => k0 w.1.2.2.2.1 w.1.2.2.2.2.2.1 w.2.1.1 w.2.2.1.1 w.2.2.1.2.1 w.2.2.1.2.2.1 w.2.2.2.1 w.2.2.2.2.1, ())
theorem Aon {α n m s7 s9 s14 c6_0 c8_0 c8_1 c8_2 b19 b22 k0} : Fk (α := α) n (m + 1) s7 s9 s14 c6_0 c8_0 c8_1 c8_2 b19 b22 k0 = Wy n s7 s9 s14 c6_0 c8_0 c8_1 c8_2 b19 b22 (fun s7 s9 s14 c6_0 c8_0 c8_1 c8_2 b19 b22 => Fk n m s7 s9 s14 c6_0 c8_0 c8_1 c8_2 b19 b22 k0) k0 := rfl
def T6 {α : Type} (n : Nat) (s7 s9 : Int) (c6_0 c8_0 : Bool) (c8_1 c8_2 : LI) (b19 b22 : LR) (f : Int → Int → Bool → Bool → LI → LI → LR → LR → Option α) (k0 : Bool → LI → LI → LR → LR → Option α) (k1 : Bool → Bool → LI → LI → LR → LR → Option α) : Option α :=
 bif (decide (s9 < s7)) then
  Z7 n n s7 s9 s9 c6_0 c8_0 c8_1 c8_2 b19 b22
   (fun z_2 z_3 z_4 z_5 z_6 z_7 z_8 z_9 z_10 => (
    bif (z_4 == z_2) then
     ob (f106 n 0) fun r_11 =>
     k0 r_11.1 r_11.2.1 r_11.2.2 z_9 z_10
    else
     let J_42 := fun (y_24 : Int) (y_25 : Int) (y_26 : Bool) (y_27 : Bool) (y_28 : LI) (y_29 : LI) (y_30 : LR) (y_31 : LR) => (
      gd (decide (0 ≤ (W ((W (y_25 * y_24)) + y_25))) && decide ((W ((W (y_25 * y_24)) + y_25)) < (y_30.length : Int))) (
       gd (decide ((W ((W (y_25 * y_24)) + y_25)).toNat < y_30.length)) (
        let x_32 := y_30.getD ((W ((W (y_25 * y_24)) + y_25)).toNat) (false, [], [])
        ob (f176 n (y_27, y_28, y_29) x_32) fun r_33 =>
        Fk n n y_24 y_25 (W (y_25 + 1)) y_26 r_33.1 r_33.2.1 r_33.2.2 y_30 y_31
         (fun z_34 z_35 z_36 z_37 z_38 z_39 z_40 z_41 => (
          f z_34 (W (z_35 + 1)) z_36 z_37 z_38 z_39 z_40 z_41)))))
     bif (decide (z_4 > z_3)) then
      ob (f138 n (z_6, z_7, z_8)) fun r_12 =>
      N2 n n z_2 z_3 z_4 0 z_5 r_12.1 r_12.2.1 r_12.2.2 z_9 z_10
       (fun z_13 z_14 z_15 z_16 z_17 z_18 z_19 z_20 z_21 => (
        gd (decide (0 ≤ z_15) && decide (z_15 < (z_21.length : Int))) (
         gd (decide (z_15.toNat < z_21.length)) (
          let x_22 := z_21.getD z_15.toNat (false, [], [])
          gd (decide (0 ≤ z_14) && decide (z_14 < (z_21.length : Int))) (
           gd (decide (z_14.toNat < z_21.length)) (
            let x_23 := z_21.getD z_14.toNat (false, [], [])
            gd (decide (0 ≤ z_15) && decide (z_15 < (z_21.length : Int))) (
             gd (decide (z_15.toNat < z_21.length)) (
              gd (decide (0 ≤ z_14) && decide (z_14 < (((z_21.set z_15.toNat x_23).length : Nat) : Int))) (
               gd (decide (z_14.toNat < (z_21.set z_15.toNat x_23).length)) (
                J_42 z_13 z_14 z_16 z_17 z_18 z_19 z_20 ((z_21.set z_15.toNat x_23).set z_14.toNat x_22)))))))))))
     else
      J_42 z_2 z_3 z_5 z_6 z_7 z_8 z_9 z_10))
 else
  k1 c6_0 c8_0 c8_1 c8_2 b19 b22
abbrev T5 : Tm := ⟨[(0, .k (.hw 19)), (1, .k (.hw 22)), (6, .k (.hp 6 0 0)), (7, .d hI), (8, .k (.hp 8 0 0)), (9, .d hI)], [(6, .var 30 true false [.d .bool, .d .nil, .d .nil]), (8, .var 30 true false [.d .bool, .d hIs, .d hIs]), (19, .arr 30 hR false), (22, .arr 30 hR false)], [], []⟩
abbrev Avb : Tm := ⟨[(4, .k (.hw 19)), (5, .k (.hw 22)), (6, .k (.hp 6 0 0))], [(6, .var 30 true false [.d .bool, .d hIs, .d hIs]), (19, .arr 30 hR false), (22, .arr 30 hR false)], [8], []⟩
abbrev Ava : Tm := ⟨[(0, .k (.hw 19)), (1, .k (.hw 22)), (6, .k (.hp 6 0 0)), (8, .k (.hp 8 0 0))], [(6, .var 30 true false [.d .bool, .d .nil, .d .nil]), (8, .var 30 true false [.d .bool, .d hIs, .d hIs]), (19, .arr 30 hR false), (22, .arr 30 hR false)], [], []⟩
abbrev A3x : List (Exit × Tm) := [(.ret, Avb), (.exit 0, Ava)]
def A3w {α : Type} (n : Nat) (v : T5.den) (f : T5.den → Option α) (ks : KS α A3x) : Option α := T6 n v.1.2.2.2.1 v.1.2.2.2.2.2.1 v.2.1.1 v.2.2.1.1 v.2.2.1.2.1 v.2.2.1.2.2.1 v.2.2.2.1 v.2.2.2.2.1 (fun s7 s9 c6_0 c8_0 c8_1 c8_2 b19 b22 => f (((), (), (), s7, (), s9, ()), ((c6_0, (), (), ()), (c8_0, c8_1, c8_2, ()), b19, b22, ()))) (fun w0 w1 w2 w3 w4 => ks.1 (((), (), (), ()), ((w0, w1, w2, ()), w3, w4, ()))) (fun w0 w1 w2 w3 w4 w5 => ks.2.1 (((), (), (), (), ()), ((w0, (), (), ()), (w1, w2, w3, ()), w4, w5, ())))
def Hh {α : Type} (n m : Nat) (s7 s9 : Int) (c6_0 c8_0 : Bool) (c8_1 c8_2 : LI) (b19 b22 : LR) (k0 : Bool → LI → LI → LR → LR → Option α) (k1 : Bool → Bool → LI → LI → LR → LR → Option α) : Option α := A4 (A3w n) m (((), (), (), s7, (), s9, ()), ((c6_0, (), (), ()), (c8_0, c8_1, c8_2, ()), b19, b22, ())) (fun w => k0 w.2.1.1 w.2.1.2.1 w.2.1.2.2.1 w.2.2.1 w.2.2.2.1, fun w => k1 w.2.1.1 w.2.2.1.1 w.2.2.1.2.1 w.2.2.1.2.2.1 w.2.2.2.1 w.2.2.2.2.1, ())
theorem Abs {α n m s7 s9 c6_0 c8_0 c8_1 c8_2 b19 b22 k0 k1} : Hh (α := α) n (m + 1) s7 s9 c6_0 c8_0 c8_1 c8_2 b19 b22 k0 k1 = T6 n s7 s9 c6_0 c8_0 c8_1 c8_2 b19 b22 (fun s7 s9 c6_0 c8_0 c8_1 c8_2 b19 b22 => Hh n m s7 s9 c6_0 c8_0 c8_1 c8_2 b19 b22 k0 k1) k0 k1 := rfl
abbrev Agp : Tm := ⟨[(0, .k (.hw 19)), (1, .k (.hw 22)), (6, .k (.hp 6 0 0)), (7, .d hI), (8, .k (.hp 8 0 0)), (9, .d hI), (14, .d hI)], [(6, .var 30 true false [.d .bool, .d .nil, .d .nil]), (8, .var 30 true false [.d .bool, .d hIs, .d hIs]), (19, .arr 30 hR false), (22, .arr 30 hR false)], [], []⟩
abbrev Azm : Tm := ⟨[(0, .k (.hw 19)), (1, .k (.hw 22)), (6, .k (.hp 6 0 0)), (7, .d hI), (8, .k (.hp 8 0 0)), (9, .d hI)], [(6, .var 30 true false [.d .bool, .d .nil, .d .nil]), (8, .var 30 true false [.d .bool, .d hIs, .d hIs]), (19, .arr 30 hR false), (22, .arr 30 hR false)], [13], []⟩
def f115 (n : Nat) (a0 a1 : LR) : Option (LR × LR × Rq) :=
 gd (decide ((0 + a0.length) * 56 ≤ 140737488355328)) (
  gd (decide ((0 + a1.length) * 56 ≤ 140737488355328)) (
   ob (f106 n 1) fun r_1 =>
   Hh n n (a1.length : Int) 0 false r_1.1 r_1.2.1 r_1.2.2 a0 a1
    (fun z_43 z_44 z_45 z_46 z_47 => (
     some (z_46, z_47, (z_43, z_44, z_45))))
    (fun z_48 z_49 z_50 z_51 z_52 z_53 => (
     some (z_52, z_53, (z_49, z_50, z_51))))))
def Avc (n : Nat) : Ent := ⟨115, [hRs, hRs], [hRs, hRs, hR], fun x => f115 n x.1 x.2⟩
def N3 (α : Type) (n : Nat) : D3 α := { reg := [(2, ⟨0, [], [(0, { sh := some hR })]⟩), (3, ⟨0, [], [(0, { sh := some hR })]⟩), (4, ⟨0, [], [(0, { ent := some (E6 n) })]⟩), (9, ⟨0, [], [(12, { ent := some (A6n n) })]⟩), (12, ⟨0, [], [(2, { ent := some (E6 n) })]⟩), (14, ⟨0, [], [(1, { ent := some (A6a n) })]⟩), (24, ⟨9, [], [(9, { ent := some (Gk n) })]⟩), (28, ⟨0, [], [(16, { ent := some (Ex n) })]⟩), (32, ⟨25, [], [(23, { ent := some (Gk n) }), (24, { ent := some (A6m n) })]⟩), (33, ⟨13, [], [(11, { ent := some (Gk n) }), (12, { ent := some (A6m n) })]⟩), (34, ⟨5, [], []⟩)], join := [(24, Azm)], loop := [(9, ⟨T3, A3v, A4 (A3u n) n⟩), (16, ⟨Ny, X0, A4 (Wz n) n⟩), (30, ⟨Nw, Wu, A4 (Wt n) n⟩), (26, ⟨Nx, Wx, A4 (Ww n) n⟩), (6, ⟨T5, A3x, A4 (A3w n) n⟩)], any := [(28, Agp)] }
set_option maxHeartbeats 8000000 in
theorem Azn (n : Nat) : Cj TT ⟨193, []⟩ [(16, { ent := some (Ex n) })] Agp (Ak ((A2 Tryz.f115).at [1, 1, 1, 1, 1, 0, 1, 0, 0, 1, 0, 0, 1, 1, 1, 1, 1, 1, 0, 0, 1, 0, 0, 0])) := by
 refine ⟨by kernel_rfl, fun w q hq => ?_⟩
 have e : WT [(16, { ent := some (Ex n) })] (Ab (Ak ((A2 Tryz.f115).at [1, 1, 1, 1, 1, 0, 1, 0, 0, 1, 0, 0, 1, 1, 1, 1, 1, 1, 0, 0, 1, 0, 0, 0])).toList) q = (∃ (y0 : HL (Ex n).rs) (q0 : List (Nat × RV)), q = (16, .sv (C2 (Ex n).rs y0)) :: q0 ∧ q0 = []) := by kernel_rfl
 rw [e] at hq
 obtain ⟨y0, q0, rfl, rfl⟩ := hq
 all_goals exact .inr ⟨18, by kernel_rfl, by kernel_rfl, by kernel_rfl⟩
theorem Hg (α : Type) (n : Nat) : Al PP (Ad (N3 α n).reg) := ⟨Hi n, A9l n, Hi n, A9b n, Pm n, A9k n, Pm n, A9j n, Pm n, A9j n, trivial⟩
theorem Av7 (α : Type) (n : Nat) : D3.OK PP TT ⟨193, []⟩ (N3 α n) ((A2 Tryz.f115).at [1, 1, 1, 1, 1, 0, 1, 0, 0, 1, 0, 0, 1, 0, 0, 0]) :=
 D3.OK.mk3a (Hg α n) (show Aa ((A2 Tryz.f115).at [1, 1, 1, 1, 1, 0, 1, 0, 0, 1, 0, 0, 1, 0, 0, 0]) = [] by kernel_rfl) trivial (show B1 ((A2 Tryz.f115).at [1, 1, 1, 1, 1, 0, 1, 0, 0, 1, 0, 0, 1, 0, 0, 0]) = [] by kernel_rfl) trivial
theorem Aoi (α : Type) (n : Nat) : LO.Sound (α := α) PP ⟨193, []⟩ ⟨T3, A3v, A4 (A3u n) n⟩ (.loop ((A2 Tryz.f115).at [1, 1, 1, 1, 1, 0, 1, 0, 0, 1, 0, 0, 1, 0, 0, 0])) := lk (Av7 α n) n
theorem Aor (α : Type) (n : Nat) : D3.OK PP TT ⟨193, []⟩ (N3 α n) ((A2 Tryz.f115).at [1, 1, 1, 1, 1, 0, 1, 0, 0, 1, 0, 0, 1, 1, 1, 0, 1, 0, 1, 0, 1, 0, 0]) :=
 D3.OK.mk3a (Hg α n) (show Aa ((A2 Tryz.f115).at [1, 1, 1, 1, 1, 0, 1, 0, 0, 1, 0, 0, 1, 1, 1, 0, 1, 0, 1, 0, 1, 0, 0]) = [] by kernel_rfl) trivial (show B1 ((A2 Tryz.f115).at [1, 1, 1, 1, 1, 0, 1, 0, 0, 1, 0, 0, 1, 1, 1, 0, 1, 0, 1, 0, 1, 0, 0]) = [] by kernel_rfl) trivial
theorem Aiz (α : Type) (n : Nat) : LO.Sound (α := α) PP ⟨193, []⟩ ⟨Ny, X0, A4 (Wz n) n⟩ (.loop ((A2 Tryz.f115).at [1, 1, 1, 1, 1, 0, 1, 0, 0, 1, 0, 0, 1, 1, 1, 0, 1, 0, 1, 0, 1, 0, 0])) := lk (Aor α n) n
theorem Aol (α : Type) (n : Nat) : D3.OK PP TT ⟨193, []⟩ (N3 α n) ((A2 Tryz.f115).at [1, 1, 1, 1, 1, 0, 1, 0, 0, 1, 0, 0, 1, 1, 1, 1, 1, 1, 0, 0, 1, 0, 0, 1, 0, 1, 0, 0]) :=
 D3.OK.mk3a (Hg α n) (show Aa ((A2 Tryz.f115).at [1, 1, 1, 1, 1, 0, 1, 0, 0, 1, 0, 0, 1, 1, 1, 1, 1, 1, 0, 0, 1, 0, 0, 1, 0, 1, 0, 0]) = [] by kernel_rfl) trivial (show B1 ((A2 Tryz.f115).at [1, 1, 1, 1, 1, 0, 1, 0, 0, 1, 0, 0, 1, 1, 1, 1, 1, 1, 0, 0, 1, 0, 0, 1, 0, 1, 0, 0]) = [(32, Ak ((A2 Tryz.f115).at [1, 1, 1, 1, 1, 0, 1, 0, 0, 1, 0, 0, 1, 1, 1, 1, 1, 1, 0, 0, 1, 0, 0, 1, 0, 1, 0, 0, 1, 0, 0]))] by kernel_rfl) ⟨fun X h => (by cases h), trivial⟩
theorem Aix (α : Type) (n : Nat) : LO.Sound (α := α) PP ⟨193, []⟩ ⟨Nw, Wu, A4 (Wt n) n⟩ (.loop ((A2 Tryz.f115).at [1, 1, 1, 1, 1, 0, 1, 0, 0, 1, 0, 0, 1, 1, 1, 1, 1, 1, 0, 0, 1, 0, 0, 1, 0, 1, 0, 0])) := lk (Aol α n) n
theorem Aoo (α : Type) (n : Nat) : D3.OK PP TT ⟨193, []⟩ (N3 α n) ((A2 Tryz.f115).at [1, 1, 1, 1, 1, 0, 1, 0, 0, 1, 0, 0, 1, 1, 1, 1, 1, 1, 0, 0]) :=
 D3.OK.mk3a (Hg α n) (show Aa ((A2 Tryz.f115).at [1, 1, 1, 1, 1, 0, 1, 0, 0, 1, 0, 0, 1, 1, 1, 1, 1, 1, 0, 0]) = [(30, (.loop ((A2 Tryz.f115).at [1, 1, 1, 1, 1, 0, 1, 0, 0, 1, 0, 0, 1, 1, 1, 1, 1, 1, 0, 0, 1, 0, 0, 1, 0, 1, 0, 0])))] by kernel_rfl) ⟨A8 rfl (Aix α n), trivial⟩ (show B1 ((A2 Tryz.f115).at [1, 1, 1, 1, 1, 0, 1, 0, 0, 1, 0, 0, 1, 1, 1, 1, 1, 1, 0, 0]) = [(28, Ak ((A2 Tryz.f115).at [1, 1, 1, 1, 1, 0, 1, 0, 0, 1, 0, 0, 1, 1, 1, 1, 1, 1, 0, 0, 1, 0, 0, 0])), (33, Ak ((A2 Tryz.f115).at [1, 1, 1, 1, 1, 0, 1, 0, 0, 1, 0, 0, 1, 1, 1, 1, 1, 1, 0, 0, 1, 0, 0, 1, 1]))] by kernel_rfl) ⟨fun X h => (by cases h; exact Azn n), fun X h => (by cases h), trivial⟩
theorem Aiy (α : Type) (n : Nat) : LO.Sound (α := α) PP ⟨193, []⟩ ⟨Nx, Wx, A4 (Ww n) n⟩ (.loop ((A2 Tryz.f115).at [1, 1, 1, 1, 1, 0, 1, 0, 0, 1, 0, 0, 1, 1, 1, 1, 1, 1, 0, 0])) := lk (Aoo α n) n
theorem Av9 (α : Type) (n : Nat) : D3.OK PP TT ⟨193, []⟩ (N3 α n) ((A2 Tryz.f115).at [1, 1, 1, 1, 1, 0, 1, 0, 0]) :=
 D3.OK.mk3a (Hg α n) (show Aa ((A2 Tryz.f115).at [1, 1, 1, 1, 1, 0, 1, 0, 0]) = [(9, (.loop ((A2 Tryz.f115).at [1, 1, 1, 1, 1, 0, 1, 0, 0, 1, 0, 0, 1, 0, 0, 0]))), (16, (.loop ((A2 Tryz.f115).at [1, 1, 1, 1, 1, 0, 1, 0, 0, 1, 0, 0, 1, 1, 1, 0, 1, 0, 1, 0, 1, 0, 0]))), (26, (.loop ((A2 Tryz.f115).at [1, 1, 1, 1, 1, 0, 1, 0, 0, 1, 0, 0, 1, 1, 1, 1, 1, 1, 0, 0])))] by kernel_rfl) ⟨A8 rfl (Aoi α n), A8 rfl (Aiz α n), A8 rfl (Aiy α n), trivial⟩ (show B1 ((A2 Tryz.f115).at [1, 1, 1, 1, 1, 0, 1, 0, 0]) = [(24, Ak ((A2 Tryz.f115).at [1, 1, 1, 1, 1, 0, 1, 0, 0, 1, 0, 0, 1, 1, 1, 1, 0]))] by kernel_rfl) ⟨fun X h => (by cases h), trivial⟩
theorem Aoj (α : Type) (n : Nat) : LO.Sound (α := α) PP ⟨193, []⟩ ⟨T5, A3x, A4 (A3w n) n⟩ (.loop ((A2 Tryz.f115).at [1, 1, 1, 1, 1, 0, 1, 0, 0])) := lk (Av9 α n) n
theorem B7w (α : Type) (n : Nat) : D3.OK PP TT ⟨193, []⟩ (N3 α n) (A2 Tryz.f115) :=
 D3.OK.mk3a (Hg α n) (show Aa (A2 Tryz.f115) = [(6, (.loop ((A2 Tryz.f115).at [1, 1, 1, 1, 1, 0, 1, 0, 0])))] by kernel_rfl) ⟨A8 rfl (Aoj α n), trivial⟩ (show B1 (A2 Tryz.f115) = [(34, Ak ((A2 Tryz.f115).at [1, 1, 1, 1, 1, 1, 0]))] by kernel_rfl) ⟨fun X h => (by cases h), trivial⟩
theorem B3u (n : Nat) : (Avc n).Sound PP := fk (fn := Tryz.f115) (B7w _ n) 

def A8k {α : Type} (n : Nat) (s0 : LR) (s1 s5 s6 : Int) (f : LR → Int → Int → Int → Option α) (k0 : Bool → Option α) (k1 : LR → Int → Int → Option α) : Option α :=
 bif (decide (s6 < s5)) then
  gd (decide (0 ≤ (W ((W (s5 * s1)) + s6))) && decide ((W ((W (s5 * s1)) + s6)) < (s0.length : Int))) (
   let x_1 := s0.getD ((W ((W (s5 * s1)) + s6)).toNat) (false, [], [])
   gd (decide (0 ≤ (W ((W (s6 * s1)) + s5))) && decide ((W ((W (s6 * s1)) + s5)) < (s0.length : Int))) (
    let x_2 := s0.getD ((W ((W (s6 * s1)) + s5)).toNat) (false, [], [])
    ob (f134 n x_1 x_2) fun r_3 =>
    bif (r_3 != 0) then
     k0 false
    else
     f s0 s1 s5 (W (s6 + 1))))
 else
  k1 s0 s1 s5
abbrev Yk : Tm := ⟨[(0, .d hRs), (1, .d hI), (5, .d hI), (6, .d hI)], [], [], []⟩
abbrev Ayp : Tm := ⟨[(4, .d .bool)], [], [], []⟩
abbrev Ayo : Tm := ⟨[(0, .d hRs), (1, .d hI), (5, .d hI)], [], [], []⟩
abbrev A8j : List (Exit × Tm) := [(.ret, Ayp), (.exit 2, Ayo)]
def A8i {α : Type} (n : Nat) (v : Yk.den) (f : Yk.den → Option α) (ks : KS α A8j) : Option α := A8k n v.1.1 v.1.2.1 v.1.2.2.1 v.1.2.2.2.1 (fun s0 s1 s5 s6 => f ((s0, s1, s5, s6, ()), ())) (fun w0 => ks.1 ((w0, ()), ())) (fun w0 w1 w2 => ks.2.1 ((w0, w1, w2, ()), ()))
def Vt {α : Type} (n m : Nat) (s0 : LR) (s1 s5 s6 : Int) (k0 : Bool → Option α) (k1 : LR → Int → Int → Option α) : Option α := A4 (A8i n) m ((s0, s1, s5, s6, ()), ()) (fun w => k0 w.1.1, fun w => k1 w.1.1 w.1.2.1 w.1.2.2.1, ())
theorem Ayn {α n m s0 s1 s5 s6 k0 k1} : Vt (α := α) n (m + 1) s0 s1 s5 s6 k0 k1 = A8k n s0 s1 s5 s6 (fun s0 s1 s5 s6 => Vt n m s0 s1 s5 s6 k0 k1) k0 k1 := rfl
def A8n {α : Type} (n : Nat) (s0 : LR) (s1 s5 : Int) (f : LR → Int → Int → Option α) (k0 : Bool → Option α) (k1 : LR → Int → Option α) : Option α :=
 bif (decide (s5 < s1)) then
  Vt n n s0 s1 s5 0
   (fun z_1 => (
    k0 z_1))
   (fun z_2 z_3 z_4 => (
    f z_2 z_3 (W (z_4 + 1))))
 else
  k1 s0 s1
abbrev Yl : Tm := ⟨[(0, .d hRs), (1, .d hI), (5, .d hI)], [], [], []⟩
abbrev Ayt : Tm := ⟨[(4, .d .bool)], [], [], []⟩
abbrev Ays : Tm := ⟨[(0, .d hRs), (1, .d hI)], [], [], []⟩
abbrev A8m : List (Exit × Tm) := [(.ret, Ayt), (.exit 0, Ays)]
def A8l {α : Type} (n : Nat) (v : Yl.den) (f : Yl.den → Option α) (ks : KS α A8m) : Option α := A8n n v.1.1 v.1.2.1 v.1.2.2.1 (fun s0 s1 s5 => f ((s0, s1, s5, ()), ())) (fun w0 => ks.1 ((w0, ()), ())) (fun w0 w1 => ks.2.1 ((w0, w1, ()), ()))
def M1 {α : Type} (n m : Nat) (s0 : LR) (s1 s5 : Int) (k0 : Bool → Option α) (k1 : LR → Int → Option α) : Option α := A4 (A8l n) m ((s0, s1, s5, ()), ()) (fun w => k0 w.1.1, fun w => k1 w.1.1 w.1.2.1, ())
theorem Ayq {α n m s0 s1 s5 k0 k1} : M1 (α := α) n (m + 1) s0 s1 s5 k0 k1 = A8n n s0 s1 s5 (fun s0 s1 s5 => M1 n m s0 s1 s5 k0 k1) k0 k1 := rfl
def A1f {α : Type} (n : Nat) (s0 : LR) (s1 s7 s9 : Int) (b46 : LR) (f : LR → Int → Int → Int → LR → Option α) (k0 : LR → Int → Int → LR → Option α) : Option α :=
 bif (decide (s9 < s7)) then
  gd (decide (0 ≤ (W (s9 * s1))) && decide ((W (s9 * s1)) ≤ (W ((W (s9 * s1)) + s7))) && decide ((W ((W (s9 * s1)) + s7)) ≤ (s0.length : Int))) (
   gd (decide ((b46.length + ((s0.drop ((W (s9 * s1)).toNat)).take ((W ((W (s9 * s1)) + s7)).toNat - (W (s9 * s1)).toNat)).length) * 56 ≤ 140737488355328)) (
    f s0 s1 s7 (W (s9 + 1)) (b46 ++ ((s0.drop ((W (s9 * s1)).toNat)).take ((W ((W (s9 * s1)) + s7)).toNat - (W (s9 * s1)).toNat)))))
 else
  k0 s0 s1 s7 b46
abbrev Qz : Tm := ⟨[(0, .d hRs), (1, .d hI), (7, .d hI), (8, .k (.hw 46)), (9, .d hI)], [(46, .arr 30 hR false)], [], []⟩
abbrev As4 : Tm := ⟨[(0, .d hRs), (1, .d hI), (7, .d hI), (8, .k (.hw 46))], [(46, .arr 30 hR false)], [], []⟩
abbrev A1e : List (Exit × Tm) := [(.exit 6, As4)]
def A1d {α : Type} (n : Nat) (v : Qz.den) (f : Qz.den → Option α) (ks : KS α A1e) : Option α := A1f n v.1.1 v.1.2.1 v.1.2.2.1 v.1.2.2.2.2.1 v.2.1 (fun s0 s1 s7 s9 b46 => f ((s0, s1, s7, (), s9, ()), (b46, ()))) (fun w0 w1 w2 w3 => ks.1 ((w0, w1, w2, (), ()), (w3, ())))
def Pa {α : Type} (n m : Nat) (s0 : LR) (s1 s7 s9 : Int) (b46 : LR) (k0 : LR → Int → Int → LR → Option α) : Option α := A4 (A1d n) m ((s0, s1, s7, (), s9, ()), (b46, ())) (fun w => k0 w.1.1 w.1.2.1 w.1.2.2.1 w.2.1, ())
theorem As3 {α n m s0 s1 s7 s9 b46 k0} : Pa (α := α) n (m + 1) s0 s1 s7 s9 b46 k0 = A1f n s0 s1 s7 s9 b46 (fun s0 s1 s7 s9 b46 => Pa n m s0 s1 s7 s9 b46 k0) k0 := rfl
def R4 {α : Type} (n : Nat) (s0 : LR) (s1 s7 : Int) (f : LR → Int → Int → Option α) (k0 : Bool → Option α) (k1 : Unit → Option α) : Option α :=
 bif (decide (s7 ≤ s1)) then
  Pa n n s0 s1 s7 0 []
   (fun z_8 z_9 z_10 z_11 => (
    ob (f117 n z_10) fun r_12 =>
    ob (f115 n z_11 r_12) fun r_13 =>
    ob (f135 n r_13.2.2) fun r_14 =>
    bif (decide (r_14 ≤ 0)) then
     k0 false
    else
     f z_8 z_9 (W (z_10 + 1))))
 else
  k1 ()
abbrev R0 : Tm := ⟨[(0, .d hRs), (1, .d hI), (7, .d hI)], [], [12, 46], []⟩
abbrev As7 : Tm := ⟨[(4, .d .bool)], [], [12, 46], []⟩
abbrev As6 : Tm := ⟨[], [], [], []⟩
abbrev A1h : List (Exit × Tm) := [(.ret, As7), (.exit 4, As6)]
def A1g {α : Type} (n : Nat) (v : R0.den) (f : R0.den → Option α) (ks : KS α A1h) : Option α := R4 n v.1.1 v.1.2.1 v.1.2.2.1 (fun s0 s1 s7 => f ((s0, s1, s7, ()), ())) (fun w0 => ks.1 ((w0, ()), ())) (fun _ => ks.2.1 ((), ()))
def Fx {α : Type} (n m : Nat) (s0 : LR) (s1 s7 : Int) (k0 : Bool → Option α) (k1 : Unit → Option α) : Option α := A4 (A1g n) m ((s0, s1, s7, ()), ()) (fun w => k0 w.1.1, fun w => k1 (), ())
theorem Aax {α n m s0 s1 s7 k0 k1} : Fx (α := α) n (m + 1) s0 s1 s7 k0 k1 = R4 n s0 s1 s7 (fun s0 s1 s7 => Fx n m s0 s1 s7 k0 k1) k0 k1 := rfl
def f66 (n : Nat) (a0 : LR) (a1 : Int) : Option Bool :=
 M1 n n a0 a1 0
  (fun z_5 => (
   some z_5))
  (fun z_6 z_7 => (
   Fx n n z_6 z_7 1
    (fun z_15 => (
     some z_15))
    (fun (_ : Unit) => (
     some true))))
def Amn (n : Nat) : Ent := ⟨66, [hRs, hI], [.bool], fun x => f66 n x.1 x.2⟩
def Ym (α : Type) (n : Nat) : D3 α := { reg := [(7, ⟨16, [], [(16, { ent := some (Auu n) })]⟩), (12, ⟨0, [], [(0, { sh := some hR })]⟩), (17, ⟨0, [], [(2, { ent := some (Agn n) }), (3, { ent := some (Avc n), fz := [(65, hRs)] })]⟩), (18, ⟨0, [], [(1, { ent := some (Agj n) })]⟩)], join := [], loop := [(5, ⟨Yk, A8j, A4 (A8i n) n⟩), (2, ⟨Yl, A8m, A4 (A8l n) n⟩), (14, ⟨Qz, A1e, A4 (A1d n) n⟩), (10, ⟨R0, A1h, A4 (A1g n) n⟩)] }
theorem M0 (α : Type) (n : Nat) : Al PP (Ad (Ym α n).reg) := ⟨B3i n, Aku n, B3u n, Aks n, trivial⟩
theorem As1 (α : Type) (n : Nat) : LO.Sound (α := α) PP ⟨75, []⟩ ⟨Yk, A8j, A4 (A8i n) n⟩ (.loop ((A2 Tryz.f66).at [1, 0, 1, 0, 0, 1, 0, 0, 1, 0, 0])) := Bm (D := Ym α n) (M0 α n) n
theorem Ayr (α : Type) (n : Nat) : D3.OK PP TT ⟨75, []⟩ (Ym α n) ((A2 Tryz.f66).at [1, 0, 1, 0, 0]) :=
 D3.OK.mk3 (M0 α n) (show Aa ((A2 Tryz.f66).at [1, 0, 1, 0, 0]) = [(5, (.loop ((A2 Tryz.f66).at [1, 0, 1, 0, 0, 1, 0, 0, 1, 0, 0])))] by kernel_rfl) ⟨A8 rfl (As1 α n), trivial⟩
theorem As2 (α : Type) (n : Nat) : LO.Sound (α := α) PP ⟨75, []⟩ ⟨Yl, A8m, A4 (A8l n) n⟩ (.loop ((A2 Tryz.f66).at [1, 0, 1, 0, 0])) := lk (Ayr α n) n
theorem Aml (α : Type) (n : Nat) : LO.Sound (α := α) PP ⟨75, []⟩ ⟨Qz, A1e, A4 (A1d n) n⟩ (.loop ((A2 Tryz.f66).at [1, 1, 0, 1, 0, 0, 1, 0, 0, 1, 0, 1, 0, 0])) := Bm (D := Ym α n) (M0 α n) n
theorem As5 (α : Type) (n : Nat) : D3.OK PP TT ⟨75, []⟩ (Ym α n) ((A2 Tryz.f66).at [1, 1, 0, 1, 0, 0]) :=
 D3.OK.mk3 (M0 α n) (show Aa ((A2 Tryz.f66).at [1, 1, 0, 1, 0, 0]) = [(14, (.loop ((A2 Tryz.f66).at [1, 1, 0, 1, 0, 0, 1, 0, 0, 1, 0, 1, 0, 0])))] by kernel_rfl) ⟨A8 rfl (Aml α n), trivial⟩
theorem Amm (α : Type) (n : Nat) : LO.Sound (α := α) PP ⟨75, []⟩ ⟨R0, A1h, A4 (A1g n) n⟩ (.loop ((A2 Tryz.f66).at [1, 1, 0, 1, 0, 0])) := lk (As5 α n) n
theorem B9k (α : Type) (n : Nat) : D3.OK PP TT ⟨75, []⟩ (Ym α n) (A2 Tryz.f66) :=
 D3.OK.mk3 (M0 α n) (show Aa (A2 Tryz.f66) = [(2, (.loop ((A2 Tryz.f66).at [1, 0, 1, 0, 0]))), (10, (.loop ((A2 Tryz.f66).at [1, 1, 0, 1, 0, 0])))] by kernel_rfl) ⟨A8 rfl (As2 α n), A8 rfl (Amm α n), trivial⟩
theorem As0 (n : Nat) : (Amn n).Sound PP := fk (fn := Tryz.f66) (B9k _ n) 

def A3l {α : Type} (n : Nat) (s0 s1 : LR) (s5 s7 : Int) (b10 : LR) (f : LR → LR → Int → Int → LR → Option α) (k0 : LR → Option α) : Option α :=
 bif (decide (s7 < s5)) then
  gd (decide (0 ≤ (W (s7 * s5))) && decide ((W (s7 * s5)) ≤ (W ((W (s7 + 1)) * s5))) && decide ((W ((W (s7 + 1)) * s5)) ≤ (s0.length : Int))) (
   ob (f120 n ((s0.drop ((W (s7 * s5)).toNat)).take ((W ((W (s7 + 1)) * s5)).toNat - (W (s7 * s5)).toNat)) s1) fun r_1 =>
   gd (decide ((b10.length + 1) * 56 ≤ 140737488355328)) (
    f s0 s1 s5 (W (s7 + 1)) (b10 ++ [r_1])))
 else
  k0 b10
abbrev Sk : Tm := ⟨[(0, .d hRs), (1, .d hRs), (5, .d hI), (6, .k (.hw 10)), (7, .d hI)], [(10, .arr 30 hR false)], [28], []⟩
abbrev Aus : Tm := ⟨[(6, .k (.hw 10))], [(10, .arr 30 hR false)], [], []⟩
abbrev A3k : List (Exit × Tm) := [(.exit 0, Aus)]
def A3j {α : Type} (n : Nat) (v : Sk.den) (f : Sk.den → Option α) (ks : KS α A3k) : Option α := A3l n v.1.1 v.1.2.1 v.1.2.2.1 v.1.2.2.2.2.1 v.2.1 (fun s0 s1 s5 s7 b10 => f ((s0, s1, s5, (), s7, ()), (b10, ()))) (fun w0 => ks.1 (((), ()), (w0, ())))
def Z5 {α : Type} (n m : Nat) (s0 s1 : LR) (s5 s7 : Int) (b10 : LR) (k0 : LR → Option α) : Option α := A4 (A3j n) m ((s0, s1, s5, (), s7, ()), (b10, ())) (fun w => k0 w.2.1, ())
theorem Aur {α n m s0 s1 s5 s7 b10 k0} : Z5 (α := α) n (m + 1) s0 s1 s5 s7 b10 k0 = A3l n s0 s1 s5 s7 b10 (fun s0 s1 s5 s7 b10 => Z5 n m s0 s1 s5 s7 b10 k0) k0 := rfl
def f136 (n : Nat) (a0 a1 : LR) : Option LR :=
 Z5 n n a0 a1 (a1.length : Int) 0 []
  (fun z_2 => (
   some z_2))
def Aut (n : Nat) : Ent := ⟨136, [hRs, hRs], [hRs], fun x => f136 n x.1 x.2⟩
def Agi (α : Type) (n : Nat) : D3 α := { reg := [(2, ⟨0, [], [(0, { sh := some hR })]⟩), (6, ⟨0, [], [(11, { ent := some (Dc n) }), (12, { sh := some hR })]⟩)], join := [], loop := [(4, ⟨Sk, A3k, A4 (A3j n) n⟩)] }
theorem Abm (α : Type) (n : Nat) : Al PP (Ad (Agi α n).reg) := ⟨Py n, trivial⟩
theorem Ao8 (α : Type) (n : Nat) : LO.Sound (α := α) PP ⟨31, []⟩ ⟨Sk, A3k, A4 (A3j n) n⟩ (.loop ((A2 Tryz.f136).at [1, 1, 1, 0, 1, 0, 0])) := Bm (D := Agi α n) (Abm α n) n
theorem B7g (α : Type) (n : Nat) : D3.OK PP TT ⟨31, []⟩ (Agi α n) (A2 Tryz.f136) :=
 D3.OK.mk3 (Abm α n) (show Aa (A2 Tryz.f136) = [(4, (.loop ((A2 Tryz.f136).at [1, 1, 1, 0, 1, 0, 0])))] by kernel_rfl) ⟨A8 rfl (Ao8 α n), trivial⟩
theorem B3h (n : Nat) : (Aut n).Sound PP := fk (fn := Tryz.f136) (B7g _ n) 

def A3i {α : Type} (n : Nat) (s1 s2 : LR) (s8 : Int) (c3_0 : Bool) (c3_1 c3_2 : LI) (b9 : LR) (f : LR → LR → Int → Bool → LI → LI → LR → Option α) (k0 : LR → Option α) : Option α :=
 bif (decide (s8 < (s1.length : Int))) then
  gd (decide (0 ≤ s8) && decide (s8 < (s1.length : Int))) (
   let x_1 := s1.getD s8.toNat (false, [], [])
   ob (f176 n (c3_0, c3_1, c3_2) x_1) fun r_2 =>
   gd (decide (0 ≤ s8) && decide (s8 < (s2.length : Int))) (
    let x_3 := s2.getD s8.toNat (false, [], [])
    ob (f146 n r_2 x_3) fun r_4 =>
    gd (decide ((b9.length + 1) * 56 ≤ 140737488355328)) (
     f s1 s2 (W (s8 + 1)) c3_0 c3_1 c3_2 (b9 ++ [r_4]))))
 else
  k0 b9
abbrev Sj : Tm := ⟨[(1, .d hRs), (2, .d hRs), (3, .k (.hp 3 0 0)), (7, .k (.hw 9)), (8, .d hI)], [(3, .var 30 true false [.d .bool, .d hIs, .d hIs]), (9, .arr 30 hR false)], [28], []⟩
abbrev Auq : Tm := ⟨[(7, .k (.hw 9))], [(9, .arr 30 hR false)], [3], []⟩
abbrev A3h : List (Exit × Tm) := [(.exit 0, Auq)]
def A3g {α : Type} (n : Nat) (v : Sj.den) (f : Sj.den → Option α) (ks : KS α A3h) : Option α := A3i n v.1.1 v.1.2.1 v.1.2.2.2.2.1 v.2.1.1 v.2.1.2.1 v.2.1.2.2.1 v.2.2.1 (fun s1 s2 s8 c3_0 c3_1 c3_2 b9 => f ((s1, s2, (), (), s8, ()), ((c3_0, c3_1, c3_2, ()), b9, ()))) (fun w0 => ks.1 (((), ()), (w0, ())))
def Pw {α : Type} (n m : Nat) (s1 s2 : LR) (s8 : Int) (c3_0 : Bool) (c3_1 c3_2 : LI) (b9 : LR) (k0 : LR → Option α) : Option α := A4 (A3g n) m ((s1, s2, (), (), s8, ()), ((c3_0, c3_1, c3_2, ()), b9, ())) (fun w => k0 w.2.1, ())
theorem Auo {α n m s1 s2 s8 c3_0 c3_1 c3_2 b9 k0} : Pw (α := α) n (m + 1) s1 s2 s8 c3_0 c3_1 c3_2 b9 k0 = A3i n s1 s2 s8 c3_0 c3_1 c3_2 b9 (fun s1 s2 s8 c3_0 c3_1 c3_2 b9 => Pw n m s1 s2 s8 c3_0 c3_1 c3_2 b9 k0) k0 := rfl
abbrev Akr : Tm := ⟨[(1, .d hRs), (2, .d hRs), (3, .k (.hp 3 0 0)), (7, .k (.hw 9)), (8, .d hI)], [(3, .var 30 true false [.d .bool, .d hIs, .d hIs]), (9, .arr 30 hR false)], [], []⟩
def f137 (n : Nat) (a0 : Rq) (a1 a2 : LR) : Option LR :=
 Pw n n a1 a2 0 a0.1 a0.2.1 a0.2.2 []
  (fun z_5 => (
   some z_5))
def A6b (n : Nat) : Ent := ⟨137, [hR, hRs, hRs], [hRs], fun x => f137 n x.1 x.2.1 x.2.2⟩
def Agh (α : Type) (n : Nat) : D3 α := { reg := [(1, ⟨0, [], [(0, { sh := some hR })]⟩), (5, ⟨0, [], [(6, { ent := some (Gk n) }), (11, { ent := some (Dz n) }), (12, { sh := some hR })]⟩)], join := [], loop := [(3, ⟨Sj, A3h, A4 (A3g n) n⟩)], any := [(5, Akr)] }
set_option maxHeartbeats 8000000 in
theorem B3g (n : Nat) : Cj TT ⟨31, []⟩ [(6, { ent := some (Gk n) }), (11, { ent := some (Dz n) }), (12, { sh := some hR })] Akr (Ak ((A2 Tryz.f137).at [1, 1, 0, 1, 0, 0, 1, 0, 0])) := by
 refine ⟨by kernel_rfl, fun w q hq => ?_⟩
 have e : WT [(6, { ent := some (Gk n) }), (11, { ent := some (Dz n) }), (12, { sh := some hR })] (Ab (Ak ((A2 Tryz.f137).at [1, 1, 0, 1, 0, 0, 1, 0, 0])).toList) q = (∃ (y0 : HL (Gk n).rs) (q0 : List (Nat × RV)), q = (6, .sv (C2 (Gk n).rs y0)) :: q0 ∧ ∃ (y1 : HL (Dz n).rs) (q1 : List (Nat × RV)), q0 = (11, .sv (C2 (Dz n).rs y1)) :: q1 ∧ q1 = []) := by kernel_rfl
 rw [e] at hq
 obtain ⟨y0, q0, rfl, y1, q1, rfl, rfl⟩ := hq
 all_goals exact .inr ⟨13, by kernel_rfl, by kernel_rfl, by kernel_rfl⟩
theorem Abl (α : Type) (n : Nat) : Al PP (Ad (Agh α n).reg) := ⟨Pm n, Z4 n, trivial⟩
theorem Aup (α : Type) (n : Nat) : D3.OK PP TT ⟨31, []⟩ (Agh α n) ((A2 Tryz.f137).at [1, 1, 0, 1, 0, 0]) :=
 D3.OK.mk3a (Abl α n) (show Aa ((A2 Tryz.f137).at [1, 1, 0, 1, 0, 0]) = [] by kernel_rfl) trivial (show B1 ((A2 Tryz.f137).at [1, 1, 0, 1, 0, 0]) = [(5, Ak ((A2 Tryz.f137).at [1, 1, 0, 1, 0, 0, 1, 0, 0]))] by kernel_rfl) ⟨fun X h => (by cases h; exact B3g n), trivial⟩
theorem Ao7 (α : Type) (n : Nat) : LO.Sound (α := α) PP ⟨31, []⟩ ⟨Sj, A3h, A4 (A3g n) n⟩ (.loop ((A2 Tryz.f137).at [1, 1, 0, 1, 0, 0])) := lk (Aup α n) n
theorem B7f (α : Type) (n : Nat) : D3.OK PP TT ⟨31, []⟩ (Agh α n) (A2 Tryz.f137) :=
 D3.OK.mk3a (Abl α n) (show Aa (A2 Tryz.f137) = [(3, (.loop ((A2 Tryz.f137).at [1, 1, 0, 1, 0, 0])))] by kernel_rfl) ⟨A8 rfl (Ao7 α n), trivial⟩ (show B1 (A2 Tryz.f137) = [] by kernel_rfl) trivial
theorem A9c (n : Nat) : (A6b n).Sound PP := fk (fn := Tryz.f137) (B7f _ n) 

def A8h {α : Type} (n : Nat) (s0 : LR) (s2 : Int) (s7 s8 s9 : LR) (s10 : Int) (f : LR → Int → LR → LR → LR → Int → Option α) (k0 k1 : LR → Option α) : Option α :=
 bif (decide (s10 < s2)) then
  ob (f120 n s8 s8) fun r_2 =>
  ob (f116 n r_2) fun r_3 =>
  bif r_3 then
   k0 s7
  else
   ob (f136 n s0 s9) fun r_4 =>
   ob (f120 n s9 r_4) fun r_5 =>
   ob (f118 n r_2 r_5) fun r_6 =>
   ob (f137 n r_6 s9 s7) fun r_7 =>
   ob (f138 n r_6) fun r_8 =>
   ob (f137 n r_8 r_4 s8) fun r_9 =>
   ob (f120 n r_9 r_9) fun r_10 =>
   ob (f118 n r_10 r_2) fun r_11 =>
   ob (f137 n r_11 s9 r_9) fun r_12 =>
   f s0 s2 r_7 r_9 r_12 (W (s10 + 1))
 else
  k1 s7
abbrev Yj : Tm := ⟨[(0, .d hRs), (2, .d hI), (7, .d hRs), (8, .d hRs), (9, .d hRs), (10, .d hI)], [], [11, 13, 17, 20], [(8, hRs), (9, hRs)]⟩
abbrev Aym : Tm := ⟨[(6, .d hRs)], [], [11], []⟩
abbrev Ayl : Tm := ⟨[(7, .d hRs)], [], [], []⟩
abbrev A8g : List (Exit × Tm) := [(.ret, Aym), (.exit 0, Ayl)]
def A8f {α : Type} (n : Nat) (v : Yj.den) (f : Yj.den → Option α) (ks : KS α A8g) : Option α := A8h n v.1.1 v.1.2.1 v.1.2.2.1 v.1.2.2.2.1 v.1.2.2.2.2.1 v.1.2.2.2.2.2.1 (fun s0 s2 s7 s8 s9 s10 => f ((s0, s2, s7, s8, s9, s10, ()), ())) (fun w0 => ks.1 ((w0, ()), ())) (fun w0 => ks.2.1 ((w0, ()), ()))
def Vs {α : Type} (n m : Nat) (s0 : LR) (s2 : Int) (s7 s8 s9 : LR) (s10 : Int) (k0 k1 : LR → Option α) : Option α := A4 (A8f n) m ((s0, s2, s7, s8, s9, s10, ()), ()) (fun w => k0 w.1.1, fun w => k1 w.1.1, ())
theorem Ayj {α n m s0 s2 s7 s8 s9 s10 k0 k1} : Vs (α := α) n (m + 1) s0 s2 s7 s8 s9 s10 k0 k1 = A8h n s0 s2 s7 s8 s9 s10 (fun s0 s2 s7 s8 s9 s10 => Vs n m s0 s2 s7 s8 s9 s10 k0 k1) k0 k1 := rfl
abbrev Ak8 : Tm := ⟨[(0, .d hRs), (2, .d hI), (7, .d hRs), (8, .d hRs), (9, .d hRs), (10, .d hI), (11, .k (.hp 11 0 0)), (12, .d hRs)], [(11, .var 30 true false [.d .bool, .d hIs, .d hIs])], [], []⟩
def f67 (n : Nat) (a0 a1 : LR) (a2 : Int) : Option LR :=
 ob (f117 n (a1.length : Int)) fun r_1 =>
 gd (decide ((0 + a1.length) * 56 ≤ 140737488355328)) (
  gd (decide ((0 + a1.length) * 56 ≤ 140737488355328)) (
   Vs n n a0 a2 r_1 a1 a1 0
    (fun z_13 => (
     some z_13))
    (fun z_14 => (
     some z_14))))
def B0w (n : Nat) : Ent := ⟨67, [hRs, hRs, hI], [hRs], fun x => f67 n x.1 x.2.1 x.2.2⟩
def Amk (α : Type) (n : Nat) : D3 α := { reg := [(1, ⟨0, [], [(2, { ent := some (Agn n) })]⟩), (2, ⟨0, [], [(0, { sh := some hR })]⟩), (3, ⟨0, [], [(0, { sh := some hR })]⟩), (7, ⟨0, [], [(2, { ent := some (Dc n), fz := [(28, hRs), (29, hRs)] })]⟩), (8, ⟨0, [], [(1, { ent := some (A6n n) })]⟩), (10, ⟨0, [], [(2, { ent := some (Aut n), fz := [(35, hRs)] })]⟩), (11, ⟨0, [], [(3, { ent := some (Dc n), fz := [(38, hRs)] }), (4, { ent := some (Ex n) })]⟩), (12, ⟨0, [], [(3, { ent := some (A6b n), fz := [(43, hRs)] })]⟩), (13, ⟨0, [], [(1, { ent := some (A6a n) }), (4, { ent := some (A6b n), fz := [(49, hRs)] })]⟩), (14, ⟨7, [], [(2, { ent := some (Dc n) }), (4, { ent := some (Ex n) }), (7, { ent := some (A6b n), fz := [(56, hRs)] })]⟩)], join := [], loop := [(5, ⟨Yj, A8g, A4 (A8f n) n⟩)], any := [(11, Ak8)] }
set_option maxHeartbeats 8000000 in
theorem B26 (n : Nat) : Cj TT ⟨60, []⟩ [(3, { ent := some (Dc n), fz := [(38, hRs)] }), (4, { ent := some (Ex n) })] Ak8 (Ak ((A2 Tryz.f67).at [1, 1, 1, 1, 0, 1, 0, 0, 1, 0, 0, 1, 1, 1, 0])) := by
 refine ⟨by kernel_rfl, fun w q hq => ?_⟩
 have e : WT [(3, { ent := some (Dc n), fz := [(38, hRs)] }), (4, { ent := some (Ex n) })] (Ab (Ak ((A2 Tryz.f67).at [1, 1, 1, 1, 0, 1, 0, 0, 1, 0, 0, 1, 1, 1, 0])).toList) q = (∃ (y0 : HL (Dc n).rs) (q0 : List (Nat × RV)), q = (3, .sv (C2 (Dc n).rs y0)) :: q0 ∧ ∃ (y1 : HL (Ex n).rs) (q1 : List (Nat × RV)), q0 = (4, .sv (C2 (Ex n).rs y1)) :: q1 ∧ q1 = []) := by kernel_rfl
 rw [e] at hq
 obtain ⟨y0, q0, rfl, y1, q1, rfl, rfl⟩ := hq
 all_goals exact .inl (U0.mk (by kernel_rfl))
theorem Afa (α : Type) (n : Nat) : Al PP (Ad (Amk α n).reg) := ⟨Aku n, Py n, A9l n, B3h n, Py n, A9k n, A9c n, A9b n, A9c n, Py n, A9k n, A9c n, trivial⟩
theorem Ayk (α : Type) (n : Nat) : D3.OK PP TT ⟨60, []⟩ (Amk α n) ((A2 Tryz.f67).at [1, 1, 1, 1, 0, 1, 0, 0]) :=
 D3.OK.mk3a (Afa α n) (show Aa ((A2 Tryz.f67).at [1, 1, 1, 1, 0, 1, 0, 0]) = [] by kernel_rfl) trivial (show B1 ((A2 Tryz.f67).at [1, 1, 1, 1, 0, 1, 0, 0]) = [(11, Ak ((A2 Tryz.f67).at [1, 1, 1, 1, 0, 1, 0, 0, 1, 0, 0, 1, 1, 1, 0])), (14, Ak ((A2 Tryz.f67).at [1, 1, 1, 1, 0, 1, 0, 0, 1, 0, 0, 1, 1, 1, 1, 1, 1]))] by kernel_rfl) ⟨fun X h => (by cases h; exact B26 n), fun X h => (by cases h), trivial⟩
theorem Arz (α : Type) (n : Nat) : LO.Sound (α := α) PP ⟨60, []⟩ ⟨Yj, A8g, A4 (A8f n) n⟩ (.loop ((A2 Tryz.f67).at [1, 1, 1, 1, 0, 1, 0, 0])) := lk (Ayk α n) n
theorem B9j (α : Type) (n : Nat) : D3.OK PP TT ⟨60, []⟩ (Amk α n) (A2 Tryz.f67) :=
 D3.OK.mk3a (Afa α n) (show Aa (A2 Tryz.f67) = [(5, (.loop ((A2 Tryz.f67).at [1, 1, 1, 1, 0, 1, 0, 0])))] by kernel_rfl) ⟨A8 rfl (Arz α n), trivial⟩ (show B1 (A2 Tryz.f67) = [] by kernel_rfl) trivial
theorem B5s (n : Nat) : (B0w n).Sound PP := fk (fn := Tryz.f67) (B9j _ n) 

def f121 (n : Nat) (a0 : Rq) : Option Bool :=
 bif (decide ((a0.2.1.length : Int) ≤ 40)) then
  some (decide ((a0.2.2.length : Int) ≤ 40))
 else
  some false
def Av2 (n : Nat) : Ent := ⟨121, [hR], [.bool], fun x => f121 n x⟩
def B7q (α : Type) (n : Nat) : D3 α := { reg := [], join := [], loop := [] }
theorem B3t (n : Nat) : (Av2 n).Sound PP := Az (fn := Tryz.f121) (D := B7q _ n) trivial 

abbrev Akt : Tm := ⟨[(1, .k (.hp 1 0 0)), (2, .k (.hp 2 0 0))], [(1, .var 30 true false [.d .bool, .d hIs, .d hIs]), (2, .var 30 true false [.d .bool, .d .nil, .d .nil])], [], []⟩
def f122 (n : Nat) (a0 : Rq) : Option Rq :=
 gd (decide ((0 + a0.2.1.length) * 8 ≤ 140737488355328)) (
  gd (decide ((0 + a0.2.2.length) * 8 ≤ 140737488355328)) (
   some a0))
def Av0 (n : Nat) : Ent := ⟨122, [hR], [hR], fun x => f122 n x⟩
def Av1 (α : Type) (n : Nat) : D3 α := { reg := [(1, ⟨0, [], [(2, { sh := some hI }), (6, { sh := some hI })]⟩)], join := [], loop := [], any := [(1, Akt)] }
set_option maxHeartbeats 8000000 in
theorem B3s (n : Nat) : Cj TT ⟨14, []⟩ [(2, { sh := some hI }), (6, { sh := some hI })] Akt (Ak ((A2 Tryz.f122).at [1, 0])) := by
 refine ⟨by kernel_rfl, fun w q hq => ?_⟩
 have e : WT [(2, { sh := some hI }), (6, { sh := some hI })] (Ab (Ak ((A2 Tryz.f122).at [1, 0])).toList) q = (q = []) := by kernel_rfl
 rw [e] at hq
 obtain rfl := hq
 all_goals exact .inl (U0.mk (by kernel_rfl))
theorem Auz (α : Type) (n : Nat) : Al PP (Ad (Av1 α n).reg) := trivial
theorem B7p (α : Type) (n : Nat) : D3.OK PP TT ⟨14, []⟩ (Av1 α n) (A2 Tryz.f122) :=
 D3.OK.mk3a (Auz α n) (show Aa (A2 Tryz.f122) = [] by kernel_rfl) trivial (show B1 (A2 Tryz.f122) = [(1, Ak ((A2 Tryz.f122).at [1, 0]))] by kernel_rfl) ⟨fun X h => (by cases h; exact B3s n), trivial⟩
theorem B3r (n : Nat) : (Av0 n).Sound PP := fk (fn := Tryz.f122) (B7p _ n) 

def A8s {α : Type} (n : Nat) (s0 : LR) (s5 : Int) (b6 : LR) (f : LR → Int → LR → Option α) (k0 : Int → LR → Option α) (k1 : LR → Option α) : Option α :=
 bif (decide (s5 < (s0.length : Int))) then
  gd (decide (0 ≤ s5) && decide (s5 < (s0.length : Int))) (
   let x_1 := s0.getD s5.toNat (false, [], [])
   ob (f121 n x_1) fun r_2 =>
   bif (!r_2) then
    k0 7 []
   else
    gd (decide (0 ≤ s5) && decide (s5 < (s0.length : Int))) (
     let x_3 := s0.getD s5.toNat (false, [], [])
     ob (f122 n x_3) fun r_4 =>
     gd (decide ((b6.length + 1) * 56 ≤ 140737488355328)) (
      f s0 (W (s5 + 1)) (b6 ++ [r_4]))))
 else
  k1 b6
abbrev Yo : Tm := ⟨[(0, .d hRs), (4, .k (.hw 6)), (5, .d hI)], [(6, .arr 30 hR false)], [26], []⟩
abbrev Ayy : Tm := ⟨[(2, .k (.hw 19)), (3, .d hI)], [(19, .arr 30 hR false)], [6], []⟩
abbrev Ayx : Tm := ⟨[(4, .k (.hw 6))], [(6, .arr 30 hR false)], [], []⟩
abbrev A8r : List (Exit × Tm) := [(.ret, Ayy), (.exit 0, Ayx)]
def A8q {α : Type} (n : Nat) (v : Yo.den) (f : Yo.den → Option α) (ks : KS α A8r) : Option α := A8s n v.1.1 v.1.2.2.1 v.2.1 (fun s0 s5 b6 => f ((s0, (), s5, ()), (b6, ()))) (fun w0 w1 => ks.1 (((), w0, ()), (w1, ()))) (fun w0 => ks.2.1 (((), ()), (w0, ())))
def W5 {α : Type} (n m : Nat) (s0 : LR) (s5 : Int) (b6 : LR) (k0 : Int → LR → Option α) (k1 : LR → Option α) : Option α := A4 (A8q n) m ((s0, (), s5, ()), (b6, ())) (fun w => k0 w.1.2.1 w.2.1, fun w => k1 w.2.1, ())
theorem Ayw {α n m s0 s5 b6 k0 k1} : W5 (α := α) n (m + 1) s0 s5 b6 k0 k1 = A8s n s0 s5 b6 (fun s0 s5 b6 => W5 n m s0 s5 b6 k0 k1) k0 k1 := rfl
def f54 (n : Nat) (a0 : LR) : Option (LR × Int) :=
 W5 n n a0 0 []
  (fun z_5 z_6 => (
   some (z_6, z_5)))
  (fun z_7 => (
   some (z_7, 0)))
def B0y (n : Nat) : Ent := ⟨54, [hRs], [hRs, hI], fun x => f54 n x⟩
def Amw (α : Type) (n : Nat) : D3 α := { reg := [(1, ⟨0, [], [(0, { sh := some hR })]⟩), (5, ⟨0, [], [(4, { ent := some (Av2 n) })]⟩), (6, ⟨0, [], [(0, { sh := some hR })]⟩), (7, ⟨0, [], [(5, { ent := some (Av0 n) }), (6, { sh := some hR })]⟩)], join := [], loop := [(3, ⟨Yo, A8r, A4 (A8q n) n⟩)] }
theorem Afe (α : Type) (n : Nat) : Al PP (Ad (Amw α n).reg) := ⟨B3t n, B3r n, trivial⟩
theorem Asg (α : Type) (n : Nat) : LO.Sound (α := α) PP ⟨29, []⟩ ⟨Yo, A8r, A4 (A8q n) n⟩ (.loop ((A2 Tryz.f54).at [1, 1, 0, 1, 0, 0])) := Bm (D := Amw α n) (Afe α n) n
theorem B9o (α : Type) (n : Nat) : D3.OK PP TT ⟨29, []⟩ (Amw α n) (A2 Tryz.f54) :=
 D3.OK.mk3 (Afe α n) (show Aa (A2 Tryz.f54) = [(3, (.loop ((A2 Tryz.f54).at [1, 1, 0, 1, 0, 0])))] by kernel_rfl) ⟨A8 rfl (Asg α n), trivial⟩
theorem B5w (n : Nat) : (B0y n).Sound PP := fk (fn := Tryz.f54) (B9o _ n) 

def f23 (n : Nat) (a0 a1 : LR) (a2 : Int) : Option (LR × Int) :=
 bif (decide ((a0.length : Int) > 4096)) then
  some ([], 2)
 else
  bif (decide ((a1.length : Int) > 4096)) then
   some ([], 2)
  else
   ob (f52 n a0 a1) fun r_1 =>
   bif (r_1 != 0) then
    some ([], r_1)
   else
    ob (f65 n a2 0 8) fun r_2 =>
    bif (!r_2) then
     some ([], 4)
    else
     ob (f66 n a0 (a1.length : Int)) fun r_3 =>
     bif (!r_3) then
      some ([], 10)
     else
      ob (f67 n a0 a1 a2) fun r_4 =>
      ob (f54 n r_4) fun r_5 =>
      some (r_5.1, r_5.2)
def B14 (n : Nat) : Ent := ⟨23, [hRs, hRs, hI], [hRs, hI], fun x => f23 n x.1 x.2.1 x.2.2⟩
def B9y (α : Type) (n : Nat) : D3 α := { reg := [(2, ⟨0, [], [(0, { sh := some hR })]⟩), (3, ⟨0, [], [(2, { ent := some (B0z n) })]⟩), (5, ⟨0, [], [(0, { sh := some hR })]⟩), (6, ⟨0, [], [(1, { ent := some (R5 n) })]⟩), (7, ⟨0, [], [(0, { sh := some hR })]⟩), (8, ⟨0, [], [(3, { ent := some (Amn n) })]⟩), (9, ⟨0, [], [(0, { sh := some hR })]⟩), (10, ⟨0, [], [(3, { ent := some (B0w n) }), (4, { ent := some (B0y n) })]⟩)], join := [], loop := [] }
theorem B6a (n : Nat) : (B14 n).Sound PP := Az (fn := Tryz.f23) (D := B9y _ n) ⟨B5x n, Pb n, As0 n, B5s n, B5w n, trivial⟩ 

def f11 (n : Nat) (a0 : LI) (a1 : Int) : Option LR :=
 ob (A1t n a0) fun r_1 =>
 ob (Afl n r_1 a1) fun r_2 =>
 some r_2.1
def Aog (n : Nat) : Ent := ⟨11, [(.sl (.int .u8)), hI], [hRs], fun x => f11 n x.1 x.2⟩
def Ba2 (α : Type) (n : Nat) : D3 α := { reg := [(1, ⟨0, [], [(1, { entB := some (A5v n), hb := 310 }), (3, { entB := some (Afj n), hb := 320 })]⟩)], join := [], loop := [] }
theorem Av4 (n : Nat) : (Aog n).Sound PP := Az (fn := Tryz.f11) (D := Ba2 _ n) ⟨A8v n, Akc n, trivial⟩ 

def f27 (n : Nat) (a0 : LR) (a1 : Int) : Option (Bool × Int) :=
 bif (decide ((a0.length : Int) > 4096)) then
  some (false, 2)
 else
  ob (f79 n a0 a1) fun r_1 =>
  bif (!r_1) then
   some (false, 1)
  else
   ob (f66 n a0 a1) fun r_2 =>
   some (r_2, 0)
def B12 (n : Nat) : Ent := ⟨27, [hRs, hI], [.bool, hI], fun x => f27 n x.1 x.2⟩
def B9u (α : Type) (n : Nat) : D3 α := { reg := [(3, ⟨0, [], [(2, { ent := some (Am8 n) })]⟩), (5, ⟨0, [], [(2, { ent := some (Amn n) })]⟩)], join := [], loop := [] }
theorem B67 (n : Nat) : (B12 n).Sound PP := Az (fn := Tryz.f27) (D := B9u _ n) ⟨Arb n, As0 n, trivial⟩ 

def A45 {α : Type} (n : Nat) (s0 s1 : LI) (s5 : Int) (f : LI → LI → Int → Option α) (k0 : Bool → Option α) (k1 : Unit → Option α) : Option α :=
 bif (decide (s5 < (s0.length : Int))) then
  gd (decide (0 ≤ s5) && decide (s5 < (s0.length : Int))) (
   gd (decide (0 ≤ s5) && decide (s5 < (s1.length : Int))) (
    bif ((s0.getD s5.toNat 0) != (s1.getD s5.toNat 0)) then
     k0 false
    else
     f s0 s1 (W (s5 + 1))))
 else
  k1 ()
abbrev Tb : Tm := ⟨[(0, .d hIs), (1, .d hIs), (5, .d hI)], [], [], []⟩
abbrev Avm : Tm := ⟨[(4, .d .bool)], [], [], []⟩
abbrev Avl : Tm := ⟨[], [], [], []⟩
abbrev A44 : List (Exit × Tm) := [(.ret, Avm), (.exit 0, Avl)]
def A43 {α : Type} (n : Nat) (v : Tb.den) (f : Tb.den → Option α) (ks : KS α A44) : Option α := A45 n v.1.1 v.1.2.1 v.1.2.2.1 (fun s0 s1 s5 => f ((s0, s1, s5, ()), ())) (fun w0 => ks.1 ((w0, ()), ())) (fun _ => ks.2.1 ((), ()))
def Q1 {α : Type} (n m : Nat) (s0 s1 : LI) (s5 : Int) (k0 : Bool → Option α) (k1 : Unit → Option α) : Option α := A4 (A43 n) m ((s0, s1, s5, ()), ()) (fun w => k0 w.1.1, fun w => k1 (), ())
theorem Avk {α n m s0 s1 s5 k0 k1} : Q1 (α := α) n (m + 1) s0 s1 s5 k0 k1 = A45 n s0 s1 s5 (fun s0 s1 s5 => Q1 n m s0 s1 s5 k0 k1) k0 k1 := rfl
def f105 (n : Nat) (a0 a1 : LI) : Option Bool :=
 bif ((a0.length : Int) != (a1.length : Int)) then
  some false
 else
  Q1 n n a0 a1 0
   (fun z_1 => (
    some z_1))
   (fun (_ : Unit) => (
    some true))
def Agr (n : Nat) : Ent := ⟨105, [hIs, hIs], [.bool], fun x => f105 n x.1 x.2⟩
def Ags (α : Type) (n : Nat) : D3 α := { reg := [(6, ⟨8, [], []⟩)], join := [], loop := [(4, ⟨Tb, A44, A4 (A43 n) n⟩)] }
theorem Abx (α : Type) (n : Nat) : Al PP (Ad (Ags α n).reg) := trivial
theorem Aow (α : Type) (n : Nat) : LO.Sound (α := α) PP ⟨26, []⟩ ⟨Tb, A44, A4 (A43 n) n⟩ (.loop ((A2 Tryz.f105).at [1, 1, 0, 1, 0, 0])) := Bm (D := Ags α n) (Abx α n) n
theorem B85 (α : Type) (n : Nat) : D3.OK PP TT ⟨26, []⟩ (Ags α n) (A2 Tryz.f105) :=
 D3.OK.mk3 (Abx α n) (show Aa (A2 Tryz.f105) = [(4, (.loop ((A2 Tryz.f105).at [1, 1, 0, 1, 0, 0])))] by kernel_rfl) ⟨A8 rfl (Aow α n), trivial⟩
theorem Akw (n : Nat) : (Agr n).Sound PP := fk (fn := Tryz.f105) (B85 _ n) 

def f45 (n : Nat) (a0 a1 : Rq) : Option Bool :=
 bif (a0.1 == a1.1) then
  ob (f105 n a0.2.1 a1.2.1) fun r_1 =>
  bif r_1 then
   ob (f105 n a0.2.2 a1.2.2) fun r_2 =>
   some r_2
  else
   some false
 else
  some false
def B11 (n : Nat) : Ent := ⟨45, [hR, hR], [.bool], fun x => f45 n x.1 x.2⟩
def B9t (α : Type) (n : Nat) : D3 α := { reg := [(1, ⟨0, [], [(10, { ent := some (Agr n) }), (17, { ent := some (Agr n) })]⟩)], join := [], loop := [] }
theorem B65 (n : Nat) : (B11 n).Sound PP := Az (fn := Tryz.f45) (D := B9t _ n) ⟨Akw n, Akw n, trivial⟩ 

def A99 {α : Type} (n : Nat) (s0 s1 : LR) (s5 : Int) (f : LR → LR → Int → Option α) (k0 : Bool → Option α) (k1 : Unit → Option α) : Option α :=
 bif (decide (s5 < (s0.length : Int))) then
  gd (decide (0 ≤ s5) && decide (s5 < (s0.length : Int))) (
   let x_1 := s0.getD s5.toNat (false, [], [])
   gd (decide (0 ≤ s5) && decide (s5 < (s1.length : Int))) (
    let x_2 := s1.getD s5.toNat (false, [], [])
    ob (f45 n x_1 x_2) fun r_3 =>
    bif (!r_3) then
     k0 false
    else
     f s0 s1 (W (s5 + 1))))
 else
  k1 ()
abbrev Z0 : Tm := ⟨[(0, .d hRs), (1, .d hRs), (5, .d hI)], [], [], []⟩
abbrev Azg : Tm := ⟨[(4, .d .bool)], [], [], []⟩
abbrev Azf : Tm := ⟨[], [], [], []⟩
abbrev A98 : List (Exit × Tm) := [(.ret, Azg), (.exit 0, Azf)]
def A97 {α : Type} (n : Nat) (v : Z0.den) (f : Z0.den → Option α) (ks : KS α A98) : Option α := A99 n v.1.1 v.1.2.1 v.1.2.2.1 (fun s0 s1 s5 => f ((s0, s1, s5, ()), ())) (fun w0 => ks.1 ((w0, ()), ())) (fun _ => ks.2.1 ((), ()))
def Wq {α : Type} (n m : Nat) (s0 s1 : LR) (s5 : Int) (k0 : Bool → Option α) (k1 : Unit → Option α) : Option α := A4 (A97 n) m ((s0, s1, s5, ()), ()) (fun w => k0 w.1.1, fun w => k1 (), ())
theorem Aze {α n m s0 s1 s5 k0 k1} : Wq (α := α) n (m + 1) s0 s1 s5 k0 k1 = A99 n s0 s1 s5 (fun s0 s1 s5 => Wq n m s0 s1 s5 k0 k1) k0 k1 := rfl
def f16 (n : Nat) (a0 a1 : LR) : Option Bool :=
 bif ((a0.length : Int) != (a1.length : Int)) then
  some false
 else
  Wq n n a0 a1 0
   (fun z_4 => (
    some z_4))
   (fun (_ : Unit) => (
    some true))
def Anz (n : Nat) : Ent := ⟨16, [hRs, hRs], [.bool], fun x => f16 n x.1 x.2⟩
def Ao0 (α : Type) (n : Nat) : D3 α := { reg := [(6, ⟨8, [], [(8, { ent := some (B11 n) })]⟩)], join := [], loop := [(4, ⟨Z0, A98, A4 (A97 n) n⟩)] }
theorem Aga (α : Type) (n : Nat) : Al PP (Ad (Ao0 α n).reg) := ⟨B65 n, trivial⟩
theorem Au4 (α : Type) (n : Nat) : LO.Sound (α := α) PP ⟨27, []⟩ ⟨Z0, A98, A4 (A97 n) n⟩ (.loop ((A2 Tryz.f16).at [1, 1, 0, 1, 0, 0])) := Bm (D := Ao0 α n) (Aga α n) n
theorem B9z (α : Type) (n : Nat) : D3.OK PP TT ⟨27, []⟩ (Ao0 α n) (A2 Tryz.f16) :=
 D3.OK.mk3 (Aga α n) (show Aa (A2 Tryz.f16) = [(4, (.loop ((A2 Tryz.f16).at [1, 1, 0, 1, 0, 0])))] by kernel_rfl) ⟨A8 rfl (Au4 α n), trivial⟩
theorem Au3 (n : Nat) : (Anz n).Sound PP := fk (fn := Tryz.f16) (B9z _ n) 

def f6 (n : Nat) (a0 a1 : LI) : Option Bool :=
 bif (decide ((a0.length : Int) > 1048576)) then
  some true
 else
  bif (decide ((a1.length : Int) > 1048576)) then
   some true
  else
   ob (f10 n a1 0 3) fun r_1 =>
   ob (f25 n a0 (W (1 + r_1))) fun r_2 =>
   ob (f12 n a1 (W (1 + r_1))) fun r_3 =>
   ob (f26 n r_2 (W (1 + r_1))) fun r_4 =>
   ob (f24 n r_2 r_3 (W (1 + r_1))) fun r_5 =>
   ob (f13 n r_2 r_3) fun r_6 =>
   ob (f24 n r_2 r_3 1) fun r_7 =>
   ob (f23 n r_2 r_3 1) fun r_8 =>
   ob (f11 n a1 (W (1 + r_1))) fun r_9 =>
   ob (f26 n r_9 (W (1 + r_1))) fun r_10 =>
   ob (f11 n a1 (W (1 + r_1))) fun r_11 =>
   ob (f27 n r_11 (W (1 + r_1))) fun r_12 =>
   bif (r_4.2 == 0) then
    bif r_4.1 then
     bif (r_5.2 == 0) then
      bif (r_6.2 == 0) then
       ob (f16 n r_5.1 r_6.1) fun r_13 =>
       bif r_13 then
        bif (r_7.2 == r_8.2) then
         ob (f16 n r_7.1 r_8.1) fun r_14 =>
         bif r_14 then
          bif (r_10.2 == 0) then
           some (r_10.1 == r_12.1)
          else
           some false
         else
          some false
        else
         some false
       else
        some false
      else
       some false
     else
      some false
    else
     some false
   else
    some false
def Bai (n : Nat) : Ent := ⟨6, [(.sl (.int .u8)), (.sl (.int .u8))], [.bool], fun x => f6 n x.1 x.2⟩
def Baj (α : Type) (n : Nat) : D3 α := { reg := [(3, ⟨0, [], [(1, { ent := some (B17 n) })]⟩), (4, ⟨0, [], [(2, { ent := some (B13 n) })]⟩), (5, ⟨0, [], [(2, { ent := some (B16 n) })]⟩), (6, ⟨0, [], [(2, { ent := some (An2 n) })]⟩), (7, ⟨0, [], [(3, { ent := some (An3 n) })]⟩), (8, ⟨0, [], [(2, { ent := some (B15 n) })]⟩), (9, ⟨0, [], [(2, { ent := some (An3 n) })]⟩), (10, ⟨0, [], [(2, { ent := some (B14 n) })]⟩), (11, ⟨0, [], [(2, { ent := some (Aog n) }), (4, { ent := some (An2 n) })]⟩), (12, ⟨0, [], [(2, { ent := some (Aog n) }), (4, { ent := some (B12 n) })]⟩), (13, ⟨0, [], [(16, { ent := some (Anz n) }), (26, { ent := some (Anz n) })]⟩)], join := [], loop := [] }
theorem B9f (n : Nat) : (Bai n).Sound PP := Az (fn := Tryz.f6) (D := Baj _ n) ⟨B81 n, B68 n, B7k n, Asr n, Ass n, B7c n, Ass n, B6a n, Av4 n, Asr n, Av4 n, B67 n, Au3 n, Au3 n, trivial⟩ 

end Go.Ev
