/- DERIVED. What the functions compute, and that they do. -/
import Derived.Test.YtcpdoafoahaagaaGreatTb

set_option linter.all false
set_option linter.unusedVariables false
set_option linter.unusedSimpArgs false

namespace Go.Ev
open Go Go.Proofs Go.RowKit Go.Shelf
def f181 (n : Nat) (a0 a1 : Rq) : Option Int :=
 ob (f141 n a0) fun r_1 =>
 ob (f141 n a1) fun r_2 =>
 bif (r_1 != r_2) then
  ob (f141 n a0) fun r_3 =>
  ob (f141 n a1) fun r_4 =>
  some (W (r_3 - r_4))
 else
  ob (f143 n a0.2.1 a1.2.2) fun r_5 =>
  ob (f143 n a1.2.1 a0.2.2) fun r_6 =>
  ob (f170 n r_5 r_6) fun r_7 =>
  bif a0.1 then
   some (W (0 - r_7))
  else
   some r_7
def A1s (n : Nat) : Ent := ⟨181, [hR, hR], [hI], fun x => f181 n x.1 x.2⟩
def B00 (α : Type) (n : Nat) : D3 α := { reg := [(1, ⟨3, [], [(1, { ent := some (Tj n) }), (3, { ent := some (Tj n) })]⟩), (2, ⟨3, [], [(1, { ent := some (Tj n) }), (3, { ent := some (Tj n) })]⟩), (3, ⟨9, [], [(4, { ent := some (Abw n) }), (9, { ent := some (Abw n) }), (10, { ent := some (A1w n) })]⟩)], join := [], loop := [] }
theorem A4h (n : Nat) : (A1s n).Sound PP := Ap (fn := Tryz.f181) (D := B00 _ n) ⟨Vl n, Vl n, Vl n, Vl n, Ag2 n, Ag2 n, A4l n, trivial⟩ 

def Xs {α : Type} (n : Nat) (s1 s7 : LR) (s8 s9 : Int) (f : LR → LR → Int → Int → Option α) (k0 : Bool → Option α) (k1 : Unit → Option α) : Option α :=
 bif (decide (s9 < s8)) then
  gd (decide (0 ≤ s9) && decide (s9 < (s7.length : Int))) (
   let x_1 := s7.getD s9.toNat (false, [], [])
   gd (decide (0 ≤ s9) && decide (s9 < (s1.length : Int))) (
    let x_2 := s1.getD s9.toNat (false, [], [])
    ob (f181 n x_1 x_2) fun r_3 =>
    bif (decide (r_3 > 0)) then
     k0 false
    else
     f s1 s7 s8 (W (s9 + 1))))
 else
  k1 ()
abbrev P6 : Tm := ⟨[(1, .d hRs), (7, .d hRs), (8, .d hI), (9, .d hI)], [], [6], []⟩
abbrev Amx : Tm := ⟨[(4, .d .bool)], [], [6], []⟩
abbrev Amw : Tm := ⟨[], [], [], []⟩
abbrev Xr : List (Exit × Tm) := [(.ret, Amx), (.exit 0, Amw)]
def Xq {α : Type} (n : Nat) (v : P6.den) (f : P6.den → Option α) (ks : KS α Xr) : Option α := Xs n v.1.1 v.1.2.1 v.1.2.2.1 v.1.2.2.2.1 (fun s1 s7 s8 s9 => f ((s1, s7, s8, s9, ()), ())) (fun w0 => ks.1 ((w0, ()), ())) (fun _ => ks.2.1 ((), ()))
def Uy {α : Type} (n m : Nat) (s1 s7 : LR) (s8 s9 : Int) (k0 : Bool → Option α) (k1 : Unit → Option α) : Option α := A5 (Xq n) m ((s1, s7, s8, s9, ()), ()) (fun w => k0 w.1.1, fun w => k1 (), ())
theorem Amv {α n m s1 s7 s8 s9 k0 k1} : Uy (α := α) n (m + 1) s1 s7 s8 s9 k0 k1 = Xs n s1 s7 s8 s9 (fun s1 s7 s8 s9 => Uy n m s1 s7 s8 s9 k0 k1) k0 k1 := rfl
def f209 (n : Nat) (a0 a1 : LR) : Option Bool :=
 Uy n n a1 a0 (a0.length : Int) 0
  (fun z_4 => (
   some z_4))
  (fun (_ : Unit) => (
   some true))
def Aal (n : Nat) : Ent := ⟨209, [hRs, hRs], [.bool], fun x => f209 n x.1 x.2⟩
def Aam (α : Type) (n : Nat) : D3 α := { reg := [(4, ⟨5, [], [(5, { ent := some (A1s n) })]⟩)], join := [], loop := [(2, ⟨P6, Xr, A5 (Xq n) n⟩)] }
theorem A6i (α : Type) (n : Nat) : Aj PP (Ah (Aam α n).reg) := ⟨A4h n, trivial⟩
theorem Aib (α : Type) (n : Nat) : LO.Sound (α := α) PP ⟨22, []⟩ ⟨P6, Xr, A5 (Xq n) n⟩ (.loop ((A1 Tryz.f209).at [1, 0, 1, 0, 0])) := Ay (D := Aam α n) (A6i α n) n
theorem Aza (α : Type) (n : Nat) : D3.OK PP TT ⟨22, []⟩ (Aam α n) (A1 Tryz.f209) :=
 D3.OK.mk3 (A6i α n) (show Ad (A1 Tryz.f209) = [(2, (.loop ((A1 Tryz.f209).at [1, 0, 1, 0, 0])))] by kernel_rfl) ⟨A9 rfl (Aib α n), trivial⟩
theorem Afc (n : Nat) : (Aal n).Sound PP := fk (fn := Tryz.f209) (Aza _ n) 

abbrev Avx : Tm := ⟨[(1, .k (.hp 1 0 0))], [(1, .var 56 true false [.d hNs, .d hRs, .d hRs, .d hRs, .d hI, .d .bool, .d hIs, .d hIs, .d hI, .d hI])], [], []⟩
def f194 (n : Nat) (a0 : LN × LR × LR × LR × Int × Rq × Int × Int) : Option Bool :=
 ob (f198 n a0.1) fun r_1 =>
 bif (!r_1) then
  some false
 else
  ob (f109 n a0.2.1) fun r_2 =>
  bif (!r_2) then
   some false
  else
   ob (f165 n a0.1) fun r_3 =>
   bif (decide ((a0.2.1.length : Int) < r_3)) then
    some false
   else
    ob (f70 n a0.2.2.2.2.1 1 4) fun r_4 =>
    bif (!r_4) then
     some false
    else
     ob (f163 n a0.2.2.2.2.2.1) fun r_5 =>
     bif (!r_5) then
      some false
     else
      bif a0.2.2.2.2.2.1.1 then
       some false
      else
       ob (f70 n a0.2.2.2.2.2.2.1 0 6) fun r_6 =>
       bif (!r_6) then
        some false
       else
        ob (f70 n a0.2.2.2.2.2.2.2 0 30) fun r_7 =>
        bif (!r_7) then
         some false
        else
         let J_11 := fun (_ : Unit) => (
          ob (f93 n [a0.2.1, a0.2.2.1, a0.2.2.2.1]) fun r_8 =>
          bif (r_8 == 0) then
           ob (f209 n a0.2.2.1 a0.2.1) fun r_9 =>
           bif r_9 then
            ob (f209 n a0.2.1 a0.2.2.2.1) fun r_10 =>
            some r_10
           else
            some false
          else
           some false)
         bif ((a0.2.2.1.length : Int) == 0) then
          bif ((a0.2.2.2.1.length : Int) == 0) then
           some true
          else
           J_11 ()
         else
          J_11 ()
def Ane (n : Nat) : Ent := ⟨194, [(.st (.pair hE (.pair hRs (.pair hRs (.pair hRs (.pair hI (.pair hR (.pair hI hI))))))))], [.bool], fun x => f194 n x⟩
def Azn (α : Type) (n : Nat) : D3 α := { reg := [(1, ⟨18, [], [(2, { ent := some (Anb n) }), (7, { ent := some (Ir n) }), (17, { ent := some (Aop n) }), (23, { ent := some (Ie n) })]⟩), (3, ⟨0, [], [(2, { ent := some (Abl n) }), (12, { ent := some (Ie n) }), (18, { ent := some (Ie n) })]⟩), (7, ⟨0, [], [(6, { sh := some hRs }), (7, { ent := some (Au0 n) }), (14, { ent := some (Aal n) }), (21, { ent := some (Aal n) })]⟩)], join := [(7, Avx)], loop := [] }
theorem Avw (n : Nat) : (Ane n).Sound PP := Ap (fn := Tryz.f194) (D := Azn _ n) ⟨Avt n, A4y n, Awf n, Gy n, Aft n, Gy n, Gy n, Ay4 n, Afc n, Afc n, trivial⟩ 

def f153 (n : Nat) (a0 : LN × LR × LR × LR × Int × Rq × Int × Int) : Option Int :=
 ob (f194 n a0) fun r_1 =>
 ob (f69 n r_1 1) fun r_2 =>
 some r_2
def Ns (n : Nat) : Ent := ⟨153, [(.st (.pair hE (.pair hRs (.pair hRs (.pair hRs (.pair hI (.pair hR (.pair hI hI))))))))], [hI], fun x => f153 n x⟩
def B0h (α : Type) (n : Nat) : D3 α := { reg := [(1, ⟨0, [], [(1, { ent := some (Ane n) }), (2, { ent := some (Jf n) })]⟩)], join := [], loop := [] }
theorem Awr (n : Nat) : (Ns n).Sound PP := Ap (fn := Tryz.f153) (D := B0h _ n) ⟨Avw n, A19 n, trivial⟩ 

def A3o {α : Type} (n : Nat) (s5 : LI) (s6 s7 : Int) (f : LI → Int → Int → Option α) (k0 : Int → Option α) (k1 : Unit → Option α) : Option α :=
 bif (decide (s7 < s6)) then
  gd (decide (0 ≤ s7) && decide (s7 < (s5.length : Int))) (
   bif ((s5.getD s7.toNat 0) != 0) then
    k0 (s5.getD s7.toNat 0)
   else
    f s5 s6 (W (s7 + 1)))
 else
  k1 ()
abbrev Ul : Tm := ⟨[(5, .d hIs), (6, .d hI), (7, .d hI)], [], [], []⟩
abbrev Arz : Tm := ⟨[(2, .d hI)], [], [], []⟩
abbrev Ary : Tm := ⟨[], [], [], []⟩
abbrev A3n : List (Exit × Tm) := [(.ret, Arz), (.exit 0, Ary)]
def A3m {α : Type} (n : Nat) (v : Ul.den) (f : Ul.den → Option α) (ks : KS α A3n) : Option α := A3o n v.1.1 v.1.2.1 v.1.2.2.1 (fun s5 s6 s7 => f ((s5, s6, s7, ()), ())) (fun w0 => ks.1 ((w0, ()), ())) (fun _ => ks.2.1 ((), ()))
def A1a {α : Type} (n m : Nat) (s5 : LI) (s6 s7 : Int) (k0 : Int → Option α) (k1 : Unit → Option α) : Option α := A5 (A3m n) m ((s5, s6, s7, ()), ()) (fun w => k0 w.1.1, fun w => k1 (), ())
theorem Arx {α n m s5 s6 s7 k0 k1} : A1a (α := α) n (m + 1) s5 s6 s7 k0 k1 = A3o n s5 s6 s7 (fun s5 s6 s7 => A1a n m s5 s6 s7 k0 k1) k0 k1 := rfl
def f68 (n : Nat) (a0 : LI) : Option Int :=
 A1a n n a0 (a0.length : Int) 0
  (fun z_1 => (
   some z_1))
  (fun (_ : Unit) => (
   some 0))
def Ow (n : Nat) : Ent := ⟨68, [hIs], [hI], fun x => f68 n x⟩
def Ahq (α : Type) (n : Nat) : D3 α := { reg := [], join := [], loop := [(2, ⟨Ul, A3n, A5 (A3m n) n⟩)] }
theorem A9y (α : Type) (n : Nat) : Aj PP (Ah (Ahq α n).reg) := trivial
theorem Am1 (α : Type) (n : Nat) : LO.Sound (α := α) PP ⟨15, []⟩ ⟨Ul, A3n, A5 (A3m n) n⟩ (.loop ((A1 Tryz.f68).at [1, 0, 1, 0, 0])) := Ay (D := Ahq α n) (A9y α n) n
theorem B24 (α : Type) (n : Nat) : D3.OK PP TT ⟨15, []⟩ (Ahq α n) (A1 Tryz.f68) :=
 D3.OK.mk3 (A9y α n) (show Ad (A1 Tryz.f68) = [(2, (.loop ((A1 Tryz.f68).at [1, 0, 1, 0, 0])))] by kernel_rfl) ⟨A9 rfl (Am1 α n), trivial⟩
theorem Am0 (n : Nat) : (Ow n).Sound PP := fk (fn := Tryz.f68) (B24 _ n) 

abbrev Alx : Tm := ⟨[(1, .d hRs), (2, .k (.hp 2 0 0))], [(2, .var 56 true false [.d hNs, .d hRs, .d hRs, .d hRs, .d hI, .d .bool, .d hIs, .d hIs, .d hI, .d hI])], [], []⟩
def f84 (n : Nat) (a0 : LN × LR × LR × LR × Int × Rq × Int × Int) (a1 : LR) : Option Int :=
 ob (f98 n [a1]) fun r_1 =>
 ob (f153 n a0) fun r_2 =>
 ob (f109 n a1) fun r_3 =>
 ob (f69 n r_3 1) fun r_4 =>
 ob (f68 n [r_1, r_2, r_4]) fun r_5 =>
 bif (r_5 != 0) then
  ob (f69 n true 8) fun r_6 =>
  ob (f68 n [r_5, r_6]) fun r_7 =>
  some r_7
 else
  ob (f69 n ((a1.length : Int) == (a0.2.1.length : Int)) 8) fun r_8 =>
  ob (f68 n [r_5, r_8]) fun r_9 =>
  some r_9
def Ahn (n : Nat) : Ent := ⟨84, [(.st (.pair hE (.pair hRs (.pair hRs (.pair hRs (.pair hI (.pair hR (.pair hI hI)))))))), hRs], [hI], fun x => f84 n x.1 x.2⟩
def Au4 (α : Type) (n : Nat) : D3 α := { reg := [(1, ⟨0, [], [(1, { sh := some hRs }), (2, { ent := some (Ou n) }), (4, { ent := some (Ns n) }), (6, { ent := some (Ir n) }), (7, { ent := some (Jf n) }), (8, { sh := some hI }), (9, { ent := some (Ow n) })]⟩), (2, ⟨0, [], [(11, { ent := some (Jf n) }), (12, { sh := some hI }), (13, { ent := some (Ow n) })]⟩)], join := [], loop := [], any := [(1, Alx)] }
set_option maxHeartbeats 8000000 in
theorem Aye (n : Nat) : Fb TT ⟨30, []⟩ [(1, { sh := some hRs }), (2, { ent := some (Ou n) }), (4, { ent := some (Ns n) }), (6, { ent := some (Ir n) }), (7, { ent := some (Jf n) }), (8, { sh := some hI }), (9, { ent := some (Ow n) })] Alx (Bi ((A1 Tryz.f84).at [1, 0])) := by
 refine ⟨by kernel_rfl, fun w q hq => ?_⟩
 have e : WT [(1, { sh := some hRs }), (2, { ent := some (Ou n) }), (4, { ent := some (Ns n) }), (6, { ent := some (Ir n) }), (7, { ent := some (Jf n) }), (8, { sh := some hI }), (9, { ent := some (Ow n) })] (Aa (Bi ((A1 Tryz.f84).at [1, 0])).toList) q = (∃ (y0 : HL (Ou n).rs) (q0 : List (Nat × RV)), q = (2, .sv (Eo (Ou n).rs y0)) :: q0 ∧ ∃ (y1 : HL (Ns n).rs) (q1 : List (Nat × RV)), q0 = (4, .sv (Eo (Ns n).rs y1)) :: q1 ∧ ∃ (y2 : HL (Ir n).rs) (q2 : List (Nat × RV)), q1 = (6, .sv (Eo (Ir n).rs y2)) :: q2 ∧ ∃ (y3 : HL (Jf n).rs) (q3 : List (Nat × RV)), q2 = (7, .sv (Eo (Jf n).rs y3)) :: q3 ∧ ∃ (y4 : HL (Ow n).rs) (q4 : List (Nat × RV)), q3 = (9, .sv (Eo (Ow n).rs y4)) :: q4 ∧ q4 = []) := by kernel_rfl
 rw [e] at hq
 obtain ⟨y0, q0, rfl, y1, q1, rfl, y2, q2, rfl, y3, q3, rfl, y4, q4, rfl, rfl⟩ := hq
 all_goals exact .inr ⟨6, by kernel_rfl, by kernel_rfl, by kernel_rfl⟩
theorem Arw (α : Type) (n : Nat) : Aj PP (Ah (Au4 α n).reg) := ⟨Ali n, Awr n, A4y n, A19 n, Am0 n, A19 n, Am0 n, trivial⟩
theorem B1x (α : Type) (n : Nat) : D3.OK PP TT ⟨30, []⟩ (Au4 α n) (A1 Tryz.f84) :=
 D3.OK.mk3a (Arw α n) (show Ad (A1 Tryz.f84) = [] by kernel_rfl) trivial (show Co (A1 Tryz.f84) = [(1, Bi ((A1 Tryz.f84).at [1, 0]))] by kernel_rfl) ⟨fun X h => (by cases h; exact Aye n), trivial⟩
theorem Alw (n : Nat) : (Ahn n).Sound PP := fk (fn := Tryz.f84) (B1x _ n) 

def f157 (n : Nat) (a0 : LN × LR × LR × LR × Int × Rq × Int × Int) : Option Bool :=
 some (decide ((a0.2.2.1.length : Int) > 0))
def Abn (n : Nat) : Ent := ⟨157, [(.st (.pair hE (.pair hRs (.pair hRs (.pair hRs (.pair hI (.pair hR (.pair hI hI))))))))], [.bool], fun x => f157 n x⟩
def B0d (α : Type) (n : Nat) : D3 α := { reg := [], join := [], loop := [] }
theorem Afx (n : Nat) : (Abn n).Sound PP := Ap (fn := Tryz.f157) (D := B0d _ n) trivial 

def f168 (n : Nat) (a0 : Int) (a1 : LR) : Option Rq :=
 gd (decide (0 ≤ a0) && decide (a0 < (a1.length : Int))) (
  let x_1 := a1.getD a0.toNat (false, [], [])
  some x_1)
def Abi (n : Nat) : Ent := ⟨168, [hI, (.ref hRs)], [hR], fun x => f168 n x.1 x.2⟩
def B05 (α : Type) (n : Nat) : D3 α := { reg := [], join := [], loop := [] }
theorem Afs (n : Nat) : (Abi n).Sound PP := Ap (fn := Tryz.f168) (D := B05 _ n) trivial 

def Nv (n : Nat) (a0 : List Int) : Option (List Int ⊕ Unit) := bif a0.isEmpty then some (.inr ()) else (M7 n a0).map .inl
def Bz (n : Nat) : Ent3 := ⟨145, [.im hIs], [[.one (.own 3 hI)], [.one (.emp hI)]], fun x => Nv n x⟩
theorem A7c (n : Nat) : (Bz n).Sound Tryz.prog := by
 intro nt x z h
 cases x with
 | cons y l =>
  have h : (M7 n (y :: l)).map Sum.inl = some z := h
  cases e : M7 n (y :: l) with
  | none => rw [e] at h; cases h
  | some r =>
   rw [e] at h
   obtain rfl := Option.some.inj h
   exact Abv n nt (y :: l) r e
 | nil =>
  have h : some (Sum.inr ()) = some z := h
  obtain rfl := Option.some.inj h
  exact Abu nt

abbrev Af5 : Tm := ⟨[(1, .k (.hp 1 0 0)), (2, .k (.hp 2 0 0))], [(1, .var 30 true false [.d .bool, .d hIs, .d hIs]), (2, .var 30 true false [.d .bool, .d .nil, .d .nil])], [], []⟩
def A3i (n : Nat) (a0 : Rq) : Option ((Bool × LI × LI) ⊕ ((Bool × Unit × LI) ⊕ ((Bool × LI × Unit) ⊕ (Bool × Unit × Unit)))) :=
 ob (Nv n a0.2.1) fun r_1 =>
 Cq r_1 (fun r_2 =>
  ob (Nv n a0.2.2) fun r_4 =>
  Cq r_4 (fun r_5 =>
   some (.inl (a0.1, r_2, r_5))) (fun r_6 =>
   some (.inr (.inr (.inl (a0.1, r_2, ())))))) (fun r_3 =>
  ob (Nv n a0.2.2) fun r_7 =>
  Cq r_7 (fun r_8 =>
   some (.inr (.inl (a0.1, (), r_8)))) (fun r_9 =>
   some (.inr (.inr (.inr (a0.1, (), ()))))))
def A9x (n : Nat) : Ent3 := ⟨97, [.im hR], [[.mix [.im .bool, .own 3 hI, .own 3 hI]], [.mix [.im .bool, .emp hI, .own 3 hI]], [.mix [.im .bool, .own 3 hI, .emp hI]], [.mix [.im .bool, .emp hI, .emp hI]]], fun x => A3i n x⟩
def Aln (α : Type) (n : Nat) : D3 α := { reg := [(1, ⟨0, [], [(4, { entB := some (Bz n), hb := 310 }), (7, { entB := some (Bz n), hb := 320 })]⟩)], join := [], loop := [], any := [(1, Af5)] }
set_option maxHeartbeats 8000000 in
theorem Av0 (n : Nat) : Fb TT ⟨12, []⟩ [(4, { entB := some (Bz n), hb := 310 }), (7, { entB := some (Bz n), hb := 320 })] Af5 (Bi ((A1 Tryz.f97).at [1, 0])) := by
 refine ⟨by kernel_rfl, fun w q hq => ?_⟩
 have e : WT [(4, { entB := some (Bz n), hb := 310 }), (7, { entB := some (Bz n), hb := 320 })] (Aa (Bi ((A1 Tryz.f97).at [1, 0])).toList) q = (∃ (y0 : HF (Ai 1000 (Bz n).ts) (Bz n).forms) (q0 : List (Nat × RV)), q = (4, .bx (Bz n) y0) :: q0 ∧ ∃ (y1 : HF (Ai 1000 (Bz n).ts) (Bz n).forms) (q1 : List (Nat × RV)), q0 = (7, .bx (Bz n) y1) :: q1 ∧ q1 = []) := by kernel_rfl
 rw [e] at hq
 obtain ⟨y0, q0, rfl, y1, q1, rfl, rfl⟩ := hq
 all_goals rcases y0 with y0 | y0
 all_goals rcases y1 with y1 | y1
 all_goals exact .inl (R0.mk (by kernel_rfl))
theorem Alm (α : Type) (n : Nat) : Aj PP (Ah (Aln α n).reg) := ⟨A7c n, A7c n, trivial⟩
theorem Ay1 (α : Type) (n : Nat) : D3.OK PP TT ⟨12, []⟩ (Aln α n) (A1 Tryz.f97) :=
 D3.OK.mk3a (Alm α n) (show Ad (A1 Tryz.f97) = [] by kernel_rfl) trivial (show Co (A1 Tryz.f97) = [(1, Bi ((A1 Tryz.f97).at [1, 0]))] by kernel_rfl) ⟨fun X h => (by cases h; exact Av0 n), trivial⟩
theorem Af4 (n : Nat) : (A9x n).Sound PP := Si (fn := Tryz.f97) (Ay1 _ n) 

def J6 {α : Type} (n : Nat) (s1 : LR) (s8 s9 : Int) (b7 : LR) (f : LR → Int → Int → LR → Option α) (k0 : LR → Option α) : Option α :=
 bif (decide (s9 < s8)) then
  ob (f168 n s9 s1) fun r_1 =>
  ob (A3i n r_1) fun r_2 =>
  Cq r_2 (fun r_3 =>
   gd (decide ((b7.length + 1) * 56 ≤ 140737488355328)) (
    f s1 s8 (W (s9 + 1)) (b7 ++ [r_3]))) (fun r_4 =>
   Cq r_4 (fun r_5 =>
    gd (decide ((b7.length + 1) * 56 ≤ 140737488355328)) (
     f s1 s8 (W (s9 + 1)) (b7 ++ [(r_5.1, [], r_5.2.2)]))) (fun r_6 =>
    Cq r_6 (fun r_7 =>
     gd (decide ((b7.length + 1) * 56 ≤ 140737488355328)) (
      f s1 s8 (W (s9 + 1)) (b7 ++ [(r_7.1, r_7.2.1, [])]))) (fun r_8 =>
     none)))
 else
  k0 b7
abbrev G3 : Tm := ⟨[(1, .d (.clo 168 (.ref hRs))), (5, .k (.hw 7)), (8, .d hI), (9, .d hI)], [(7, .tree 30 hR false)], [], []⟩
abbrev A4x : Tm := ⟨[(5, .k (.hw 7))], [(7, .tree 30 hR false)], [], []⟩
abbrev J5 : List (Exit × Tm) := [(.exit 0, A4x)]
def J4 {α : Type} (n : Nat) (v : G3.den) (f : G3.den → Option α) (ks : KS α J5) : Option α := J6 n v.1.1 v.1.2.2.1 v.1.2.2.2.1 v.2.1 (fun s1 s8 s9 b7 => f ((s1, (), s8, s9, ()), (b7, ()))) (fun w0 => ks.1 (((), ()), (w0, ())))
def F2 {α : Type} (n m : Nat) (s1 : LR) (s8 s9 : Int) (b7 : LR) (k0 : LR → Option α) : Option α := A5 (J4 n) m ((s1, (), s8, s9, ()), (b7, ())) (fun w => k0 w.2.1, ())
theorem A4w {α n m s1 s8 s9 b7 k0} : F2 (α := α) n (m + 1) s1 s8 s9 b7 k0 = J6 n s1 s8 s9 b7 (fun s1 s8 s9 b7 => F2 n m s1 s8 s9 b7 k0) k0 := rfl
def Ma (n : Nat) (a0 : Int) (a1 : LR) : Option LR :=
 F2 n n a1 a0 0 []
  (fun z_9 => (
   some z_9))
def Wo (n : Nat) : Ent3 := ⟨129, [.im hI, .im (.clo 168 (.ref hRs))], [[.one (.tree 30 hR)]], fun x => Ma n x.1 x.2⟩
def Ms (α : Type) (n : Nat) : D3 α := { reg := [(1, ⟨0, [], [(0, { sh := some hR, tr := some hR })]⟩), (5, ⟨0, [], [(3, { ent := some (Abi n) }), (4, { entB := some (A9x n), hb := 310 }), (5, { sh := some hR })]⟩)], join := [], loop := [(3, ⟨G3, J5, A5 (J4 n) n⟩)] }
theorem Nz (α : Type) (n : Nat) : Aj PP (Ah (Ms α n).reg) := ⟨Afs n, Af4 n, trivial⟩
theorem A2a (α : Type) (n : Nat) : LO.Sound (α := α) PP ⟨21, []⟩ ⟨G3, J5, A5 (J4 n) n⟩ (.loop ((A1 Tryz.f129).at [1, 1, 0, 1, 0, 0])) := Ay (D := Ms α n) (Nz α n) n
theorem Ae3 (α : Type) (n : Nat) : D3.OK PP TT ⟨21, []⟩ (Ms α n) (A1 Tryz.f129) :=
 D3.OK.mk3 (Nz α n) (show Ad (A1 Tryz.f129) = [(3, (.loop ((A1 Tryz.f129).at [1, 1, 0, 1, 0, 0])))] by kernel_rfl) ⟨A9 rfl (A2a α n), trivial⟩
theorem Ac7 (n : Nat) : (Wo n).Sound PP := Si (fn := Tryz.f129) (Ae3 _ n) 

def Ajt (n : Nat) (a0 : LR) : Option LR :=
 ob (Ma n (a0.length : Int) a0) fun r_1 =>
 some r_1
def Agc (n : Nat) : Ent3 := ⟨100, [.im hRs], [[.one (.tree 30 hR)]], fun x => Ajt n x⟩
def Axb (α : Type) (n : Nat) : D3 α := { reg := [(1, ⟨0, [], [(2, { sh := some (.ref hRs) }), (3, { entB := some (Wo n), hb := 310 })]⟩)], join := [], loop := [] }
theorem At3 (n : Nat) : (Agc n).Sound PP := Km (fn := Tryz.f100) (D := Axb _ n) ⟨Ac7 n, trivial⟩ 

def f196 (n : Nat) (a0 : Int) (a1 a2 a3 : LR) : Option Rq :=
 gd (decide (0 ≤ a0) && decide (a0 < (a1.length : Int))) (
  let x_1 := a1.getD a0.toNat (false, [], [])
  gd (decide (0 ≤ a0) && decide (a0 < (a2.length : Int))) (
   let x_2 := a2.getD a0.toNat (false, [], [])
   ob (f181 n x_1 x_2) fun r_3 =>
   bif (decide (r_3 < 0)) then
    gd (decide (0 ≤ a0) && decide (a0 < (a2.length : Int))) (
     let x_4 := a2.getD a0.toNat (false, [], [])
     some x_4)
   else
    gd (decide (0 ≤ a0) && decide (a0 < (a1.length : Int))) (
     let x_5 := a1.getD a0.toNat (false, [], [])
     gd (decide (0 ≤ a0) && decide (a0 < (a3.length : Int))) (
      let x_6 := a3.getD a0.toNat (false, [], [])
      ob (f181 n x_5 x_6) fun r_7 =>
      bif (decide (r_7 > 0)) then
       gd (decide (0 ≤ a0) && decide (a0 < (a3.length : Int))) (
        let x_8 := a3.getD a0.toNat (false, [], [])
        some x_8)
      else
       gd (decide (0 ≤ a0) && decide (a0 < (a1.length : Int))) (
        let x_9 := a1.getD a0.toNat (false, [], [])
        some x_9)))))
def Aax (n : Nat) : Ent := ⟨196, [hI, (.ref hRs), (.ref hRs), (.ref hRs)], [hR], fun x => f196 n x.1 x.2.1 x.2.2.1 x.2.2.2⟩
def Azl (α : Type) (n : Nat) : D3 α := { reg := [(1, ⟨8, [], [(8, { ent := some (A1s n) })]⟩), (3, ⟨8, [], [(8, { ent := some (A1s n) })]⟩)], join := [], loop := [] }
theorem Afj (n : Nat) : (Aax n).Sound PP := Ap (fn := Tryz.f196) (D := Azl _ n) ⟨A4h n, A4h n, trivial⟩ 

def J3 {α : Type} (n : Nat) (s1 : LR × LR × LR) (s8 s9 : Int) (b7 : LR) (f : (LR × LR × LR) → Int → Int → LR → Option α) (k0 : LR → Option α) : Option α :=
 bif (decide (s9 < s8)) then
  ob (f196 n s9 s1.1 s1.2.1 s1.2.2) fun r_1 =>
  ob (A3i n r_1) fun r_2 =>
  Cq r_2 (fun r_3 =>
   gd (decide ((b7.length + 1) * 56 ≤ 140737488355328)) (
    f s1 s8 (W (s9 + 1)) (b7 ++ [r_3]))) (fun r_4 =>
   Cq r_4 (fun r_5 =>
    gd (decide ((b7.length + 1) * 56 ≤ 140737488355328)) (
     f s1 s8 (W (s9 + 1)) (b7 ++ [(r_5.1, [], r_5.2.2)]))) (fun r_6 =>
    Cq r_6 (fun r_7 =>
     gd (decide ((b7.length + 1) * 56 ≤ 140737488355328)) (
      f s1 s8 (W (s9 + 1)) (b7 ++ [(r_7.1, r_7.2.1, [])]))) (fun r_8 =>
     none)))
 else
  k0 b7
abbrev G2 : Tm := ⟨[(1, .d (.clo 196 (.pair (.ref hRs) (.pair (.ref hRs) (.ref hRs))))), (5, .k (.hw 7)), (8, .d hI), (9, .d hI)], [(7, .tree 30 hR false)], [], []⟩
abbrev A4u : Tm := ⟨[(5, .k (.hw 7))], [(7, .tree 30 hR false)], [], []⟩
abbrev J2 : List (Exit × Tm) := [(.exit 0, A4u)]
def J1 {α : Type} (n : Nat) (v : G2.den) (f : G2.den → Option α) (ks : KS α J2) : Option α := J3 n v.1.1 v.1.2.2.1 v.1.2.2.2.1 v.2.1 (fun s1 s8 s9 b7 => f ((s1, (), s8, s9, ()), (b7, ()))) (fun w0 => ks.1 (((), ()), (w0, ())))
def F1 {α : Type} (n m : Nat) (s1 : LR × LR × LR) (s8 s9 : Int) (b7 : LR) (k0 : LR → Option α) : Option α := A5 (J1 n) m ((s1, (), s8, s9, ()), (b7, ())) (fun w => k0 w.2.1, ())
theorem A4t {α n m s1 s8 s9 b7 k0} : F1 (α := α) n (m + 1) s1 s8 s9 b7 k0 = J3 n s1 s8 s9 b7 (fun s1 s8 s9 b7 => F1 n m s1 s8 s9 b7 k0) k0 := rfl
def M9 (n : Nat) (a0 : Int) (a1 : LR × LR × LR) : Option LR :=
 F1 n n a1 a0 0 []
  (fun z_9 => (
   some z_9))
def Wn (n : Nat) : Ent3 := ⟨129, [.im hI, .im (.clo 196 (.pair (.ref hRs) (.pair (.ref hRs) (.ref hRs))))], [[.one (.tree 30 hR)]], fun x => M9 n x.1 x.2⟩
def Mr (α : Type) (n : Nat) : D3 α := { reg := [(1, ⟨0, [], [(0, { sh := some hR, tr := some hR })]⟩), (5, ⟨0, [], [(3, { ent := some (Aax n) }), (4, { entB := some (A9x n), hb := 310 }), (5, { sh := some hR })]⟩)], join := [], loop := [(3, ⟨G2, J2, A5 (J1 n) n⟩)] }
theorem Nx (α : Type) (n : Nat) : Aj PP (Ah (Mr α n).reg) := ⟨Afj n, Af4 n, trivial⟩
theorem A28 (α : Type) (n : Nat) : LO.Sound (α := α) PP ⟨21, []⟩ ⟨G2, J2, A5 (J1 n) n⟩ (.loop ((A1 Tryz.f129).at [1, 1, 0, 1, 0, 0])) := Ay (D := Mr α n) (Nx α n) n
theorem Ae1 (α : Type) (n : Nat) : D3.OK PP TT ⟨21, []⟩ (Mr α n) (A1 Tryz.f129) :=
 D3.OK.mk3 (Nx α n) (show Ad (A1 Tryz.f129) = [(3, (.loop ((A1 Tryz.f129).at [1, 1, 0, 1, 0, 0])))] by kernel_rfl) ⟨A9 rfl (A28 α n), trivial⟩
theorem Ac5 (n : Nat) : (Wn n).Sound PP := Si (fn := Tryz.f129) (Ae1 _ n) 

def Ajb (n : Nat) (a0 a1 a2 : LR) : Option LR :=
 ob (M9 n (a0.length : Int) (a0, a1, a2)) fun r_1 =>
 some r_1
def Afw (n : Nat) : Ent3 := ⟨158, [.im hRs, .im hRs, .im hRs], [[.one (.tree 30 hR)]], fun x => Ajb n x.1 x.2.1 x.2.2⟩
def Awo (α : Type) (n : Nat) : D3 α := { reg := [(1, ⟨0, [], [(2, { sh := some (.pair (.ref hRs) (.pair (.ref hRs) (.ref hRs))) }), (3, { entB := some (Wn n), hb := 310 })]⟩)], join := [], loop := [] }
theorem Asx (n : Nat) : (Afw n).Sound PP := Km (fn := Tryz.f158) (D := Awo _ n) ⟨Ac5 n, trivial⟩ 

def Ahm (n : Nat) (a0 : LN × LR × LR × LR × Int × Rq × Int × Int) (a1 : LR) : Option LR :=
 ob (f157 n a0) fun r_1 =>
 bif (!r_1) then
  ob (Ajt n a1) fun r_2 =>
  some r_2
 else
  ob (Ajb n a1 a0.2.2.1 a0.2.2.2.1) fun r_3 =>
  some r_3
def Alv (n : Nat) : Ent3 := ⟨88, [.im (.st (.pair hE (.pair hRs (.pair hRs (.pair hRs (.pair hI (.pair hR (.pair hI hI)))))))), .im hRs], [[.one (.tree 30 hR)]], fun x => Ahm n x.1 x.2⟩
def Ay9 (α : Type) (n : Nat) : D3 α := { reg := [(1, ⟨0, [], [(1, { ent := some (Abn n) })]⟩), (2, ⟨0, [], [(1, { entB := some (Agc n), hb := 310 })]⟩), (3, ⟨0, [], [(5, { entB := some (Afw n), hb := 320 })]⟩)], join := [], loop := [] }
theorem Av5 (n : Nat) : (Alv n).Sound PP := Km (fn := Tryz.f88) (D := Ay9 _ n) ⟨Afx n, At3 n, Asx n, trivial⟩ 

def Ai0 (n : Nat) (a0 : LN × LR × LR × LR × Int × Rq × Int × Int) (a1 : LR) : Option ((LR × Int) ⊕ (Unit × Int)) :=
 ob (f84 n a0 a1) fun r_1 =>
 bif (r_1 != 0) then
  some (.inr ((), r_1))
 else
  ob (Ahm n a0 a1) fun r_2 =>
  some (.inl (r_2, 0))
def Amg (n : Nat) : Ent3 := ⟨34, [.im (.st (.pair hE (.pair hRs (.pair hRs (.pair hRs (.pair hI (.pair hR (.pair hI hI)))))))), .im hRs], [[.one (.tree 30 hR), .im hI], [.im .nil, .im hI]], fun x => Ai0 n x.1 x.2⟩
def Ays (α : Type) (n : Nat) : D3 α := { reg := [(1, ⟨0, [], [(2, { ent := some (Ahn n) })]⟩), (4, ⟨0, [], [(2, { entB := some (Alv n), hb := 310 })]⟩)], join := [], loop := [] }
theorem Avb (n : Nat) : (Amg n).Sound PP := Km (fn := Tryz.f34) (D := Ays _ n) ⟨Alw n, Av5 n, trivial⟩ 

def Zz {α : Type} (n : Nat) (s0 s1 : LI) (s5 : Int) (f : LI → LI → Int → Option α) (k0 : Bool → Option α) (k1 : Unit → Option α) : Option α :=
 bif (decide (s5 < (s0.length : Int))) then
  gd (decide (0 ≤ s5) && decide (s5 < (s0.length : Int))) (
   gd (decide (0 ≤ s5) && decide (s5 < (s1.length : Int))) (
    bif ((s0.getD s5.toNat 0) != (s1.getD s5.toNat 0)) then
     k0 false
    else
     f s0 s1 (W (s5 + 1))))
 else
  k1 ()
abbrev Qa : Tm := ⟨[(0, .d hIs), (1, .d hIs), (5, .d hI)], [], [], []⟩
abbrev Api : Tm := ⟨[(4, .d .bool)], [], [], []⟩
abbrev Aph : Tm := ⟨[], [], [], []⟩
abbrev Zy : List (Exit × Tm) := [(.ret, Api), (.exit 0, Aph)]
def Zx {α : Type} (n : Nat) (v : Qa.den) (f : Qa.den → Option α) (ks : KS α Zy) : Option α := Zz n v.1.1 v.1.2.1 v.1.2.2.1 (fun s0 s1 s5 => f ((s0, s1, s5, ()), ())) (fun w0 => ks.1 ((w0, ()), ())) (fun _ => ks.2.1 ((), ()))
def Vo {α : Type} (n m : Nat) (s0 s1 : LI) (s5 : Int) (k0 : Bool → Option α) (k1 : Unit → Option α) : Option α := A5 (Zx n) m ((s0, s1, s5, ()), ()) (fun w => k0 w.1.1, fun w => k1 (), ())
theorem Apg {α n m s0 s1 s5 k0 k1} : Vo (α := α) n (m + 1) s0 s1 s5 k0 k1 = Zz n s0 s1 s5 (fun s0 s1 s5 => Vo n m s0 s1 s5 k0 k1) k0 k1 := rfl
def f133 (n : Nat) (a0 a1 : LI) : Option Bool :=
 bif ((a0.length : Int) != (a1.length : Int)) then
  some false
 else
  Vo n n a0 a1 0
   (fun z_1 => (
    some z_1))
   (fun (_ : Unit) => (
    some true))
def Aby (n : Nat) : Ent := ⟨133, [hIs, hIs], [.bool], fun x => f133 n x.1 x.2⟩
def Abz (α : Type) (n : Nat) : D3 α := { reg := [(6, ⟨8, [], []⟩)], join := [], loop := [(4, ⟨Qa, Zy, A5 (Zx n) n⟩)] }
theorem A7f (α : Type) (n : Nat) : Aj PP (Ah (Abz α n).reg) := trivial
theorem Ajl (α : Type) (n : Nat) : LO.Sound (α := α) PP ⟨26, []⟩ ⟨Qa, Zy, A5 (Zx n) n⟩ (.loop ((A1 Tryz.f133).at [1, 1, 0, 1, 0, 0])) := Ay (D := Abz α n) (A7f α n) n
theorem B0t (α : Type) (n : Nat) : D3.OK PP TT ⟨26, []⟩ (Abz α n) (A1 Tryz.f133) :=
 D3.OK.mk3 (A7f α n) (show Ad (A1 Tryz.f133) = [(4, (.loop ((A1 Tryz.f133).at [1, 1, 0, 1, 0, 0])))] by kernel_rfl) ⟨A9 rfl (Ajl α n), trivial⟩
theorem Ag4 (n : Nat) : (Aby n).Sound PP := fk (fn := Tryz.f133) (B0t _ n) 

def f62 (n : Nat) (a0 a1 : Rq) : Option Bool :=
 bif (!(a0.1 == a1.1)) then
  some false
 else
  ob (f133 n a0.2.1 a1.2.1) fun r_1 =>
  bif (!r_1) then
   some false
  else
   ob (f133 n a0.2.2 a1.2.2) fun r_2 =>
   bif (!r_2) then
    some false
   else
    some true
def Ahw (n : Nat) : Ent := ⟨62, [hR, hR], [.bool], fun x => f62 n x.1 x.2⟩
def B28 (α : Type) (n : Nat) : D3 α := { reg := [(3, ⟨0, [], [(4, { ent := some (Aby n) })]⟩), (5, ⟨0, [], [(4, { ent := some (Aby n) })]⟩)], join := [], loop := [] }
theorem Am8 (n : Nat) : (Ahw n).Sound PP := Ap (fn := Tryz.f62) (D := B28 _ n) ⟨Ag4 n, Ag4 n, trivial⟩ 

def A44 {α : Type} (n : Nat) (s0 s1 : LR) (s5 : Int) (f : LR → LR → Int → Option α) (k0 : Bool → Option α) (k1 : Unit → Option α) : Option α :=
 bif (decide (s5 < (s0.length : Int))) then
  gd (decide (0 ≤ s5) && decide (s5 < (s0.length : Int))) (
   let x_1 := s0.getD s5.toNat (false, [], [])
   gd (decide (0 ≤ s5) && decide (s5 < (s1.length : Int))) (
    let x_2 := s1.getD s5.toNat (false, [], [])
    ob (f62 n x_1 x_2) fun r_3 =>
    bif (!r_3) then
     k0 false
    else
     f s0 s1 (W (s5 + 1))))
 else
  k1 ()
abbrev Ux : Tm := ⟨[(0, .d hRs), (1, .d hRs), (5, .d hI)], [], [], []⟩
abbrev Ase : Tm := ⟨[(4, .d .bool)], [], [], []⟩
abbrev Asd : Tm := ⟨[], [], [], []⟩
abbrev A43 : List (Exit × Tm) := [(.ret, Ase), (.exit 0, Asd)]
def A42 {α : Type} (n : Nat) (v : Ux.den) (f : Ux.den → Option α) (ks : KS α A43) : Option α := A44 n v.1.1 v.1.2.1 v.1.2.2.1 (fun s0 s1 s5 => f ((s0, s1, s5, ()), ())) (fun w0 => ks.1 ((w0, ()), ())) (fun _ => ks.2.1 ((), ()))
def A1g {α : Type} (n m : Nat) (s0 s1 : LR) (s5 : Int) (k0 : Bool → Option α) (k1 : Unit → Option α) : Option α := A5 (A42 n) m ((s0, s1, s5, ()), ()) (fun w => k0 w.1.1, fun w => k1 (), ())
theorem Asc {α n m s0 s1 s5 k0 k1} : A1g (α := α) n (m + 1) s0 s1 s5 k0 k1 = A44 n s0 s1 s5 (fun s0 s1 s5 => A1g n m s0 s1 s5 k0 k1) k0 k1 := rfl
def f20 (n : Nat) (a0 a1 : LR) : Option Bool :=
 bif ((a0.length : Int) != (a1.length : Int)) then
  some false
 else
  A1g n n a0 a1 0
   (fun z_4 => (
    some z_4))
   (fun (_ : Unit) => (
    some true))
def Ly (n : Nat) : Ent := ⟨20, [hRs, hRs], [.bool], fun x => f20 n x.1 x.2⟩
def Aia (α : Type) (n : Nat) : D3 α := { reg := [(6, ⟨8, [], [(8, { ent := some (Ahw n) })]⟩)], join := [], loop := [(4, ⟨Ux, A43, A5 (A42 n) n⟩)] }
theorem Aak (α : Type) (n : Nat) : Aj PP (Ah (Aia α n).reg) := ⟨Am8 n, trivial⟩
theorem Amu (α : Type) (n : Nat) : LO.Sound (α := α) PP ⟨27, []⟩ ⟨Ux, A43, A5 (A42 n) n⟩ (.loop ((A1 Tryz.f20).at [1, 1, 0, 1, 0, 0])) := Ay (D := Aia α n) (Aak α n) n
theorem B2j (α : Type) (n : Nat) : D3.OK PP TT ⟨27, []⟩ (Aia α n) (A1 Tryz.f20) :=
 D3.OK.mk3 (Aak α n) (show Ad (A1 Tryz.f20) = [(4, (.loop ((A1 Tryz.f20).at [1, 1, 0, 1, 0, 0])))] by kernel_rfl) ⟨A9 rfl (Amu α n), trivial⟩
theorem Ku (n : Nat) : (Ly n).Sound PP := fk (fn := Tryz.f20) (B2j _ n) 

def f195 (n : Nat) (a0 a1 : Nq) : Option Bool :=
 bif (a0.1 != a1.1) then
  some false
 else
  bif (a0.2.1 != a1.2.1) then
   some false
  else
   bif (a0.2.2.1 != a1.2.2.1) then
    some false
   else
    bif (a0.2.2.2 != a1.2.2.2) then
     some false
    else
     some true
def And (n : Nat) : Ent := ⟨195, [hN, hN], [.bool], fun x => f195 n x.1 x.2⟩
def Azm (α : Type) (n : Nat) : D3 α := { reg := [], join := [], loop := [] }
theorem Avv (n : Nat) : (And n).Sound PP := Ap (fn := Tryz.f195) (D := Azm _ n) trivial 

def Zl {α : Type} (n : Nat) (s0 s1 : LN) (s5 : Int) (f : LN → LN → Int → Option α) (k0 : Bool → Option α) (k1 : Unit → Option α) : Option α :=
 bif (decide (s5 < (s0.length : Int))) then
  gd (decide (0 ≤ s5) && decide (s5 < (s0.length : Int))) (
   let x_1 := s0.getD s5.toNat (0, 0, 0, 0)
   gd (decide (0 ≤ s5) && decide (s5 < (s1.length : Int))) (
    let x_2 := s1.getD s5.toNat (0, 0, 0, 0)
    ob (f195 n x_1 x_2) fun r_3 =>
    bif (!r_3) then
     k0 false
    else
     f s0 s1 (W (s5 + 1))))
 else
  k1 ()
abbrev Q4 : Tm := ⟨[(0, .d hNs), (1, .d hNs), (5, .d hI)], [], [], []⟩
abbrev Ap0 : Tm := ⟨[(4, .d .bool)], [], [], []⟩
abbrev Aoz : Tm := ⟨[], [], [], []⟩
abbrev Zk : List (Exit × Tm) := [(.ret, Ap0), (.exit 0, Aoz)]
def Zj {α : Type} (n : Nat) (v : Q4.den) (f : Q4.den → Option α) (ks : KS α Zk) : Option α := Zl n v.1.1 v.1.2.1 v.1.2.2.1 (fun s0 s1 s5 => f ((s0, s1, s5, ()), ())) (fun w0 => ks.1 ((w0, ()), ())) (fun _ => ks.2.1 ((), ()))
def Nr {α : Type} (n m : Nat) (s0 s1 : LN) (s5 : Int) (k0 : Bool → Option α) (k1 : Unit → Option α) : Option α := A5 (Zj n) m ((s0, s1, s5, ()), ()) (fun w => k0 w.1.1, fun w => k1 (), ())
theorem Aoy {α n m s0 s1 s5 k0 k1} : Nr (α := α) n (m + 1) s0 s1 s5 k0 k1 = Zl n s0 s1 s5 (fun s0 s1 s5 => Nr n m s0 s1 s5 k0 k1) k0 k1 := rfl
def f154 (n : Nat) (a0 a1 : LN) : Option Bool :=
 bif ((a0.length : Int) != (a1.length : Int)) then
  some false
 else
  Nr n n a0 a1 0
   (fun z_4 => (
    some z_4))
   (fun (_ : Unit) => (
    some true))
def Ap1 (n : Nat) : Ent := ⟨154, [hNs, hNs], [.bool], fun x => f154 n x.1 x.2⟩
def Abq (α : Type) (n : Nat) : D3 α := { reg := [(6, ⟨8, [], [(8, { ent := some (And n) })]⟩)], join := [], loop := [(4, ⟨Q4, Zk, A5 (Zj n) n⟩)] }
theorem A77 (α : Type) (n : Nat) : Aj PP (Ah (Abq α n).reg) := ⟨Avv n, trivial⟩
theorem Ajd (α : Type) (n : Nat) : LO.Sound (α := α) PP ⟨27, []⟩ ⟨Q4, Zk, A5 (Zj n) n⟩ (.loop ((A1 Tryz.f154).at [1, 1, 0, 1, 0, 0])) := Ay (D := Abq α n) (A77 α n) n
theorem B0g (α : Type) (n : Nat) : D3.OK PP TT ⟨27, []⟩ (Abq α n) (A1 Tryz.f154) :=
 D3.OK.mk3 (A77 α n) (show Ad (A1 Tryz.f154) = [(4, (.loop ((A1 Tryz.f154).at [1, 1, 0, 1, 0, 0])))] by kernel_rfl) ⟨A9 rfl (Ajd α n), trivial⟩
theorem Awq (n : Nat) : (Ap1 n).Sound PP := fk (fn := Tryz.f154) (B0g _ n) 

def f86 (n : Nat) (a0 a1 : LN) : Option Bool :=
 ob (f154 n a0 a1) fun r_1 =>
 bif (!r_1) then
  some false
 else
  some true
def Au3 (n : Nat) : Ent := ⟨86, [hE, hE], [.bool], fun x => f86 n x.1 x.2⟩
def B1w (α : Type) (n : Nat) : D3 α := { reg := [(1, ⟨0, [], [(4, { ent := some (Ap1 n) })]⟩)], join := [], loop := [] }
theorem Ayb (n : Nat) : (Au3 n).Sound PP := Ap (fn := Tryz.f86) (D := B1w _ n) ⟨Awq n, trivial⟩ 

def f32 (n : Nat) (a0 a1 : LN × LR × LR × LR × Int × Rq × Int × Int) : Option Bool :=
 ob (f86 n a0.1 a1.1) fun r_1 =>
 bif (!r_1) then
  some false
 else
  ob (f20 n a0.2.1 a1.2.1) fun r_2 =>
  bif (!r_2) then
   some false
  else
   ob (f20 n a0.2.2.1 a1.2.2.1) fun r_3 =>
   bif (!r_3) then
    some false
   else
    ob (f20 n a0.2.2.2.1 a1.2.2.2.1) fun r_4 =>
    bif (!r_4) then
     some false
    else
     bif (a0.2.2.2.2.1 != a1.2.2.2.2.1) then
      some false
     else
      ob (f62 n a0.2.2.2.2.2.1 a1.2.2.2.2.2.1) fun r_5 =>
      bif (!r_5) then
       some false
      else
       bif (a0.2.2.2.2.2.2.1 != a1.2.2.2.2.2.2.1) then
        some false
       else
        bif (a0.2.2.2.2.2.2.2 != a1.2.2.2.2.2.2.2) then
         some false
        else
         some true
def Aub (n : Nat) : Ent := ⟨32, [(.st (.pair hE (.pair hRs (.pair hRs (.pair hRs (.pair hI (.pair hR (.pair hI hI)))))))), (.st (.pair hE (.pair hRs (.pair hRs (.pair hRs (.pair hI (.pair hR (.pair hI hI))))))))], [.bool], fun x => f32 n x.1 x.2⟩
def B2e (α : Type) (n : Nat) : D3 α := { reg := [(1, ⟨0, [], [(4, { ent := some (Au3 n) })]⟩), (3, ⟨0, [], [(4, { ent := some (Ly n) })]⟩), (5, ⟨0, [], [(4, { ent := some (Ly n) })]⟩), (7, ⟨0, [], [(4, { ent := some (Ly n) })]⟩), (11, ⟨0, [], [(4, { ent := some (Ahw n) })]⟩)], join := [], loop := [] }
theorem Ayu (n : Nat) : (Aub n).Sound PP := Ap (fn := Tryz.f32) (D := B2e _ n) ⟨Ayb n, Ku n, Ku n, Ku n, Am8 n, trivial⟩ 

def Iq {α : Type} (n : Nat) (s1 s5 : Int) (b1000 : LN) (f : Int → Int → LN → Option α) (k0 : Int → LN → Option α) : Option α :=
 bif (decide (s5 < (b1000.length : Int))) then
  gd (decide (0 ≤ s5) && decide (s5 < (b1000.length : Int))) (
   gd (decide (s5.toNat < b1000.length)) (
    gd (decide (0 ≤ s5) && decide (s5 < (((b1000.set s5.toNat (s1, ((b1000.getD s5.toNat (0, 0, 0, 0)).2).1, (((b1000.getD s5.toNat (0, 0, 0, 0)).2).2))).length : Nat) : Int))) (
     gd (decide (s5.toNat < (b1000.set s5.toNat (s1, ((b1000.getD s5.toNat (0, 0, 0, 0)).2).1, (((b1000.getD s5.toNat (0, 0, 0, 0)).2).2))).length)) (
      gd (decide (0 ≤ s5) && decide (s5 < ((((b1000.set s5.toNat (s1, ((b1000.getD s5.toNat (0, 0, 0, 0)).2).1, (((b1000.getD s5.toNat (0, 0, 0, 0)).2).2))).set s5.toNat (((b1000.set s5.toNat (s1, ((b1000.getD s5.toNat (0, 0, 0, 0)).2).1, (((b1000.getD s5.toNat (0, 0, 0, 0)).2).2))).getD s5.toNat (0, 0, 0, 0)).1, (W (s1 + 1)), ((((b1000.set s5.toNat (s1, ((b1000.getD s5.toNat (0, 0, 0, 0)).2).1, (((b1000.getD s5.toNat (0, 0, 0, 0)).2).2))).getD s5.toNat (0, 0, 0, 0)).2).2))).length : Nat) : Int))) (
       gd (decide (s5.toNat < ((b1000.set s5.toNat (s1, ((b1000.getD s5.toNat (0, 0, 0, 0)).2).1, (((b1000.getD s5.toNat (0, 0, 0, 0)).2).2))).set s5.toNat (((b1000.set s5.toNat (s1, ((b1000.getD s5.toNat (0, 0, 0, 0)).2).1, (((b1000.getD s5.toNat (0, 0, 0, 0)).2).2))).getD s5.toNat (0, 0, 0, 0)).1, (W (s1 + 1)), ((((b1000.set s5.toNat (s1, ((b1000.getD s5.toNat (0, 0, 0, 0)).2).1, (((b1000.getD s5.toNat (0, 0, 0, 0)).2).2))).getD s5.toNat (0, 0, 0, 0)).2).2))).length)) (
        gd (decide (0 ≤ s5) && decide (s5 < (((((b1000.set s5.toNat (s1, ((b1000.getD s5.toNat (0, 0, 0, 0)).2).1, (((b1000.getD s5.toNat (0, 0, 0, 0)).2).2))).set s5.toNat (((b1000.set s5.toNat (s1, ((b1000.getD s5.toNat (0, 0, 0, 0)).2).1, (((b1000.getD s5.toNat (0, 0, 0, 0)).2).2))).getD s5.toNat (0, 0, 0, 0)).1, (W (s1 + 1)), ((((b1000.set s5.toNat (s1, ((b1000.getD s5.toNat (0, 0, 0, 0)).2).1, (((b1000.getD s5.toNat (0, 0, 0, 0)).2).2))).getD s5.toNat (0, 0, 0, 0)).2).2))).set s5.toNat ((((b1000.set s5.toNat (s1, ((b1000.getD s5.toNat (0, 0, 0, 0)).2).1, (((b1000.getD s5.toNat (0, 0, 0, 0)).2).2))).set s5.toNat (((b1000.set s5.toNat (s1, ((b1000.getD s5.toNat (0, 0, 0, 0)).2).1, (((b1000.getD s5.toNat (0, 0, 0, 0)).2).2))).getD s5.toNat (0, 0, 0, 0)).1, (W (s1 + 1)), ((((b1000.set s5.toNat (s1, ((b1000.getD s5.toNat (0, 0, 0, 0)).2).1, (((b1000.getD s5.toNat (0, 0, 0, 0)).2).2))).getD s5.toNat (0, 0, 0, 0)).2).2))).getD s5.toNat (0, 0, 0, 0)).1, ((((b1000.set s5.toNat (s1, ((b1000.getD s5.toNat (0, 0, 0, 0)).2).1, (((b1000.getD s5.toNat (0, 0, 0, 0)).2).2))).set s5.toNat (((b1000.set s5.toNat (s1, ((b1000.getD s5.toNat (0, 0, 0, 0)).2).1, (((b1000.getD s5.toNat (0, 0, 0, 0)).2).2))).getD s5.toNat (0, 0, 0, 0)).1, (W (s1 + 1)), ((((b1000.set s5.toNat (s1, ((b1000.getD s5.toNat (0, 0, 0, 0)).2).1, (((b1000.getD s5.toNat (0, 0, 0, 0)).2).2))).getD s5.toNat (0, 0, 0, 0)).2).2))).getD s5.toNat (0, 0, 0, 0)).2).1, (W ((W (s1 + 1)) + 1)), (((((b1000.set s5.toNat (s1, ((b1000.getD s5.toNat (0, 0, 0, 0)).2).1, (((b1000.getD s5.toNat (0, 0, 0, 0)).2).2))).set s5.toNat (((b1000.set s5.toNat (s1, ((b1000.getD s5.toNat (0, 0, 0, 0)).2).1, (((b1000.getD s5.toNat (0, 0, 0, 0)).2).2))).getD s5.toNat (0, 0, 0, 0)).1, (W (s1 + 1)), ((((b1000.set s5.toNat (s1, ((b1000.getD s5.toNat (0, 0, 0, 0)).2).1, (((b1000.getD s5.toNat (0, 0, 0, 0)).2).2))).getD s5.toNat (0, 0, 0, 0)).2).2))).getD s5.toNat (0, 0, 0, 0)).2).2).2)).length : Nat) : Int))) (
         gd (decide (s5.toNat < (((b1000.set s5.toNat (s1, ((b1000.getD s5.toNat (0, 0, 0, 0)).2).1, (((b1000.getD s5.toNat (0, 0, 0, 0)).2).2))).set s5.toNat (((b1000.set s5.toNat (s1, ((b1000.getD s5.toNat (0, 0, 0, 0)).2).1, (((b1000.getD s5.toNat (0, 0, 0, 0)).2).2))).getD s5.toNat (0, 0, 0, 0)).1, (W (s1 + 1)), ((((b1000.set s5.toNat (s1, ((b1000.getD s5.toNat (0, 0, 0, 0)).2).1, (((b1000.getD s5.toNat (0, 0, 0, 0)).2).2))).getD s5.toNat (0, 0, 0, 0)).2).2))).set s5.toNat ((((b1000.set s5.toNat (s1, ((b1000.getD s5.toNat (0, 0, 0, 0)).2).1, (((b1000.getD s5.toNat (0, 0, 0, 0)).2).2))).set s5.toNat (((b1000.set s5.toNat (s1, ((b1000.getD s5.toNat (0, 0, 0, 0)).2).1, (((b1000.getD s5.toNat (0, 0, 0, 0)).2).2))).getD s5.toNat (0, 0, 0, 0)).1, (W (s1 + 1)), ((((b1000.set s5.toNat (s1, ((b1000.getD s5.toNat (0, 0, 0, 0)).2).1, (((b1000.getD s5.toNat (0, 0, 0, 0)).2).2))).getD s5.toNat (0, 0, 0, 0)).2).2))).getD s5.toNat (0, 0, 0, 0)).1, ((((b1000.set s5.toNat (s1, ((b1000.getD s5.toNat (0, 0, 0, 0)).2).1, (((b1000.getD s5.toNat (0, 0, 0, 0)).2).2))).set s5.toNat (((b1000.set s5.toNat (s1, ((b1000.getD s5.toNat (0, 0, 0, 0)).2).1, (((b1000.getD s5.toNat (0, 0, 0, 0)).2).2))).getD s5.toNat (0, 0, 0, 0)).1, (W (s1 + 1)), ((((b1000.set s5.toNat (s1, ((b1000.getD s5.toNat (0, 0, 0, 0)).2).1, (((b1000.getD s5.toNat (0, 0, 0, 0)).2).2))).getD s5.toNat (0, 0, 0, 0)).2).2))).getD s5.toNat (0, 0, 0, 0)).2).1, (W ((W (s1 + 1)) + 1)), (((((b1000.set s5.toNat (s1, ((b1000.getD s5.toNat (0, 0, 0, 0)).2).1, (((b1000.getD s5.toNat (0, 0, 0, 0)).2).2))).set s5.toNat (((b1000.set s5.toNat (s1, ((b1000.getD s5.toNat (0, 0, 0, 0)).2).1, (((b1000.getD s5.toNat (0, 0, 0, 0)).2).2))).getD s5.toNat (0, 0, 0, 0)).1, (W (s1 + 1)), ((((b1000.set s5.toNat (s1, ((b1000.getD s5.toNat (0, 0, 0, 0)).2).1, (((b1000.getD s5.toNat (0, 0, 0, 0)).2).2))).getD s5.toNat (0, 0, 0, 0)).2).2))).getD s5.toNat (0, 0, 0, 0)).2).2).2)).length)) (
          f (W ((W ((W ((W (s1 + 1)) + 1)) + 1)) + 1)) (W (s5 + 1)) ((((b1000.set s5.toNat (s1, ((b1000.getD s5.toNat (0, 0, 0, 0)).2).1, (((b1000.getD s5.toNat (0, 0, 0, 0)).2).2))).set s5.toNat (((b1000.set s5.toNat (s1, ((b1000.getD s5.toNat (0, 0, 0, 0)).2).1, (((b1000.getD s5.toNat (0, 0, 0, 0)).2).2))).getD s5.toNat (0, 0, 0, 0)).1, (W (s1 + 1)), ((((b1000.set s5.toNat (s1, ((b1000.getD s5.toNat (0, 0, 0, 0)).2).1, (((b1000.getD s5.toNat (0, 0, 0, 0)).2).2))).getD s5.toNat (0, 0, 0, 0)).2).2))).set s5.toNat ((((b1000.set s5.toNat (s1, ((b1000.getD s5.toNat (0, 0, 0, 0)).2).1, (((b1000.getD s5.toNat (0, 0, 0, 0)).2).2))).set s5.toNat (((b1000.set s5.toNat (s1, ((b1000.getD s5.toNat (0, 0, 0, 0)).2).1, (((b1000.getD s5.toNat (0, 0, 0, 0)).2).2))).getD s5.toNat (0, 0, 0, 0)).1, (W (s1 + 1)), ((((b1000.set s5.toNat (s1, ((b1000.getD s5.toNat (0, 0, 0, 0)).2).1, (((b1000.getD s5.toNat (0, 0, 0, 0)).2).2))).getD s5.toNat (0, 0, 0, 0)).2).2))).getD s5.toNat (0, 0, 0, 0)).1, ((((b1000.set s5.toNat (s1, ((b1000.getD s5.toNat (0, 0, 0, 0)).2).1, (((b1000.getD s5.toNat (0, 0, 0, 0)).2).2))).set s5.toNat (((b1000.set s5.toNat (s1, ((b1000.getD s5.toNat (0, 0, 0, 0)).2).1, (((b1000.getD s5.toNat (0, 0, 0, 0)).2).2))).getD s5.toNat (0, 0, 0, 0)).1, (W (s1 + 1)), ((((b1000.set s5.toNat (s1, ((b1000.getD s5.toNat (0, 0, 0, 0)).2).1, (((b1000.getD s5.toNat (0, 0, 0, 0)).2).2))).getD s5.toNat (0, 0, 0, 0)).2).2))).getD s5.toNat (0, 0, 0, 0)).2).1, (W ((W (s1 + 1)) + 1)), (((((b1000.set s5.toNat (s1, ((b1000.getD s5.toNat (0, 0, 0, 0)).2).1, (((b1000.getD s5.toNat (0, 0, 0, 0)).2).2))).set s5.toNat (((b1000.set s5.toNat (s1, ((b1000.getD s5.toNat (0, 0, 0, 0)).2).1, (((b1000.getD s5.toNat (0, 0, 0, 0)).2).2))).getD s5.toNat (0, 0, 0, 0)).1, (W (s1 + 1)), ((((b1000.set s5.toNat (s1, ((b1000.getD s5.toNat (0, 0, 0, 0)).2).1, (((b1000.getD s5.toNat (0, 0, 0, 0)).2).2))).getD s5.toNat (0, 0, 0, 0)).2).2))).getD s5.toNat (0, 0, 0, 0)).2).2).2)).set s5.toNat (((((b1000.set s5.toNat (s1, ((b1000.getD s5.toNat (0, 0, 0, 0)).2).1, (((b1000.getD s5.toNat (0, 0, 0, 0)).2).2))).set s5.toNat (((b1000.set s5.toNat (s1, ((b1000.getD s5.toNat (0, 0, 0, 0)).2).1, (((b1000.getD s5.toNat (0, 0, 0, 0)).2).2))).getD s5.toNat (0, 0, 0, 0)).1, (W (s1 + 1)), ((((b1000.set s5.toNat (s1, ((b1000.getD s5.toNat (0, 0, 0, 0)).2).1, (((b1000.getD s5.toNat (0, 0, 0, 0)).2).2))).getD s5.toNat (0, 0, 0, 0)).2).2))).set s5.toNat ((((b1000.set s5.toNat (s1, ((b1000.getD s5.toNat (0, 0, 0, 0)).2).1, (((b1000.getD s5.toNat (0, 0, 0, 0)).2).2))).set s5.toNat (((b1000.set s5.toNat (s1, ((b1000.getD s5.toNat (0, 0, 0, 0)).2).1, (((b1000.getD s5.toNat (0, 0, 0, 0)).2).2))).getD s5.toNat (0, 0, 0, 0)).1, (W (s1 + 1)), ((((b1000.set s5.toNat (s1, ((b1000.getD s5.toNat (0, 0, 0, 0)).2).1, (((b1000.getD s5.toNat (0, 0, 0, 0)).2).2))).getD s5.toNat (0, 0, 0, 0)).2).2))).getD s5.toNat (0, 0, 0, 0)).1, ((((b1000.set s5.toNat (s1, ((b1000.getD s5.toNat (0, 0, 0, 0)).2).1, (((b1000.getD s5.toNat (0, 0, 0, 0)).2).2))).set s5.toNat (((b1000.set s5.toNat (s1, ((b1000.getD s5.toNat (0, 0, 0, 0)).2).1, (((b1000.getD s5.toNat (0, 0, 0, 0)).2).2))).getD s5.toNat (0, 0, 0, 0)).1, (W (s1 + 1)), ((((b1000.set s5.toNat (s1, ((b1000.getD s5.toNat (0, 0, 0, 0)).2).1, (((b1000.getD s5.toNat (0, 0, 0, 0)).2).2))).getD s5.toNat (0, 0, 0, 0)).2).2))).getD s5.toNat (0, 0, 0, 0)).2).1, (W ((W (s1 + 1)) + 1)), (((((b1000.set s5.toNat (s1, ((b1000.getD s5.toNat (0, 0, 0, 0)).2).1, (((b1000.getD s5.toNat (0, 0, 0, 0)).2).2))).set s5.toNat (((b1000.set s5.toNat (s1, ((b1000.getD s5.toNat (0, 0, 0, 0)).2).1, (((b1000.getD s5.toNat (0, 0, 0, 0)).2).2))).getD s5.toNat (0, 0, 0, 0)).1, (W (s1 + 1)), ((((b1000.set s5.toNat (s1, ((b1000.getD s5.toNat (0, 0, 0, 0)).2).1, (((b1000.getD s5.toNat (0, 0, 0, 0)).2).2))).getD s5.toNat (0, 0, 0, 0)).2).2))).getD s5.toNat (0, 0, 0, 0)).2).2).2)).getD s5.toNat (0, 0, 0, 0)).1, (((((b1000.set s5.toNat (s1, ((b1000.getD s5.toNat (0, 0, 0, 0)).2).1, (((b1000.getD s5.toNat (0, 0, 0, 0)).2).2))).set s5.toNat (((b1000.set s5.toNat (s1, ((b1000.getD s5.toNat (0, 0, 0, 0)).2).1, (((b1000.getD s5.toNat (0, 0, 0, 0)).2).2))).getD s5.toNat (0, 0, 0, 0)).1, (W (s1 + 1)), ((((b1000.set s5.toNat (s1, ((b1000.getD s5.toNat (0, 0, 0, 0)).2).1, (((b1000.getD s5.toNat (0, 0, 0, 0)).2).2))).getD s5.toNat (0, 0, 0, 0)).2).2))).set s5.toNat ((((b1000.set s5.toNat (s1, ((b1000.getD s5.toNat (0, 0, 0, 0)).2).1, (((b1000.getD s5.toNat (0, 0, 0, 0)).2).2))).set s5.toNat (((b1000.set s5.toNat (s1, ((b1000.getD s5.toNat (0, 0, 0, 0)).2).1, (((b1000.getD s5.toNat (0, 0, 0, 0)).2).2))).getD s5.toNat (0, 0, 0, 0)).1, (W (s1 + 1)), ((((b1000.set s5.toNat (s1, ((b1000.getD s5.toNat (0, 0, 0, 0)).2).1, (((b1000.getD s5.toNat (0, 0, 0, 0)).2).2))).getD s5.toNat (0, 0, 0, 0)).2).2))).getD s5.toNat (0, 0, 0, 0)).1, ((((b1000.set s5.toNat (s1, ((b1000.getD s5.toNat (0, 0, 0, 0)).2).1, (((b1000.getD s5.toNat (0, 0, 0, 0)).2).2))).set s5.toNat (((b1000.set s5.toNat (s1, ((b1000.getD s5.toNat (0, 0, 0, 0)).2).1, (((b1000.getD s5.toNat (0, 0, 0, 0)).2).2))).getD s5.toNat (0, 0, 0, 0)).1, (W (s1 + 1)), ((((b1000.set s5.toNat (s1, ((b1000.getD s5.toNat (0, 0, 0, 0)).2).1, (((b1000.getD s5.toNat (0, 0, 0, 0)).2).2))).getD s5.toNat (0, 0, 0, 0)).2).2))).getD s5.toNat (0, 0, 0, 0)).2).1, (W ((W (s1 + 1)) + 1)), (((((b1000.set s5.toNat (s1, ((b1000.getD s5.toNat (0, 0, 0, 0)).2).1, (((b1000.getD s5.toNat (0, 0, 0, 0)).2).2))).set s5.toNat (((b1000.set s5.toNat (s1, ((b1000.getD s5.toNat (0, 0, 0, 0)).2).1, (((b1000.getD s5.toNat (0, 0, 0, 0)).2).2))).getD s5.toNat (0, 0, 0, 0)).1, (W (s1 + 1)), ((((b1000.set s5.toNat (s1, ((b1000.getD s5.toNat (0, 0, 0, 0)).2).1, (((b1000.getD s5.toNat (0, 0, 0, 0)).2).2))).getD s5.toNat (0, 0, 0, 0)).2).2))).getD s5.toNat (0, 0, 0, 0)).2).2).2)).getD s5.toNat (0, 0, 0, 0)).2).1, ((((((b1000.set s5.toNat (s1, ((b1000.getD s5.toNat (0, 0, 0, 0)).2).1, (((b1000.getD s5.toNat (0, 0, 0, 0)).2).2))).set s5.toNat (((b1000.set s5.toNat (s1, ((b1000.getD s5.toNat (0, 0, 0, 0)).2).1, (((b1000.getD s5.toNat (0, 0, 0, 0)).2).2))).getD s5.toNat (0, 0, 0, 0)).1, (W (s1 + 1)), ((((b1000.set s5.toNat (s1, ((b1000.getD s5.toNat (0, 0, 0, 0)).2).1, (((b1000.getD s5.toNat (0, 0, 0, 0)).2).2))).getD s5.toNat (0, 0, 0, 0)).2).2))).set s5.toNat ((((b1000.set s5.toNat (s1, ((b1000.getD s5.toNat (0, 0, 0, 0)).2).1, (((b1000.getD s5.toNat (0, 0, 0, 0)).2).2))).set s5.toNat (((b1000.set s5.toNat (s1, ((b1000.getD s5.toNat (0, 0, 0, 0)).2).1, (((b1000.getD s5.toNat (0, 0, 0, 0)).2).2))).getD s5.toNat (0, 0, 0, 0)).1, (W (s1 + 1)), ((((b1000.set s5.toNat (s1, ((b1000.getD s5.toNat (0, 0, 0, 0)).2).1, (((b1000.getD s5.toNat (0, 0, 0, 0)).2).2))).getD s5.toNat (0, 0, 0, 0)).2).2))).getD s5.toNat (0, 0, 0, 0)).1, ((((b1000.set s5.toNat (s1, ((b1000.getD s5.toNat (0, 0, 0, 0)).2).1, (((b1000.getD s5.toNat (0, 0, 0, 0)).2).2))).set s5.toNat (((b1000.set s5.toNat (s1, ((b1000.getD s5.toNat (0, 0, 0, 0)).2).1, (((b1000.getD s5.toNat (0, 0, 0, 0)).2).2))).getD s5.toNat (0, 0, 0, 0)).1, (W (s1 + 1)), ((((b1000.set s5.toNat (s1, ((b1000.getD s5.toNat (0, 0, 0, 0)).2).1, (((b1000.getD s5.toNat (0, 0, 0, 0)).2).2))).getD s5.toNat (0, 0, 0, 0)).2).2))).getD s5.toNat (0, 0, 0, 0)).2).1, (W ((W (s1 + 1)) + 1)), (((((b1000.set s5.toNat (s1, ((b1000.getD s5.toNat (0, 0, 0, 0)).2).1, (((b1000.getD s5.toNat (0, 0, 0, 0)).2).2))).set s5.toNat (((b1000.set s5.toNat (s1, ((b1000.getD s5.toNat (0, 0, 0, 0)).2).1, (((b1000.getD s5.toNat (0, 0, 0, 0)).2).2))).getD s5.toNat (0, 0, 0, 0)).1, (W (s1 + 1)), ((((b1000.set s5.toNat (s1, ((b1000.getD s5.toNat (0, 0, 0, 0)).2).1, (((b1000.getD s5.toNat (0, 0, 0, 0)).2).2))).getD s5.toNat (0, 0, 0, 0)).2).2))).getD s5.toNat (0, 0, 0, 0)).2).2).2)).getD s5.toNat (0, 0, 0, 0)).2).2).1, (W ((W ((W (s1 + 1)) + 1)) + 1))))))))))))
 else
  k0 s1 b1000
abbrev M4 : Tm := ⟨[(0, .k (.hw 1000)), (1, .d hI), (5, .d hI)], [(1000, .arr 150 hN false)], [], []⟩
abbrev Aja : Tm := ⟨[(1, .d hI)], [(1000, .arr 150 hN false)], [], []⟩
abbrev Te : List (Exit × Tm) := [(.exit 0, Aja)]
def Td {α : Type} (n : Nat) (v : M4.den) (f : M4.den → Option α) (ks : KS α Te) : Option α := Iq n v.1.2.1 v.1.2.2.1 v.2.1 (fun s1 s5 b1000 => f (((), s1, s5, ()), (b1000, ()))) (fun w0 w1 => ks.1 ((w0, ()), (w1, ())))
def Q2 {α : Type} (n m : Nat) (s1 s5 : Int) (b1000 : LN) (k0 : Int → LN → Option α) : Option α := A5 (Td n) m (((), s1, s5, ()), (b1000, ())) (fun w => k0 w.1.1 w.2.1, ())
theorem A1z {α n m s1 s5 b1000 k0} : Q2 (α := α) n (m + 1) s1 s5 b1000 k0 = Iq n s1 s5 b1000 (fun s1 s5 b1000 => Q2 n m s1 s5 b1000 k0) k0 := rfl
def A8k (n : Nat) (a0 : LN) (a1 : Int) : Option (Int × LN) :=
 Q2 n n a1 0 a0
  (fun z_1 z_2 => (
   some (z_1, z_2)))
def Afv (n : Nat) : Ent3 := ⟨159, [.one (.own 150 hN), .im hI], [[.im hI]], fun x => A8k n x.1 x.2⟩
def A4m (α : Type) (n : Nat) : D3 α := { reg := [], join := [], loop := [(2, ⟨M4, Te, A5 (Td n) n⟩)] }
theorem A1y (α : Type) (n : Nat) : Aj PP (Ah (A4m α n).reg) := trivial
theorem Adx (α : Type) (n : Nat) : LO.Sound (α := α) PP ⟨41, []⟩ ⟨M4, Te, A5 (Td n) n⟩ (.loop ((A1 Tryz.f159).at [1, 0, 1, 0, 0])) := Ay (D := A4m α n) (A1y α n) n
theorem Awm (α : Type) (n : Nat) : D3.OK PP TT ⟨41, []⟩ (A4m α n) (A1 Tryz.f159) :=
 D3.OK.mk3 (A1y α n) (show Ad (A1 Tryz.f159) = [(2, (.loop ((A1 Tryz.f159).at [1, 0, 1, 0, 0])))] by kernel_rfl) ⟨A9 rfl (Adx α n), trivial⟩
theorem Asv (n : Nat) : (Afv n).Sound PP := Si (fn := Tryz.f159) (Awm _ n) 

def Ahl (n : Nat) (a0 : LN) (a1 : Int) : Option (Int × LN) :=
 ob (A8k n a0 a1) fun r_1 =>
 gd (Nat.beq r_1.2.length a0.length && true) (
  some (r_1.1, r_1.2))
def Alu (n : Nat) : Ent3 := ⟨89, [.mix [.own 150 hN], .im hI], [[.im hI]], fun x => Ahl n x.1 x.2⟩
def Ay7 (α : Type) (n : Nat) : D3 α := { reg := [(1, ⟨0, [], [(3, { entB := some (Afv n), hb := 310 })]⟩)], join := [], loop := [] }
theorem Av3 (n : Nat) : (Alu n).Sound PP := Km (fn := Tryz.f89) (D := Ay7 _ n) ⟨Asv n, trivial⟩ 

def Af6 {α : Type} (n : Nat) (s0 : LI) (s1 s5 : Int) (f : LI → Int → Int → Option α) (k0 : Int → Option α) : Option α :=
 bif (decide (s5 < (s0.length : Int))) then
  gd (decide (0 ≤ s5) && decide (s5 < (s0.length : Int))) (
   none)
 else
  k0 s1
abbrev Uo : Tm := ⟨[(0, .d hIs), (1, .d hI), (5, .d hI)], [], [], []⟩
abbrev As3 : Tm := ⟨[(1, .d hI)], [], [], []⟩
abbrev A3s : List (Exit × Tm) := [(.exit 0, As3)]
def A3r {α : Type} (n : Nat) (v : Uo.den) (f : Uo.den → Option α) (ks : KS α A3s) : Option α := Af6 n v.1.1 v.1.2.1 v.1.2.2.1 (fun s0 s1 s5 => f ((s0, s1, s5, ()), ())) (fun w0 => ks.1 ((w0, ()), ()))
def Aa3 {α : Type} (n m : Nat) (s0 : LI) (s1 s5 : Int) (k0 : Int → Option α) : Option α := A5 (A3r n) m ((s0, s1, s5, ()), ()) (fun w => k0 w.1.1, ())
theorem As2 {α n m s0 s1 s5 k0} : Aa3 (α := α) n (m + 1) s0 s1 s5 k0 = Af6 n s0 s1 s5 (fun s0 s1 s5 => Aa3 n m s0 s1 s5 k0) k0 := rfl
def f63 (n : Nat) (a0 : LI) (a1 : Int) : Option Int :=
 Aa3 n n a0 a1 0
  (fun z_1 => (
   some z_1))
def Aht (n : Nat) : Ent := ⟨63, [hIs, hI], [hI], fun x => f63 n x.1 x.2⟩
def Ahu (α : Type) (n : Nat) : D3 α := { reg := [], join := [], loop := [(2, ⟨Uo, A3s, A5 (A3r n) n⟩)] }
theorem Aa2 (α : Type) (n : Nat) : Aj PP (Ah (Ahu α n).reg) := trivial
theorem Am6 (α : Type) (n : Nat) : LO.Sound (α := α) PP ⟨19, []⟩ ⟨Uo, A3s, A5 (A3r n) n⟩ (.loop ((A1 Tryz.f63).at [1, 0, 1, 0, 0])) := Ay (D := Ahu α n) (Aa2 α n) n
theorem B27 (α : Type) (n : Nat) : D3.OK PP TT ⟨19, []⟩ (Ahu α n) (A1 Tryz.f63) :=
 D3.OK.mk3 (Aa2 α n) (show Ad (A1 Tryz.f63) = [(2, (.loop ((A1 Tryz.f63).at [1, 0, 1, 0, 0])))] by kernel_rfl) ⟨A9 rfl (Am6 α n), trivial⟩
theorem Am5 (n : Nat) : (Aht n).Sound PP := fk (fn := Tryz.f63) (B27 _ n) 

def Oy {α : Type} (n : Nat) (s1 s5 : Int) (b1000 : LI) (f : Int → Int → LI → Option α) (k0 : Int → LI → Option α) : Option α :=
 bif (decide (s5 < (b1000.length : Int))) then
  gd (decide (0 ≤ s5) && decide (s5 < (b1000.length : Int))) (
   gd (decide (s5.toNat < b1000.length)) (
    f (W (s1 + 1)) (W (s5 + 1)) (b1000.set s5.toNat s1)))
 else
  k0 s1 b1000
abbrev Ox : Tm := ⟨[(0, .k (.hw 1000)), (1, .d hI), (5, .d hI)], [(1000, .arr 3 hI false)], [], []⟩
abbrev Am7 : Tm := ⟨[(1, .d hI)], [(1000, .arr 3 hI false)], [], []⟩
abbrev Xh : List (Exit × Tm) := [(.exit 0, Am7)]
def Xg {α : Type} (n : Nat) (v : Ox.den) (f : Ox.den → Option α) (ks : KS α Xh) : Option α := Oy n v.1.2.1 v.1.2.2.1 v.2.1 (fun s1 s5 b1000 => f (((), s1, s5, ()), (b1000, ()))) (fun w0 w1 => ks.1 ((w0, ()), (w1, ())))
def Uq {α : Type} (n m : Nat) (s1 s5 : Int) (b1000 : LI) (k0 : Int → LI → Option α) : Option α := A5 (Xg n) m (((), s1, s5, ()), (b1000, ())) (fun w => k0 w.1.1 w.2.1, ())
theorem A69 {α n m s1 s5 b1000 k0} : Uq (α := α) n (m + 1) s1 s5 b1000 k0 = Oy n s1 s5 b1000 (fun s1 s5 b1000 => Uq n m s1 s5 b1000 k0) k0 := rfl
def Sq (n : Nat) (a0 : LI) (a1 : Int) : Option (Int × LI) :=
 Uq n n a1 0 a0
  (fun z_1 z_2 => (
   some (z_1, z_2)))
def Sp (n : Nat) : Ent3 := ⟨63, [.one (.own 3 hI), .im hI], [[.im hI]], fun x => Sq n x.1 x.2⟩
def Aa4 (α : Type) (n : Nat) : D3 α := { reg := [], join := [], loop := [(2, ⟨Ox, Xh, A5 (Xg n) n⟩)] }
theorem A68 (α : Type) (n : Nat) : Aj PP (Ah (Aa4 α n).reg) := trivial
theorem Ahv (α : Type) (n : Nat) : LO.Sound (α := α) PP ⟨19, []⟩ ⟨Ox, Xh, A5 (Xg n) n⟩ (.loop ((A1 Tryz.f63).at [1, 0, 1, 0, 0])) := Ay (D := Aa4 α n) (A68 α n) n
theorem Ayn (α : Type) (n : Nat) : D3.OK PP TT ⟨19, []⟩ (Aa4 α n) (A1 Tryz.f63) :=
 D3.OK.mk3 (A68 α n) (show Ad (A1 Tryz.f63) = [(2, (.loop ((A1 Tryz.f63).at [1, 0, 1, 0, 0])))] by kernel_rfl) ⟨A9 rfl (Ahv α n), trivial⟩
theorem Up (n : Nat) : (Sp n).Sound PP := Si (fn := Tryz.f63) (Ayn _ n) 

def P1 {α : Type} (n : Nat) (s1 s5 : Int) (b1000 : LR) (f : Int → Int → LR → Option α) (k0 : Int → LR → Option α) : Option α :=
 bif (decide (s5 < (b1000.length : Int))) then
  gd (decide (0 ≤ s5) && decide (s5 < (b1000.length : Int))) (
   gd (decide (s5.toNat < b1000.length)) (
    let x_1 := b1000.set s5.toNat (((Int.tmod s1 3) == 0), ((b1000.getD s5.toNat (false, [], [])).2))
    gd (decide (0 ≤ s5) && decide (s5 < (x_1.length : Int))) (
     gd (decide (s5.toNat < x_1.length)) (
      let x_2 := x_1.getD s5.toNat (false, [], [])
      bif x_2.2.1.isEmpty then
       ob (f63 n [] (W (s1 + 1))) fun r_3 =>
       gd (decide (0 ≤ s5) && decide (s5 < (x_1.length : Int))) (
        gd (decide (s5.toNat < x_1.length)) (
         let x_4 := x_1.getD s5.toNat (false, [], [])
         bif x_4.2.2.isEmpty then
          ob (f63 n [] r_3) fun r_5 =>
          f r_5 (W (s5 + 1)) x_1
         else
          ob (Sq n x_4.2.2 r_3) fun r_6 =>
          gd (Nat.beq r_6.2.length x_4.2.2.length && true) (
           gd (decide (s5.toNat < x_1.length)) (
            let x_7 := x_1.set s5.toNat ((x_1.getD s5.toNat (false, [], [])).1, ((x_1.getD s5.toNat (false, [], [])).2).1, r_6.2)
            f r_6.1 (W (s5 + 1)) x_7))))
      else
       ob (Sq n x_2.2.1 (W (s1 + 1))) fun r_8 =>
       gd (Nat.beq r_8.2.length x_2.2.1.length && true) (
        gd (decide (s5.toNat < x_1.length)) (
         let x_9 := x_1.set s5.toNat ((x_1.getD s5.toNat (false, [], [])).1, r_8.2, ((x_1.getD s5.toNat (false, [], [])).2).2)
         gd (decide (0 ≤ s5) && decide (s5 < (x_9.length : Int))) (
          gd (decide (s5.toNat < x_9.length)) (
           let x_10 := x_9.getD s5.toNat (false, [], [])
           bif x_10.2.2.isEmpty then
            ob (f63 n [] r_8.1) fun r_11 =>
            f r_11 (W (s5 + 1)) x_9
           else
            ob (Sq n x_10.2.2 r_8.1) fun r_12 =>
            gd (Nat.beq r_12.2.length x_10.2.2.length && true) (
             gd (decide (s5.toNat < x_9.length)) (
              let x_13 := x_9.set s5.toNat ((x_9.getD s5.toNat (false, [], [])).1, ((x_9.getD s5.toNat (false, [], [])).2).1, r_12.2)
              f r_12.1 (W (s5 + 1)) x_13))))))))))
 else
  k0 s1 b1000
abbrev P0 : Tm := ⟨[(0, .k (.hw 1000)), (1, .d hI), (5, .d hI)], [(1000, .tree 30 hR false)], [], []⟩
abbrev Amn : Tm := ⟨[(1, .d hI)], [(1000, .tree 30 hR false)], [], []⟩
abbrev Xl : List (Exit × Tm) := [(.exit 0, Amn)]
def Xk {α : Type} (n : Nat) (v : P0.den) (f : P0.den → Option α) (ks : KS α Xl) : Option α := P1 n v.1.2.1 v.1.2.2.1 v.2.1 (fun s1 s5 b1000 => f (((), s1, s5, ()), (b1000, ()))) (fun w0 w1 => ks.1 ((w0, ()), (w1, ())))
def Nf {α : Type} (n m : Nat) (s1 s5 : Int) (b1000 : LR) (k0 : Int → LR → Option α) : Option α := A5 (Xk n) m (((), s1, s5, ()), (b1000, ())) (fun w => k0 w.1.1 w.2.1, ())
theorem A6c {α n m s1 s5 b1000 k0} : Nf (α := α) n (m + 1) s1 s5 b1000 k0 = P1 n s1 s5 b1000 (fun s1 s5 b1000 => Nf n m s1 s5 b1000 k0) k0 := rfl
def P2 (n : Nat) (a0 : LR) (a1 : Int) : Option (Int × LR) :=
 Nf n n a1 0 a0
  (fun z_14 z_15 => (
   some (z_14, z_15)))
def Ng (n : Nat) : Ent3 := ⟨21, [.one (.tree 30 hR), .im hI], [[.im hI]], fun x => P2 n x.1 x.2⟩
def Aag (α : Type) (n : Nat) : D3 α := { reg := [(6, ⟨0, [], [(4, { bor := some 2000 }), (6, { ent := some (Aht n), alt := [(Sp n)], hb := 320, shut := some 2000 })]⟩), (7, ⟨0, [], [(4, { bor := some 2001 }), (6, { ent := some (Aht n), alt := [(Sp n)], hb := 310, shut := some 2001 })]⟩)], join := [], loop := [(2, ⟨P0, Xl, A5 (Xk n) n⟩)] }
theorem A6b (α : Type) (n : Nat) : Aj PP (Ah (Aag α n).reg) := ⟨Up n, Am5 n, Up n, Am5 n, trivial⟩
theorem Ai6 (α : Type) (n : Nat) : LO.Sound (α := α) PP ⟨36, []⟩ ⟨P0, Xl, A5 (Xk n) n⟩ (.loop ((A1 Tryz.f21).at [1, 0, 1, 0, 0])) := Ay (D := Aag α n) (A6b α n) n
theorem Az5 (α : Type) (n : Nat) : D3.OK PP TT ⟨36, []⟩ (Aag α n) (A1 Tryz.f21) :=
 D3.OK.mk3 (A6b α n) (show Ad (A1 Tryz.f21) = [(2, (.loop ((A1 Tryz.f21).at [1, 0, 1, 0, 0])))] by kernel_rfl) ⟨A9 rfl (Ai6 α n), trivial⟩
theorem Nc (n : Nat) : (Ng n).Sound PP := Si (fn := Tryz.f21) (Az5 _ n) 

def Ahk (n : Nat) (a0 : Bool × LI × LI) (a1 : Int) : Option (Int × LI × LI) :=
 ob (Sq n a0.2.1 a1) fun r_1 =>
 gd (Nat.beq r_1.2.length a0.2.1.length && true) (
  ob (Sq n a0.2.2 r_1.1) fun r_2 =>
  gd (Nat.beq r_2.2.length a0.2.2.length && true) (
   some (r_2.1, r_1.2, r_2.2)))
def Alt (n : Nat) : Ent3 := ⟨90, [.mix [.im .bool, .own 3 hI, .own 3 hI], .im hI], [[.im hI]], fun x => Ahk n x.1 x.2⟩
def Ay6 (α : Type) (n : Nat) : D3 α := { reg := [(1, ⟨0, [], [(3, { alt := [(Sp n)], hb := 310 })]⟩), (2, ⟨0, [], [(3, { alt := [(Sp n)], hb := 320 })]⟩)], join := [], loop := [] }
theorem Av1 (n : Nat) : (Alt n).Sound PP := Km (fn := Tryz.f90) (D := Ay6 _ n) ⟨Up n, Up n, trivial⟩ 

def Aa9 (n : Nat) (a0 : LN × LR × LR × LR × Int × Bool × LI × LI × Int × Int) (a1 : Int) : Option (Int × LN × LR × LR × LR × LI × LI) :=
 ob (Ahl n a0.1 a1) fun r_1 =>
 gd (Nat.beq r_1.2.length a0.1.length && true) (
  ob (P2 n a0.2.1 r_1.1) fun r_2 =>
  gd (Nat.beq r_2.2.length a0.2.1.length && true) (
   ob (P2 n a0.2.2.1 r_2.1) fun r_3 =>
   gd (Nat.beq r_3.2.length a0.2.2.1.length && true) (
    ob (P2 n a0.2.2.2.1 r_3.1) fun r_4 =>
    gd (Nat.beq r_4.2.length a0.2.2.2.1.length && true) (
     ob (Ahk n (a0.2.2.2.2.2.1, a0.2.2.2.2.2.2.1, a0.2.2.2.2.2.2.2.1) r_4.1) fun r_5 =>
     gd (Nat.beq r_5.2.1.length a0.2.2.2.2.2.2.1.length && (Nat.beq r_5.2.2.length a0.2.2.2.2.2.2.2.1.length && true)) (
      some (r_5.1, r_1.2, r_2.2, r_3.2, r_4.2, r_5.2.1, r_5.2.2))))))
def Amf (n : Nat) : Ent3 := ⟨35, [.mix [.own 150 hN, .tree 30 hR, .tree 30 hR, .tree 30 hR, .im hI, .im .bool, .own 3 hI, .own 3 hI, .im hI, .im hI], .im hI], [[.im hI]], fun x => Aa9 n x.1 x.2⟩
def Ayq (α : Type) (n : Nat) : D3 α := { reg := [(1, ⟨0, [], [(3, { entB := some (Alu n), hb := 310 })]⟩), (2, ⟨0, [], [(3, { alt := [(Ng n)], hb := 320 })]⟩), (3, ⟨0, [], [(3, { alt := [(Ng n)], hb := 330 })]⟩), (4, ⟨0, [], [(3, { alt := [(Ng n)], hb := 340 })]⟩), (5, ⟨0, [], [(3, { alt := [(Alt n)], hb := 350 })]⟩)], join := [], loop := [] }
theorem Ava (n : Nat) : (Amf n).Sound PP := Km (fn := Tryz.f35) (D := Ayq _ n) ⟨Av3 n, Nc n, Nc n, Nc n, Av1 n, trivial⟩ 

def Un {α : Type} (n : Nat) (s0 : LI) (s1 s5 : Int) (f : LI → Int → Int → Option α) (k0 k1 : Int → Option α) : Option α :=
 bif (decide (s5 < (s0.length : Int))) then
  gd (decide (0 ≤ s5) && decide (s5 < (s0.length : Int))) (
   bif ((s0.getD s5.toNat 0) != s1) then
    k0 (-1)
   else
    f s0 (W (s1 + 1)) (W (s5 + 1)))
 else
  k1 s1
abbrev Um : Tm := ⟨[(0, .d hIs), (1, .d hI), (5, .d hI)], [], [], []⟩
abbrev As1 : Tm := ⟨[(4, .d hI)], [], [], []⟩
abbrev As0 : Tm := ⟨[(1, .d hI)], [], [], []⟩
abbrev A3q : List (Exit × Tm) := [(.ret, As1), (.exit 0, As0)]
def A3p {α : Type} (n : Nat) (v : Um.den) (f : Um.den → Option α) (ks : KS α A3q) : Option α := Un n v.1.1 v.1.2.1 v.1.2.2.1 (fun s0 s1 s5 => f ((s0, s1, s5, ()), ())) (fun w0 => ks.1 ((w0, ()), ())) (fun w0 => ks.2.1 ((w0, ()), ()))
def A1b {α : Type} (n m : Nat) (s0 : LI) (s1 s5 : Int) (k0 k1 : Int → Option α) : Option α := A5 (A3p n) m ((s0, s1, s5, ()), ()) (fun w => k0 w.1.1, fun w => k1 w.1.1, ())
theorem Aa1 {α n m s0 s1 s5 k0 k1} : A1b (α := α) n (m + 1) s0 s1 s5 k0 k1 = Un n s0 s1 s5 (fun s0 s1 s5 => A1b n m s0 s1 s5 k0 k1) k0 k1 := rfl
def f64 (n : Nat) (a0 : LI) (a1 : Int) : Option Int :=
 A1b n n a0 a1 0
  (fun z_1 => (
   some z_1))
  (fun z_2 => (
   some z_2))
def Ahr (n : Nat) : Ent := ⟨64, [hIs, hI], [hI], fun x => f64 n x.1 x.2⟩
def Ahs (α : Type) (n : Nat) : D3 α := { reg := [], join := [], loop := [(2, ⟨Um, A3q, A5 (A3p n) n⟩)] }
theorem Aa0 (α : Type) (n : Nat) : Aj PP (Ah (Ahs α n).reg) := trivial
theorem Am4 (α : Type) (n : Nat) : LO.Sound (α := α) PP ⟨21, []⟩ ⟨Um, A3q, A5 (A3p n) n⟩ (.loop ((A1 Tryz.f64).at [1, 0, 1, 0, 0])) := Ay (D := Ahs α n) (Aa0 α n) n
theorem B26 (α : Type) (n : Nat) : D3.OK PP TT ⟨21, []⟩ (Ahs α n) (A1 Tryz.f64) :=
 D3.OK.mk3 (Aa0 α n) (show Ad (A1 Tryz.f64) = [(2, (.loop ((A1 Tryz.f64).at [1, 0, 1, 0, 0])))] by kernel_rfl) ⟨A9 rfl (Am4 α n), trivial⟩
theorem Am2 (n : Nat) : (Ahr n).Sound PP := fk (fn := Tryz.f64) (B26 _ n) 

def Ut {α : Type} (n : Nat) (s0 : LR) (s1 s5 : Int) (f : LR → Int → Int → Option α) (k0 k1 : Int → Option α) : Option α :=
 bif (decide (s5 < (s0.length : Int))) then
  gd (decide (0 ≤ s5) && decide (s5 < (s0.length : Int))) (
   let x_1 := s0.getD s5.toNat (false, [], [])
   bif (!(x_1.1 == ((Int.tmod s1 3) == 0))) then
    k0 (-1)
   else
    gd (decide (0 ≤ s5) && decide (s5 < (s0.length : Int))) (
     let x_2 := s0.getD s5.toNat (false, [], [])
     ob (f64 n x_2.2.1 (W (s1 + 1))) fun r_3 =>
     bif (decide (r_3 < 0)) then
      k0 (-1)
     else
      gd (decide (0 ≤ s5) && decide (s5 < (s0.length : Int))) (
       let x_4 := s0.getD s5.toNat (false, [], [])
       ob (f64 n x_4.2.2 r_3) fun r_5 =>
       bif (decide (r_5 < 0)) then
        k0 (-1)
       else
        f s0 r_5 (W (s5 + 1)))))
 else
  k1 s1
abbrev Us : Tm := ⟨[(0, .d hRs), (1, .d hI), (5, .d hI)], [], [], []⟩
abbrev As8 : Tm := ⟨[(4, .d hI)], [], [], []⟩
abbrev As7 : Tm := ⟨[(1, .d hI)], [], [], []⟩
abbrev A3x : List (Exit × Tm) := [(.ret, As8), (.exit 0, As7)]
def A3w {α : Type} (n : Nat) (v : Us.den) (f : Us.den → Option α) (ks : KS α A3x) : Option α := Ut n v.1.1 v.1.2.1 v.1.2.2.1 (fun s0 s1 s5 => f ((s0, s1, s5, ()), ())) (fun w0 => ks.1 ((w0, ()), ())) (fun w0 => ks.2.1 ((w0, ()), ()))
def A1c {α : Type} (n m : Nat) (s0 : LR) (s1 s5 : Int) (k0 k1 : Int → Option α) : Option α := A5 (A3w n) m ((s0, s1, s5, ()), ()) (fun w => k0 w.1.1, fun w => k1 w.1.1, ())
theorem Xi {α n m s0 s1 s5 k0 k1} : A1c (α := α) n (m + 1) s0 s1 s5 k0 k1 = Ut n s0 s1 s5 (fun s0 s1 s5 => A1c n m s0 s1 s5 k0 k1) k0 k1 := rfl
def f22 (n : Nat) (a0 : LR) (a1 : Int) : Option Int :=
 A1c n n a0 a1 0
  (fun z_6 => (
   some z_6))
  (fun z_7 => (
   some z_7))
def Ai2 (n : Nat) : Ent := ⟨22, [hRs, hI], [hI], fun x => f22 n x.1 x.2⟩
def Ai3 (α : Type) (n : Nat) : D3 α := { reg := [(7, ⟨0, [], [(6, { ent := some (Ahr n) })]⟩), (10, ⟨0, [], [(6, { ent := some (Ahr n) })]⟩)], join := [], loop := [(2, ⟨Us, A3x, A5 (A3w n) n⟩)] }
theorem Aad (α : Type) (n : Nat) : Aj PP (Ah (Ai3 α n).reg) := ⟨Am2 n, Am2 n, trivial⟩
theorem Amk (α : Type) (n : Nat) : LO.Sound (α := α) PP ⟨42, []⟩ ⟨Us, A3x, A5 (A3w n) n⟩ (.loop ((A1 Tryz.f22).at [1, 0, 1, 0, 0])) := Ay (D := Ai3 α n) (Aad α n) n
theorem B2h (α : Type) (n : Nat) : D3.OK PP TT ⟨42, []⟩ (Ai3 α n) (A1 Tryz.f22) :=
 D3.OK.mk3 (Aad α n) (show Ad (A1 Tryz.f22) = [(2, (.loop ((A1 Tryz.f22).at [1, 0, 1, 0, 0])))] by kernel_rfl) ⟨A9 rfl (Amk α n), trivial⟩
theorem Amj (n : Nat) : (Ai2 n).Sound PP := fk (fn := Tryz.f22) (B2h _ n) 

def f97 (n : Nat) (a0 : Rq) : Option Rq :=
 ob (f145 n a0.2.1) fun r_1 =>
 ob (f145 n a0.2.2) fun r_2 =>
 some (a0.1, r_1, r_2)
def Ahi (n : Nat) : Ent := ⟨97, [hR], [hR], fun x => f97 n x⟩
def B1p (α : Type) (n : Nat) : D3 α := { reg := [(1, ⟨8, [], [(4, { ent := some (A22 n) }), (7, { ent := some (A22 n) })]⟩)], join := [], loop := [] }
theorem All (n : Nat) : (Ahi n).Sound PP := Ap (fn := Tryz.f97) (D := B1p _ n) ⟨A4o n, A4o n, trivial⟩ 

def Lg {α : Type} (n : Nat) (s1 : LR) (s8 s9 : Int) (b7 : LR) (f : LR → Int → Int → LR → Option α) (k0 : LR → Option α) : Option α :=
 bif (decide (s9 < s8)) then
  ob (f168 n s9 s1) fun r_1 =>
  ob (f97 n r_1) fun r_2 =>
  gd (decide ((b7.length + 1) * 56 ≤ 140737488355328)) (
   f s1 s8 (W (s9 + 1)) (b7 ++ [r_2]))
 else
  k0 b7
abbrev H4 : Tm := ⟨[(1, .d (.clo 168 (.ref hRs))), (5, .k (.hw 7)), (8, .d hI), (9, .d hI)], [(7, .arr 30 hR false)], [17], []⟩
abbrev A89 : Tm := ⟨[(5, .k (.hw 7))], [(7, .arr 30 hR false)], [], []⟩
abbrev Lf : List (Exit × Tm) := [(.exit 0, A89)]
def Le {α : Type} (n : Nat) (v : H4.den) (f : H4.den → Option α) (ks : KS α Lf) : Option α := Lg n v.1.1 v.1.2.2.1 v.1.2.2.2.1 v.2.1 (fun s1 s8 s9 b7 => f ((s1, (), s8, s9, ()), (b7, ()))) (fun w0 => ks.1 (((), ()), (w0, ())))
def Fy {α : Type} (n m : Nat) (s1 : LR) (s8 s9 : Int) (b7 : LR) (k0 : LR → Option α) : Option α := A5 (Le n) m ((s1, (), s8, s9, ()), (b7, ())) (fun w => k0 w.2.1, ())
theorem A88 {α n m s1 s8 s9 b7 k0} : Fy (α := α) n (m + 1) s1 s8 s9 b7 k0 = Lg n s1 s8 s9 b7 (fun s1 s8 s9 b7 => Fy n m s1 s8 s9 b7 k0) k0 := rfl
def A04 (n : Nat) (a0 : Int) (a1 : LR) : Option LR :=
 Fy n n a1 a0 0 []
  (fun z_3 => (
   some z_3))
def A29 (n : Nat) : Ent := ⟨129, [hI, (.clo 168 (.ref hRs))], [hRs], fun x => A04 n x.1 x.2⟩
def Qe (α : Type) (n : Nat) : D3 α := { reg := [(1, ⟨0, [], [(0, { sh := some hR })]⟩), (5, ⟨0, [], [(3, { ent := some (Abi n) }), (4, { ent := some (Ahi n) }), (5, { sh := some hR })]⟩)], join := [], loop := [(3, ⟨H4, Lf, A5 (Le n) n⟩)] }
theorem Rg (α : Type) (n : Nat) : Aj PP (Ah (Qe α n).reg) := ⟨Afs n, All n, trivial⟩
theorem A4v (α : Type) (n : Nat) : LO.Sound (α := α) PP ⟨21, []⟩ ⟨H4, Lf, A5 (Le n) n⟩ (.loop ((A1 Tryz.f129).at [1, 1, 0, 1, 0, 0])) := Ay (D := Qe α n) (Rg α n) n
theorem Ajq (α : Type) (n : Nat) : D3.OK PP TT ⟨21, []⟩ (Qe α n) (A1 Tryz.f129) :=
 D3.OK.mk3 (Rg α n) (show Ad (A1 Tryz.f129) = [(3, (.loop ((A1 Tryz.f129).at [1, 1, 0, 1, 0, 0])))] by kernel_rfl) ⟨A9 rfl (A4v α n), trivial⟩
theorem Ae2 (n : Nat) : (A29 n).Sound PP := fk (fn := Tryz.f129) (Ajq _ n) 

def f100 (n : Nat) (a0 : LR) : Option LR :=
 ob (A04 n (a0.length : Int) a0) fun r_1 =>
 some r_1
def Apu (n : Nat) : Ent := ⟨100, [hRs], [hRs], fun x => f100 n x⟩
def B12 (α : Type) (n : Nat) : D3 α := { reg := [(1, ⟨0, [], [(2, { sh := some (.ref hRs) }), (3, { ent := some (A29 n) })]⟩)], join := [], loop := [] }
theorem Axa (n : Nat) : (Apu n).Sound PP := Ap (fn := Tryz.f100) (D := B12 _ n) ⟨Ae2 n, trivial⟩ 

def Ld {α : Type} (n : Nat) (s1 : LR × LR × LR) (s8 s9 : Int) (b7 : LR) (f : (LR × LR × LR) → Int → Int → LR → Option α) (k0 : LR → Option α) : Option α :=
 bif (decide (s9 < s8)) then
  ob (f196 n s9 s1.1 s1.2.1 s1.2.2) fun r_1 =>
  ob (f97 n r_1) fun r_2 =>
  gd (decide ((b7.length + 1) * 56 ≤ 140737488355328)) (
   f s1 s8 (W (s9 + 1)) (b7 ++ [r_2]))
 else
  k0 b7
abbrev H3 : Tm := ⟨[(1, .d (.clo 196 (.pair (.ref hRs) (.pair (.ref hRs) (.ref hRs))))), (5, .k (.hw 7)), (8, .d hI), (9, .d hI)], [(7, .arr 30 hR false)], [17], []⟩
abbrev A87 : Tm := ⟨[(5, .k (.hw 7))], [(7, .arr 30 hR false)], [], []⟩
abbrev Lc : List (Exit × Tm) := [(.exit 0, A87)]
def Lb {α : Type} (n : Nat) (v : H3.den) (f : H3.den → Option α) (ks : KS α Lc) : Option α := Ld n v.1.1 v.1.2.2.1 v.1.2.2.2.1 v.2.1 (fun s1 s8 s9 b7 => f ((s1, (), s8, s9, ()), (b7, ()))) (fun w0 => ks.1 (((), ()), (w0, ())))
def Fx {α : Type} (n m : Nat) (s1 : LR × LR × LR) (s8 s9 : Int) (b7 : LR) (k0 : LR → Option α) : Option α := A5 (Lb n) m ((s1, (), s8, s9, ()), (b7, ())) (fun w => k0 w.2.1, ())
theorem A86 {α n m s1 s8 s9 b7 k0} : Fx (α := α) n (m + 1) s1 s8 s9 b7 k0 = Ld n s1 s8 s9 b7 (fun s1 s8 s9 b7 => Fx n m s1 s8 s9 b7 k0) k0 := rfl
def A03 (n : Nat) (a0 : Int) (a1 : LR × LR × LR) : Option LR :=
 Fx n n a1 a0 0 []
  (fun z_3 => (
   some z_3))
def A27 (n : Nat) : Ent := ⟨129, [hI, (.clo 196 (.pair (.ref hRs) (.pair (.ref hRs) (.ref hRs))))], [hRs], fun x => A03 n x.1 x.2⟩
def Qd (α : Type) (n : Nat) : D3 α := { reg := [(1, ⟨0, [], [(0, { sh := some hR })]⟩), (5, ⟨0, [], [(3, { ent := some (Aax n) }), (4, { ent := some (Ahi n) }), (5, { sh := some hR })]⟩)], join := [], loop := [(3, ⟨H3, Lc, A5 (Lb n) n⟩)] }
theorem Re (α : Type) (n : Nat) : Aj PP (Ah (Qd α n).reg) := ⟨Afj n, All n, trivial⟩
theorem A4s (α : Type) (n : Nat) : LO.Sound (α := α) PP ⟨21, []⟩ ⟨H3, Lc, A5 (Lb n) n⟩ (.loop ((A1 Tryz.f129).at [1, 1, 0, 1, 0, 0])) := Ay (D := Qd α n) (Re α n) n
theorem Ajp (α : Type) (n : Nat) : D3.OK PP TT ⟨21, []⟩ (Qd α n) (A1 Tryz.f129) :=
 D3.OK.mk3 (Re α n) (show Ad (A1 Tryz.f129) = [(3, (.loop ((A1 Tryz.f129).at [1, 1, 0, 1, 0, 0])))] by kernel_rfl) ⟨A9 rfl (A4s α n), trivial⟩
theorem Ae0 (n : Nat) : (A27 n).Sound PP := fk (fn := Tryz.f129) (Ajp _ n) 

def f158 (n : Nat) (a0 a1 a2 : LR) : Option LR :=
 ob (A03 n (a0.length : Int) (a0, a1, a2)) fun r_1 =>
 some r_1
def Aou (n : Nat) : Ent := ⟨158, [hRs, hRs, hRs], [hRs], fun x => f158 n x.1 x.2.1 x.2.2⟩
def B0c (α : Type) (n : Nat) : D3 α := { reg := [(1, ⟨0, [], [(2, { sh := some (.pair (.ref hRs) (.pair (.ref hRs) (.ref hRs))) }), (3, { ent := some (A27 n) })]⟩)], join := [], loop := [] }
theorem Awn (n : Nat) : (Aou n).Sound PP := Ap (fn := Tryz.f158) (D := B0c _ n) ⟨Ae0 n, trivial⟩ 

def f88 (n : Nat) (a0 : LN × LR × LR × LR × Int × Rq × Int × Int) (a1 : LR) : Option LR :=
 ob (f157 n a0) fun r_1 =>
 bif (!r_1) then
  ob (f100 n a1) fun r_2 =>
  some r_2
 else
  ob (f158 n a1 a0.2.2.1 a0.2.2.2.1) fun r_3 =>
  some r_3
def Au1 (n : Nat) : Ent := ⟨88, [(.st (.pair hE (.pair hRs (.pair hRs (.pair hRs (.pair hI (.pair hR (.pair hI hI)))))))), hRs], [hRs], fun x => f88 n x.1 x.2⟩
def B1u (α : Type) (n : Nat) : D3 α := { reg := [(1, ⟨0, [], [(1, { ent := some (Abn n) })]⟩), (2, ⟨0, [], [(1, { ent := some (Apu n) })]⟩), (3, ⟨0, [], [(5, { ent := some (Aou n) })]⟩)], join := [], loop := [] }
theorem Ay8 (n : Nat) : (Au1 n).Sound PP := Ap (fn := Tryz.f88) (D := B1u _ n) ⟨Afx n, Axa n, Awn n, trivial⟩ 

def f34 (n : Nat) (a0 : LN × LR × LR × LR × Int × Rq × Int × Int) (a1 : LR) : Option (LR × Int) :=
 ob (f84 n a0 a1) fun r_1 =>
 bif (r_1 != 0) then
  some ([], r_1)
 else
  ob (f88 n a0 a1) fun r_2 =>
  some (r_2, 0)
def Au9 (n : Nat) : Ent := ⟨34, [(.st (.pair hE (.pair hRs (.pair hRs (.pair hRs (.pair hI (.pair hR (.pair hI hI)))))))), hRs], [hRs, hI], fun x => f34 n x.1 x.2⟩
def B2c (α : Type) (n : Nat) : D3 α := { reg := [(1, ⟨0, [], [(2, { ent := some (Ahn n) })]⟩), (4, ⟨0, [], [(2, { ent := some (Au1 n) })]⟩)], join := [], loop := [] }
theorem Ayr (n : Nat) : (Au9 n).Sound PP := Ap (fn := Tryz.f34) (D := B2c _ n) ⟨Alw n, Ay8 n, trivial⟩ 

def Afa {α : Type} (n : Nat) (s0 : LR) (s1 s5 : Int) (f : LR → Int → Int → Option α) (k0 : Int → Option α) : Option α :=
 bif (decide (s5 < (s0.length : Int))) then
  gd (decide (0 ≤ s5) && decide (s5 < (s0.length : Int))) (
   none)
 else
  k0 s1
abbrev Uu : Tm := ⟨[(0, .d hRs), (1, .d hI), (5, .d hI)], [], [], []⟩
abbrev Asa : Tm := ⟨[(1, .d hI)], [], [], []⟩
abbrev A40 : List (Exit × Tm) := [(.exit 0, Asa)]
def A3z {α : Type} (n : Nat) (v : Uu.den) (f : Uu.den → Option α) (ks : KS α A40) : Option α := Afa n v.1.1 v.1.2.1 v.1.2.2.1 (fun s0 s1 s5 => f ((s0, s1, s5, ()), ())) (fun w0 => ks.1 ((w0, ()), ()))
def Aaf {α : Type} (n m : Nat) (s0 : LR) (s1 s5 : Int) (k0 : Int → Option α) : Option α := A5 (A3z n) m ((s0, s1, s5, ()), ()) (fun w => k0 w.1.1, ())
theorem As9 {α n m s0 s1 s5 k0} : Aaf (α := α) n (m + 1) s0 s1 s5 k0 = Afa n s0 s1 s5 (fun s0 s1 s5 => Aaf n m s0 s1 s5 k0) k0 := rfl
def f21 (n : Nat) (a0 : LR) (a1 : Int) : Option Int :=
 Aaf n n a0 a1 0
  (fun z_2 => (
   some z_2))
def Aud (n : Nat) : Ent := ⟨21, [hRs, hI], [hI], fun x => f21 n x.1 x.2⟩
def Ai5 (α : Type) (n : Nat) : D3 α := { reg := [], join := [], loop := [(2, ⟨Uu, A40, A5 (A3z n) n⟩)] }
theorem Aae (α : Type) (n : Nat) : Aj PP (Ah (Ai5 α n).reg) := trivial
theorem Amm (α : Type) (n : Nat) : LO.Sound (α := α) PP ⟨36, []⟩ ⟨Uu, A40, A5 (A3z n) n⟩ (.loop ((A1 Tryz.f21).at [1, 0, 1, 0, 0])) := Ay (D := Ai5 α n) (Aae α n) n
theorem B2i (α : Type) (n : Nat) : D3.OK PP TT ⟨36, []⟩ (Ai5 α n) (A1 Tryz.f21) :=
 D3.OK.mk3 (Aae α n) (show Ad (A1 Tryz.f21) = [(2, (.loop ((A1 Tryz.f21).at [1, 0, 1, 0, 0])))] by kernel_rfl) ⟨A9 rfl (Amm α n), trivial⟩
theorem Az4 (n : Nat) : (Aud n).Sound PP := fk (fn := Tryz.f21) (B2i _ n) 

def f8 (n : Nat) (a0 : LN × LR × LR × LR × Int × Rq × Int × Int) (a1 : LR) : Option Bool :=
 ob (f28 n a0 1048576) fun r_1 =>
 bif (decide (r_1 < 0)) then
  some true
 else
  ob (f18 n a1 r_1) fun r_2 =>
  bif (decide (r_2 < 0)) then
   some true
  else
   ob (f30 n a0) fun r_3 =>
   ob (f19 n a1) fun r_4 =>
   ob (f33 n r_3 r_4) fun r_5 =>
   ob (Ai1 n a0) fun r_6 =>
   ob (Y4 n a1) fun r_7 =>
   ob (Ai0 n (r_6.1, r_6.2.1, r_6.2.2.1, r_6.2.2.2.1, r_6.2.2.2.2.1, (r_6.2.2.2.2.2.1, r_6.2.2.2.2.2.2.1, r_6.2.2.2.2.2.2.2.1), r_6.2.2.2.2.2.2.2.2) r_7) fun r_8 =>
   Cq r_8 (fun r_9 =>
    ob (f20 n r_9.1 r_5.1) fun r_11 =>
    bif (!r_11) then
     some false
    else
     bif (r_9.2 != r_5.2) then
      some false
     else
      ob (f30 n a0) fun r_12 =>
      ob (f32 n (r_6.1, r_6.2.1, r_6.2.2.1, r_6.2.2.2.1, r_6.2.2.2.2.1, (r_6.2.2.2.2.2.1, r_6.2.2.2.2.2.2.1, r_6.2.2.2.2.2.2.2.1), r_6.2.2.2.2.2.2.2.2) r_12) fun r_13 =>
      bif (!r_13) then
       some false
      else
       ob (f19 n a1) fun r_14 =>
       ob (f20 n r_7 r_14) fun r_15 =>
       bif (!r_15) then
        some false
       else
        ob (Aa9 n (r_6.1, r_6.2.1, r_6.2.2.1, r_6.2.2.2.1, r_6.2.2.2.2.1, r_6.2.2.2.2.2.1, r_6.2.2.2.2.2.2.1, r_6.2.2.2.2.2.2.2.1, r_6.2.2.2.2.2.2.2.2.1, r_6.2.2.2.2.2.2.2.2.2) 1) fun r_16 =>
        gd (Nat.beq r_16.2.1.length r_6.1.length && (Nat.beq r_16.2.2.1.length r_6.2.1.length && (Nat.beq r_16.2.2.2.1.length r_6.2.2.1.length && (Nat.beq r_16.2.2.2.2.1.length r_6.2.2.2.1.length && (Nat.beq r_16.2.2.2.2.2.1.length r_6.2.2.2.2.2.2.1.length && (Nat.beq r_16.2.2.2.2.2.2.length r_6.2.2.2.2.2.2.2.1.length && true)))))) (
         ob (P2 n r_7 r_16.1) fun r_17 =>
         gd (Nat.beq r_17.2.length r_7.length && true) (
          bif (decide (r_17.1 < 0)) then
           some false
          else
           ob (f20 n r_9.1 r_5.1) fun r_18 =>
           bif (!r_18) then
            some false
           else
            bif (r_9.2 != r_5.2) then
             some false
            else
             ob (P2 n r_9.1 1) fun r_19 =>
             gd (Nat.beq r_19.2.length r_9.1.length && true) (
              ob (f22 n r_19.2 1) fun r_20 =>
              bif (decide (r_20 < 0)) then
               some false
              else
               bif (r_20 != r_19.1) then
                some false
               else
                ob (f30 n a0) fun r_21 =>
                ob (f19 n a1) fun r_22 =>
                ob (f34 n r_21 r_22) fun r_23 =>
                ob (f20 n r_23.1 r_5.1) fun r_24 =>
                bif (!r_24) then
                 some false
                else
                 bif (r_23.2 != r_5.2) then
                  some false
                 else
                  ob (f22 n r_19.2 1) fun r_25 =>
                  bif (decide (r_25 < 0)) then
                   some false
                  else
                   bif (r_25 != r_19.1) then
                    some false
                   else
                    some true)))) (fun r_10 =>
    ob (f20 n [] r_5.1) fun r_26 =>
    bif (!r_26) then
     some false
    else
     bif (r_10.2 != r_5.2) then
      some false
     else
      ob (f30 n a0) fun r_27 =>
      ob (f32 n (r_6.1, r_6.2.1, r_6.2.2.1, r_6.2.2.2.1, r_6.2.2.2.2.1, (r_6.2.2.2.2.2.1, r_6.2.2.2.2.2.2.1, r_6.2.2.2.2.2.2.2.1), r_6.2.2.2.2.2.2.2.2) r_27) fun r_28 =>
      bif (!r_28) then
       some false
      else
       ob (f19 n a1) fun r_29 =>
       ob (f20 n r_7 r_29) fun r_30 =>
       bif (!r_30) then
        some false
       else
        ob (Aa9 n (r_6.1, r_6.2.1, r_6.2.2.1, r_6.2.2.2.1, r_6.2.2.2.2.1, r_6.2.2.2.2.2.1, r_6.2.2.2.2.2.2.1, r_6.2.2.2.2.2.2.2.1, r_6.2.2.2.2.2.2.2.2.1, r_6.2.2.2.2.2.2.2.2.2) 1) fun r_31 =>
        gd (Nat.beq r_31.2.1.length r_6.1.length && (Nat.beq r_31.2.2.1.length r_6.2.1.length && (Nat.beq r_31.2.2.2.1.length r_6.2.2.1.length && (Nat.beq r_31.2.2.2.2.1.length r_6.2.2.2.1.length && (Nat.beq r_31.2.2.2.2.2.1.length r_6.2.2.2.2.2.2.1.length && (Nat.beq r_31.2.2.2.2.2.2.length r_6.2.2.2.2.2.2.2.1.length && true)))))) (
         ob (P2 n r_7 r_31.1) fun r_32 =>
         gd (Nat.beq r_32.2.length r_7.length && true) (
          bif (decide (r_32.1 < 0)) then
           some false
          else
           ob (f20 n [] r_5.1) fun r_33 =>
           bif (!r_33) then
            some false
           else
            bif (r_10.2 != r_5.2) then
             some false
            else
             ob (f21 n [] 1) fun r_34 =>
             ob (f22 n [] 1) fun r_35 =>
             bif (decide (r_35 < 0)) then
              some false
             else
              bif (r_35 != r_34) then
               some false
              else
               ob (f30 n a0) fun r_36 =>
               ob (f19 n a1) fun r_37 =>
               ob (f34 n r_36 r_37) fun r_38 =>
               ob (f20 n r_38.1 r_5.1) fun r_39 =>
               bif (!r_39) then
                some false
               else
                bif (r_38.2 != r_5.2) then
                 some false
                else
                 ob (f22 n [] 1) fun r_40 =>
                 bif (decide (r_40 < 0)) then
                  some false
                 else
                  bif (r_40 != r_34) then
                   some false
                  else
                   some true)))
def B2y (n : Nat) : Ent := ⟨8, [(.st (.pair hE (.pair hRs (.pair hRs (.pair hRs (.pair hI (.pair hR (.pair hI hI)))))))), hRs], [.bool], fun x => f8 n x.1 x.2⟩
def B2z (α : Type) (n : Nat) : D3 α := { reg := [(2, ⟨0, [], [(2, { ent := some (Auc n) })]⟩), (5, ⟨0, [], [(2, { ent := some (A1p n) })]⟩), (8, ⟨0, [], [(1, { ent := some (A8i n) }), (3, { ent := some (Ph n) }), (4, { ent := some (Aua n) })]⟩), (9, ⟨0, [], [(1, { entB := some (Amh n), hb := 310 })]⟩), (10, ⟨0, [], [(1, { entB := some (T4 n), hb := 320 })]⟩), (11, ⟨0, [], [(2, { entB := some (Amg n), hb := 330 })]⟩), (12, ⟨0, [], [(2, { ent := some (Ly n) })]⟩), (14, ⟨3, [], [(2, { ent := some (A8i n) }), (3, { ent := some (Aub n) })]⟩), (16, ⟨0, [], [(2, { ent := some (Ph n) }), (3, { ent := some (Ly n) })]⟩), (19, ⟨0, [], [(2, { entB := some (Amf n), hb := 340 })]⟩), (20, ⟨0, [], [(2, { alt := [(Ng n)], hb := 350 })]⟩), (21, ⟨0, [], [(5, { ent := some (Ly n) })]⟩), (24, ⟨0, [], [(2, { ent := some (Aud n), alt := [(Ng n)], hb := 360 })]⟩), (26, ⟨0, [], [(2, { ent := some (Ai2 n) })]⟩), (31, ⟨0, [], [(1, { ent := some (A8i n) }), (3, { ent := some (Ph n) }), (4, { ent := some (Au9 n) })]⟩), (32, ⟨0, [], [(2, { ent := some (Ly n) })]⟩), (35, ⟨0, [], [(2, { ent := some (Ai2 n) })]⟩)], join := [], loop := [] }
theorem B1s (n : Nat) : (B2y n).Sound PP := Ap (fn := Tryz.f8) (D := B2z _ n) ⟨Ayy n, A1n n, Aaa n, Nj n, Ayt n, Avc n, V4 n, Avb n, Ku n, Aaa n, Ayu n, Nj n, Ku n, Ava n, Nc n, Ku n, Nc n, Az4 n, Amj n, Aaa n, Nj n, Ayr n, Ku n, Amj n, trivial⟩ 

end Go.Ev
