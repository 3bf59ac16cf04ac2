/- DERIVED. What the functions compute, and that they do. -/
import Derived.Test.YtaebdcandpfmgaaGreatVb

set_option linter.all false
set_option linter.unusedVariables false
set_option linter.unusedSimpArgs false

namespace Go.Ev
open Go Go.Proofs Go.RowKit Go.Shelf
abbrev Ahz : Tm := ⟨[(2, .k (.hp 2 0 0)), (3, .k (.hp 3 0 0)), (4, .k (.hp 4 0 0))], [(2, .var 81 true false [.d .bool, .d hIs, .d hIs, .d hRs, .d .nil, .d .bool, .d hIs, .d hIs]), (3, .var 31 true false [.d .bool, .d hIs, .d hIs]), (4, .var 81 true false [.d .bool, .d .nil, .d .nil, .d .nil, .d .nil, .d .bool, .d .nil, .d .nil])], [], []⟩
def f193 (n : Nat) (a0 : Rq × LR × Unit × Rq) (a1 : Rq) : Option (Rq × LR × Unit × Rq) :=
 ob (f178 n a0.1 a1) fun r_1 =>
 ob (f178 n a0.2.2.2 a1) fun r_2 =>
 ob (Ul n (a0.1, a0.2.1, (), a0.2.2.2) r_1 r_2 a1 ((a0.1.1, a0.1.2.1, a0.1.2.2, a0.2.1, (), a0.2.2.2), a1)) fun r_3 =>
 some r_3
def Adp (n : Nat) : Ent := ⟨193, [(.st (.pair hR (.pair hRs (.pair .nil hR)))), hR], [(.st (.pair hR (.pair hRs (.pair .nil hR))))], fun x => f193 n x.1 x.2⟩
def Aqr (α : Type) (n : Nat) : D3 α := { reg := [(1, ⟨0, [], [(4, { ent := some (Ak n) }), (8, { ent := some (Ak n) }), (9, { sh := some (.ref hR) }), (10, { sh := some (.pair (.ref (.st (.pair .bool (.pair hIs (.pair hIs (.pair hRs (.pair .nil (.pair .bool (.pair hIs hIs))))))))) (.ref hR)) }), (11, { ent := some (D5 n) })]⟩)], join := [], loop := [], any := [(1, Ahz)] }
set_option maxHeartbeats 8000000 in
theorem B0e (n : Nat) : Ax TT ⟨17, []⟩ [(4, { ent := some (Ak n) }), (8, { ent := some (Ak n) }), (9, { sh := some (.ref hR) }), (10, { sh := some (.pair (.ref (.st (.pair .bool (.pair hIs (.pair hIs (.pair hRs (.pair .nil (.pair .bool (.pair hIs hIs))))))))) (.ref hR)) }), (11, { ent := some (D5 n) })] Ahz (Ad ((A1 Tryz.f193).at [1, 0])) := by
 refine ⟨by kernel_rfl, fun w q hq => ?_⟩
 have e : WT [(4, { ent := some (Ak n) }), (8, { ent := some (Ak n) }), (9, { sh := some (.ref hR) }), (10, { sh := some (.pair (.ref (.st (.pair .bool (.pair hIs (.pair hIs (.pair hRs (.pair .nil (.pair .bool (.pair hIs hIs))))))))) (.ref hR)) }), (11, { ent := some (D5 n) })] (A8 (Ad ((A1 Tryz.f193).at [1, 0])).toList) q = (∃ (y0 : HL (Ak n).rs) (q0 : List (Nat × RV)), q = (4, .sv (Aq (Ak n).rs y0)) :: q0 /\ ∃ (y1 : HL (Ak n).rs) (q1 : List (Nat × RV)), q0 = (8, .sv (Aq (Ak n).rs y1)) :: q1 /\ ∃ (y2 : HL (D5 n).rs) (q2 : List (Nat × RV)), q1 = (11, .sv (Aq (D5 n).rs y2)) :: q2 /\ q2 = []) := by kernel_rfl
 rw [e] at hq; obtain ⟨y0, q0, rfl, y1, q1, rfl, y2, q2, rfl, rfl⟩ := hq
 all_goals exact .inl (Jp.mk (by kernel_rfl))
theorem Aqq (α : Type) (n : Nat) : Al PP (Ah (Aqr α n).reg) := ⟨Cc n, Cc n, A3f n, trivial⟩
theorem B58 (α : Type) (n : Nat) : D3.OK PP TT ⟨17, []⟩ (Aqr α n) (A1 Tryz.f193) :=
 D3.OK.mk3a (Aqq α n) (show Aa (A1 Tryz.f193) = [] by kernel_rfl) trivial (show At (A1 Tryz.f193) = [(1, Ad ((A1 Tryz.f193).at [1, 0]))] by kernel_rfl) ⟨⟨B0e n, trivial⟩, trivial⟩
theorem Ahy (n : Nat) : (Adp n).Sound PP := fk (fn := Tryz.f193) (B58 _ n) 

def Avz {α : Type} (n : Nat) (s28 : LR) (s29 s30 : Int) (c2_0 : Bool) (c2_1 c2_2 : LI) (c2_3 : LR) (c2_5 : Bool) (c2_6 c2_7 : LI) (c3_0 : Bool) (c3_1 c3_2 : LI) (c3_3 : LR) (c3_5 : Bool) (c3_6 c3_7 : LI) (c4_0 c4_5 c5_0 : Bool) (c5_1 c5_2 : LI) (c5_5 : Bool) (c5_6 c5_7 : LI) (b52 : LR) (f : LR -> Int -> Int -> Bool -> LI -> LI -> LR -> Bool -> LI -> LI -> Bool -> LI -> LI -> LR -> Bool -> LI -> LI -> Bool -> Bool -> Bool -> LI -> LI -> Bool -> LI -> LI -> LR -> Option α) (k0 : Bool -> Bool -> Bool -> LI -> LI -> Bool -> LI -> LI -> LR -> Option α) : Option α :=
 bif (decide (s30 < s29)) then
  gd (decide (0 <= s30) && decide (s30 < (s28.length : Int))) (
   let x_5 := s28.getD s30.toNat (false, [], [])
   gd (decide (0 <= s30) && decide (s30 < (c3_3.length : Int))) (
    let x_6 := c3_3.getD s30.toNat (false, [], [])
    ob (f178 n x_5 (c3_0, c3_1, c3_2)) fun r_7 =>
    ob (f178 n (c2_0, c2_1, c2_2) x_6) fun r_8 =>
    ob (f161 n r_7 r_8) fun r_9 =>
    gd (decide ((b52.length + 1) * 56 <= 140737488355328)) (
     f s28 s29 (W (s30 + 1)) c2_0 c2_1 c2_2 c2_3 c2_5 c2_6 c2_7 c3_0 c3_1 c3_2 c3_3 c3_5 c3_6 c3_7 c4_0 c4_5 c5_0 c5_1 c5_2 c5_5 c5_6 c5_7 (b52 ++ [r_9]))))
 else
  k0 c4_0 c4_5 c5_0 c5_1 c5_2 c5_5 c5_6 c5_7 b52
abbrev R2 : Tm := ⟨[(2, .k (.hp 2 0 0)), (3, .k (.hp 3 0 0)), (4, .k (.hp 4 0 0)), (5, .k (.hp 5 0 0)), (28, .d hRs), (29, .d hI), (30, .d hI)], [(2, .var 81 true false [.d .bool, .d hIs, .d hIs, .d hRs, .d .nil, .d .bool, .d hIs, .d hIs]), (3, .var 81 true false [.d .bool, .d hIs, .d hIs, .d hRs, .d .nil, .d .bool, .d hIs, .d hIs]), (4, .var 81 true false [.d .bool, .d .nil, .d .nil, .d .nil, .d .nil, .d .bool, .d .nil, .d .nil]), (5, .var 81 false false [.d .bool, .d hIs, .d hIs, .k (.hw 52), .d .nil, .d .bool, .d hIs, .d hIs]), (52, .arr 31 hR false)], [7, 8, 51], []⟩
abbrev Aqp : Tm := ⟨[(4, .k (.hp 4 0 0)), (5, .k (.hp 5 0 0))], [(4, .var 81 true false [.d .bool, .d .nil, .d .nil, .d .nil, .d .nil, .d .bool, .d .nil, .d .nil]), (5, .var 81 false false [.d .bool, .d hIs, .d hIs, .k (.hw 52), .d .nil, .d .bool, .d hIs, .d hIs]), (52, .arr 31 hR false)], [2, 3], []⟩
abbrev A0k : List (Exit × Tm) := [(.exit 0, Aqp)]
def A0j {α : Type} (n : Nat) (v : R2.den) (f : R2.den -> Option α) (ks : KS α A0k) : Option α := Avz n v.1.2.2.2.2.1 v.1.2.2.2.2.2.1 v.1.2.2.2.2.2.2.1 v.2.1.1 v.2.1.2.1 v.2.1.2.2.1 v.2.1.2.2.2.1 v.2.1.2.2.2.2.2.1 v.2.1.2.2.2.2.2.2.1 v.2.1.2.2.2.2.2.2.2.1 v.2.2.1.1 v.2.2.1.2.1 v.2.2.1.2.2.1 v.2.2.1.2.2.2.1 v.2.2.1.2.2.2.2.2.1 v.2.2.1.2.2.2.2.2.2.1 v.2.2.1.2.2.2.2.2.2.2.1 v.2.2.2.1.1 v.2.2.2.1.2.2.2.2.2.1 v.2.2.2.2.1.1 v.2.2.2.2.1.2.1 v.2.2.2.2.1.2.2.1 v.2.2.2.2.1.2.2.2.2.2.1 v.2.2.2.2.1.2.2.2.2.2.2.1 v.2.2.2.2.1.2.2.2.2.2.2.2.1 v.2.2.2.2.2.1 (fun s28 s29 s30 c2_0 c2_1 c2_2 c2_3 c2_5 c2_6 c2_7 c3_0 c3_1 c3_2 c3_3 c3_5 c3_6 c3_7 c4_0 c4_5 c5_0 c5_1 c5_2 c5_5 c5_6 c5_7 b52 => f (((), (), (), (), s28, s29, s30, ()), ((c2_0, c2_1, c2_2, c2_3, (), c2_5, c2_6, c2_7, ()), (c3_0, c3_1, c3_2, c3_3, (), c3_5, c3_6, c3_7, ()), (c4_0, (), (), (), (), c4_5, (), (), ()), (c5_0, c5_1, c5_2, (), (), c5_5, c5_6, c5_7, ()), b52, ()))) (fun w0 w1 w2 w3 w4 w5 w6 w7 w8 => ks.1 (((), (), ()), ((w0, (), (), (), (), w1, (), (), ()), (w2, w3, w4, (), (), w5, w6, w7, ()), w8, ())))
def B0c {α : Type} (n m : Nat) (s28 : LR) (s29 s30 : Int) (c2_0 : Bool) (c2_1 c2_2 : LI) (c2_3 : LR) (c2_5 : Bool) (c2_6 c2_7 : LI) (c3_0 : Bool) (c3_1 c3_2 : LI) (c3_3 : LR) (c3_5 : Bool) (c3_6 c3_7 : LI) (c4_0 c4_5 c5_0 : Bool) (c5_1 c5_2 : LI) (c5_5 : Bool) (c5_6 c5_7 : LI) (b52 : LR) (k0 : Bool -> Bool -> Bool -> LI -> LI -> Bool -> LI -> LI -> LR -> Option α) : Option α := A5 (A0j n) m (((), (), (), (), s28, s29, s30, ()), ((c2_0, c2_1, c2_2, c2_3, (), c2_5, c2_6, c2_7, ()), (c3_0, c3_1, c3_2, c3_3, (), c3_5, c3_6, c3_7, ()), (c4_0, (), (), (), (), c4_5, (), (), ()), (c5_0, c5_1, c5_2, (), (), c5_5, c5_6, c5_7, ()), b52, ())) (fun w => k0 w.2.1.1 w.2.1.2.2.2.2.2.1 w.2.2.1.1 w.2.2.1.2.1 w.2.2.1.2.2.1 w.2.2.1.2.2.2.2.2.1 w.2.2.1.2.2.2.2.2.2.1 w.2.2.1.2.2.2.2.2.2.2.1 w.2.2.2.1, ())
abbrev Ahw : Tm := ⟨[(2, .k (.hp 2 0 0)), (3, .k (.hp 3 0 0)), (4, .k (.hp 4 0 0))], [(2, .var 81 true false [.d .bool, .d hIs, .d hIs, .d hRs, .d .nil, .d .bool, .d hIs, .d hIs]), (3, .var 81 true false [.d .bool, .d hIs, .d hIs, .d hRs, .d .nil, .d .bool, .d hIs, .d hIs]), (4, .var 81 true false [.d .bool, .d .nil, .d .nil, .d .nil, .d .nil, .d .bool, .d .nil, .d .nil])], [], []⟩
abbrev Ahv : Tm := ⟨[(2, .k (.hp 2 0 0)), (3, .k (.hp 3 0 0)), (4, .k (.hp 4 0 0)), (5, .k (.hp 5 0 0)), (6, .d hI), (7, .k (.hp 7 0 0)), (8, .k (.hp 8 0 0)), (28, .d hRs), (29, .d hI), (30, .d hI)], [(2, .var 81 true false [.d .bool, .d hIs, .d hIs, .d hRs, .d .nil, .d .bool, .d hIs, .d hIs]), (3, .var 81 true false [.d .bool, .d hIs, .d hIs, .d hRs, .d .nil, .d .bool, .d hIs, .d hIs]), (4, .var 81 true false [.d .bool, .d .nil, .d .nil, .d .nil, .d .nil, .d .bool, .d .nil, .d .nil]), (5, .var 81 true false [.d .bool, .d hIs, .d hIs, .d .nil, .d .nil, .d .bool, .d hIs, .d hIs]), (7, .var 31 true false [.d .bool, .d hIs, .d hIs]), (8, .var 31 true false [.d .bool, .d hIs, .d hIs])], [], []⟩
abbrev A8n : Tm := ⟨[(2, .k (.hp 2 0 0)), (3, .k (.hp 3 0 0)), (4, .k (.hp 4 0 0)), (5, .k (.hp 5 0 0)), (6, .d hI), (7, .k (.hp 7 0 0)), (8, .k (.hp 8 0 0)), (28, .d hRs), (29, .d hI), (30, .d hI)], [(2, .var 81 true false [.d .bool, .d hIs, .d hIs, .d hRs, .d .nil, .d .bool, .d hIs, .d hIs]), (3, .var 81 true false [.d .bool, .d hIs, .d hIs, .d hRs, .d .nil, .d .bool, .d hIs, .d hIs]), (4, .var 81 true false [.d .bool, .d .nil, .d .nil, .d .nil, .d .nil, .d .bool, .d .nil, .d .nil]), (5, .var 81 false false [.d .bool, .d hIs, .d hIs, .k (.hw 52), .d .nil, .d .bool, .d hIs, .d hIs]), (7, .var 31 true false [.d .bool, .d hIs, .d hIs]), (8, .var 31 true false [.d .bool, .d hIs, .d hIs]), (52, .arr 31 hR false)], [], []⟩
def f194 (n : Nat) (a0 a1 : Rq × LR × Unit × Rq) : Option (Rq × LR × Unit × Rq) :=
 ob (f178 n a0.1 a1.1) fun r_1 =>
 ob (f178 n a0.2.2.2 a1.1) fun r_2 =>
 ob (f178 n a0.1 a1.2.2.2) fun r_3 =>
 ob (f161 n r_2 r_3) fun r_4 =>
 bif (decide (0 < (a0.2.1.length : Int))) then
  gd (decide (0 < (a0.2.1.length : Int))) (
   let x_10 := a0.2.1.getD 0 (false, [], [])
   gd (decide (0 < (a1.2.1.length : Int))) (
    let x_11 := a1.2.1.getD 0 (false, [], [])
    ob (f178 n x_10 a1.1) fun r_12 =>
    ob (f178 n a0.1 x_11) fun r_13 =>
    ob (f161 n r_12 r_13) fun r_14 =>
    B0c n n a0.2.1 (a0.2.1.length : Int) 1 a0.1.1 a0.1.2.1 a0.1.2.2 a0.2.1 a0.2.2.2.1 a0.2.2.2.2.1 a0.2.2.2.2.2 a1.1.1 a1.1.2.1 a1.1.2.2 a1.2.1 a1.2.2.2.1 a1.2.2.2.2.1 a1.2.2.2.2.2 false false r_1.1 r_1.2.1 r_1.2.2 r_4.1 r_4.2.1 r_4.2.2 [r_14]
     (fun z_15 z_16 z_17 z_18 z_19 z_20 z_21 z_22 z_23 => (
      some ((z_17, z_18, z_19), z_23, (), z_20, z_21, z_22)))))
 else
  some (r_1, [], (), r_4)
def Adn (n : Nat) : Ent := ⟨194, [(.st (.pair hR (.pair hRs (.pair .nil hR)))), (.st (.pair hR (.pair hRs (.pair .nil hR))))], [(.st (.pair hR (.pair hRs (.pair .nil hR))))], fun x => f194 n x.1 x.2⟩
def Ado (α : Type) (n : Nat) : D3 α := { reg := [(1, ⟨0, [], [(4, { ent := some (Ak n) }), (9, { ent := some (Ak n) }), (14, { ent := some (Ak n) }), (15, { ent := some (As n) })]⟩), (6, ⟨0, [], [(5, { ent := some (Ak n) }), (9, { ent := some (Ak n) }), (10, { ent := some (As n) }), (11, { sh := some hR }), (12, { sh := some hR })]⟩)], join := [], loop := [(3, ⟨R2, A0k, A5 (A0j n) n⟩)], any := [(1, Ahw), (6, Ahv), (6, A8n)] }
set_option maxHeartbeats 8000000 in
theorem B0d (n : Nat) : Ax TT ⟨92, []⟩ [(4, { ent := some (Ak n) }), (9, { ent := some (Ak n) }), (14, { ent := some (Ak n) }), (15, { ent := some (As n) })] Ahw (Ad ((A1 Tryz.f194).at [1, 0])) := by
 refine ⟨by kernel_rfl, fun w q hq => ?_⟩
 have e : WT [(4, { ent := some (Ak n) }), (9, { ent := some (Ak n) }), (14, { ent := some (Ak n) }), (15, { ent := some (As n) })] (A8 (Ad ((A1 Tryz.f194).at [1, 0])).toList) q = (∃ (y0 : HL (Ak n).rs) (q0 : List (Nat × RV)), q = (4, .sv (Aq (Ak n).rs y0)) :: q0 /\ ∃ (y1 : HL (Ak n).rs) (q1 : List (Nat × RV)), q0 = (9, .sv (Aq (Ak n).rs y1)) :: q1 /\ ∃ (y2 : HL (Ak n).rs) (q2 : List (Nat × RV)), q1 = (14, .sv (Aq (Ak n).rs y2)) :: q2 /\ ∃ (y3 : HL (As n).rs) (q3 : List (Nat × RV)), q2 = (15, .sv (Aq (As n).rs y3)) :: q3 /\ q3 = []) := by kernel_rfl
 rw [e] at hq; obtain ⟨y0, q0, rfl, y1, q1, rfl, y2, q2, rfl, y3, q3, rfl, rfl⟩ := hq
 all_goals exact .inr ⟨18, by kernel_rfl, by kernel_rfl, by kernel_rfl⟩
set_option maxHeartbeats 8000000 in
theorem Ahx (n : Nat) : Ax TT ⟨92, []⟩ [(5, { ent := some (Ak n) }), (9, { ent := some (Ak n) }), (10, { ent := some (As n) }), (11, { sh := some hR }), (12, { sh := some hR })] Ahv (Ad ((A1 Tryz.f194).at [1, 1, 0, 1, 0, 0, 1, 1, 0, 0, 1, 1, 0])) := by
 refine ⟨by kernel_rfl, fun w q hq => ?_⟩
 have e : WT [(5, { ent := some (Ak n) }), (9, { ent := some (Ak n) }), (10, { ent := some (As n) }), (11, { sh := some hR }), (12, { sh := some hR })] (A8 (Ad ((A1 Tryz.f194).at [1, 1, 0, 1, 0, 0, 1, 1, 0, 0, 1, 1, 0])).toList) q = (∃ (y0 : HL (Ak n).rs) (q0 : List (Nat × RV)), q = (5, .sv (Aq (Ak n).rs y0)) :: q0 /\ ∃ (y1 : HL (Ak n).rs) (q1 : List (Nat × RV)), q0 = (9, .sv (Aq (Ak n).rs y1)) :: q1 /\ ∃ (y2 : HL (As n).rs) (q2 : List (Nat × RV)), q1 = (10, .sv (Aq (As n).rs y2)) :: q2 /\ q2 = []) := by kernel_rfl
 rw [e] at hq; obtain ⟨y0, q0, rfl, y1, q1, rfl, y2, q2, rfl, rfl⟩ := hq
 all_goals exact .inr ⟨12, by kernel_rfl, by kernel_rfl, by kernel_rfl⟩
set_option maxHeartbeats 8000000 in
theorem A8o (n : Nat) : Ax TT ⟨92, []⟩ [(5, { ent := some (Ak n) }), (9, { ent := some (Ak n) }), (10, { ent := some (As n) }), (11, { sh := some hR }), (12, { sh := some hR })] A8n (Ad ((A1 Tryz.f194).at [1, 1, 0, 1, 0, 0, 1, 1, 0, 0, 1, 1, 0])) := by
 refine ⟨by kernel_rfl, fun w q hq => ?_⟩
 have e : WT [(5, { ent := some (Ak n) }), (9, { ent := some (Ak n) }), (10, { ent := some (As n) }), (11, { sh := some hR }), (12, { sh := some hR })] (A8 (Ad ((A1 Tryz.f194).at [1, 1, 0, 1, 0, 0, 1, 1, 0, 0, 1, 1, 0])).toList) q = (∃ (y0 : HL (Ak n).rs) (q0 : List (Nat × RV)), q = (5, .sv (Aq (Ak n).rs y0)) :: q0 /\ ∃ (y1 : HL (Ak n).rs) (q1 : List (Nat × RV)), q0 = (9, .sv (Aq (Ak n).rs y1)) :: q1 /\ ∃ (y2 : HL (As n).rs) (q2 : List (Nat × RV)), q1 = (10, .sv (Aq (As n).rs y2)) :: q2 /\ q2 = []) := by kernel_rfl
 rw [e] at hq; obtain ⟨y0, q0, rfl, y1, q1, rfl, y2, q2, rfl, rfl⟩ := hq
 all_goals exact .inr ⟨12, by kernel_rfl, by kernel_rfl, by kernel_rfl⟩
theorem A8m (α : Type) (n : Nat) : Al PP (Ah (Ado α n).reg) := ⟨Cc n, Cc n, Cc n, P1 n, Cc n, Cc n, P1 n, trivial⟩
theorem Aqo (α : Type) (n : Nat) : D3.OK PP TT ⟨92, []⟩ (Ado α n) ((A1 Tryz.f194).at [1, 1, 0, 1, 0, 0]) :=
 D3.OK.mk3a (A8m α n) (show Aa ((A1 Tryz.f194).at [1, 1, 0, 1, 0, 0]) = [] by kernel_rfl) trivial (show At ((A1 Tryz.f194).at [1, 1, 0, 1, 0, 0]) = [(6, Ad ((A1 Tryz.f194).at [1, 1, 0, 1, 0, 0, 1, 1, 0, 0, 1, 1, 0])), (8, Ad ((A1 Tryz.f194).at [1, 1, 0, 1, 0, 0, 1, 1, 0, 0, 1, 1, 1, 1, 0, 0])), (9, Ad ((A1 Tryz.f194).at [1, 1, 0, 1, 0, 0, 1, 1, 0, 0, 1, 1, 1, 1, 0, 1]))] by kernel_rfl) ⟨⟨Ahx n, A8o n, trivial⟩, trivial, trivial, trivial⟩
theorem Alb (α : Type) (n : Nat) : LO.Sound (α := α) PP ⟨92, []⟩ ⟨R2, A0k, A5 (A0j n) n⟩ (.loop ((A1 Tryz.f194).at [1, 1, 0, 1, 0, 0])) := lk (Aqo α n) n
theorem B57 (α : Type) (n : Nat) : D3.OK PP TT ⟨92, []⟩ (Ado α n) (A1 Tryz.f194) :=
 D3.OK.mk3a (A8m α n) (show Aa (A1 Tryz.f194) = [(3, (.loop ((A1 Tryz.f194).at [1, 1, 0, 1, 0, 0])))] by kernel_rfl) ⟨Ab rfl (Alb α n), trivial⟩ (show At (A1 Tryz.f194) = [(1, Ad ((A1 Tryz.f194).at [1, 0])), (6, Ad ((A1 Tryz.f194).at [1, 1, 0, 1, 0, 0, 1, 1, 0, 0, 1, 1, 0])), (8, Ad ((A1 Tryz.f194).at [1, 1, 0, 1, 0, 0, 1, 1, 0, 0, 1, 1, 1, 1, 0, 0])), (9, Ad ((A1 Tryz.f194).at [1, 1, 0, 1, 0, 0, 1, 1, 0, 0, 1, 1, 1, 1, 0, 1]))] by kernel_rfl) ⟨⟨B0d n, trivial⟩, ⟨Ahx n, A8o n, trivial⟩, trivial, trivial, trivial⟩
theorem Ahu (n : Nat) : (Adn n).Sound PP := fk (fn := Tryz.f194) (B57 _ n) 

def f223 (n : Nat) (a0 a1 : Rq) : Option Rq :=
 ob (f200 n a0.2.1 a1.2.2) fun r_1 =>
 ob (f200 n a0.2.2 a1.2.1) fun r_2 =>
 ob (f201 n (!(a0.1 == a1.1)) r_1 r_2) fun r_3 =>
 some r_3
def Oj (n : Nat) : Ent := ⟨223, [hR, hR], [hR], fun x => f223 n x.1 x.2⟩
def B4m (α : Type) (n : Nat) : D3 α := { reg := [(1, ⟨15, [], [(9, { ent := some (Gj n) }), (14, { ent := some (Gj n) }), (15, { ent := some (On n) })]⟩)], join := [], loop := [] }
theorem Azm (n : Nat) : (Oj n).Sound PP := Ar (fn := Tryz.f223) (D := B4m _ n) ⟨G1 n, G1 n, Om n, trivial⟩ 

def f206 (n : Nat) (a0 : Rq) : Option Rq :=
 bif (!a0.1) then
  ob (f195 n a0) fun r_1 =>
  ob (f117 n a0.2.1) fun r_2 =>
  ob (f117 n a0.2.2) fun r_3 =>
  some ((!r_1), r_2, r_3)
 else
  ob (f117 n a0.2.1) fun r_4 =>
  ob (f117 n a0.2.2) fun r_5 =>
  some (false, r_4, r_5)
def Aq2 (n : Nat) : Ent := ⟨206, [hR], [hR], fun x => f206 n x⟩
def B4x (α : Type) (n : Nat) : D3 α := { reg := [(1, ⟨14, [], [(5, { ent := some (Or n) }), (10, { ent := some (K1 n) }), (13, { ent := some (K1 n) })]⟩)], join := [], loop := [] }
theorem Azz (n : Nat) : (Aq2 n).Sound PP := Ar (fn := Tryz.f206) (D := B4x _ n) ⟨Oq n, J2 n, J2 n, trivial⟩ 

def f232 (n : Nat) (a0 a1 : Rq) : Option Rq :=
 ob (f178 n a1 a0) fun r_1 =>
 some r_1
def Gg (n : Nat) : Ent := ⟨232, [hR, (.ref hR)], [hR], fun x => f232 n x.1 x.2⟩
def B4e (α : Type) (n : Nat) : D3 α := { reg := [(1, ⟨0, [], [(2, { ent := some (Ak n) })]⟩)], join := [], loop := [] }
theorem Azi (n : Nat) : (Gg n).Sound PP := Ar (fn := Tryz.f232) (D := B4e _ n) ⟨Cc n, trivial⟩ 

def Zm {α : Type} (n : Nat) (s3 : Rq) (s4 : Rq × (Bool × LI × LI × LR × Unit × Bool × LI × LI) × Rq) (s18 : LR) (s19 s20 : Int) (c5_0 : Bool) (c5_1 c5_2 : LI) (c5_3 : LR) (c5_5 : Bool) (c5_6 c5_7 : LI) (c10_0 c10_5 c11_0 : Bool) (c11_1 c11_2 : LI) (c11_5 : Bool) (c11_6 c11_7 : LI) (b31 : LR) (f : Rq -> (Rq × (Bool × LI × LI × LR × Unit × Bool × LI × LI) × Rq) -> LR -> Int -> Int -> Bool -> LI -> LI -> LR -> Bool -> LI -> LI -> Bool -> Bool -> Bool -> LI -> LI -> Bool -> LI -> LI -> LR -> Option α) (k0 : Bool -> Bool -> Bool -> LI -> LI -> Bool -> LI -> LI -> LR -> Option α) : Option α :=
 bif (decide (s20 < s19)) then
  gd (decide (0 <= s20) && decide (s20 < (s18.length : Int))) (
   let x_1 := s18.getD s20.toNat (false, [], [])
   ob (f232 n x_1 s3) fun r_2 =>
   gd (decide ((b31.length + 1) * 56 <= 140737488355328)) (
    f s3 s4 s18 s19 (W (s20 + 1)) c5_0 c5_1 c5_2 c5_3 c5_5 c5_6 c5_7 c10_0 c10_5 c11_0 c11_1 c11_2 c11_5 c11_6 c11_7 (b31 ++ [r_2])))
 else
  k0 c10_0 c10_5 c11_0 c11_1 c11_2 c11_5 c11_6 c11_7 b31
abbrev En : Tm := ⟨[(3, .d (.clo 232 (.ref hR))), (4, .d (.clo 233 (.pair (.ref hR) (.pair (.ref (.st (.pair .bool (.pair hIs (.pair hIs (.pair hRs (.pair .nil (.pair .bool (.pair hIs hIs))))))))) (.ref hR))))), (5, .k (.hp 5 0 0)), (10, .k (.hp 10 0 0)), (11, .k (.hp 11 0 0)), (18, .d hRs), (19, .d hI), (20, .d hI)], [(5, .var 81 true false [.d .bool, .d hIs, .d hIs, .d hRs, .d .nil, .d .bool, .d hIs, .d hIs]), (10, .var 81 true false [.d .bool, .d .nil, .d .nil, .d .nil, .d .nil, .d .bool, .d .nil, .d .nil]), (11, .var 81 false false [.d .bool, .d hIs, .d hIs, .k (.hw 31), .d .nil, .d .bool, .d hIs, .d hIs]), (31, .arr 31 hR false)], [13, 30], []⟩
abbrev Xq : Tm := ⟨[(10, .k (.hp 10 0 0)), (11, .k (.hp 11 0 0))], [(10, .var 81 true false [.d .bool, .d .nil, .d .nil, .d .nil, .d .nil, .d .bool, .d .nil, .d .nil]), (11, .var 81 false false [.d .bool, .d hIs, .d hIs, .k (.hw 31), .d .nil, .d .bool, .d hIs, .d hIs]), (31, .arr 31 hR false)], [5], []⟩
abbrev H3 : List (Exit × Tm) := [(.exit 0, Xq)]
def H2 {α : Type} (n : Nat) (v : En.den) (f : En.den -> Option α) (ks : KS α H3) : Option α := Zm n v.1.1 v.1.2.1 v.1.2.2.2.2.2.1 v.1.2.2.2.2.2.2.1 v.1.2.2.2.2.2.2.2.1 v.2.1.1 v.2.1.2.1 v.2.1.2.2.1 v.2.1.2.2.2.1 v.2.1.2.2.2.2.2.1 v.2.1.2.2.2.2.2.2.1 v.2.1.2.2.2.2.2.2.2.1 v.2.2.1.1 v.2.2.1.2.2.2.2.2.1 v.2.2.2.1.1 v.2.2.2.1.2.1 v.2.2.2.1.2.2.1 v.2.2.2.1.2.2.2.2.2.1 v.2.2.2.1.2.2.2.2.2.2.1 v.2.2.2.1.2.2.2.2.2.2.2.1 v.2.2.2.2.1 (fun s3 s4 s18 s19 s20 c5_0 c5_1 c5_2 c5_3 c5_5 c5_6 c5_7 c10_0 c10_5 c11_0 c11_1 c11_2 c11_5 c11_6 c11_7 b31 => f ((s3, s4, (), (), (), s18, s19, s20, ()), ((c5_0, c5_1, c5_2, c5_3, (), c5_5, c5_6, c5_7, ()), (c10_0, (), (), (), (), c10_5, (), (), ()), (c11_0, c11_1, c11_2, (), (), c11_5, c11_6, c11_7, ()), b31, ()))) (fun w0 w1 w2 w3 w4 w5 w6 w7 w8 => ks.1 (((), (), ()), ((w0, (), (), (), (), w1, (), (), ()), (w2, w3, w4, (), (), w5, w6, w7, ()), w8, ())))
def A3e {α : Type} (n m : Nat) (s3 : Rq) (s4 : Rq × (Bool × LI × LI × LR × Unit × Bool × LI × LI) × Rq) (s18 : LR) (s19 s20 : Int) (c5_0 : Bool) (c5_1 c5_2 : LI) (c5_3 : LR) (c5_5 : Bool) (c5_6 c5_7 : LI) (c10_0 c10_5 c11_0 : Bool) (c11_1 c11_2 : LI) (c11_5 : Bool) (c11_6 c11_7 : LI) (b31 : LR) (k0 : Bool -> Bool -> Bool -> LI -> LI -> Bool -> LI -> LI -> LR -> Option α) : Option α := A5 (H2 n) m ((s3, s4, (), (), (), s18, s19, s20, ()), ((c5_0, c5_1, c5_2, c5_3, (), c5_5, c5_6, c5_7, ()), (c10_0, (), (), (), (), c10_5, (), (), ()), (c11_0, c11_1, c11_2, (), (), c11_5, c11_6, c11_7, ()), b31, ())) (fun w => k0 w.2.1.1 w.2.1.2.2.2.2.2.1 w.2.2.1.1 w.2.2.1.2.1 w.2.2.1.2.2.1 w.2.2.1.2.2.2.2.2.1 w.2.2.1.2.2.2.2.2.2.1 w.2.2.1.2.2.2.2.2.2.2.1 w.2.2.2.1, ())
abbrev N4 : Tm := ⟨[(3, .d (.clo 232 (.ref hR))), (4, .d (.clo 233 (.pair (.ref hR) (.pair (.ref (.st (.pair .bool (.pair hIs (.pair hIs (.pair hRs (.pair .nil (.pair .bool (.pair hIs hIs))))))))) (.ref hR))))), (5, .k (.hp 5 0 0)), (10, .k (.hp 10 0 0)), (11, .k (.hp 11 0 0)), (12, .d hI), (13, .k (.hp 13 0 0)), (18, .d hRs), (19, .d hI), (20, .d hI)], [(5, .var 81 true false [.d .bool, .d hIs, .d hIs, .d hRs, .d .nil, .d .bool, .d hIs, .d hIs]), (10, .var 81 true false [.d .bool, .d .nil, .d .nil, .d .nil, .d .nil, .d .bool, .d .nil, .d .nil]), (11, .var 81 true false [.d .bool, .d hIs, .d hIs, .d .nil, .d .nil, .d .bool, .d hIs, .d hIs]), (13, .var 31 true false [.d .bool, .d hIs, .d hIs])], [6, 7], []⟩
abbrev Ke : Tm := ⟨[(3, .d (.clo 232 (.ref hR))), (4, .d (.clo 233 (.pair (.ref hR) (.pair (.ref (.st (.pair .bool (.pair hIs (.pair hIs (.pair hRs (.pair .nil (.pair .bool (.pair hIs hIs))))))))) (.ref hR))))), (5, .k (.hp 5 0 0)), (10, .k (.hp 10 0 0)), (11, .k (.hp 11 0 0)), (12, .d hI), (13, .k (.hp 13 0 0)), (18, .d hRs), (19, .d hI), (20, .d hI)], [(5, .var 81 true false [.d .bool, .d hIs, .d hIs, .d hRs, .d .nil, .d .bool, .d hIs, .d hIs]), (10, .var 81 true false [.d .bool, .d .nil, .d .nil, .d .nil, .d .nil, .d .bool, .d .nil, .d .nil]), (11, .var 81 false false [.d .bool, .d hIs, .d hIs, .k (.hw 31), .d .nil, .d .bool, .d hIs, .d hIs]), (13, .var 31 true false [.d .bool, .d hIs, .d hIs]), (31, .arr 31 hR false)], [], []⟩
def Uj (n : Nat) (a0 : Rq × LR × Unit × Rq) (a1 a2 a3 : Rq) (a4 : Rq × (Bool × LI × LI × LR × Unit × Bool × LI × LI) × Rq) : Option (Rq × LR × Unit × Rq) :=
 bif (decide (0 < (a0.2.1.length : Int))) then
  gd (decide (0 < (a0.2.1.length : Int))) (
   let x_3 := a0.2.1.getD 0 (false, [], [])
   ob (f232 n x_3 a3) fun r_4 =>
   A3e n n a3 a4 a0.2.1 (a0.2.1.length : Int) 1 a0.1.1 a0.1.2.1 a0.1.2.2 a0.2.1 a0.2.2.2.1 a0.2.2.2.2.1 a0.2.2.2.2.2 false false a1.1 a1.2.1 a1.2.2 a2.1 a2.2.1 a2.2.2 [r_4]
    (fun z_5 z_6 z_7 z_8 z_9 z_10 z_11 z_12 z_13 => (
     some ((z_7, z_8, z_9), z_13, (), z_10, z_11, z_12))))
 else
  some (a1, [], (), a2)
def D4 (n : Nat) : Ent := ⟨220, [(.st (.pair hR (.pair hRs (.pair .nil hR)))), hR, hR, (.clo 232 (.ref hR)), (.clo 233 (.pair (.ref hR) (.pair (.ref (.st (.pair .bool (.pair hIs (.pair hIs (.pair hRs (.pair .nil (.pair .bool (.pair hIs hIs))))))))) (.ref hR))))], [(.st (.pair hR (.pair hRs (.pair .nil hR))))], fun x => Uj n x.1 x.2.1 x.2.2.1 x.2.2.2.1 x.2.2.2.2⟩
def Ix (α : Type) (n : Nat) : D3 α := { reg := [(5, ⟨0, [], [(4, { ent := some (Gg n) }), (5, { sh := some hR }), (6, { sh := some hR })]⟩)], join := [], loop := [(3, ⟨En, H3, A5 (H2 n) n⟩)], any := [(5, N4), (5, Ke)] }
set_option maxHeartbeats 8000000 in
theorem N5 (n : Nat) : Ax TT ⟨46, []⟩ [(4, { ent := some (Gg n) }), (5, { sh := some hR }), (6, { sh := some hR })] N4 (Ad ((A1 Tryz.f220).at [1, 1, 0, 1, 0, 0, 1, 1, 0, 0, 1, 0])) := by
 refine ⟨by kernel_rfl, fun w q hq => ?_⟩
 have e : WT [(4, { ent := some (Gg n) }), (5, { sh := some hR }), (6, { sh := some hR })] (A8 (Ad ((A1 Tryz.f220).at [1, 1, 0, 1, 0, 0, 1, 1, 0, 0, 1, 0])).toList) q = (∃ (y0 : HL (Gg n).rs) (q0 : List (Nat × RV)), q = (4, .sv (Aq (Gg n).rs y0)) :: q0 /\ q0 = []) := by kernel_rfl
 rw [e] at hq; obtain ⟨y0, q0, rfl, rfl⟩ := hq
 all_goals exact .inr ⟨6, by kernel_rfl, by kernel_rfl, by kernel_rfl⟩
set_option maxHeartbeats 8000000 in
theorem Kf (n : Nat) : Ax TT ⟨46, []⟩ [(4, { ent := some (Gg n) }), (5, { sh := some hR }), (6, { sh := some hR })] Ke (Ad ((A1 Tryz.f220).at [1, 1, 0, 1, 0, 0, 1, 1, 0, 0, 1, 0])) := by
 refine ⟨by kernel_rfl, fun w q hq => ?_⟩
 have e : WT [(4, { ent := some (Gg n) }), (5, { sh := some hR }), (6, { sh := some hR })] (A8 (Ad ((A1 Tryz.f220).at [1, 1, 0, 1, 0, 0, 1, 1, 0, 0, 1, 0])).toList) q = (∃ (y0 : HL (Gg n).rs) (q0 : List (Nat × RV)), q = (4, .sv (Aq (Gg n).rs y0)) :: q0 /\ q0 = []) := by kernel_rfl
 rw [e] at hq; obtain ⟨y0, q0, rfl, rfl⟩ := hq
 all_goals exact .inr ⟨6, by kernel_rfl, by kernel_rfl, by kernel_rfl⟩
theorem Kd (α : Type) (n : Nat) : Al PP (Ah (Ix α n).reg) := ⟨Azi n, trivial⟩
theorem Xp (α : Type) (n : Nat) : D3.OK PP TT ⟨46, []⟩ (Ix α n) ((A1 Tryz.f220).at [1, 1, 0, 1, 0, 0]) :=
 D3.OK.mk3a (Kd α n) (show Aa ((A1 Tryz.f220).at [1, 1, 0, 1, 0, 0]) = [] by kernel_rfl) trivial (show At ((A1 Tryz.f220).at [1, 1, 0, 1, 0, 0]) = [(5, Ad ((A1 Tryz.f220).at [1, 1, 0, 1, 0, 0, 1, 1, 0, 0, 1, 0])), (7, Ad ((A1 Tryz.f220).at [1, 1, 0, 1, 0, 0, 1, 1, 0, 0, 1, 1, 1, 0]))] by kernel_rfl) ⟨⟨N5 n, Kf n, trivial⟩, trivial, trivial⟩
theorem Ui (α : Type) (n : Nat) : LO.Sound (α := α) PP ⟨46, []⟩ ⟨En, H3, A5 (H2 n) n⟩ (.loop ((A1 Tryz.f220).at [1, 1, 0, 1, 0, 0])) := lk (Xp α n) n
theorem A63 (α : Type) (n : Nat) : D3.OK PP TT ⟨46, []⟩ (Ix α n) (A1 Tryz.f220) :=
 D3.OK.mk3a (Kd α n) (show Aa (A1 Tryz.f220) = [(3, (.loop ((A1 Tryz.f220).at [1, 1, 0, 1, 0, 0])))] by kernel_rfl) ⟨Ab rfl (Ui α n), trivial⟩ (show At (A1 Tryz.f220) = [(5, Ad ((A1 Tryz.f220).at [1, 1, 0, 1, 0, 0, 1, 1, 0, 0, 1, 0])), (7, Ad ((A1 Tryz.f220).at [1, 1, 0, 1, 0, 0, 1, 1, 0, 0, 1, 1, 1, 0]))] by kernel_rfl) ⟨⟨N5 n, Kf n, trivial⟩, trivial, trivial⟩
theorem A3d (n : Nat) : (D4 n).Sound PP := fk (fn := Tryz.f220) (A63 _ n) 

abbrev Ahm : Tm := ⟨[(4, .k (.hp 4 0 0)), (5, .k (.hp 5 0 0)), (6, .k (.hp 6 0 0)), (7, .k (.hp 7 0 0)), (8, .k (.hp 8 0 0))], [(4, .var 81 true false [.d .bool, .d hIs, .d hIs, .d hRs, .d .nil, .d .bool, .d hIs, .d hIs]), (5, .var 31 true false [.d .bool, .d hIs, .d hIs]), (6, .var 31 true false [.d .bool, .d hIs, .d hIs]), (7, .var 31 true false [.d .bool, .d hIs, .d hIs]), (8, .var 81 true false [.d .bool, .d .nil, .d .nil, .d .nil, .d .nil, .d .bool, .d .nil, .d .nil])], [], []⟩
def f224 (n : Nat) (a0 : Rq × LR × Unit × Rq) (a1 a2 a3 : Rq) : Option (Rq × LR × Unit × Rq) :=
 ob (f178 n a2 a0.2.2.2) fun r_1 =>
 ob (Uj n (a0.1, a0.2.1, (), a0.2.2.2) a1 r_1 a2 (a3, (a0.1.1, a0.1.2.1, a0.1.2.2, a0.2.1, (), a0.2.2.2), a2)) fun r_2 =>
 some r_2
def Adb (n : Nat) : Ent := ⟨224, [(.st (.pair hR (.pair hRs (.pair .nil hR)))), hR, hR, hR], [(.st (.pair hR (.pair hRs (.pair .nil hR))))], fun x => f224 n x.1 x.2.1 x.2.2.1 x.2.2.2⟩
def Apj (α : Type) (n : Nat) : D3 α := { reg := [(1, ⟨0, [], [(5, { ent := some (Ak n) }), (6, { sh := some (.ref hR) }), (7, { sh := some (.pair (.ref hR) (.pair (.ref (.st (.pair .bool (.pair hIs (.pair hIs (.pair hRs (.pair .nil (.pair .bool (.pair hIs hIs))))))))) (.ref hR))) }), (8, { ent := some (D4 n) })]⟩)], join := [], loop := [], any := [(1, Ahm)] }
set_option maxHeartbeats 8000000 in
theorem Azl (n : Nat) : Ax TT ⟨18, []⟩ [(5, { ent := some (Ak n) }), (6, { sh := some (.ref hR) }), (7, { sh := some (.pair (.ref hR) (.pair (.ref (.st (.pair .bool (.pair hIs (.pair hIs (.pair hRs (.pair .nil (.pair .bool (.pair hIs hIs))))))))) (.ref hR))) }), (8, { ent := some (D4 n) })] Ahm (Ad ((A1 Tryz.f224).at [1, 0])) := by
 refine ⟨by kernel_rfl, fun w q hq => ?_⟩
 have e : WT [(5, { ent := some (Ak n) }), (6, { sh := some (.ref hR) }), (7, { sh := some (.pair (.ref hR) (.pair (.ref (.st (.pair .bool (.pair hIs (.pair hIs (.pair hRs (.pair .nil (.pair .bool (.pair hIs hIs))))))))) (.ref hR))) }), (8, { ent := some (D4 n) })] (A8 (Ad ((A1 Tryz.f224).at [1, 0])).toList) q = (∃ (y0 : HL (Ak n).rs) (q0 : List (Nat × RV)), q = (5, .sv (Aq (Ak n).rs y0)) :: q0 /\ ∃ (y1 : HL (D4 n).rs) (q1 : List (Nat × RV)), q0 = (8, .sv (Aq (D4 n).rs y1)) :: q1 /\ q1 = []) := by kernel_rfl
 rw [e] at hq; obtain ⟨y0, q0, rfl, y1, q1, rfl, rfl⟩ := hq
 all_goals exact .inl (Jp.mk (by kernel_rfl))
theorem Api (α : Type) (n : Nat) : Al PP (Ah (Apj α n).reg) := ⟨Cc n, A3d n, trivial⟩
theorem B4l (α : Type) (n : Nat) : D3.OK PP TT ⟨18, []⟩ (Apj α n) (A1 Tryz.f224) :=
 D3.OK.mk3a (Api α n) (show Aa (A1 Tryz.f224) = [] by kernel_rfl) trivial (show At (A1 Tryz.f224) = [(1, Ad ((A1 Tryz.f224).at [1, 0]))] by kernel_rfl) ⟨⟨Azl n, trivial⟩, trivial⟩
theorem Ahl (n : Nat) : (Adb n).Sound PP := fk (fn := Tryz.f224) (B4l _ n) 

abbrev Aht : Tm := ⟨[(1, .k (.hp 1 0 0)), (2, .k (.hp 2 0 0))], [(1, .var 81 true false [.d .bool, .d hIs, .d hIs, .d hRs, .d .nil, .d .bool, .d hIs, .d hIs]), (2, .var 81 true false [.d .bool, .d .nil, .d .nil, .d .nil, .d .nil, .d .bool, .d .nil, .d .nil])], [], []⟩
def f196 (n : Nat) (a0 : Rq × LR × Unit × Rq) : Option (Rq × LR × Unit × Rq) :=
 ob (f126 n 1) fun r_1 =>
 ob (f223 n r_1 a0.1) fun r_2 =>
 ob (f178 n r_2 r_2) fun r_3 =>
 ob (f206 n r_3) fun r_4 =>
 ob (f178 n r_3 r_2) fun r_5 =>
 ob (f126 n 2) fun r_6 =>
 ob (f178 n r_5 r_6) fun r_7 =>
 ob (f224 n (a0.1, a0.2.1, (), a0.2.2.2) r_2 r_4 r_7) fun r_8 =>
 some r_8
def Aqm (n : Nat) : Ent := ⟨196, [(.st (.pair hR (.pair hRs (.pair .nil hR))))], [(.st (.pair hR (.pair hRs (.pair .nil hR))))], fun x => f196 n x⟩
def Aqn (α : Type) (n : Nat) : D3 α := { reg := [(1, ⟨0, [], [(0, { ent := some (B8 n) }), (3, { ent := some (Oj n) })]⟩), (2, ⟨0, [], [(2, { ent := some (Ak n) })]⟩), (3, ⟨9, [], [(3, { ent := some (Aq2 n) }), (6, { ent := some (Ak n) }), (7, { ent := some (B8 n) }), (8, { ent := some (Ak n) }), (9, { ent := some (Adb n) })]⟩)], join := [], loop := [], any := [(1, Aht)] }
set_option maxHeartbeats 8000000 in
theorem B0b (n : Nat) : Ax TT ⟨22, []⟩ [(0, { ent := some (B8 n) }), (3, { ent := some (Oj n) })] Aht (Ad ((A1 Tryz.f196).at [1, 0])) := by
 refine ⟨by kernel_rfl, fun w q hq => ?_⟩
 have e : WT [(0, { ent := some (B8 n) }), (3, { ent := some (Oj n) })] (A8 (Ad ((A1 Tryz.f196).at [1, 0])).toList) q = (∃ (y0 : HL (B8 n).rs) (q0 : List (Nat × RV)), q = (0, .sv (Aq (B8 n).rs y0)) :: q0 /\ ∃ (y1 : HL (Oj n).rs) (q1 : List (Nat × RV)), q0 = (3, .sv (Aq (Oj n).rs y1)) :: q1 /\ q1 = []) := by kernel_rfl
 rw [e] at hq; obtain ⟨y0, q0, rfl, y1, q1, rfl, rfl⟩ := hq
 all_goals exact .inr ⟨5, by kernel_rfl, by kernel_rfl, by kernel_rfl⟩
theorem Aql (α : Type) (n : Nat) : Al PP (Ah (Aqn α n).reg) := ⟨Cd n, Azm n, Cc n, Azz n, Cc n, Cd n, Cc n, Ahl n, trivial⟩
theorem B55 (α : Type) (n : Nat) : D3.OK PP TT ⟨22, []⟩ (Aqn α n) (A1 Tryz.f196) :=
 D3.OK.mk3a (Aql α n) (show Aa (A1 Tryz.f196) = [] by kernel_rfl) trivial (show At (A1 Tryz.f196) = [(1, Ad ((A1 Tryz.f196).at [1, 0])), (3, Ad ((A1 Tryz.f196).at [1, 1, 1, 0]))] by kernel_rfl) ⟨⟨B0b n, trivial⟩, trivial, trivial⟩
theorem B0a (n : Nat) : (Aqm n).Sound PP := fk (fn := Tryz.f196) (B55 _ n) 

def A0i {α : Type} (n : Nat) (s7 s8 : Int) (c2_0 : Bool) (c2_1 c2_2 : LI) (c4_0 c5_0 : Bool) (c5_1 c5_2 : LI) (f : Int -> Int -> Bool -> LI -> LI -> Bool -> Bool -> LI -> LI -> Option α) (k0 : Bool -> Bool -> LI -> LI -> Option α) : Option α :=
 bif (decide (s8 < s7)) then
  ob (f200 n c5_1 c2_1) fun r_2 =>
  ob (f200 n c5_2 c2_2) fun r_3 =>
  f s7 (W (s8 + 1)) c2_0 c2_1 c2_2 c4_0 (!(c5_0 == c2_0)) r_2 r_3
 else
  k0 c4_0 c5_0 c5_1 c5_2
abbrev R1 : Tm := ⟨[(2, .k (.hp 2 0 0)), (4, .k (.hp 4 0 0)), (5, .k (.hp 5 0 0)), (7, .d hI), (8, .d hI)], [(2, .var 31 true false [.d .bool, .d hIs, .d hIs]), (4, .var 31 true false [.d .bool, .d .nil, .d .nil]), (5, .var 31 true false [.d .bool, .d hIs, .d hIs])], [], []⟩
abbrev Aqk : Tm := ⟨[(4, .k (.hp 4 0 0)), (5, .k (.hp 5 0 0))], [(4, .var 31 true false [.d .bool, .d .nil, .d .nil]), (5, .var 31 true false [.d .bool, .d hIs, .d hIs])], [2], []⟩
abbrev A0h : List (Exit × Tm) := [(.exit 0, Aqk)]
def A0g {α : Type} (n : Nat) (v : R1.den) (f : R1.den -> Option α) (ks : KS α A0h) : Option α := A0i n v.1.2.2.2.1 v.1.2.2.2.2.1 v.2.1.1 v.2.1.2.1 v.2.1.2.2.1 v.2.2.1.1 v.2.2.2.1.1 v.2.2.2.1.2.1 v.2.2.2.1.2.2.1 (fun s7 s8 c2_0 c2_1 c2_2 c4_0 c5_0 c5_1 c5_2 => f (((), (), (), s7, s8, ()), ((c2_0, c2_1, c2_2, ()), (c4_0, (), (), ()), (c5_0, c5_1, c5_2, ()), ()))) (fun w0 w1 w2 w3 => ks.1 (((), (), ()), ((w0, (), (), ()), (w1, w2, w3, ()), ())))
def Oo {α : Type} (n m : Nat) (s7 s8 : Int) (c2_0 : Bool) (c2_1 c2_2 : LI) (c4_0 c5_0 : Bool) (c5_1 c5_2 : LI) (k0 : Bool -> Bool -> LI -> LI -> Option α) : Option α := A5 (A0g n) m (((), (), (), s7, s8, ()), ((c2_0, c2_1, c2_2, ()), (c4_0, (), (), ()), (c5_0, c5_1, c5_2, ()), ())) (fun w => k0 w.2.1.1 w.2.2.1.1 w.2.2.1.2.1 w.2.2.1.2.2.1, ())
theorem Aqj {α n m s7 s8 c2_0 c2_1 c2_2 c4_0 c5_0 c5_1 c5_2 k0} : Oo (α := α) n (m + 1) s7 s8 c2_0 c2_1 c2_2 c4_0 c5_0 c5_1 c5_2 k0 = A0i n s7 s8 c2_0 c2_1 c2_2 c4_0 c5_0 c5_1 c5_2 (fun s7 s8 c2_0 c2_1 c2_2 c4_0 c5_0 c5_1 c5_2 => Oo n m s7 s8 c2_0 c2_1 c2_2 c4_0 c5_0 c5_1 c5_2 k0) k0 := rfl
def f197 (n : Nat) (a0 : Rq) (a1 : Int) : Option Rq :=
 ob (f126 n 1) fun r_1 =>
 Oo n n a1 0 a0.1 a0.2.1 a0.2.2 false r_1.1 r_1.2.1 r_1.2.2
  (fun z_4 z_5 z_6 z_7 => (
   bif z_5 then
    ob (f195 n (z_5, z_6, z_7)) fun r_8 =>
    ob (f195 n ((!r_8), z_6, z_7)) fun r_9 =>
    bif r_9 then
     ob (f180 n) fun r_10 =>
     some ((!r_8), z_6, r_10)
    else
     some ((!r_8), z_6, z_7)
   else
    ob (f195 n (false, z_6, z_7)) fun r_11 =>
    bif r_11 then
     ob (f180 n) fun r_12 =>
     some (false, z_6, r_12)
    else
     some (false, z_6, z_7)))
def Uu (n : Nat) : Ent := ⟨197, [hR, hI], [hR], fun x => f197 n x.1 x.2⟩
def Adm (α : Type) (n : Nat) : D3 α := { reg := [(1, ⟨0, [], [(0, { ent := some (B8 n) })]⟩), (4, ⟨15, [], [(9, { ent := some (Gj n) }), (14, { ent := some (Gj n) })]⟩), (6, ⟨0, [], [(4, { ent := some (Or n) })]⟩), (7, ⟨0, [], [(1, { ent := some (Or n) })]⟩), (8, ⟨0, [], [(0, { ent := some (Oy n) })]⟩)], join := [], loop := [(3, ⟨R1, A0h, A5 (A0g n) n⟩)] }
theorem A8l (α : Type) (n : Nat) : Al PP (Ah (Adm α n).reg) := ⟨Cd n, G1 n, G1 n, Oq n, Oq n, Ox n, trivial⟩
theorem Ala (α : Type) (n : Nat) : LO.Sound (α := α) PP ⟨40, []⟩ ⟨R1, A0h, A5 (A0g n) n⟩ (.loop ((A1 Tryz.f197).at [1, 1, 0, 1, 0, 0])) := Bf (D := Adm α n) (A8l α n) n
theorem B54 (α : Type) (n : Nat) : D3.OK PP TT ⟨40, []⟩ (Adm α n) (A1 Tryz.f197) :=
 D3.OK.mk3 (A8l α n) (show Aa (A1 Tryz.f197) = [(3, (.loop ((A1 Tryz.f197).at [1, 1, 0, 1, 0, 0])))] by kernel_rfl) ⟨Ab rfl (Ala α n), trivial⟩
theorem Wv (n : Nat) : (Uu n).Sound PP := fk (fn := Tryz.f197) (B54 _ n) 

def f131 (n : Nat) (a0 : Rq) : Option Bool :=
 bif (decide ((a0.2.1.length : Int) <= 40)) then
  some (decide ((a0.2.2.length : Int) <= 40))
 else
  some false
def V3 (n : Nat) : Ent := ⟨131, [hR], [.bool], fun x => f131 n x⟩
def B6h (α : Type) (n : Nat) : D3 α := { reg := [], join := [], loop := [] }
theorem X7 (n : Nat) : (V3 n).Sound PP := Ar (fn := Tryz.f131) (D := B6h _ n) trivial 

abbrev Ahq : Tm := ⟨[(4, .k (.hp 4 0 0)), (5, .k (.hp 5 0 0)), (6, .k (.hp 6 0 0)), (7, .k (.hp 7 0 0))], [(4, .var 31 true false [.d .bool, .d .nil, .d .nil]), (5, .var 31 true false [.d .bool, .d .nil, .d .nil]), (6, .var 31 true false [.d .bool, .d hIs, .d hIs]), (7, .var 31 true false [.d .bool, .d hIs, .d hIs])], [2], []⟩
abbrev Azx : Tm := ⟨[(1, .d hI), (2, .k (.hp 2 0 0)), (4, .k (.hp 4 0 0)), (5, .k (.hp 5 0 0)), (6, .k (.hp 6 0 0)), (7, .k (.hp 7 0 0))], [(2, .var 81 true false [.d .bool, .d hIs, .d hIs, .d hRs, .d .nil, .d .bool, .d hIs, .d hIs]), (4, .var 31 true false [.d .bool, .d .nil, .d .nil]), (5, .var 31 true false [.d .bool, .d .nil, .d .nil]), (6, .var 31 true false [.d .bool, .d hIs, .d hIs]), (7, .var 31 true false [.d .bool, .d hIs, .d hIs])], [], []⟩
def f209 (n : Nat) (a0 : Rq × LR × Unit × Rq) (a1 : Int) : Option (Rq × Rq) :=
 ob (f126 n 0) fun r_1 =>
 ob (f126 n 0) fun r_2 =>
 let J_12 := fun (y_6 : Bool) (y_7 : LI) (y_8 : LI) => (
  bif (decide (a1 >= 2)) then
   ob (f197 n a0.1 (W (a1 - 2))) fun r_9 =>
   ob (f126 n (W (a1 * (W (a1 - 1))))) fun r_10 =>
   ob (f178 n r_9 r_10) fun r_11 =>
   some ((y_6, y_7, y_8), r_11)
  else
   some ((y_6, y_7, y_8), r_2))
 bif (decide (a1 >= 1)) then
  ob (f197 n a0.1 (W (a1 - 1))) fun r_3 =>
  ob (f126 n a1) fun r_4 =>
  ob (f178 n r_3 r_4) fun r_5 =>
  J_12 r_5.1 r_5.2.1 r_5.2.2
 else
  J_12 r_1.1 r_1.2.1 r_1.2.2
def Aq0 (n : Nat) : Ent := ⟨209, [(.st (.pair hR (.pair hRs (.pair .nil hR)))), hI], [hR, hR], fun x => f209 n x.1 x.2⟩
def Aq1 (α : Type) (n : Nat) : D3 α := { reg := [(1, ⟨0, [], [(0, { ent := some (B8 n) }), (1, { ent := some (B8 n) })]⟩), (3, ⟨0, [], [(4, { ent := some (Uu n) }), (6, { ent := some (B8 n) }), (7, { ent := some (Ak n) })]⟩), (5, ⟨0, [], [(4, { ent := some (Uu n) }), (9, { ent := some (B8 n) }), (10, { ent := some (Ak n) })]⟩)], join := [(4, Azx)], loop := [], any := [(6, Ahq)] }
set_option maxHeartbeats 8000000 in
theorem Azy (n : Nat) : Ax TT ⟨35, []⟩ [] Ahq (Ad ((A1 Tryz.f209).at [1, 1, 1, 1, 0])) := by
 refine ⟨by kernel_rfl, fun w q hq => ?_⟩
 have e : WT [] (A8 (Ad ((A1 Tryz.f209).at [1, 1, 1, 1, 0])).toList) q = (q = []) := by kernel_rfl
 rw [e] at hq; obtain rfl := hq
 all_goals exact .inr ⟨3, by kernel_rfl, by kernel_rfl, by kernel_rfl⟩
theorem Apz (α : Type) (n : Nat) : Al PP (Ah (Aq1 α n).reg) := ⟨Cd n, Cd n, Wv n, Cd n, Cc n, Wv n, Cd n, Cc n, trivial⟩
theorem B4w (α : Type) (n : Nat) : D3.OK PP TT ⟨35, []⟩ (Aq1 α n) (A1 Tryz.f209) :=
 D3.OK.mk3a (Apz α n) (show Aa (A1 Tryz.f209) = [] by kernel_rfl) trivial (show At (A1 Tryz.f209) = [(6, Ad ((A1 Tryz.f209).at [1, 1, 1, 1, 0]))] by kernel_rfl) ⟨⟨Azy n, trivial⟩, trivial⟩
theorem Azw (n : Nat) : (Aq0 n).Sound PP := fk (fn := Tryz.f209) (B4w _ n) 

def f198 (n : Nat) (a0 : Rq × LR × Unit × Rq) (a1 : Int) : Option (Rq × LR × Unit × Rq) :=
 ob (f209 n a0 a1) fun r_1 =>
 ob (f197 n a0.1 a1) fun r_2 =>
 ob (f224 n a0 r_2 r_1.1 r_1.2) fun r_3 =>
 some r_3
def Aqi (n : Nat) : Ent := ⟨198, [(.st (.pair hR (.pair hRs (.pair .nil hR)))), hI], [(.st (.pair hR (.pair hRs (.pair .nil hR))))], fun x => f198 n x.1 x.2⟩
def B53 (α : Type) (n : Nat) : D3 α := { reg := [(1, ⟨0, [], [(2, { ent := some (Aq0 n) })]⟩), (2, ⟨7, [], [(4, { ent := some (Uu n) }), (7, { ent := some (Adb n) })]⟩)], join := [], loop := [] }
theorem B09 (n : Nat) : (Aqi n).Sound PP := Ar (fn := Tryz.f198) (D := B53 _ n) ⟨Azw n, Wv n, Ahl n, trivial⟩ 

abbrev Ae0 : Tm := ⟨[(2, .d hRs), (3, .k (.hw 1003)), (4, .k (.hp 4 0 0)), (5, .k (.hp 5 0 0)), (8, .k (.hp 8 0 0)), (10, .k (.hp 10 0 0)), (11, .k (.hp 11 0 0))], [(4, .var 84 true false [.d hI, .d .nil]), (5, .var 125 true false [.d hI, .d hI, .d hI, .d hI]), (8, .var 81 true false [.d .bool, .d .nil, .d .nil, .d .nil, .d .nil, .d .bool, .d .nil, .d .nil]), (10, .var 81 true false [.d .bool, .d .nil, .d .nil, .d .nil, .d .nil, .d .bool, .d .nil, .d .nil]), (11, .var 81 true false [.d .bool, .d .nil, .d .nil, .d .nil, .d .nil, .d .bool, .d .nil, .d .nil]), (1003, .arr 81 (.st (.pair hR (.pair hRs (.pair .nil hR)))) false)], [], []⟩
abbrev Aw6 : Tm := ⟨[(2, .d hRs), (4, .k (.hp 4 0 0)), (5, .k (.hp 5 0 0)), (8, .k (.hp 8 0 0)), (10, .k (.hp 10 0 0)), (11, .k (.hp 11 0 0))], [(4, .var 84 true false [.d hI, .d .nil]), (5, .var 125 true false [.d hI, .d hI, .d hI, .d hI]), (8, .var 81 true false [.d .bool, .d .nil, .d .nil, .d .nil, .d .nil, .d .bool, .d .nil, .d .nil]), (10, .var 81 true false [.d .bool, .d hIs, .d hIs, .d hRs, .d .nil, .d .bool, .d hIs, .d hIs]), (11, .var 81 true false [.d .bool, .d hIs, .d hIs, .d hRs, .d .nil, .d .bool, .d hIs, .d hIs]), (1003, .arr 81 (.st (.pair hR (.pair hRs (.pair .nil hR)))) false)], [], []⟩
def Aaf (n : Nat) (a0 : Int × Unit) (a1 : Nq) (a2 : LR) (a3 : List (Rq × LR × Unit × Rq)) : Option (((Rq × LR × Unit × Rq) × Int) × (List (Rq × LR × Unit × Rq))) :=
 let J_35 := fun (y_4 : Bool) (y_5 : LI) (y_6 : LI) (y_7 : LR) (y_8 : Bool) (y_9 : LI) (y_10 : LI) (y_11 : Bool) (y_12 : LI) (y_13 : LI) (y_14 : LR) (y_15 : Bool) (y_16 : LI) (y_17 : LI) => (
  bif (a1.1 == 1) then
   ob (f126 n a1.2.2.2) fun r_18 =>
   ob (f190 n (a0.1, ()) r_18) fun r_19 =>
   some ((r_19, 0), a3)
  else
   bif (a1.1 == 2) then
    gd (decide (0 <= a1.2.2.2) && decide (a1.2.2.2 < (a2.length : Int))) (
     let x_20 := a2.getD a1.2.2.2.toNat (false, [], [])
     ob (f191 n (a0.1, ()) x_20 a1.2.2.2) fun r_21 =>
     some ((r_21, 0), a3))
   else
    bif (a1.1 == 3) then
     ob (f192 n ((y_4, y_5, y_6), y_7, (), y_8, y_9, y_10) ((y_11, y_12, y_13), y_14, (), y_15, y_16, y_17)) fun r_22 =>
     some ((r_22, 0), a3)
    else
     bif (a1.1 == 4) then
      ob (f126 n (-1)) fun r_23 =>
      ob (f193 n ((y_11, y_12, y_13), y_14, (), y_15, y_16, y_17) r_23) fun r_24 =>
      ob (f192 n ((y_4, y_5, y_6), y_7, (), y_8, y_9, y_10) r_24) fun r_25 =>
      some ((r_25, 0), a3)
     else
      bif (a1.1 == 5) then
       ob (f194 n ((y_4, y_5, y_6), y_7, (), y_8, y_9, y_10) ((y_11, y_12, y_13), y_14, (), y_15, y_16, y_17)) fun r_26 =>
       some ((r_26, 0), a3)
      else
       bif (a1.1 == 6) then
        ob (f195 n (y_11, y_12, y_13)) fun r_27 =>
        bif r_27 then
         some ((((false, [], []), [], (), false, [], []), 10), a3)
        else
         ob (f196 n ((y_11, y_12, y_13), y_14, (), y_15, y_16, y_17)) fun r_28 =>
         ob (f194 n ((y_4, y_5, y_6), y_7, (), y_8, y_9, y_10) r_28) fun r_29 =>
         some ((r_29, 0), a3)
       else
        bif (a1.1 == 7) then
         ob (f126 n (-1)) fun r_30 =>
         ob (f193 n ((y_4, y_5, y_6), y_7, (), y_8, y_9, y_10) r_30) fun r_31 =>
         some ((r_31, 0), a3)
        else
         ob (f197 n (y_4, y_5, y_6) a1.2.2.2) fun r_32 =>
         ob (f131 n r_32) fun r_33 =>
         bif (!r_33) then
          some ((((false, [], []), [], (), false, [], []), 7), a3)
         else
          ob (f198 n ((y_4, y_5, y_6), y_7, (), y_8, y_9, y_10) a1.2.2.2) fun r_34 =>
          some ((r_34, 0), a3))
 ob (f109 n a1) fun r_1 =>
 bif (decide (r_1 > 0)) then
  gd (decide (0 <= a1.2.1) && decide (a1.2.1 < (a3.length : Int))) (
   gd (decide (a1.2.1.toNat < a3.length)) (
    let x_2 := a3.getD a1.2.1.toNat ((false, [], []), [], (), (false, [], []))
    gd (decide (0 <= a1.2.2.1) && decide (a1.2.2.1 < (a3.length : Int))) (
     gd (decide (a1.2.2.1.toNat < a3.length)) (
      let x_3 := a3.getD a1.2.2.1.toNat ((false, [], []), [], (), (false, [], []))
      J_35 x_2.1.1 x_2.1.2.1 x_2.1.2.2 x_2.2.1 x_2.2.2.2.1 x_2.2.2.2.2.1 x_2.2.2.2.2.2 x_3.1.1 x_3.1.2.1 x_3.1.2.2 x_3.2.1 x_3.2.2.2.1 x_3.2.2.2.2.1 x_3.2.2.2.2.2))))
 else
  J_35 false [] [] [] false [] [] false [] [] [] false [] []
def Ai9 (n : Nat) : Ent3 := ⟨158, [.im (.st (.pair hI .nil)), .im hN, .im hRs, .one (.own 81 (.st (.pair hR (.pair hRs (.pair .nil hR)))))], [[.im (.st (.pair hR (.pair hRs (.pair .nil hR)))), .im hI]], fun x => Aaf n x.1 x.2.1 x.2.2.1 x.2.2.2⟩
def Aia (α : Type) (n : Nat) : D3 α := { reg := [(2, ⟨0, [], [(1, { ent := some (V6 n) })]⟩), (6, ⟨4, [], [(3, { ent := some (B8 n) }), (4, { ent := some (Aqw n) })]⟩), (8, ⟨8, [], [(8, { ent := some (Aqu n) })]⟩), (10, ⟨0, [], [(2, { ent := some (Adq n) })]⟩), (12, ⟨4, [], [(2, { ent := some (B8 n) }), (3, { ent := some (Adp n) }), (4, { ent := some (Adq n) })]⟩), (14, ⟨0, [], [(2, { ent := some (Adn n) })]⟩), (16, ⟨0, [], [(2, { ent := some (Or n) })]⟩), (18, ⟨3, [], [(2, { ent := some (Aqm n) }), (3, { ent := some (Adn n) })]⟩), (20, ⟨2, [], [(1, { ent := some (B8 n) }), (2, { ent := some (Adp n) })]⟩), (21, ⟨0, [], [(4, { ent := some (Uu n) }), (5, { ent := some (V3 n) })]⟩), (23, ⟨0, [], [(3, { ent := some (Aqi n) })]⟩)], join := [(4, Aw6)], loop := [], any := [(3, Ae0)] }
set_option maxHeartbeats 8000000 in
theorem Aw7 (n : Nat) : Ax TT ⟨89, []⟩ [] Ae0 (Ad ((A1 Tryz.f158).at [1, 1, 0, 1, 0])) := by
 refine ⟨by kernel_rfl, fun w q hq => ?_⟩
 have e : WT [] (A8 (Ad ((A1 Tryz.f158).at [1, 1, 0, 1, 0])).toList) q = (q = []) := by kernel_rfl
 rw [e] at hq; obtain rfl := hq
 all_goals exact .inr ⟨11, by kernel_rfl, by kernel_rfl, by kernel_rfl⟩
theorem Alp (α : Type) (n : Nat) : Al PP (Ah (Aia α n).reg) := ⟨Xc n, Cd n, B0j n, B0h n, Ai0 n, Cd n, Ahy n, Ai0 n, Ahu n, Oq n, B0a n, Ahu n, Cd n, Ahy n, Wv n, X7 n, B09 n, trivial⟩
theorem B17 (α : Type) (n : Nat) : D3.OK PP TT ⟨89, []⟩ (Aia α n) (A1 Tryz.f158) :=
 D3.OK.mk3a (Alp α n) (show Aa (A1 Tryz.f158) = [] by kernel_rfl) trivial (show At (A1 Tryz.f158) = [(3, Ad ((A1 Tryz.f158).at [1, 1, 0, 1, 0])), (6, Ad ((A1 Tryz.f158).at [1, 1, 1, 0, 1, 0, 1, 0, 0])), (8, Ad ((A1 Tryz.f158).at [1, 1, 1, 0, 1, 0, 1, 1, 1, 0, 0])), (12, Ad ((A1 Tryz.f158).at [1, 1, 1, 0, 1, 0, 1, 1, 1, 1, 1, 1, 1, 0, 0])), (18, Ad ((A1 Tryz.f158).at [1, 1, 1, 0, 1, 0, 1, 1, 1, 1, 1, 1, 1, 1, 1, 1, 1, 0, 1, 0])), (20, Ad ((A1 Tryz.f158).at [1, 1, 1, 0, 1, 0, 1, 1, 1, 1, 1, 1, 1, 1, 1, 1, 1, 1, 1, 0, 0]))] by kernel_rfl) ⟨⟨Aw7 n, trivial⟩, trivial, trivial, trivial, trivial, trivial, trivial⟩
theorem Aw5 (n : Nat) : (Ai9 n).Sound PP := Sx (fn := Tryz.f158) (B17 _ n) 

def f130 (n : Nat) (a0 : Rq) : Option Bool :=
 ob (f131 n a0) fun r_1 =>
 some (!r_1)
def Arx (n : Nat) : Ent := ⟨130, [hR], [.bool], fun x => f130 n x⟩
def B6i (α : Type) (n : Nat) : D3 α := { reg := [(1, ⟨0, [], [(1, { ent := some (V3 n) })]⟩)], join := [], loop := [] }
theorem B1h (n : Nat) : (Arx n).Sound PP := Ar (fn := Tryz.f130) (D := B6i _ n) ⟨X7 n, trivial⟩ 

def Mh {α : Type} (n : Nat) (s0 : LR) (s7 s8 : Int) (f : LR -> Int -> Int -> Option α) (k0 : Int -> Option α) (k1 : Unit -> Option α) : Option α :=
 bif (decide (s8 < s7)) then
  gd (decide (0 <= s8) && decide (s8 < (s0.length : Int))) (
   let x_1 := s0.getD s8.toNat (false, [], [])
   ob (f130 n x_1) fun r_2 =>
   bif r_2 then
    k0 s8
   else
    f s0 s7 (W (s8 + 1)))
 else
  k1 ()
abbrev I0 : Tm := ⟨[(0, .d hRs), (1, .d (.fn 130)), (7, .d hI), (8, .d hI)], [], [], []⟩
abbrev A9y : Tm := ⟨[(4, .d hI)], [], [], []⟩
abbrev A9x : Tm := ⟨[], [], [], []⟩
abbrev Mg : List (Exit × Tm) := [(.ret, A9y), (.exit 0, A9x)]
def Mf {α : Type} (n : Nat) (v : I0.den) (f : I0.den -> Option α) (ks : KS α Mg) : Option α := Mh n v.1.1 v.1.2.2.1 v.1.2.2.2.1 (fun s0 s7 s8 => f ((s0, (), s7, s8, ()), ())) (fun w0 => ks.1 ((w0, ()), ())) (fun _ => ks.2.1 ((), ()))
def Gm {α : Type} (n m : Nat) (s0 : LR) (s7 s8 : Int) (k0 : Int -> Option α) (k1 : Unit -> Option α) : Option α := A5 (Mf n) m ((s0, (), s7, s8, ()), ()) (fun w => k0 w.1.1, fun w => k1 (), ())
theorem A9w {α n m s0 s7 s8 k0 k1} : Gm (α := α) n (m + 1) s0 s7 s8 k0 k1 = Mh n s0 s7 s8 (fun s0 s7 s8 => Gm n m s0 s7 s8 k0 k1) k0 k1 := rfl
def A13 (n : Nat) (a0 : LR) (a1 : Unit) : Option Int :=
 Gm n n a0 (a0.length : Int) 0
  (fun z_3 => (
   some z_3))
  (fun (_ : Unit) => (
   some (-1)))
def A3o (n : Nat) : Ent := ⟨182, [hRs, (.fn 130)], [hI], fun x => A13 n x.1 x.2⟩
def Rb (α : Type) (n : Nat) : D3 α := { reg := [(4, ⟨0, [], [(5, { ent := some (Arx n) })]⟩)], join := [], loop := [(2, ⟨I0, Mg, A5 (Mf n) n⟩)] }
theorem T4 (α : Type) (n : Nat) : Al PP (Ah (Rb α n).reg) := ⟨B1h n, trivial⟩
theorem A68 (α : Type) (n : Nat) : LO.Sound (α := α) PP ⟨19, []⟩ ⟨I0, Mg, A5 (Mf n) n⟩ (.loop ((A1 Tryz.f182).at [1, 0, 1, 0, 0])) := Bf (D := Rb α n) (T4 α n) n
theorem All (α : Type) (n : Nat) : D3.OK PP TT ⟨19, []⟩ (Rb α n) (A1 Tryz.f182) :=
 D3.OK.mk3 (T4 α n) (show Aa (A1 Tryz.f182) = [(2, (.loop ((A1 Tryz.f182).at [1, 0, 1, 0, 0])))] by kernel_rfl) ⟨Ab rfl (A68 α n), trivial⟩
theorem Ag9 (n : Nat) : (A3o n).Sound PP := fk (fn := Tryz.f182) (All _ n) 

def A1g (n : Nat) (a0 : LR) (a1 : Unit) : Option Bool :=
 ob (A13 n a0 a1) fun r_1 =>
 some (decide (r_1 >= 0))
def A3x (n : Nat) : Ent := ⟨129, [hRs, (.fn 130)], [.bool], fun x => A1g n x.1 x.2⟩
def Alu (α : Type) (n : Nat) : D3 α := { reg := [(1, ⟨0, [], [(2, { ent := some (A3o n) })]⟩)], join := [], loop := [] }
theorem Agd (n : Nat) : (A3x n).Sound PP := Ar (fn := Tryz.f129) (D := Alu _ n) ⟨Ag9 n, trivial⟩ 

def f76 (n : Nat) (a0 : LR) : Option (LR × Int) :=
 ob (A1g n a0 ()) fun r_1 =>
 bif r_1 then
  some ([], 7)
 else
  some (a0, 0)
def Ak6 (n : Nat) : Ent := ⟨76, [hRs], [hRs, hI], fun x => f76 n x⟩
def B7x (α : Type) (n : Nat) : D3 α := { reg := [(1, ⟨0, [], [(1, { ent := some (A3x n) })]⟩)], join := [], loop := [] }
theorem Aom (n : Nat) : (Ak6 n).Sound PP := Ar (fn := Tryz.f76) (D := B7x _ n) ⟨Agd n, trivial⟩ 

def f167 (n : Nat) (a0 : Rq × LR × Unit × Rq) : Option Bool :=
 ob (f76 n a0.2.1) fun r_1 =>
 ob (f76 n []) fun r_2 =>
 ob (f131 n a0.1) fun r_3 =>
 bif r_3 then
  ob (f131 n a0.2.2.2) fun r_4 =>
  bif r_4 then
   bif (r_1.2 == 0) then
    some (r_2.2 == 0)
   else
    some false
  else
   some false
 else
  some false
def Arl (n : Nat) : Ent := ⟨167, [(.st (.pair hR (.pair hRs (.pair .nil hR))))], [.bool], fun x => f167 n x⟩
def B5u (α : Type) (n : Nat) : D3 α := { reg := [(1, ⟨0, [], [(2, { ent := some (Ak6 n) })]⟩), (2, ⟨0, [], [(2, { ent := some (Ak6 n) })]⟩), (3, ⟨0, [], [(2, { ent := some (V3 n) }), (6, { ent := some (V3 n) })]⟩)], join := [], loop := [] }
theorem B15 (n : Nat) : (Arl n).Sound PP := Ar (fn := Tryz.f167) (D := B5u _ n) ⟨Aom n, Aom n, X7 n, X7 n, trivial⟩ 

def A1x {α : Type} (n : Nat) (s2 : LR) (s14 : LN) (s15 s16 c3_0 : Int) (b13 : List (Rq × LR × Unit × Rq)) (f : LR -> LN -> Int -> Int -> Int -> (List (Rq × LR × Unit × Rq)) -> Option α) (k0 : Int -> Option α) (k1 : (List (Rq × LR × Unit × Rq)) -> Option α) : Option α :=
 bif (decide (s16 < s15)) then
  gd (decide (0 <= s16) && decide (s16 < (s14.length : Int))) (
   let x_1 := s14.getD s16.toNat (0, 0, 0, 0)
   ob (Aaf n (c3_0, ()) x_1 s2 b13) fun r_2 =>
   gd (Nat.beq r_2.2.length b13.length && true) (
    bif (r_2.1.2 != 0) then
     k0 r_2.1.2
    else
     ob (f167 n r_2.1.1) fun r_3 =>
     bif (!r_3) then
      k0 7
     else
      gd (decide ((r_2.2.length + 1) * 160 <= 140737488355328)) (
       f s2 s14 s15 (W (s16 + 1)) c3_0 (r_2.2 ++ [r_2.1.1]))))
 else
  k1 b13
abbrev Ru : Tm := ⟨[(2, .d hRs), (3, .k (.hp 3 0 0)), (8, .k (.hw 13)), (14, .d hNs), (15, .d hI), (16, .d hI)], [(3, .var 84 true false [.d hI, .d .nil]), (13, .arr 81 (.st (.pair hR (.pair hRs (.pair .nil hR)))) false)], [10, 11, 36], []⟩
abbrev Asj : Tm := ⟨[(6, .d .nil), (7, .d hI)], [], [3, 10, 11, 13], []⟩
abbrev Asi : Tm := ⟨[(8, .k (.hw 13))], [(13, .arr 81 (.st (.pair hR (.pair hRs (.pair .nil hR)))) false)], [3], []⟩
abbrev A1w : List (Exit × Tm) := [(.ret, Asj), (.exit 0, Asi)]
def A1v {α : Type} (n : Nat) (v : Ru.den) (f : Ru.den -> Option α) (ks : KS α A1w) : Option α := A1x n v.1.1 v.1.2.2.2.1 v.1.2.2.2.2.1 v.1.2.2.2.2.2.1 v.2.1.1 v.2.2.1 (fun s2 s14 s15 s16 c3_0 b13 => f ((s2, (), (), s14, s15, s16, ()), ((c3_0, (), ()), b13, ()))) (fun w0 => ks.1 (((), w0, ()), ())) (fun w0 => ks.2.1 (((), ()), (w0, ())))
def Xd {α : Type} (n m : Nat) (s2 : LR) (s14 : LN) (s15 s16 c3_0 : Int) (b13 : List (Rq × LR × Unit × Rq)) (k0 : Int -> Option α) (k1 : (List (Rq × LR × Unit × Rq)) -> Option α) : Option α := A5 (A1v n) m ((s2, (), (), s14, s15, s16, ()), ((c3_0, (), ()), b13, ())) (fun w => k0 w.1.2.1, fun w => k1 w.2.1, ())
theorem Ash {α n m s2 s14 s15 s16 c3_0 b13 k0 k1} : Xd (α := α) n (m + 1) s2 s14 s15 s16 c3_0 b13 k0 k1 = A1x n s2 s14 s15 s16 c3_0 b13 (fun s2 s14 s15 s16 c3_0 b13 => Xd n m s2 s14 s15 s16 c3_0 b13 k0 k1) k0 k1 := rfl
def f104 (n : Nat) (a0 : Int × Unit) (a1 : LN) (a2 : LR) : Option ((List (Rq × LR × Unit × Rq)) × Int) :=
 Xd n n a2 a1 (a1.length : Int) 0 a0.1 []
  (fun z_4 => (
   some ([], z_4)))
  (fun z_5 => (
   some (z_5, 0)))
def Ask (n : Nat) : Ent := ⟨104, [(.st (.pair hI .nil)), hNs, hRs], [(.sl (.st (.pair hR (.pair hRs (.pair .nil hR))))), hI], fun x => f104 n x.1 x.2.1 x.2.2⟩
def Aef (α : Type) (n : Nat) : D3 α := { reg := [(1, ⟨0, [], [(0, { sh := some (.st (.pair hR (.pair hRs (.pair .nil hR)))) })]⟩), (5, ⟨0, [], [(4, { alt := [(Ai9 n)], hb := 310 })]⟩), (8, ⟨0, [], [(1, { ent := some (Arl n) })]⟩), (10, ⟨0, [], [(2, { sh := some (.st (.pair hR (.pair hRs (.pair .nil hR)))) })]⟩)], join := [], loop := [(3, ⟨Ru, A1w, A5 (A1v n) n⟩)] }
theorem A98 (α : Type) (n : Nat) : Al PP (Ah (Aef α n).reg) := ⟨Aw5 n, B15 n, trivial⟩
theorem Am1 (α : Type) (n : Nat) : LO.Sound (α := α) PP ⟨40, []⟩ ⟨Ru, A1w, A5 (A1v n) n⟩ (.loop ((A1 Tryz.f104).at [1, 1, 0, 1, 0, 0])) := Bf (D := Aef α n) (A98 α n) n
theorem B6u (α : Type) (n : Nat) : D3.OK PP TT ⟨40, []⟩ (Aef α n) (A1 Tryz.f104) :=
 D3.OK.mk3 (A98 α n) (show Aa (A1 Tryz.f104) = [(3, (.loop ((A1 Tryz.f104).at [1, 1, 0, 1, 0, 0])))] by kernel_rfl) ⟨Ab rfl (Am1 α n), trivial⟩
theorem B1y (n : Nat) : (Ask n).Sound PP := fk (fn := Tryz.f104) (B6u _ n) 

def f60 (n : Nat) (a0 : Int × Unit) (a1 : LN) (a2 : LR) : Option ((Rq × LR × Unit × Rq) × Int) :=
 ob (f104 n a0 a1 a2) fun r_1 =>
 bif (r_1.2 != 0) then
  some (((false, [], []), [], (), false, [], []), r_1.2)
 else
  gd (decide (0 <= (W ((r_1.1.length : Int) - 1))) && decide ((W ((r_1.1.length : Int) - 1)) < (r_1.1.length : Int))) (
   let x_2 := r_1.1.getD ((W ((r_1.1.length : Int) - 1)).toNat) ((false, [], []), [], (), (false, [], []))
   some (x_2, 0))
def Aka (n : Nat) : Ent := ⟨60, [(.st (.pair hI .nil)), hE, hRs], [(.st (.pair hR (.pair hRs (.pair .nil hR)))), hI], fun x => f60 n x.1 x.2.1 x.2.2⟩
def B83 (α : Type) (n : Nat) : D3 α := { reg := [(1, ⟨0, [], [(4, { ent := some (Ask n) })]⟩)], join := [], loop := [] }
theorem Aoq (n : Nat) : (Aka n).Sound PP := Ar (fn := Tryz.f60) (D := B83 _ n) ⟨B1y n, trivial⟩ 

def A3y (n : Nat) (a0 : List Int) : Option (List Int ⊕ Unit) := bif a0.isEmpty then some (.inr ()) else (I1 n a0).map .inl
def H6 (n : Nat) : Ent3 := ⟨117, [.im hIs], [[.one (.own 3 hI)], [.one (.emp hI)]], fun x => A3y n x⟩
theorem Asc (n : Nat) : (H6 n).Sound Tryz.prog := by
 intro nt x z h
 cases x with
 | cons y l =>
  have h : (I1 n (y :: l)).map Sum.inl = some z := h
  cases e : I1 n (y :: l) with
  | none => rw [e] at h; cases h
  | some r =>
   rw [e] at h; obtain rfl := QA h; exact Ro n nt (y :: l) r e
 | nil =>
  have h : some (Sum.inr ()) = some z := h; obtain rfl := QA h; exact Aed nt

abbrev Acj : Tm := ⟨[(1, .k (.hp 1 0 0)), (2, .k (.hp 2 0 0))], [(1, .var 31 true false [.d .bool, .d hIs, .d hIs]), (2, .var 31 true false [.d .bool, .d .nil, .d .nil])], [], []⟩
def Aaa (n : Nat) (a0 : Rq) : Option ((Bool × LI × LI) ⊕ (Bool × Unit × LI)) :=
 ob (A3y n a0.2.1) fun r_1 =>
 Nj r_1 (fun r_2 =>
  ob (I1 n a0.2.2) fun r_4 =>
  some (.inl (a0.1, r_2, r_4))) (fun r_3 =>
  ob (I1 n a0.2.2) fun r_5 =>
  some (.inr (a0.1, (), r_5)))
def Ahc (n : Nat) : Ent3 := ⟨61, [.im hR], [[.mix [.im .bool, .own 3 hI, .own 3 hI]], [.mix [.im .bool, .emp hI, .own 3 hI]]], fun x => Aaa n x⟩
def Ahd (α : Type) (n : Nat) : D3 α := { reg := [(1, ⟨0, [], [(4, { entB := some (H6 n), hb := 310 }), (7, { entB := some (Cq n), hb := 320 })]⟩)], join := [], loop := [], any := [(1, Acj)] }
set_option maxHeartbeats 8000000 in
theorem Avh (n : Nat) : Ax TT ⟨12, []⟩ [(4, { entB := some (H6 n), hb := 310 }), (7, { entB := some (Cq n), hb := 320 })] Acj (Ad ((A1 Tryz.f61).at [1, 0])) := by
 refine ⟨by kernel_rfl, fun w q hq => ?_⟩
 have e : WT [(4, { entB := some (H6 n), hb := 310 }), (7, { entB := some (Cq n), hb := 320 })] (A8 (Ad ((A1 Tryz.f61).at [1, 0])).toList) q = (∃ (y0 : HF (Aj 1000 (H6 n).ts) (H6 n).forms) (q0 : List (Nat × RV)), q = (4, .bx (H6 n) y0) :: q0 /\ ∃ (y1 : HF (Aj 1000 (Cq n).ts) (Cq n).forms) (q1 : List (Nat × RV)), q0 = (7, .bx (Cq n) y1) :: q1 /\ q1 = []) := by kernel_rfl
 rw [e] at hq; obtain ⟨y0, q0, rfl, y1, q1, rfl, rfl⟩ := hq; all_goals rcases y0 with y0 | y0
 all_goals exact .inl (Jp.mk (by kernel_rfl))
theorem Ak9 (α : Type) (n : Nat) : Al PP (Ah (Ahd α n).reg) := ⟨Asc n, Ro n, trivial⟩
theorem Ayy (α : Type) (n : Nat) : D3.OK PP TT ⟨12, []⟩ (Ahd α n) (A1 Tryz.f61) :=
 D3.OK.mk3a (Ak9 α n) (show Aa (A1 Tryz.f61) = [] by kernel_rfl) trivial (show At (A1 Tryz.f61) = [(1, Ad ((A1 Tryz.f61).at [1, 0]))] by kernel_rfl) ⟨⟨Avh n, trivial⟩, trivial⟩
theorem Avg (n : Nat) : (Ahc n).Sound PP := Sx (fn := Tryz.f61) (Ayy _ n) 

def A6b (n : Nat) (a0 : LN) (a1 : LR) : Option (((Bool × LI × LI) × Int) ⊕ (((Bool × Unit × LI) × Int) ⊕ ((Bool × Unit × Unit) × Int))) :=
 ob (f59 n a0 a1) fun r_1 =>
 bif (r_1 != 0) then
  some (.inr (.inr ((false, (), ()), r_1)))
 else
  ob (f60 n (0, ()) a0 a1) fun r_2 =>
  bif (r_2.2 != 0) then
   some (.inr (.inr ((false, (), ()), r_2.2)))
  else
   ob (Aaa n r_2.1.1) fun r_3 =>
   Nj r_3 (fun r_4 =>
    some (.inl ((r_4.1, r_4.2.1, r_4.2.2), 0))) (fun r_5 =>
    some (.inr (.inl ((r_5.1, (), r_5.2.2), 0))))
def Arm (n : Nat) : Ent3 := ⟨15, [.im hE, .im hRs], [[.mix [.im .bool, .own 3 hI, .own 3 hI], .im hI], [.mix [.im .bool, .emp hI, .own 3 hI], .im hI], [.mix [.im .bool, .im .nil, .im .nil], .im hI]], fun x => A6b n x.1 x.2⟩
def B5x (α : Type) (n : Nat) : D3 α := { reg := [(1, ⟨0, [], [(2, { ent := some (Akb n) })]⟩), (4, ⟨0, [], [(3, { ent := some (Aka n) })]⟩), (7, ⟨0, [], [(2, { entB := some (Ahc n), hb := 310 })]⟩)], join := [], loop := [] }
theorem B16 (n : Nat) : (Arm n).Sound PP := Yx (fn := Tryz.f15) (D := B5x _ n) ⟨Aor n, Aoq n, Avg n, trivial⟩ 

def A5h {α : Type} (n : Nat) (s0 s1 : LI) (s5 : Int) (f : LI -> LI -> Int -> Option α) (k0 : Bool -> Option α) (k1 : Unit -> Option α) : Option α :=
 bif (decide (s5 < (s0.length : Int))) then
  gd (decide (0 <= s5) && decide (s5 < (s0.length : Int))) (
   gd (decide (0 <= s5) && decide (s5 < (s1.length : Int))) (
    bif ((s0.getD s5.toNat 0) != (s1.getD s5.toNat 0)) then
     k0 false
    else
     f s0 s1 (W (s5 + 1))))
 else
  k1 ()
abbrev We : Tm := ⟨[(0, .d hIs), (1, .d hIs), (5, .d hI)], [], [], []⟩
abbrev Av7 : Tm := ⟨[(4, .d .bool)], [], [], []⟩
abbrev Av6 : Tm := ⟨[], [], [], []⟩
abbrev A5g : List (Exit × Tm) := [(.ret, Av7), (.exit 0, Av6)]
def A5f {α : Type} (n : Nat) (v : We.den) (f : We.den -> Option α) (ks : KS α A5g) : Option α := A5h n v.1.1 v.1.2.1 v.1.2.2.1 (fun s0 s1 s5 => f ((s0, s1, s5, ()), ())) (fun w0 => ks.1 ((w0, ()), ())) (fun _ => ks.2.1 ((), ()))
def A32 {α : Type} (n m : Nat) (s0 s1 : LI) (s5 : Int) (k0 : Bool -> Option α) (k1 : Unit -> Option α) : Option α := A5 (A5f n) m ((s0, s1, s5, ()), ()) (fun w => k0 w.1.1, fun w => k1 (), ())
theorem Av5 {α n m s0 s1 s5 k0 k1} : A32 (α := α) n (m + 1) s0 s1 s5 k0 k1 = A5h n s0 s1 s5 (fun s0 s1 s5 => A32 n m s0 s1 s5 k0 k1) k0 k1 := rfl
def f84 (n : Nat) (a0 a1 : LI) : Option Bool :=
 bif ((a0.length : Int) != (a1.length : Int)) then
  some false
 else
  A32 n n a0 a1 0
   (fun z_1 => (
    some z_1))
   (fun (_ : Unit) => (
    some true))
def Ak1 (n : Nat) : Ent := ⟨84, [hIs, hIs], [.bool], fun x => f84 n x.1 x.2⟩
def Ak2 (α : Type) (n : Nat) : D3 α := { reg := [(6, ⟨8, [], []⟩)], join := [], loop := [(4, ⟨We, A5g, A5 (A5f n) n⟩)] }
theorem Acb (α : Type) (n : Nat) : Al PP (Ah (Ak2 α n).reg) := trivial
theorem Aoh (α : Type) (n : Nat) : LO.Sound (α := α) PP ⟨26, []⟩ ⟨We, A5g, A5 (A5f n) n⟩ (.loop ((A1 Tryz.f84).at [1, 1, 0, 1, 0, 0])) := Bf (D := Ak2 α n) (Acb α n) n
theorem B7s (α : Type) (n : Nat) : D3.OK PP TT ⟨26, []⟩ (Ak2 α n) (A1 Tryz.f84) :=
 D3.OK.mk3 (Acb α n) (show Aa (A1 Tryz.f84) = [(4, (.loop ((A1 Tryz.f84).at [1, 1, 0, 1, 0, 0])))] by kernel_rfl) ⟨Ab rfl (Aoh α n), trivial⟩
theorem Aof (n : Nat) : (Ak1 n).Sound PP := fk (fn := Tryz.f84) (B7s _ n) 

def f33 (n : Nat) (a0 a1 : Rq) : Option Bool :=
 bif (!(a0.1 == a1.1)) then
  some false
 else
  ob (f84 n a0.2.1 a1.2.1) fun r_1 =>
  bif (!r_1) then
   some false
  else
   ob (f84 n a0.2.2 a1.2.2) fun r_2 =>
   bif (!r_2) then
    some false
   else
    some true
def A36 (n : Nat) : Ent := ⟨33, [hR, hR], [.bool], fun x => f33 n x.1 x.2⟩
def B8b (α : Type) (n : Nat) : D3 α := { reg := [(3, ⟨0, [], [(4, { ent := some (Ak1 n) })]⟩), (5, ⟨0, [], [(4, { ent := some (Ak1 n) })]⟩)], join := [], loop := [] }
theorem A35 (n : Nat) : (A36 n).Sound PP := Ar (fn := Tryz.f33) (D := B8b _ n) ⟨Aof n, Aof n, trivial⟩ 

def f140 (n : Nat) (a0 a1 : Nq) : Option Bool :=
 bif (a0.1 != a1.1) then
  some false
 else
  bif (a0.2.1 != a1.2.1) then
   some false
  else
   bif (a0.2.2.1 != a1.2.2.1) then
    some false
   else
    bif (a0.2.2.2 != a1.2.2.2) then
     some false
    else
     some true
def Aru (n : Nat) : Ent := ⟨140, [hN, hN], [.bool], fun x => f140 n x.1 x.2⟩
def B6d (α : Type) (n : Nat) : D3 α := { reg := [], join := [], loop := [] }
theorem B1f (n : Nat) : (Aru n).Sound PP := Ar (fn := Tryz.f140) (D := B6d _ n) trivial 

def A5e {α : Type} (n : Nat) (s0 s1 : LN) (s5 : Int) (f : LN -> LN -> Int -> Option α) (k0 : Bool -> Option α) (k1 : Unit -> Option α) : Option α :=
 bif (decide (s5 < (s0.length : Int))) then
  gd (decide (0 <= s5) && decide (s5 < (s0.length : Int))) (
   let x_1 := s0.getD s5.toNat (0, 0, 0, 0)
   gd (decide (0 <= s5) && decide (s5 < (s1.length : Int))) (
    let x_2 := s1.getD s5.toNat (0, 0, 0, 0)
    ob (f140 n x_1 x_2) fun r_3 =>
    bif (!r_3) then
     k0 false
    else
     f s0 s1 (W (s5 + 1))))
 else
  k1 ()
abbrev Wd : Tm := ⟨[(0, .d hNs), (1, .d hNs), (5, .d hI)], [], [], []⟩
abbrev Av4 : Tm := ⟨[(4, .d .bool)], [], [], []⟩
abbrev Av3 : Tm := ⟨[], [], [], []⟩
abbrev A5d : List (Exit × Tm) := [(.ret, Av4), (.exit 0, Av3)]
def A5c {α : Type} (n : Nat) (v : Wd.den) (f : Wd.den -> Option α) (ks : KS α A5d) : Option α := A5e n v.1.1 v.1.2.1 v.1.2.2.1 (fun s0 s1 s5 => f ((s0, s1, s5, ()), ())) (fun w0 => ks.1 ((w0, ()), ())) (fun _ => ks.2.1 ((), ()))
def U8 {α : Type} (n m : Nat) (s0 s1 : LN) (s5 : Int) (k0 : Bool -> Option α) (k1 : Unit -> Option α) : Option α := A5 (A5c n) m ((s0, s1, s5, ()), ()) (fun w => k0 w.1.1, fun w => k1 (), ())
theorem Av2 {α n m s0 s1 s5 k0 k1} : U8 (α := α) n (m + 1) s0 s1 s5 k0 k1 = A5e n s0 s1 s5 (fun s0 s1 s5 => U8 n m s0 s1 s5 k0 k1) k0 k1 := rfl
def f85 (n : Nat) (a0 a1 : LN) : Option Bool :=
 bif ((a0.length : Int) != (a1.length : Int)) then
  some false
 else
  U8 n n a0 a1 0
   (fun z_4 => (
    some z_4))
   (fun (_ : Unit) => (
    some true))
def Axd (n : Nat) : Ent := ⟨85, [hNs, hNs], [.bool], fun x => f85 n x.1 x.2⟩
def Ak0 (α : Type) (n : Nat) : D3 α := { reg := [(6, ⟨8, [], [(8, { ent := some (Aru n) })]⟩)], join := [], loop := [(4, ⟨Wd, A5d, A5 (A5c n) n⟩)] }
theorem Ac9 (α : Type) (n : Nat) : Al PP (Ah (Ak0 α n).reg) := ⟨B1f n, trivial⟩
theorem Aoe (α : Type) (n : Nat) : LO.Sound (α := α) PP ⟨27, []⟩ ⟨Wd, A5d, A5 (A5c n) n⟩ (.loop ((A1 Tryz.f85).at [1, 1, 0, 1, 0, 0])) := Bf (D := Ak0 α n) (Ac9 α n) n
theorem B7r (α : Type) (n : Nat) : D3.OK PP TT ⟨27, []⟩ (Ak0 α n) (A1 Tryz.f85) :=
 D3.OK.mk3 (Ac9 α n) (show Aa (A1 Tryz.f85) = [(4, (.loop ((A1 Tryz.f85).at [1, 1, 0, 1, 0, 0])))] by kernel_rfl) ⟨Ab rfl (Aoe α n), trivial⟩
theorem B3f (n : Nat) : (Axd n).Sound PP := fk (fn := Tryz.f85) (B7r _ n) 

def f34 (n : Nat) (a0 a1 : LN) : Option Bool :=
 ob (f85 n a0 a1) fun r_1 =>
 bif (!r_1) then
  some false
 else
  some true
def Axo (n : Nat) : Ent := ⟨34, [hE, hE], [.bool], fun x => f34 n x.1 x.2⟩
def B8a (α : Type) (n : Nat) : D3 α := { reg := [(1, ⟨0, [], [(4, { ent := some (Axd n) })]⟩)], join := [], loop := [] }
theorem B41 (n : Nat) : (Axo n).Sound PP := Ar (fn := Tryz.f34) (D := B8a _ n) ⟨B3f n, trivial⟩ 

def A5u {α : Type} (n : Nat) (s0 s1 : LR) (s5 : Int) (f : LR -> LR -> Int -> Option α) (k0 : Bool -> Option α) (k1 : Unit -> Option α) : Option α :=
 bif (decide (s5 < (s0.length : Int))) then
  gd (decide (0 <= s5) && decide (s5 < (s0.length : Int))) (
   let x_1 := s0.getD s5.toNat (false, [], [])
   gd (decide (0 <= s5) && decide (s5 < (s1.length : Int))) (
    let x_2 := s1.getD s5.toNat (false, [], [])
    ob (f33 n x_1 x_2) fun r_3 =>
    bif (!r_3) then
     k0 false
    else
     f s0 s1 (W (s5 + 1))))
 else
  k1 ()
abbrev Wk : Tm := ⟨[(0, .d hRs), (1, .d hRs), (5, .d hI)], [], [], []⟩
abbrev Avm : Tm := ⟨[(4, .d .bool)], [], [], []⟩
abbrev Avl : Tm := ⟨[], [], [], []⟩
abbrev A5t : List (Exit × Tm) := [(.ret, Avm), (.exit 0, Avl)]
def A5s {α : Type} (n : Nat) (v : Wk.den) (f : Wk.den -> Option α) (ks : KS α A5t) : Option α := A5u n v.1.1 v.1.2.1 v.1.2.2.1 (fun s0 s1 s5 => f ((s0, s1, s5, ()), ())) (fun w0 => ks.1 ((w0, ()), ())) (fun _ => ks.2.1 ((), ()))
def A34 {α : Type} (n m : Nat) (s0 s1 : LR) (s5 : Int) (k0 : Bool -> Option α) (k1 : Unit -> Option α) : Option α := A5 (A5s n) m ((s0, s1, s5, ()), ()) (fun w => k0 w.1.1, fun w => k1 (), ())
theorem Avk {α n m s0 s1 s5 k0 k1} : A34 (α := α) n (m + 1) s0 s1 s5 k0 k1 = A5u n s0 s1 s5 (fun s0 s1 s5 => A34 n m s0 s1 s5 k0 k1) k0 k1 := rfl
def f35 (n : Nat) (a0 a1 : LR) : Option Bool :=
 bif ((a0.length : Int) != (a1.length : Int)) then
  some false
 else
  A34 n n a0 a1 0
   (fun z_4 => (
    some z_4))
   (fun (_ : Unit) => (
    some true))
def Axn (n : Nat) : Ent := ⟨35, [hRs, hRs], [.bool], fun x => f35 n x.1 x.2⟩
def Ake (α : Type) (n : Nat) : D3 α := { reg := [(6, ⟨8, [], [(8, { ent := some (A36 n) })]⟩)], join := [], loop := [(4, ⟨Wk, A5t, A5 (A5s n) n⟩)] }
theorem Aco (α : Type) (n : Nat) : Al PP (Ah (Ake α n).reg) := ⟨A35 n, trivial⟩
theorem Aoy (α : Type) (n : Nat) : LO.Sound (α := α) PP ⟨27, []⟩ ⟨Wk, A5t, A5 (A5s n) n⟩ (.loop ((A1 Tryz.f35).at [1, 1, 0, 1, 0, 0])) := Bf (D := Ake α n) (Aco α n) n
theorem B89 (α : Type) (n : Nat) : D3.OK PP TT ⟨27, []⟩ (Ake α n) (A1 Tryz.f35) :=
 D3.OK.mk3 (Aco α n) (show Aa (A1 Tryz.f35) = [(4, (.loop ((A1 Tryz.f35).at [1, 1, 0, 1, 0, 0])))] by kernel_rfl) ⟨Ab rfl (Aoy α n), trivial⟩
theorem B3z (n : Nat) : (Axn n).Sound PP := fk (fn := Tryz.f35) (B89 _ n) 

def Lx {α : Type} (n : Nat) (s1 s5 : Int) (b1000 : LN) (f : Int -> Int -> LN -> Option α) (k0 : Int -> LN -> Option α) : Option α :=
 bif (decide (s5 < (b1000.length : Int))) then
  gd (decide (0 <= s5) && decide (s5 < (b1000.length : Int))) (
   gd (decide (s5.toNat < b1000.length)) (
    gd (decide (0 <= s5) && decide (s5 < (((b1000.set s5.toNat (s1, ((b1000.getD s5.toNat (0, 0, 0, 0)).2).1, (((b1000.getD s5.toNat (0, 0, 0, 0)).2).2))).length : Nat) : Int))) (
     gd (decide (s5.toNat < (b1000.set s5.toNat (s1, ((b1000.getD s5.toNat (0, 0, 0, 0)).2).1, (((b1000.getD s5.toNat (0, 0, 0, 0)).2).2))).length)) (
      gd (decide (0 <= s5) && decide (s5 < ((((b1000.set s5.toNat (s1, ((b1000.getD s5.toNat (0, 0, 0, 0)).2).1, (((b1000.getD s5.toNat (0, 0, 0, 0)).2).2))).set s5.toNat (((b1000.set s5.toNat (s1, ((b1000.getD s5.toNat (0, 0, 0, 0)).2).1, (((b1000.getD s5.toNat (0, 0, 0, 0)).2).2))).getD s5.toNat (0, 0, 0, 0)).1, (W (s1 + 1)), ((((b1000.set s5.toNat (s1, ((b1000.getD s5.toNat (0, 0, 0, 0)).2).1, (((b1000.getD s5.toNat (0, 0, 0, 0)).2).2))).getD s5.toNat (0, 0, 0, 0)).2).2))).length : Nat) : Int))) (
       gd (decide (s5.toNat < ((b1000.set s5.toNat (s1, ((b1000.getD s5.toNat (0, 0, 0, 0)).2).1, (((b1000.getD s5.toNat (0, 0, 0, 0)).2).2))).set s5.toNat (((b1000.set s5.toNat (s1, ((b1000.getD s5.toNat (0, 0, 0, 0)).2).1, (((b1000.getD s5.toNat (0, 0, 0, 0)).2).2))).getD s5.toNat (0, 0, 0, 0)).1, (W (s1 + 1)), ((((b1000.set s5.toNat (s1, ((b1000.getD s5.toNat (0, 0, 0, 0)).2).1, (((b1000.getD s5.toNat (0, 0, 0, 0)).2).2))).getD s5.toNat (0, 0, 0, 0)).2).2))).length)) (
        gd (decide (0 <= s5) && decide (s5 < (((((b1000.set s5.toNat (s1, ((b1000.getD s5.toNat (0, 0, 0, 0)).2).1, (((b1000.getD s5.toNat (0, 0, 0, 0)).2).2))).set s5.toNat (((b1000.set s5.toNat (s1, ((b1000.getD s5.toNat (0, 0, 0, 0)).2).1, (((b1000.getD s5.toNat (0, 0, 0, 0)).2).2))).getD s5.toNat (0, 0, 0, 0)).1, (W (s1 + 1)), ((((b1000.set s5.toNat (s1, ((b1000.getD s5.toNat (0, 0, 0, 0)).2).1, (((b1000.getD s5.toNat (0, 0, 0, 0)).2).2))).getD s5.toNat (0, 0, 0, 0)).2).2))).set s5.toNat ((((b1000.set s5.toNat (s1, ((b1000.getD s5.toNat (0, 0, 0, 0)).2).1, (((b1000.getD s5.toNat (0, 0, 0, 0)).2).2))).set s5.toNat (((b1000.set s5.toNat (s1, ((b1000.getD s5.toNat (0, 0, 0, 0)).2).1, (((b1000.getD s5.toNat (0, 0, 0, 0)).2).2))).getD s5.toNat (0, 0, 0, 0)).1, (W (s1 + 1)), ((((b1000.set s5.toNat (s1, ((b1000.getD s5.toNat (0, 0, 0, 0)).2).1, (((b1000.getD s5.toNat (0, 0, 0, 0)).2).2))).getD s5.toNat (0, 0, 0, 0)).2).2))).getD s5.toNat (0, 0, 0, 0)).1, ((((b1000.set s5.toNat (s1, ((b1000.getD s5.toNat (0, 0, 0, 0)).2).1, (((b1000.getD s5.toNat (0, 0, 0, 0)).2).2))).set s5.toNat (((b1000.set s5.toNat (s1, ((b1000.getD s5.toNat (0, 0, 0, 0)).2).1, (((b1000.getD s5.toNat (0, 0, 0, 0)).2).2))).getD s5.toNat (0, 0, 0, 0)).1, (W (s1 + 1)), ((((b1000.set s5.toNat (s1, ((b1000.getD s5.toNat (0, 0, 0, 0)).2).1, (((b1000.getD s5.toNat (0, 0, 0, 0)).2).2))).getD s5.toNat (0, 0, 0, 0)).2).2))).getD s5.toNat (0, 0, 0, 0)).2).1, (W ((W (s1 + 1)) + 1)), (((((b1000.set s5.toNat (s1, ((b1000.getD s5.toNat (0, 0, 0, 0)).2).1, (((b1000.getD s5.toNat (0, 0, 0, 0)).2).2))).set s5.toNat (((b1000.set s5.toNat (s1, ((b1000.getD s5.toNat (0, 0, 0, 0)).2).1, (((b1000.getD s5.toNat (0, 0, 0, 0)).2).2))).getD s5.toNat (0, 0, 0, 0)).1, (W (s1 + 1)), ((((b1000.set s5.toNat (s1, ((b1000.getD s5.toNat (0, 0, 0, 0)).2).1, (((b1000.getD s5.toNat (0, 0, 0, 0)).2).2))).getD s5.toNat (0, 0, 0, 0)).2).2))).getD s5.toNat (0, 0, 0, 0)).2).2).2)).length : Nat) : Int))) (
         gd (decide (s5.toNat < (((b1000.set s5.toNat (s1, ((b1000.getD s5.toNat (0, 0, 0, 0)).2).1, (((b1000.getD s5.toNat (0, 0, 0, 0)).2).2))).set s5.toNat (((b1000.set s5.toNat (s1, ((b1000.getD s5.toNat (0, 0, 0, 0)).2).1, (((b1000.getD s5.toNat (0, 0, 0, 0)).2).2))).getD s5.toNat (0, 0, 0, 0)).1, (W (s1 + 1)), ((((b1000.set s5.toNat (s1, ((b1000.getD s5.toNat (0, 0, 0, 0)).2).1, (((b1000.getD s5.toNat (0, 0, 0, 0)).2).2))).getD s5.toNat (0, 0, 0, 0)).2).2))).set s5.toNat ((((b1000.set s5.toNat (s1, ((b1000.getD s5.toNat (0, 0, 0, 0)).2).1, (((b1000.getD s5.toNat (0, 0, 0, 0)).2).2))).set s5.toNat (((b1000.set s5.toNat (s1, ((b1000.getD s5.toNat (0, 0, 0, 0)).2).1, (((b1000.getD s5.toNat (0, 0, 0, 0)).2).2))).getD s5.toNat (0, 0, 0, 0)).1, (W (s1 + 1)), ((((b1000.set s5.toNat (s1, ((b1000.getD s5.toNat (0, 0, 0, 0)).2).1, (((b1000.getD s5.toNat (0, 0, 0, 0)).2).2))).getD s5.toNat (0, 0, 0, 0)).2).2))).getD s5.toNat (0, 0, 0, 0)).1, ((((b1000.set s5.toNat (s1, ((b1000.getD s5.toNat (0, 0, 0, 0)).2).1, (((b1000.getD s5.toNat (0, 0, 0, 0)).2).2))).set s5.toNat (((b1000.set s5.toNat (s1, ((b1000.getD s5.toNat (0, 0, 0, 0)).2).1, (((b1000.getD s5.toNat (0, 0, 0, 0)).2).2))).getD s5.toNat (0, 0, 0, 0)).1, (W (s1 + 1)), ((((b1000.set s5.toNat (s1, ((b1000.getD s5.toNat (0, 0, 0, 0)).2).1, (((b1000.getD s5.toNat (0, 0, 0, 0)).2).2))).getD s5.toNat (0, 0, 0, 0)).2).2))).getD s5.toNat (0, 0, 0, 0)).2).1, (W ((W (s1 + 1)) + 1)), (((((b1000.set s5.toNat (s1, ((b1000.getD s5.toNat (0, 0, 0, 0)).2).1, (((b1000.getD s5.toNat (0, 0, 0, 0)).2).2))).set s5.toNat (((b1000.set s5.toNat (s1, ((b1000.getD s5.toNat (0, 0, 0, 0)).2).1, (((b1000.getD s5.toNat (0, 0, 0, 0)).2).2))).getD s5.toNat (0, 0, 0, 0)).1, (W (s1 + 1)), ((((b1000.set s5.toNat (s1, ((b1000.getD s5.toNat (0, 0, 0, 0)).2).1, (((b1000.getD s5.toNat (0, 0, 0, 0)).2).2))).getD s5.toNat (0, 0, 0, 0)).2).2))).getD s5.toNat (0, 0, 0, 0)).2).2).2)).length)) (
          f (W ((W ((W ((W (s1 + 1)) + 1)) + 1)) + 1)) (W (s5 + 1)) ((((b1000.set s5.toNat (s1, ((b1000.getD s5.toNat (0, 0, 0, 0)).2).1, (((b1000.getD s5.toNat (0, 0, 0, 0)).2).2))).set s5.toNat (((b1000.set s5.toNat (s1, ((b1000.getD s5.toNat (0, 0, 0, 0)).2).1, (((b1000.getD s5.toNat (0, 0, 0, 0)).2).2))).getD s5.toNat (0, 0, 0, 0)).1, (W (s1 + 1)), ((((b1000.set s5.toNat (s1, ((b1000.getD s5.toNat (0, 0, 0, 0)).2).1, (((b1000.getD s5.toNat (0, 0, 0, 0)).2).2))).getD s5.toNat (0, 0, 0, 0)).2).2))).set s5.toNat ((((b1000.set s5.toNat (s1, ((b1000.getD s5.toNat (0, 0, 0, 0)).2).1, (((b1000.getD s5.toNat (0, 0, 0, 0)).2).2))).set s5.toNat (((b1000.set s5.toNat (s1, ((b1000.getD s5.toNat (0, 0, 0, 0)).2).1, (((b1000.getD s5.toNat (0, 0, 0, 0)).2).2))).getD s5.toNat (0, 0, 0, 0)).1, (W (s1 + 1)), ((((b1000.set s5.toNat (s1, ((b1000.getD s5.toNat (0, 0, 0, 0)).2).1, (((b1000.getD s5.toNat (0, 0, 0, 0)).2).2))).getD s5.toNat (0, 0, 0, 0)).2).2))).getD s5.toNat (0, 0, 0, 0)).1, ((((b1000.set s5.toNat (s1, ((b1000.getD s5.toNat (0, 0, 0, 0)).2).1, (((b1000.getD s5.toNat (0, 0, 0, 0)).2).2))).set s5.toNat (((b1000.set s5.toNat (s1, ((b1000.getD s5.toNat (0, 0, 0, 0)).2).1, (((b1000.getD s5.toNat (0, 0, 0, 0)).2).2))).getD s5.toNat (0, 0, 0, 0)).1, (W (s1 + 1)), ((((b1000.set s5.toNat (s1, ((b1000.getD s5.toNat (0, 0, 0, 0)).2).1, (((b1000.getD s5.toNat (0, 0, 0, 0)).2).2))).getD s5.toNat (0, 0, 0, 0)).2).2))).getD s5.toNat (0, 0, 0, 0)).2).1, (W ((W (s1 + 1)) + 1)), (((((b1000.set s5.toNat (s1, ((b1000.getD s5.toNat (0, 0, 0, 0)).2).1, (((b1000.getD s5.toNat (0, 0, 0, 0)).2).2))).set s5.toNat (((b1000.set s5.toNat (s1, ((b1000.getD s5.toNat (0, 0, 0, 0)).2).1, (((b1000.getD s5.toNat (0, 0, 0, 0)).2).2))).getD s5.toNat (0, 0, 0, 0)).1, (W (s1 + 1)), ((((b1000.set s5.toNat (s1, ((b1000.getD s5.toNat (0, 0, 0, 0)).2).1, (((b1000.getD s5.toNat (0, 0, 0, 0)).2).2))).getD s5.toNat (0, 0, 0, 0)).2).2))).getD s5.toNat (0, 0, 0, 0)).2).2).2)).set s5.toNat (((((b1000.set s5.toNat (s1, ((b1000.getD s5.toNat (0, 0, 0, 0)).2).1, (((b1000.getD s5.toNat (0, 0, 0, 0)).2).2))).set s5.toNat (((b1000.set s5.toNat (s1, ((b1000.getD s5.toNat (0, 0, 0, 0)).2).1, (((b1000.getD s5.toNat (0, 0, 0, 0)).2).2))).getD s5.toNat (0, 0, 0, 0)).1, (W (s1 + 1)), ((((b1000.set s5.toNat (s1, ((b1000.getD s5.toNat (0, 0, 0, 0)).2).1, (((b1000.getD s5.toNat (0, 0, 0, 0)).2).2))).getD s5.toNat (0, 0, 0, 0)).2).2))).set s5.toNat ((((b1000.set s5.toNat (s1, ((b1000.getD s5.toNat (0, 0, 0, 0)).2).1, (((b1000.getD s5.toNat (0, 0, 0, 0)).2).2))).set s5.toNat (((b1000.set s5.toNat (s1, ((b1000.getD s5.toNat (0, 0, 0, 0)).2).1, (((b1000.getD s5.toNat (0, 0, 0, 0)).2).2))).getD s5.toNat (0, 0, 0, 0)).1, (W (s1 + 1)), ((((b1000.set s5.toNat (s1, ((b1000.getD s5.toNat (0, 0, 0, 0)).2).1, (((b1000.getD s5.toNat (0, 0, 0, 0)).2).2))).getD s5.toNat (0, 0, 0, 0)).2).2))).getD s5.toNat (0, 0, 0, 0)).1, ((((b1000.set s5.toNat (s1, ((b1000.getD s5.toNat (0, 0, 0, 0)).2).1, (((b1000.getD s5.toNat (0, 0, 0, 0)).2).2))).set s5.toNat (((b1000.set s5.toNat (s1, ((b1000.getD s5.toNat (0, 0, 0, 0)).2).1, (((b1000.getD s5.toNat (0, 0, 0, 0)).2).2))).getD s5.toNat (0, 0, 0, 0)).1, (W (s1 + 1)), ((((b1000.set s5.toNat (s1, ((b1000.getD s5.toNat (0, 0, 0, 0)).2).1, (((b1000.getD s5.toNat (0, 0, 0, 0)).2).2))).getD s5.toNat (0, 0, 0, 0)).2).2))).getD s5.toNat (0, 0, 0, 0)).2).1, (W ((W (s1 + 1)) + 1)), (((((b1000.set s5.toNat (s1, ((b1000.getD s5.toNat (0, 0, 0, 0)).2).1, (((b1000.getD s5.toNat (0, 0, 0, 0)).2).2))).set s5.toNat (((b1000.set s5.toNat (s1, ((b1000.getD s5.toNat (0, 0, 0, 0)).2).1, (((b1000.getD s5.toNat (0, 0, 0, 0)).2).2))).getD s5.toNat (0, 0, 0, 0)).1, (W (s1 + 1)), ((((b1000.set s5.toNat (s1, ((b1000.getD s5.toNat (0, 0, 0, 0)).2).1, (((b1000.getD s5.toNat (0, 0, 0, 0)).2).2))).getD s5.toNat (0, 0, 0, 0)).2).2))).getD s5.toNat (0, 0, 0, 0)).2).2).2)).getD s5.toNat (0, 0, 0, 0)).1, (((((b1000.set s5.toNat (s1, ((b1000.getD s5.toNat (0, 0, 0, 0)).2).1, (((b1000.getD s5.toNat (0, 0, 0, 0)).2).2))).set s5.toNat (((b1000.set s5.toNat (s1, ((b1000.getD s5.toNat (0, 0, 0, 0)).2).1, (((b1000.getD s5.toNat (0, 0, 0, 0)).2).2))).getD s5.toNat (0, 0, 0, 0)).1, (W (s1 + 1)), ((((b1000.set s5.toNat (s1, ((b1000.getD s5.toNat (0, 0, 0, 0)).2).1, (((b1000.getD s5.toNat (0, 0, 0, 0)).2).2))).getD s5.toNat (0, 0, 0, 0)).2).2))).set s5.toNat ((((b1000.set s5.toNat (s1, ((b1000.getD s5.toNat (0, 0, 0, 0)).2).1, (((b1000.getD s5.toNat (0, 0, 0, 0)).2).2))).set s5.toNat (((b1000.set s5.toNat (s1, ((b1000.getD s5.toNat (0, 0, 0, 0)).2).1, (((b1000.getD s5.toNat (0, 0, 0, 0)).2).2))).getD s5.toNat (0, 0, 0, 0)).1, (W (s1 + 1)), ((((b1000.set s5.toNat (s1, ((b1000.getD s5.toNat (0, 0, 0, 0)).2).1, (((b1000.getD s5.toNat (0, 0, 0, 0)).2).2))).getD s5.toNat (0, 0, 0, 0)).2).2))).getD s5.toNat (0, 0, 0, 0)).1, ((((b1000.set s5.toNat (s1, ((b1000.getD s5.toNat (0, 0, 0, 0)).2).1, (((b1000.getD s5.toNat (0, 0, 0, 0)).2).2))).set s5.toNat (((b1000.set s5.toNat (s1, ((b1000.getD s5.toNat (0, 0, 0, 0)).2).1, (((b1000.getD s5.toNat (0, 0, 0, 0)).2).2))).getD s5.toNat (0, 0, 0, 0)).1, (W (s1 + 1)), ((((b1000.set s5.toNat (s1, ((b1000.getD s5.toNat (0, 0, 0, 0)).2).1, (((b1000.getD s5.toNat (0, 0, 0, 0)).2).2))).getD s5.toNat (0, 0, 0, 0)).2).2))).getD s5.toNat (0, 0, 0, 0)).2).1, (W ((W (s1 + 1)) + 1)), (((((b1000.set s5.toNat (s1, ((b1000.getD s5.toNat (0, 0, 0, 0)).2).1, (((b1000.getD s5.toNat (0, 0, 0, 0)).2).2))).set s5.toNat (((b1000.set s5.toNat (s1, ((b1000.getD s5.toNat (0, 0, 0, 0)).2).1, (((b1000.getD s5.toNat (0, 0, 0, 0)).2).2))).getD s5.toNat (0, 0, 0, 0)).1, (W (s1 + 1)), ((((b1000.set s5.toNat (s1, ((b1000.getD s5.toNat (0, 0, 0, 0)).2).1, (((b1000.getD s5.toNat (0, 0, 0, 0)).2).2))).getD s5.toNat (0, 0, 0, 0)).2).2))).getD s5.toNat (0, 0, 0, 0)).2).2).2)).getD s5.toNat (0, 0, 0, 0)).2).1, ((((((b1000.set s5.toNat (s1, ((b1000.getD s5.toNat (0, 0, 0, 0)).2).1, (((b1000.getD s5.toNat (0, 0, 0, 0)).2).2))).set s5.toNat (((b1000.set s5.toNat (s1, ((b1000.getD s5.toNat (0, 0, 0, 0)).2).1, (((b1000.getD s5.toNat (0, 0, 0, 0)).2).2))).getD s5.toNat (0, 0, 0, 0)).1, (W (s1 + 1)), ((((b1000.set s5.toNat (s1, ((b1000.getD s5.toNat (0, 0, 0, 0)).2).1, (((b1000.getD s5.toNat (0, 0, 0, 0)).2).2))).getD s5.toNat (0, 0, 0, 0)).2).2))).set s5.toNat ((((b1000.set s5.toNat (s1, ((b1000.getD s5.toNat (0, 0, 0, 0)).2).1, (((b1000.getD s5.toNat (0, 0, 0, 0)).2).2))).set s5.toNat (((b1000.set s5.toNat (s1, ((b1000.getD s5.toNat (0, 0, 0, 0)).2).1, (((b1000.getD s5.toNat (0, 0, 0, 0)).2).2))).getD s5.toNat (0, 0, 0, 0)).1, (W (s1 + 1)), ((((b1000.set s5.toNat (s1, ((b1000.getD s5.toNat (0, 0, 0, 0)).2).1, (((b1000.getD s5.toNat (0, 0, 0, 0)).2).2))).getD s5.toNat (0, 0, 0, 0)).2).2))).getD s5.toNat (0, 0, 0, 0)).1, ((((b1000.set s5.toNat (s1, ((b1000.getD s5.toNat (0, 0, 0, 0)).2).1, (((b1000.getD s5.toNat (0, 0, 0, 0)).2).2))).set s5.toNat (((b1000.set s5.toNat (s1, ((b1000.getD s5.toNat (0, 0, 0, 0)).2).1, (((b1000.getD s5.toNat (0, 0, 0, 0)).2).2))).getD s5.toNat (0, 0, 0, 0)).1, (W (s1 + 1)), ((((b1000.set s5.toNat (s1, ((b1000.getD s5.toNat (0, 0, 0, 0)).2).1, (((b1000.getD s5.toNat (0, 0, 0, 0)).2).2))).getD s5.toNat (0, 0, 0, 0)).2).2))).getD s5.toNat (0, 0, 0, 0)).2).1, (W ((W (s1 + 1)) + 1)), (((((b1000.set s5.toNat (s1, ((b1000.getD s5.toNat (0, 0, 0, 0)).2).1, (((b1000.getD s5.toNat (0, 0, 0, 0)).2).2))).set s5.toNat (((b1000.set s5.toNat (s1, ((b1000.getD s5.toNat (0, 0, 0, 0)).2).1, (((b1000.getD s5.toNat (0, 0, 0, 0)).2).2))).getD s5.toNat (0, 0, 0, 0)).1, (W (s1 + 1)), ((((b1000.set s5.toNat (s1, ((b1000.getD s5.toNat (0, 0, 0, 0)).2).1, (((b1000.getD s5.toNat (0, 0, 0, 0)).2).2))).getD s5.toNat (0, 0, 0, 0)).2).2))).getD s5.toNat (0, 0, 0, 0)).2).2).2)).getD s5.toNat (0, 0, 0, 0)).2).2).1, (W ((W ((W (s1 + 1)) + 1)) + 1))))))))))))
 else
  k0 s1 b1000
abbrev Q6 : Tm := ⟨[(0, .k (.hw 1000)), (1, .d hI), (5, .d hI)], [(1000, .arr 125 hN false)], [], []⟩
abbrev Aoc : Tm := ⟨[(1, .d hI)], [(1000, .arr 125 hN false)], [], []⟩
abbrev Z6 : List (Exit × Tm) := [(.exit 0, Aoc)]
def Z5 {α : Type} (n : Nat) (v : Q6.den) (f : Q6.den -> Option α) (ks : KS α Z6) : Option α := Lx n v.1.2.1 v.1.2.2.1 v.2.1 (fun s1 s5 b1000 => f (((), s1, s5, ()), (b1000, ()))) (fun w0 w1 => ks.1 ((w0, ()), (w1, ())))
def Wc {α : Type} (n m : Nat) (s1 s5 : Int) (b1000 : LN) (k0 : Int -> LN -> Option α) : Option α := A5 (Z5 n) m (((), s1, s5, ()), (b1000, ())) (fun w => k0 w.1.1 w.2.1, ())
theorem A7y {α n m s1 s5 b1000 k0} : Wc (α := α) n (m + 1) s1 s5 b1000 k0 = Lx n s1 s5 b1000 (fun s1 s5 b1000 => Wc n m s1 s5 b1000 k0) k0 := rfl
def Ajz (n : Nat) (a0 : LN) (a1 : Int) : Option (Int × LN) :=
 Wc n n a1 0 a0
  (fun z_1 z_2 => (
   some (z_1, z_2)))
def Aod (n : Nat) : Ent3 := ⟨86, [.one (.own 125 hN), .im hI], [[.im hI]], fun x => Ajz n x.1 x.2⟩
def Ac8 (α : Type) (n : Nat) : D3 α := { reg := [], join := [], loop := [(2, ⟨Q6, Z6, A5 (Z5 n) n⟩)] }
theorem A7x (α : Type) (n : Nat) : Al PP (Ah (Ac8 α n).reg) := trivial
theorem Ajy (α : Type) (n : Nat) : LO.Sound (α := α) PP ⟨41, []⟩ ⟨Q6, Z6, A5 (Z5 n) n⟩ (.loop ((A1 Tryz.f86).at [1, 0, 1, 0, 0])) := Bf (D := Ac8 α n) (A7x α n) n
theorem B3e (α : Type) (n : Nat) : D3.OK PP TT ⟨41, []⟩ (Ac8 α n) (A1 Tryz.f86) :=
 D3.OK.mk3 (A7x α n) (show Aa (A1 Tryz.f86) = [(2, (.loop ((A1 Tryz.f86).at [1, 0, 1, 0, 0])))] by kernel_rfl) ⟨Ab rfl (Ajy α n), trivial⟩
theorem Ayr (n : Nat) : (Aod n).Sound PP := Sx (fn := Tryz.f86) (B3e _ n) 

def A5r (n : Nat) (a0 : LN) (a1 : Int) : Option (Int × LN) :=
 ob (Ajz n a0 a1) fun r_1 =>
 gd (Nat.beq r_1.2.length a0.length && true) (
  some (r_1.1, r_1.2))
def Aox (n : Nat) : Ent3 := ⟨36, [.mix [.own 125 hN], .im hI], [[.im hI]], fun x => A5r n x.1 x.2⟩
def B3y (α : Type) (n : Nat) : D3 α := { reg := [(1, ⟨0, [], [(3, { entB := some (Aod n), hb := 310 })]⟩)], join := [], loop := [] }
theorem Az5 (n : Nat) : (Aox n).Sound PP := Yx (fn := Tryz.f36) (D := B3y _ n) ⟨Ayr n, trivial⟩ 

def Ahb {α : Type} (n : Nat) (s0 : LI) (s1 s5 : Int) (f : LI -> Int -> Int -> Option α) (k0 : Int -> Option α) : Option α :=
 bif (decide (s5 < (s0.length : Int))) then
  gd (decide (0 <= s5) && decide (s5 < (s0.length : Int))) (
   none)
 else
  k0 s1
abbrev W7 : Tm := ⟨[(0, .d hIs), (1, .d hI), (5, .d hI)], [], [], []⟩
abbrev Av1 : Tm := ⟨[(1, .d hI)], [], [], []⟩
abbrev A5b : List (Exit × Tm) := [(.exit 0, Av1)]
def A5a {α : Type} (n : Nat) (v : W7.den) (f : W7.den -> Option α) (ks : KS α A5b) : Option α := Ahb n v.1.1 v.1.2.1 v.1.2.2.1 (fun s0 s1 s5 => f ((s0, s1, s5, ()), ())) (fun w0 => ks.1 ((w0, ()), ()))
def Ac6 {α : Type} (n m : Nat) (s0 : LI) (s1 s5 : Int) (k0 : Int -> Option α) : Option α := A5 (A5a n) m ((s0, s1, s5, ()), ()) (fun w => k0 w.1.1, ())
theorem Av0 {α n m s0 s1 s5 k0} : Ac6 (α := α) n (m + 1) s0 s1 s5 k0 = Ahb n s0 s1 s5 (fun s0 s1 s5 => Ac6 n m s0 s1 s5 k0) k0 := rfl
def f87 (n : Nat) (a0 : LI) (a1 : Int) : Option Int :=
 Ac6 n n a0 a1 0
  (fun z_1 => (
   some z_1))
def W8 (n : Nat) : Ent := ⟨87, [hIs, hI], [hI], fun x => f87 n x.1 x.2⟩
def Ajw (α : Type) (n : Nat) : D3 α := { reg := [], join := [], loop := [(2, ⟨W7, A5b, A5 (A5a n) n⟩)] }
theorem Ac5 (α : Type) (n : Nat) : Al PP (Ah (Ajw α n).reg) := trivial
theorem Aoa (α : Type) (n : Nat) : LO.Sound (α := α) PP ⟨19, []⟩ ⟨W7, A5b, A5 (A5a n) n⟩ (.loop ((A1 Tryz.f87).at [1, 0, 1, 0, 0])) := Bf (D := Ajw α n) (Ac5 α n) n
theorem B7q (α : Type) (n : Nat) : D3.OK PP TT ⟨19, []⟩ (Ajw α n) (A1 Tryz.f87) :=
 D3.OK.mk3 (Ac5 α n) (show Aa (A1 Tryz.f87) = [(2, (.loop ((A1 Tryz.f87).at [1, 0, 1, 0, 0])))] by kernel_rfl) ⟨Ab rfl (Aoa α n), trivial⟩
theorem U7 (n : Nat) : (W8 n).Sound PP := fk (fn := Tryz.f87) (B7q _ n) 

def Q3 {α : Type} (n : Nat) (s1 s5 : Int) (b1000 : LI) (f : Int -> Int -> LI -> Option α) (k0 : Int -> LI -> Option α) : Option α :=
 bif (decide (s5 < (b1000.length : Int))) then
  gd (decide (0 <= s5) && decide (s5 < (b1000.length : Int))) (
   gd (decide (s5.toNat < b1000.length)) (
    f (W (s1 + 1)) (W (s5 + 1)) (b1000.set s5.toNat s1)))
 else
  k0 s1 b1000
abbrev Q2 : Tm := ⟨[(0, .k (.hw 1000)), (1, .d hI), (5, .d hI)], [(1000, .arr 3 hI false)], [], []⟩
abbrev Aob : Tm := ⟨[(1, .d hI)], [(1000, .arr 3 hI false)], [], []⟩
abbrev Z3 : List (Exit × Tm) := [(.exit 0, Aob)]
def Z2 {α : Type} (n : Nat) (v : Q2.den) (f : Q2.den -> Option α) (ks : KS α Z3) : Option α := Q3 n v.1.2.1 v.1.2.2.1 v.2.1 (fun s1 s5 b1000 => f (((), s1, s5, ()), (b1000, ()))) (fun w0 w1 => ks.1 ((w0, ()), (w1, ())))
def W9 {α : Type} (n m : Nat) (s1 s5 : Int) (b1000 : LI) (k0 : Int -> LI -> Option α) : Option α := A5 (Z2 n) m (((), s1, s5, ()), (b1000, ())) (fun w => k0 w.1.1 w.2.1, ())
theorem A7w {α n m s1 s5 b1000 k0} : W9 (α := α) n (m + 1) s1 s5 b1000 k0 = Q3 n s1 s5 b1000 (fun s1 s5 b1000 => W9 n m s1 s5 b1000 k0) k0 := rfl
def Q5 (n : Nat) (a0 : LI) (a1 : Int) : Option (Int × LI) :=
 W9 n n a1 0 a0
  (fun z_1 z_2 => (
   some (z_1, z_2)))
def Od (n : Nat) : Ent3 := ⟨87, [.one (.own 3 hI), .im hI], [[.im hI]], fun x => Q5 n x.1 x.2⟩
def Ac7 (α : Type) (n : Nat) : D3 α := { reg := [], join := [], loop := [(2, ⟨Q2, Z3, A5 (Z2 n) n⟩)] }
theorem A7v (α : Type) (n : Nat) : Al PP (Ah (Ac7 α n).reg) := trivial
theorem Ajx (α : Type) (n : Nat) : LO.Sound (α := α) PP ⟨19, []⟩ ⟨Q2, Z3, A5 (Z2 n) n⟩ (.loop ((A1 Tryz.f87).at [1, 0, 1, 0, 0])) := Bf (D := Ac7 α n) (A7v α n) n
theorem B3d (α : Type) (n : Nat) : D3.OK PP TT ⟨19, []⟩ (Ac7 α n) (A1 Tryz.f87) :=
 D3.OK.mk3 (A7v α n) (show Aa (A1 Tryz.f87) = [(2, (.loop ((A1 Tryz.f87).at [1, 0, 1, 0, 0])))] by kernel_rfl) ⟨Ab rfl (Ajx α n), trivial⟩
theorem Oc (n : Nat) : (Od n).Sound PP := Sx (fn := Tryz.f87) (B3d _ n) 

def Qb {α : Type} (n : Nat) (s1 s5 : Int) (b1000 : LR) (f : Int -> Int -> LR -> Option α) (k0 : Int -> LR -> Option α) : Option α :=
 bif (decide (s5 < (b1000.length : Int))) then
  gd (decide (0 <= s5) && decide (s5 < (b1000.length : Int))) (
   gd (decide (s5.toNat < b1000.length)) (
    let x_1 := b1000.set s5.toNat (((Int.tmod s1 3) == 0), ((b1000.getD s5.toNat (false, [], [])).2))
    gd (decide (0 <= s5) && decide (s5 < (x_1.length : Int))) (
     gd (decide (s5.toNat < x_1.length)) (
      let x_2 := x_1.getD s5.toNat (false, [], [])
      bif x_2.2.1.isEmpty then
       ob (f87 n [] (W (s1 + 1))) fun r_3 =>
       gd (decide (0 <= s5) && decide (s5 < (x_1.length : Int))) (
        gd (decide (s5.toNat < x_1.length)) (
         let x_4 := x_1.getD s5.toNat (false, [], [])
         bif x_4.2.2.isEmpty then
          ob (f87 n [] r_3) fun r_5 =>
          f r_5 (W (s5 + 1)) x_1
         else
          ob (Q5 n x_4.2.2 r_3) fun r_6 =>
          gd (Nat.beq r_6.2.length x_4.2.2.length && true) (
           gd (decide (s5.toNat < x_1.length)) (
            let x_7 := x_1.set s5.toNat ((x_1.getD s5.toNat (false, [], [])).1, ((x_1.getD s5.toNat (false, [], [])).2).1, r_6.2)
            f r_6.1 (W (s5 + 1)) x_7))))
      else
       ob (Q5 n x_2.2.1 (W (s1 + 1))) fun r_8 =>
       gd (Nat.beq r_8.2.length x_2.2.1.length && true) (
        gd (decide (s5.toNat < x_1.length)) (
         let x_9 := x_1.set s5.toNat ((x_1.getD s5.toNat (false, [], [])).1, r_8.2, ((x_1.getD s5.toNat (false, [], [])).2).2)
         gd (decide (0 <= s5) && decide (s5 < (x_9.length : Int))) (
          gd (decide (s5.toNat < x_9.length)) (
           let x_10 := x_9.getD s5.toNat (false, [], [])
           bif x_10.2.2.isEmpty then
            ob (f87 n [] r_8.1) fun r_11 =>
            f r_11 (W (s5 + 1)) x_9
           else
            ob (Q5 n x_10.2.2 r_8.1) fun r_12 =>
            gd (Nat.beq r_12.2.length x_10.2.2.length && true) (
             gd (decide (s5.toNat < x_9.length)) (
              let x_13 := x_9.set s5.toNat ((x_9.getD s5.toNat (false, [], [])).1, ((x_9.getD s5.toNat (false, [], [])).2).1, r_12.2)
              f r_12.1 (W (s5 + 1)) x_13))))))))))
 else
  k0 s1 b1000
abbrev Qa : Tm := ⟨[(0, .k (.hw 1000)), (1, .d hI), (5, .d hI)], [(1000, .tree 31 hR false)], [], []⟩
abbrev Aov : Tm := ⟨[(1, .d hI)], [(1000, .tree 31 hR false)], [], []⟩
abbrev Za : List (Exit × Tm) := [(.exit 0, Aov)]
def Z9 {α : Type} (n : Nat) (v : Qa.den) (f : Qa.den -> Option α) (ks : KS α Za) : Option α := Qb n v.1.2.1 v.1.2.2.1 v.2.1 (fun s1 s5 b1000 => f (((), s1, s5, ()), (b1000, ()))) (fun w0 w1 => ks.1 ((w0, ()), (w1, ())))
def Of {α : Type} (n m : Nat) (s1 s5 : Int) (b1000 : LR) (k0 : Int -> LR -> Option α) : Option α := A5 (Z9 n) m (((), s1, s5, ()), (b1000, ())) (fun w => k0 w.1.1 w.2.1, ())
theorem A83 {α n m s1 s5 b1000 k0} : Of (α := α) n (m + 1) s1 s5 b1000 k0 = Qb n s1 s5 b1000 (fun s1 s5 b1000 => Of n m s1 s5 b1000 k0) k0 := rfl
def A5q (n : Nat) (a0 : LR) (a1 : Int) : Option (Int × LR) :=
 Of n n a1 0 a0
  (fun z_14 z_15 => (
   some (z_14, z_15)))
def Aow (n : Nat) : Ent3 := ⟨37, [.one (.tree 31 hR), .im hI], [[.im hI]], fun x => A5q n x.1 x.2⟩
def Acm (α : Type) (n : Nat) : D3 α := { reg := [(6, ⟨0, [], [(4, { bor := some 2000 }), (6, { ent := some (W8 n), alt := [(Od n)], hb := 320, shut := some 2000 })]⟩), (7, ⟨0, [], [(4, { bor := some 2001 }), (6, { ent := some (W8 n), alt := [(Od n)], hb := 310, shut := some 2001 })]⟩)], join := [], loop := [(2, ⟨Qa, Za, A5 (Z9 n) n⟩)] }
theorem A82 (α : Type) (n : Nat) : Al PP (Ah (Acm α n).reg) := ⟨Oc n, U7 n, Oc n, U7 n, trivial⟩
theorem Akd (α : Type) (n : Nat) : LO.Sound (α := α) PP ⟨36, []⟩ ⟨Qa, Za, A5 (Z9 n) n⟩ (.loop ((A1 Tryz.f37).at [1, 0, 1, 0, 0])) := Bf (D := Acm α n) (A82 α n) n
theorem B3x (α : Type) (n : Nat) : D3.OK PP TT ⟨36, []⟩ (Acm α n) (A1 Tryz.f37) :=
 D3.OK.mk3 (A82 α n) (show Aa (A1 Tryz.f37) = [(2, (.loop ((A1 Tryz.f37).at [1, 0, 1, 0, 0])))] by kernel_rfl) ⟨Ab rfl (Akd α n), trivial⟩
theorem Az3 (n : Nat) : (Aow n).Sound PP := Sx (fn := Tryz.f37) (B3x _ n) 

def Acl (n : Nat) (a0 : Bool × LI × LI) (a1 : Int) : Option (Int × LI × LI) :=
 ob (Q5 n a0.2.1 a1) fun r_1 =>
 gd (Nat.beq r_1.2.length a0.2.1.length && true) (
  ob (Q5 n a0.2.2 r_1.1) fun r_2 =>
  gd (Nat.beq r_2.2.length a0.2.2.length && true) (
   some (r_2.1, r_1.2, r_2.2)))
def Aou (n : Nat) : Ent3 := ⟨38, [.mix [.im .bool, .own 3 hI, .own 3 hI], .im hI], [[.im hI]], fun x => Acl n x.1 x.2⟩
def B3w (α : Type) (n : Nat) : D3 α := { reg := [(1, ⟨0, [], [(3, { alt := [(Od n)], hb := 310 })]⟩), (2, ⟨0, [], [(3, { alt := [(Od n)], hb := 320 })]⟩)], join := [], loop := [] }
theorem Az0 (n : Nat) : (Aou n).Sound PP := Yx (fn := Tryz.f38) (D := B3w _ n) ⟨Oc n, Oc n, trivial⟩ 

def W5 {α : Type} (n : Nat) (s0 : LI) (s1 s5 : Int) (f : LI -> Int -> Int -> Option α) (k0 k1 : Int -> Option α) : Option α :=
 bif (decide (s5 < (s0.length : Int))) then
  gd (decide (0 <= s5) && decide (s5 < (s0.length : Int))) (
   bif ((s0.getD s5.toNat 0) != s1) then
    k0 (-1)
   else
    f s0 (W (s1 + 1)) (W (s5 + 1)))
 else
  k1 s1
abbrev W0 : Tm := ⟨[(0, .d hIs), (1, .d hI), (5, .d hI)], [], [], []⟩
abbrev Auz : Tm := ⟨[(4, .d hI)], [], [], []⟩
abbrev Auy : Tm := ⟨[(1, .d hI)], [], [], []⟩
abbrev A59 : List (Exit × Tm) := [(.ret, Auz), (.exit 0, Auy)]
def A58 {α : Type} (n : Nat) (v : W0.den) (f : W0.den -> Option α) (ks : KS α A59) : Option α := W5 n v.1.1 v.1.2.1 v.1.2.2.1 (fun s0 s1 s5 => f ((s0, s1, s5, ()), ())) (fun w0 => ks.1 ((w0, ()), ())) (fun w0 => ks.2.1 ((w0, ()), ()))
def A31 {α : Type} (n m : Nat) (s0 : LI) (s1 s5 : Int) (k0 k1 : Int -> Option α) : Option α := A5 (A58 n) m ((s0, s1, s5, ()), ()) (fun w => k0 w.1.1, fun w => k1 w.1.1, ())
theorem Ac4 {α n m s0 s1 s5 k0 k1} : A31 (α := α) n (m + 1) s0 s1 s5 k0 k1 = W5 n s0 s1 s5 (fun s0 s1 s5 => A31 n m s0 s1 s5 k0 k1) k0 k1 := rfl
def f88 (n : Nat) (a0 : LI) (a1 : Int) : Option Int :=
 A31 n n a0 a1 0
  (fun z_1 => (
   some z_1))
  (fun z_2 => (
   some z_2))
def Aju (n : Nat) : Ent := ⟨88, [hIs, hI], [hI], fun x => f88 n x.1 x.2⟩
def Ajv (α : Type) (n : Nat) : D3 α := { reg := [], join := [], loop := [(2, ⟨W0, A59, A5 (A58 n) n⟩)] }
theorem Ac3 (α : Type) (n : Nat) : Al PP (Ah (Ajv α n).reg) := trivial
theorem Ao9 (α : Type) (n : Nat) : LO.Sound (α := α) PP ⟨21, []⟩ ⟨W0, A59, A5 (A58 n) n⟩ (.loop ((A1 Tryz.f88).at [1, 0, 1, 0, 0])) := Bf (D := Ajv α n) (Ac3 α n) n
theorem B7p (α : Type) (n : Nat) : D3.OK PP TT ⟨21, []⟩ (Ajv α n) (A1 Tryz.f88) :=
 D3.OK.mk3 (Ac3 α n) (show Aa (A1 Tryz.f88) = [(2, (.loop ((A1 Tryz.f88).at [1, 0, 1, 0, 0])))] by kernel_rfl) ⟨Ab rfl (Ao9 α n), trivial⟩
theorem Ao7 (n : Nat) : (Aju n).Sound PP := fk (fn := Tryz.f88) (B7p _ n) 

def f39 (n : Nat) (a0 : Rq) (a1 : Int) : Option Int :=
 ob (f88 n a0.2.1 a1) fun r_1 =>
 bif (decide (r_1 < 0)) then
  some (-1)
 else
  ob (f88 n a0.2.2 r_1) fun r_2 =>
  bif (decide (r_2 < 0)) then
   some (-1)
  else
   some r_2
def Akc (n : Nat) : Ent := ⟨39, [hR, hI], [hI], fun x => f39 n x.1 x.2⟩
def B87 (α : Type) (n : Nat) : D3 α := { reg := [(1, ⟨0, [], [(3, { ent := some (Aju n) })]⟩), (4, ⟨0, [], [(3, { ent := some (Aju n) })]⟩)], join := [], loop := [] }
theorem Aot (n : Nat) : (Akc n).Sound PP := Ar (fn := Tryz.f39) (D := B87 _ n) ⟨Ao7 n, Ao7 n, trivial⟩ 

def f61 (n : Nat) (a0 : Rq) : Option Rq :=
 ob (f117 n a0.2.1) fun r_1 =>
 ob (f117 n a0.2.2) fun r_2 =>
 some (a0.1, r_1, r_2)
def Axk (n : Nat) : Ent := ⟨61, [hR], [hR], fun x => f61 n x⟩
def B82 (α : Type) (n : Nat) : D3 α := { reg := [(1, ⟨8, [], [(4, { ent := some (K1 n) }), (7, { ent := some (K1 n) })]⟩)], join := [], loop := [] }
theorem B3t (n : Nat) : (Axk n).Sound PP := Ar (fn := Tryz.f61) (D := B82 _ n) ⟨J2 n, J2 n, trivial⟩ 

def f15 (n : Nat) (a0 : LN) (a1 : LR) : Option (Rq × Int) :=
 ob (f59 n a0 a1) fun r_1 =>
 bif (r_1 != 0) then
  some ((false, [], []), r_1)
 else
  ob (f60 n (0, ()) a0 a1) fun r_2 =>
  bif (r_2.2 != 0) then
   some ((false, [], []), r_2.2)
  else
   ob (f61 n r_2.1.1) fun r_3 =>
   some (r_3, 0)
def Axs (n : Nat) : Ent := ⟨15, [hE, hRs], [hR, hI], fun x => f15 n x.1 x.2⟩
def B8h (α : Type) (n : Nat) : D3 α := { reg := [(1, ⟨0, [], [(2, { ent := some (Akb n) })]⟩), (4, ⟨0, [], [(3, { ent := some (Aka n) })]⟩), (7, ⟨0, [], [(2, { ent := some (Axk n) })]⟩)], join := [], loop := [] }
theorem B5w (n : Nat) : (Axs n).Sound PP := Ar (fn := Tryz.f15) (D := B8h _ n) ⟨Aor n, Aoq n, B3t n, trivial⟩ 

def Aab (n : Nat) (a0 : Bool × LI × LI) (a1 : Int) : Option (Int × LI) :=
 ob (f87 n a0.2.1 a1) fun r_1 =>
 ob (Q5 n a0.2.2 r_1) fun r_2 =>
 gd (Nat.beq r_2.2.length a0.2.2.length && true) (
  some (r_2.1, r_2.2))
def Ahe (n : Nat) : Ent3 := ⟨38, [.mix [.im .bool, .im hIs, .own 3 hI], .im hI], [[.im hI]], fun x => Aab n x.1 x.2⟩
def Az2 (α : Type) (n : Nat) : D3 α := { reg := [(1, ⟨0, [], [(3, { ent := some (W8 n) })]⟩), (2, ⟨0, [], [(3, { alt := [(Od n)], hb := 310 })]⟩)], join := [], loop := [] }
theorem Avj (n : Nat) : (Ahe n).Sound PP := Yx (fn := Tryz.f38) (D := Az2 _ n) ⟨U7 n, Oc n, trivial⟩ 

def f38 (n : Nat) (a0 : Rq) (a1 : Int) : Option Int :=
 ob (f87 n a0.2.1 a1) fun r_1 =>
 ob (f87 n a0.2.2 r_1) fun r_2 =>
 some r_2
def Axm (n : Nat) : Ent := ⟨38, [hR, hI], [hI], fun x => f38 n x.1 x.2⟩
def B88 (α : Type) (n : Nat) : D3 α := { reg := [(1, ⟨0, [], [(3, { ent := some (W8 n) })]⟩), (2, ⟨0, [], [(3, { ent := some (W8 n) })]⟩)], join := [], loop := [] }
theorem B3v (n : Nat) : (Axm n).Sound PP := Ar (fn := Tryz.f38) (D := B88 _ n) ⟨U7 n, U7 n, trivial⟩ 

def f5 (n : Nat) (a0 : LN) (a1 : LR) : Option Bool :=
 ob (f29 n a0 1048576) fun r_1 =>
 bif (decide (r_1 < 0)) then
  some true
 else
  ob (f30 n a1 r_1) fun r_2 =>
  bif (decide (r_2 < 0)) then
   some true
  else
   ob (f31 n a0) fun r_3 =>
   ob (f32 n a1) fun r_4 =>
   ob (f16 n r_3 r_4) fun r_5 =>
   ob (Aki n a0) fun r_6 =>
   ob (Akh n a1) fun r_7 =>
   ob (A6b n r_6 r_7) fun r_8 =>
   Nj r_8 (fun r_9 =>
    ob (f33 n r_9.1 r_5.1) fun r_11 =>
    bif (!r_11) then
     some false
    else
     bif (r_9.2 != r_5.2) then
      some false
     else
      ob (f31 n a0) fun r_12 =>
      ob (f34 n r_6 r_12) fun r_13 =>
      bif (!r_13) then
       some false
      else
       ob (f32 n a1) fun r_14 =>
       ob (f35 n r_7 r_14) fun r_15 =>
       bif (!r_15) then
        some false
       else
        ob (A5r n r_6 1) fun r_16 =>
        gd (Nat.beq r_16.2.length r_6.length && true) (
         ob (A5q n r_7 r_16.1) fun r_17 =>
         gd (Nat.beq r_17.2.length r_7.length && true) (
          bif (decide (r_17.1 < 0)) then
           some false
          else
           ob (f33 n r_9.1 r_5.1) fun r_18 =>
           bif (!r_18) then
            some false
           else
            bif (r_9.2 != r_5.2) then
             some false
            else
             ob (Acl n (r_9.1.1, r_9.1.2.1, r_9.1.2.2) 1) fun r_19 =>
             gd (Nat.beq r_19.2.1.length r_9.1.2.1.length && (Nat.beq r_19.2.2.length r_9.1.2.2.length && true)) (
              ob (f39 n (r_9.1.1, r_19.2) 1) fun r_20 =>
              bif (decide (r_20 < 0)) then
               some false
              else
               bif (r_20 != r_19.1) then
                some false
               else
                ob (f31 n a0) fun r_21 =>
                ob (f32 n a1) fun r_22 =>
                ob (f15 n r_21 r_22) fun r_23 =>
                ob (f33 n r_23.1 r_5.1) fun r_24 =>
                bif (!r_24) then
                 some false
                else
                 bif (r_23.2 != r_5.2) then
                  some false
                 else
                  ob (f39 n (r_9.1.1, r_19.2) 1) fun r_25 =>
                  bif (decide (r_25 < 0)) then
                   some false
                  else
                   bif (r_25 != r_19.1) then
                    some false
                   else
                    some true)))) (fun r_10 =>
    Nj r_10 (fun r_26 =>
     ob (f33 n (r_26.1.1, [], r_26.1.2.2) r_5.1) fun r_28 =>
     bif (!r_28) then
      some false
     else
      bif (r_26.2 != r_5.2) then
       some false
      else
       ob (f31 n a0) fun r_29 =>
       ob (f34 n r_6 r_29) fun r_30 =>
       bif (!r_30) then
        some false
       else
        ob (f32 n a1) fun r_31 =>
        ob (f35 n r_7 r_31) fun r_32 =>
        bif (!r_32) then
         some false
        else
         ob (A5r n r_6 1) fun r_33 =>
         gd (Nat.beq r_33.2.length r_6.length && true) (
          ob (A5q n r_7 r_33.1) fun r_34 =>
          gd (Nat.beq r_34.2.length r_7.length && true) (
           bif (decide (r_34.1 < 0)) then
            some false
           else
            ob (f33 n (r_26.1.1, [], r_26.1.2.2) r_5.1) fun r_35 =>
            bif (!r_35) then
             some false
            else
             bif (r_26.2 != r_5.2) then
              some false
             else
              ob (Aab n (r_26.1.1, [], r_26.1.2.2) 1) fun r_36 =>
              gd (Nat.beq r_36.2.length r_26.1.2.2.length && true) (
               ob (f39 n (r_26.1.1, [], r_36.2) 1) fun r_37 =>
               bif (decide (r_37 < 0)) then
                some false
               else
                bif (r_37 != r_36.1) then
                 some false
                else
                 ob (f31 n a0) fun r_38 =>
                 ob (f32 n a1) fun r_39 =>
                 ob (f15 n r_38 r_39) fun r_40 =>
                 ob (f33 n r_40.1 r_5.1) fun r_41 =>
                 bif (!r_41) then
                  some false
                 else
                  bif (r_40.2 != r_5.2) then
                   some false
                  else
                   ob (f39 n (r_26.1.1, [], r_36.2) 1) fun r_42 =>
                   bif (decide (r_42 < 0)) then
                    some false
                   else
                    bif (r_42 != r_36.1) then
                     some false
                    else
                     some true)))) (fun r_27 =>
     ob (f33 n (r_27.1.1, [], []) r_5.1) fun r_43 =>
     bif (!r_43) then
      some false
     else
      bif (r_27.2 != r_5.2) then
       some false
      else
       ob (f31 n a0) fun r_44 =>
       ob (f34 n r_6 r_44) fun r_45 =>
       bif (!r_45) then
        some false
       else
        ob (f32 n a1) fun r_46 =>
        ob (f35 n r_7 r_46) fun r_47 =>
        bif (!r_47) then
         some false
        else
         ob (A5r n r_6 1) fun r_48 =>
         gd (Nat.beq r_48.2.length r_6.length && true) (
          ob (A5q n r_7 r_48.1) fun r_49 =>
          gd (Nat.beq r_49.2.length r_7.length && true) (
           bif (decide (r_49.1 < 0)) then
            some false
           else
            ob (f33 n (r_27.1.1, [], []) r_5.1) fun r_50 =>
            bif (!r_50) then
             some false
            else
             bif (r_27.2 != r_5.2) then
              some false
             else
              ob (f38 n (r_27.1.1, [], []) 1) fun r_51 =>
              ob (f39 n (r_27.1.1, [], []) 1) fun r_52 =>
              bif (decide (r_52 < 0)) then
               some false
              else
               bif (r_52 != r_51) then
                some false
               else
                ob (f31 n a0) fun r_53 =>
                ob (f32 n a1) fun r_54 =>
                ob (f15 n r_53 r_54) fun r_55 =>
                ob (f33 n r_55.1 r_5.1) fun r_56 =>
                bif (!r_56) then
                 some false
                else
                 bif (r_55.2 != r_5.2) then
                  some false
                 else
                  ob (f39 n (r_27.1.1, [], []) 1) fun r_57 =>
                  bif (decide (r_57 < 0)) then
                   some false
                  else
                   bif (r_57 != r_51) then
                    some false
                   else
                    some true))))
def B92 (n : Nat) : Ent := ⟨5, [hE, hRs], [.bool], fun x => f5 n x.1 x.2⟩
def B93 (α : Type) (n : Nat) : D3 α := { reg := [(2, ⟨0, [], [(2, { ent := some (Axq n) })]⟩), (5, ⟨0, [], [(2, { ent := some (Axp n) })]⟩), (8, ⟨0, [], [(1, { ent := some (Aad n) }), (3, { ent := some (Aac n) }), (4, { ent := some (Axr n) })]⟩), (9, ⟨0, [], [(1, { entB := some (Ap3 n), hb := 310 })]⟩), (10, ⟨0, [], [(1, { entB := some (Ap2 n), hb := 320 })]⟩), (11, ⟨0, [], [(2, { entB := some (Arm n), hb := 330 })]⟩), (12, ⟨0, [], [(2, { ent := some (A36 n) })]⟩), (14, ⟨3, [], [(2, { ent := some (Aad n) }), (3, { ent := some (Axo n) })]⟩), (16, ⟨0, [], [(2, { ent := some (Aac n) }), (3, { ent := some (Axn n) })]⟩), (19, ⟨0, [], [(2, { entB := some (Aox n), hb := 340 })]⟩), (20, ⟨0, [], [(2, { alt := [(Aow n)], hb := 350 })]⟩), (21, ⟨0, [], [(5, { ent := some (A36 n) })]⟩), (24, ⟨0, [], [(2, { ent := some (Axm n), alt := [(Aou n), (Ahe n)], hb := 360 })]⟩), (26, ⟨0, [], [(2, { ent := some (Akc n) })]⟩), (31, ⟨0, [], [(1, { ent := some (Aad n) }), (3, { ent := some (Aac n) }), (4, { ent := some (Axs n) })]⟩), (32, ⟨0, [], [(2, { ent := some (A36 n) })]⟩), (35, ⟨0, [], [(2, { ent := some (Akc n) })]⟩)], join := [], loop := [] }
theorem B84 (n : Nat) : (B92 n).Sound PP := Ar (fn := Tryz.f5) (D := B93 _ n) ⟨B49 n, B47 n, Acv n, Acq n, B5s n, Az9 n, Az7 n, B16 n, A35 n, Acv n, B41 n, Acq n, B3z n, Az5 n, Az3 n, A35 n, Az0 n, Avj n, B3v n, Aot n, Acv n, Acq n, B5w n, A35 n, Aot n, trivial⟩ 

end Go.Ev
