/- DERIVED. What the functions compute, and that they do. -/
import Derived.Test.YtcpdoafoahaagaaGreatGa

set_option linter.all false
set_option linter.unusedVariables false
set_option linter.unusedSimpArgs false

namespace Go.Ev
open Go Go.Proofs Go.RowKit Go.Shelf
def f224_L2B {α : Type} (n : Nat) (s0 : List Int) (s7 : Int) (s8 : Int) (f : (List Int) → Int → Int → Option α) (k0 : Int → Option α) (k1 : Unit → Option α) : Option α :=
  bif (decide (s8 < s7)) then
    gd (decide (0 ≤ s8) && decide (s8 < (s0.length : Int))) (
      ob (f211 n (s0.getD s8.toNat 0)) fun r_1 =>
      bif r_1 then
        k0 s8
      else
        f s0 s7 (W (s8 + 1)))
  else
    k1 ()
abbrev f224_L2H : Tm := ⟨[(0, .d hIs), (1, .d (.fn 211)), (7, .d hI), (8, .d hI)], [], [], []⟩
abbrev f224_L2X0 : Tm := ⟨[(4, .d hI)], [], [], []⟩
abbrev f224_L2X1 : Tm := ⟨[], [], [], []⟩
abbrev f224_L2O : List (Exit × Tm) := [(.ret, f224_L2X0), (.exit 0, f224_L2X1)]
def f224_L2U {α : Type} (n : Nat) (v : f224_L2H.den) (f : f224_L2H.den → Option α) (ks : KS α f224_L2O) : Option α := f224_L2B n v.1.1 v.1.2.2.1 v.1.2.2.2.1 (fun s0 s7 s8 => f ((s0, (), s7, s8, ()), ())) (fun w0 => ks.1 ((w0, ()), ())) (fun _ => ks.2.1 ((), ()))
def f224_L2 {α : Type} (n m : Nat) (s0 : List Int) (s7 : Int) (s8 : Int) (k0 : Int → Option α) (k1 : Unit → Option α) : Option α := rounds (f224_L2U n) m ((s0, (), s7, s8, ()), ()) (fun w => k0 w.1.1, fun w => k1 (), ())
theorem f224_L2_0 {α : Type} (n : Nat) (s0 : List Int) (s7 : Int) (s8 : Int) (k0 : Int → Option α) (k1 : Unit → Option α) : f224_L2 (α := α) n 0 s0 s7 s8 k0 k1 = none := rfl
theorem f224_L2_s {α : Type} (n m : Nat) (s0 : List Int) (s7 : Int) (s8 : Int) (k0 : Int → Option α) (k1 : Unit → Option α) : f224_L2 (α := α) n (m + 1) s0 s7 s8 k0 k1 = f224_L2B n s0 s7 s8 (fun s0 s7 s8 => f224_L2 n m s0 s7 s8 k0 k1) k0 k1 := rfl
def f224 (n : Nat) (a0 : List Int) (a1 : Unit) : Option Int :=
  f224_L2 n n a0 (a0.length : Int) 0
    (fun z_2 => (
      some z_2))
    (fun (_ : Unit) => (
      some (-1)))
def f224_E (n : Nat) : Ent := ⟨224, [hIs, (.fn 211)], [hI], fun x => f224 n x.1 x.2⟩
def f224_D (α : Type) (n : Nat) : D3 α := { reg := [(4, ⟨0, [], [(5, { ent := some (f211_E n) })]⟩)], join := [], loop := [(2, ⟨f224_L2H, f224_L2O, rounds (f224_L2U n) n⟩)] }
theorem f224_ents (α : Type) (n : Nat) : AllS Tryz.prog (entsOf (f224_D α n).reg) := ⟨f211_ok n, trivial⟩
theorem f224_L2_d (α : Type) (n : Nat) : D3.OK Tryz.prog (tyOf Tryz.prog) ⟨19, []⟩ (f224_D α n) ((bodyOf Tryz.f224).at [1, 0, 1, 0, 0]) :=
  D3.OK.mk3 (f224_ents α n) (show loopsOf ((bodyOf Tryz.f224).at [1, 0, 1, 0, 0]) = [] by kernel_rfl) trivial
theorem f224_L2_ok (α : Type) (n : Nat) : LO.Sound (α := α) Tryz.prog ⟨19, []⟩ ⟨f224_L2H, f224_L2O, rounds (f224_L2U n) n⟩ (.loop ((bodyOf Tryz.f224).at [1, 0, 1, 0, 0])) :=
  loop_ok (tyOf_ok _) prog_fol (f224_L2U n) (f224_L2_d α n) (by intro v f ks; kernel_rfl) n
theorem f224_d (α : Type) (n : Nat) : D3.OK Tryz.prog (tyOf Tryz.prog) ⟨19, []⟩ (f224_D α n) (bodyOf Tryz.f224) :=
  D3.OK.mk3 (f224_ents α n) (show loopsOf (bodyOf Tryz.f224) = [(2, (.loop ((bodyOf Tryz.f224).at [1, 0, 1, 0, 0])))] by kernel_rfl) ⟨look_sound rfl (f224_L2_ok α n), trivial⟩
theorem f224_ok (n : Nat) : (f224_E n).Sound Tryz.prog :=
  fn_ok (tyOf_ok _) prog_fol (f224_D _ n) (show Tryz.prog.funcs[224]? = some Tryz.f224 by kernel_rfl) (by kernel_rfl) (show Tryz.f224.body = some (bodyOf Tryz.f224) by kernel_rfl) rfl rfl (Nat.le_of_ble_eq_true rfl) (f224_d _ n) (by intro x; kernel_rfl) 


def f210 (n : Nat) (a0 : List Int) (a1 : Unit) : Option Bool :=
  ob (f224 n a0 a1) fun r_1 =>
  some (decide (r_1 ≥ 0))
def f210_E (n : Nat) : Ent := ⟨210, [hIs, (.fn 211)], [.bool], fun x => f210 n x.1 x.2⟩
def f210_D (α : Type) (n : Nat) : D3 α := { reg := [(1, ⟨0, [], [(2, { ent := some (f224_E n) })]⟩)], join := [], loop := [] }
theorem f210_ents (α : Type) (n : Nat) : AllS Tryz.prog (entsOf (f210_D α n).reg) := ⟨f224_ok n, trivial⟩
theorem f210_d (α : Type) (n : Nat) : D3.OK Tryz.prog (tyOf Tryz.prog) ⟨9, []⟩ (f210_D α n) (bodyOf Tryz.f210) :=
  D3.OK.mk3 (f210_ents α n) (show loopsOf (bodyOf Tryz.f210) = [] by kernel_rfl) trivial
theorem f210_ok (n : Nat) : (f210_E n).Sound Tryz.prog :=
  fn_ok (tyOf_ok _) prog_fol (f210_D _ n) (show Tryz.prog.funcs[210]? = some Tryz.f210 by kernel_rfl) (by kernel_rfl) (show Tryz.f210.body = some (bodyOf Tryz.f210) by kernel_rfl) rfl rfl (Nat.le_of_ble_eq_true rfl) (f210_d _ n) (by intro x; kernel_rfl) 


def f197 (n : Nat) (a0 : List Int) : Option Bool :=
  bif (decide ((a0.length : Int) > 40)) then
    some false
  else
    bif (decide ((a0.length : Int) > 0)) then
      gd (decide (0 ≤ (W ((a0.length : Int) - 1))) && decide ((W ((a0.length : Int) - 1)) < (a0.length : Int))) (
        bif ((a0.getD ((W ((a0.length : Int) - 1)).toNat) 0) == 0) then
          some false
        else
          ob (f210 n a0 ()) fun r_1 =>
          some (!r_1))
    else
      ob (f210 n a0 ()) fun r_2 =>
      some (!r_2)
def f197_E (n : Nat) : Ent := ⟨197, [hIs], [.bool], fun x => f197 n x⟩
def f197_D (α : Type) (n : Nat) : D3 α := { reg := [(4, ⟨0, [], [(1, { ent := some (f210_E n) })]⟩)], join := [], loop := [] }
theorem f197_ents (α : Type) (n : Nat) : AllS Tryz.prog (entsOf (f197_D α n).reg) := ⟨f210_ok n, trivial⟩
theorem f197_d (α : Type) (n : Nat) : D3.OK Tryz.prog (tyOf Tryz.prog) ⟨23, []⟩ (f197_D α n) (bodyOf Tryz.f197) :=
  D3.OK.mk3 (f197_ents α n) (show loopsOf (bodyOf Tryz.f197) = [] by kernel_rfl) trivial
theorem f197_ok (n : Nat) : (f197_E n).Sound Tryz.prog :=
  fn_ok (tyOf_ok _) prog_fol (f197_D _ n) (show Tryz.prog.funcs[197]? = some Tryz.f197 by kernel_rfl) (by kernel_rfl) (show Tryz.f197.body = some (bodyOf Tryz.f197) by kernel_rfl) rfl rfl (Nat.le_of_ble_eq_true rfl) (f197_d _ n) (by intro x; kernel_rfl) 


def f74 (n : Nat) (a0 : Bool × (List Int) × (List Int)) : Option Bool :=
  some ((a0.2.1.length : Int) == 0)
def f74_E (n : Nat) : Ent := ⟨74, [hR], [.bool], fun x => f74 n x⟩
def f74_D (α : Type) (n : Nat) : D3 α := { reg := [], join := [], loop := [] }
theorem f74_ents (α : Type) (n : Nat) : AllS Tryz.prog (entsOf (f74_D α n).reg) := trivial
theorem f74_d (α : Type) (n : Nat) : D3.OK Tryz.prog (tyOf Tryz.prog) ⟨7, []⟩ (f74_D α n) (bodyOf Tryz.f74) :=
  D3.OK.mk3 (f74_ents α n) (show loopsOf (bodyOf Tryz.f74) = [] by kernel_rfl) trivial
theorem f74_ok (n : Nat) : (f74_E n).Sound Tryz.prog :=
  fn_ok (tyOf_ok _) prog_fol (f74_D _ n) (show Tryz.prog.funcs[74]? = some Tryz.f74 by kernel_rfl) (by kernel_rfl) (show Tryz.f74.body = some (bodyOf Tryz.f74) by kernel_rfl) rfl rfl (Nat.le_of_ble_eq_true rfl) (f74_d _ n) (by intro x; kernel_rfl) 


def f201 (n : Nat) (a0 : List Int) : Option (List Int) :=
  some a0
def f201_E (n : Nat) : Ent := ⟨201, [hIs], [(.clo 223 (.ref hIs))], fun x => f201 n x⟩
def f201_D (α : Type) (n : Nat) : D3 α := { reg := [(1, ⟨0, [], [(0, { sh := some (.ref hIs) })]⟩)], join := [], loop := [] }
theorem f201_ents (α : Type) (n : Nat) : AllS Tryz.prog (entsOf (f201_D α n).reg) := trivial
theorem f201_d (α : Type) (n : Nat) : D3.OK Tryz.prog (tyOf Tryz.prog) ⟨4, []⟩ (f201_D α n) (bodyOf Tryz.f201) :=
  D3.OK.mk3 (f201_ents α n) (show loopsOf (bodyOf Tryz.f201) = [] by kernel_rfl) trivial
theorem f201_ok (n : Nat) : (f201_E n).Sound Tryz.prog :=
  fn_ok (tyOf_ok _) prog_fol (f201_D _ n) (show Tryz.prog.funcs[201]? = some Tryz.f201 by kernel_rfl) (by kernel_rfl) (show Tryz.f201.body = some (bodyOf Tryz.f201) by kernel_rfl) rfl rfl (Nat.le_of_ble_eq_true rfl) (f201_d _ n) (by intro x; kernel_rfl) 


def f170_L6B {α : Type} (n : Nat) (i : Nat) (z : Int) (s18 : List Int) (c3_0 : List Int) (c4_0 : Int) (f : (List Int) → (List Int) → Int → Option α) (k0 : Int → Option α) (k1 : Int → Option α) : Option α :=
  gd (decide (0 ≤ (i : Int)) && decide ((i : Int) < (c3_0.length : Int))) (
    bif (z != (c3_0.getD ((i : Int).toNat) 0)) then
      gd (decide (0 ≤ (i : Int)) && decide ((i : Int) < (c3_0.length : Int))) (
        bif (decide (z < (c3_0.getD ((i : Int).toNat) 0))) then
          k1 (-1)
        else
          k1 1)
    else
      f s18 c3_0 c4_0)
abbrev f170_L6H : Tm := ⟨[(3, .k (.hp 3 0 0)), (4, .k (.hp 4 0 0)), (18, .d (.clo 223 (.ref hIs)))], [(3, .var 28 true false [.d hIs]), (4, .var 3 true false [.d hI])], [], []⟩
abbrev f170_L6X0 : Tm := ⟨[(4, .k (.hp 4 0 0))], [(4, .var 3 true false [.d hI])], [3], []⟩
abbrev f170_L6X1 : Tm := ⟨[(4, .k (.hp 4 0 0))], [(4, .var 3 true false [.d hI])], [3], []⟩
abbrev f170_L6O : List (Exit × Tm) := [(.normal, f170_L6X0), (.ret, f170_L6X1)]
def f170_L6Z (v : f170_L6H.den) : List Int := (fun s18 c3_0 c4_0 => s18) v.1.2.2.1 v.2.1.1 v.2.2.1.1
def f170_L6U {α : Type} (n : Nat) (i : Nat) (z : Int) (v : f170_L6H.den) (f : f170_L6H.den → Option α) (ks : KS α f170_L6O) : Option α := f170_L6B n i z v.1.2.2.1 v.2.1.1 v.2.2.1.1 (fun s18 c3_0 c4_0 => f (((), (), s18, ()), ((c3_0, ()), (c4_0, ()), ()))) (fun w0 => ks.1 (((), ()), ((w0, ()), ()))) (fun w0 => ks.2.1 (((), ()), ((w0, ()), ())))
def f170_L6N {α : Type} (v : f170_L6H.den) (ks : KS α f170_L6O) : Option α := (fun s18 c3_0 c4_0 => ks.1 (((), ()), ((c4_0, ()), ()))) v.1.2.2.1 v.2.1.1 v.2.2.1.1
def f170_L6 {α : Type} (n : Nat) (s18 : List Int) (c3_0 : List Int) (c4_0 : Int) (k0 : Int → Option α) (k1 : Int → Option α) : Option α := rangeR f170_L6Z (f170_L6U n) f170_L6N (((), (), s18, ()), ((c3_0, ()), (c4_0, ()), ())) (fun w => k0 w.2.1.1, fun w => k1 w.2.1.1, ())
def f170_L6R {α : Type} (n : Nat) (zs : List Int) (i : Nat) (s18 : List Int) (c3_0 : List Int) (c4_0 : Int) (k0 : Int → Option α) (k1 : Int → Option α) : Option α := rangeB f170_L6Z (f170_L6U n) zs i (((), (), s18, ()), ((c3_0, ()), (c4_0, ()), ())) (fun v => f170_L6N v (fun w => k0 w.2.1.1, fun w => k1 w.2.1.1, ())) (fun w => k0 w.2.1.1, fun w => k1 w.2.1.1, ())
theorem f170_L6_e {α : Type} (n : Nat) (s18 : List Int) (c3_0 : List Int) (c4_0 : Int) (k0 : Int → Option α) (k1 : Int → Option α) : f170_L6 (α := α) n s18 c3_0 c4_0 k0 k1 = gd (decide (s18.length ≤ 4611686018427387904)) (f170_L6R n s18 s18.length s18 c3_0 c4_0 k0 k1) := rfl
theorem f170_L6_0 {α : Type} (n : Nat) (zs : List Int) (s18 : List Int) (c3_0 : List Int) (c4_0 : Int) (k0 : Int → Option α) (k1 : Int → Option α) : f170_L6R (α := α) n zs 0 s18 c3_0 c4_0 k0 k1 = k0 c4_0 := rfl
theorem f170_L6_s {α : Type} (n : Nat) (zs : List Int) (i : Nat) (s18 : List Int) (c3_0 : List Int) (c4_0 : Int) (k0 : Int → Option α) (k1 : Int → Option α) : f170_L6R (α := α) n zs (i + 1) s18 c3_0 c4_0 k0 k1 = f170_L6B n i (zs.getD i 0) s18 c3_0 c4_0 (fun s18 c3_0 c4_0 => gd (decide (s18 = zs)) (f170_L6R n zs i s18 c3_0 c4_0 k0 k1)) k0 k1 := rfl
def f170 (n : Nat) (a0 : List Int) (a1 : List Int) : Option Int :=
  bif ((a0.length : Int) != (a1.length : Int)) then
    bif (decide ((a0.length : Int) < (a1.length : Int))) then
      some (-1)
    else
      some 1
  else
    ob (f201 n a0) fun r_1 =>
    f170_L6 n r_1 a1 0
      (fun z_2 => (
        some 0))
      (fun z_3 => (
        some z_3))
def f170_E (n : Nat) : Ent := ⟨170, [hIs, hIs], [hI], fun x => f170 n x.1 x.2⟩
def f170_D (α : Type) (n : Nat) : D3 α := { reg := [(5, ⟨0, [], [(1, { ent := some (f201_E n) })]⟩)], join := [], loop := [(6, ⟨f170_L6H, f170_L6O, rangeR f170_L6Z (f170_L6U n) f170_L6N⟩)] }
theorem f170_ents (α : Type) (n : Nat) : AllS Tryz.prog (entsOf (f170_D α n).reg) := ⟨f201_ok n, trivial⟩
theorem f170_L6A_d (α : Type) (n : Nat) : D3.OK Tryz.prog (tyOf Tryz.prog) ⟨33, []⟩ (f170_D α n) ((bodyOf Tryz.f170).at [1, 1, 0, 1, 0, 0]) :=
  D3.OK.mk3 (f170_ents α n) (show loopsOf ((bodyOf Tryz.f170).at [1, 1, 0, 1, 0, 0]) = [] by kernel_rfl) trivial
theorem f170_L6B_d (α : Type) (n : Nat) : D3.OK Tryz.prog (tyOf Tryz.prog) ⟨33, []⟩ (f170_D α n) ((bodyOf Tryz.f170).at [1, 1, 0, 1, 0, 1]) :=
  D3.OK.mk3 (f170_ents α n) (show loopsOf ((bodyOf Tryz.f170).at [1, 1, 0, 1, 0, 1]) = [] by kernel_rfl) trivial
theorem f170_L6_ok (α : Type) (n : Nat) : LO.Sound (α := α) Tryz.prog ⟨33, []⟩ ⟨f170_L6H, f170_L6O, rangeR f170_L6Z (f170_L6U n) f170_L6N⟩ (.rangeFunc (.tmp 18) #[19, 20] ((bodyOf Tryz.f170).at [1, 1, 0, 1, 0, 0]) ((bodyOf Tryz.f170).at [1, 1, 0, 1, 0, 1])) :=
  range_ok (tyOf_ok _) prog_fol f170_L6Z (f170_L6U n) f170_L6N back_ok rfl rfl rfl rfl (f170_L6A_d α n) (f170_L6B_d α n) (by intro v; rfl) (by intro i z v f ks; kernel_rfl) (by intro v ks; kernel_rfl)
theorem f170_d (α : Type) (n : Nat) : D3.OK Tryz.prog (tyOf Tryz.prog) ⟨33, []⟩ (f170_D α n) (bodyOf Tryz.f170) :=
  D3.OK.mk3 (f170_ents α n) (show loopsOf (bodyOf Tryz.f170) = [(6, (.rangeFunc (.tmp 18) #[19, 20] ((bodyOf Tryz.f170).at [1, 1, 0, 1, 0, 0]) ((bodyOf Tryz.f170).at [1, 1, 0, 1, 0, 1])))] by kernel_rfl) ⟨look_sound rfl (f170_L6_ok α n), trivial⟩
theorem f170_ok (n : Nat) : (f170_E n).Sound Tryz.prog :=
  fn_ok (tyOf_ok _) prog_fol (f170_D _ n) (show Tryz.prog.funcs[170]? = some Tryz.f170 by kernel_rfl) (by kernel_rfl) (show Tryz.f170.body = some (bodyOf Tryz.f170) by kernel_rfl) rfl rfl (Nat.le_of_ble_eq_true rfl) (f170_d _ n) (by intro x; kernel_rfl) 


def f145G (n : Nat) (a0 : List Int) : Option (List Int) :=
  gd ((!a0.isEmpty)) (
    gd (decide ((0 + a0.length) * 8 ≤ 140737488355328)) (
      some a0))
def f145G_E (n : Nat) : Ent := ⟨145, [hIs], [hIs], fun x => f145G n x⟩
def f145G_D (α : Type) (n : Nat) : D3 α := { reg := [(3, ⟨0, [], [(0, { sh := some hI })]⟩)], join := [], loop := [] }
theorem f145G_ents (α : Type) (n : Nat) : AllS Tryz.prog (entsOf (f145G_D α n).reg) := trivial
theorem f145G_d (α : Type) (n : Nat) : D3.OK Tryz.prog (tyOf Tryz.prog) ⟨8, []⟩ (f145G_D α n) (bodyOf Tryz.f145) :=
  D3.OK.mk3 (f145G_ents α n) (show loopsOf (bodyOf Tryz.f145) = [] by kernel_rfl) trivial
theorem f145G_ok (n : Nat) : (f145G_E n).Sound Tryz.prog :=
  fn_ok (tyOf_ok _) prog_fol (f145G_D _ n) (show Tryz.prog.funcs[145]? = some Tryz.f145 by kernel_rfl) (by kernel_rfl) (show Tryz.f145.body = some (bodyOf Tryz.f145) by kernel_rfl) rfl rfl (Nat.le_of_ble_eq_true rfl) (f145G_d _ n) (by intro x; kernel_rfl) 


set_option maxRecDepth 100000 in
set_option maxHeartbeats 2000000 in
theorem clone_nil (ad : Option Addr) (cap : Nat) (hc : ad = none → cap = 0) (w : World) : Calls Tryz.prog 145 #[.slice ad 0 cap] w fun e w' => (∃ a c, e = .returned (.slice a 0 c) ∧ (a = none → c = 0)) ∧ w.grownBy w' none := by
  refine (callsIn_wide (n := 3)).1 ?_
  refine callsIn_of_wp Tryz.func145 rfl trivial ?_ rfl
  simp only [Tryz.ntmps145, List.size_toArray, List.length_cons, List.length_nil, Nat.reduceAdd, Nat.reduceSub, Array.replicate_succ, Array.replicate_zero, List.push_toArray, List.append_toArray, List.nil_append, List.cons_append]
  have hi : ∃ i, Tryz.prog.info? 3 = some i := ⟨_, rfl⟩
  obtain ⟨i3, hi3⟩ := hi
  have hap : ∀ (base : Option Addr) (sCap : Nat) (a : Option Addr) (cp : Nat) (w : World), (Builtin.append_ #[28, 28] 28 #[.slice base 0 sCap, .slice a 0 cp]).run Tryz.prog w = .ok (.slice base 0 sCap) w := fun base sCap a cp w =>
    run_append_none w 28 28 3 i3 Tryz.underlying28 hi3 base 0 sCap (Nat.zero_le _) a cp
  cases ad with
  | none =>
    obtain rfl := hc rfl
    have hb : ∀ w, (binOp BinOp.eql 28 (.slice none 0 0) (.slice none 0 0)).run Tryz.prog w = .ok (.bool true) w := fun w => by kernel_rfl
    gi_wp2
    refine bodyPost_ret (results_tmp rfl _ _ _) rfl ?_
    exact ⟨⟨none, 0, rfl, fun _ => rfl⟩, ⟨rfl, rfl, rfl, Nat.le_refl _, fun _ _ _ => rfl⟩⟩
  | some ad =>
    have hb : ∀ w, (binOp BinOp.eql 28 (.slice (some ad) 0 cap) (.slice none 0 0)).run Tryz.prog w = .ok (.bool false) w := fun w => by kernel_rfl
    gi_wp2
    refine bodyPost_ret (results_tmp rfl _ _ _) rfl ?_
    exact ⟨⟨_, 0, rfl, fun _ => rfl⟩, World.grownBy_alloc w _ none⟩
def f145 (n : Nat) (a0 : List Int) : Option (List Int) := bif a0.isEmpty then some [] else f145G n a0
def f145_E (n : Nat) : Ent := ⟨145, [hIs], [hIs], fun x => f145 n x⟩
theorem f145_ok (n : Nat) : (f145_E n).Sound Tryz.prog := by
  intro nt x r h
  cases x with
  | cons z l => exact f145G_ok n nt (z :: l) r h
  | nil =>
    have h : some ([] : List Int) = some r := h
    obtain rfl := Option.some.inj h
    refine ⟨⟨Tryz.f145, by kernel_rfl, by kernel_rfl, by kernel_rfl⟩, fun w E vs hin hv => ?_⟩
    obtain ⟨hl, hget⟩ := hv
    match vs, hl with
    | [v], _ =>
      have h1 : Rv w E v (.one (.i (.sl 0 false 1 []))) := hget 0 v _ rfl rfl
      cases h1 with
      | one h1 =>
        cases h1 with
        | i h1 =>
          cases h1 with
          | sl _ _ _ _ _ _ _ hne => exact absurd rfl hne
          | nil _ _ cap a _ hn hc =>
            refine (clone_nil a cap hc w).mono ?_
            rintro e w' ⟨⟨a', c', rfl, hc'⟩, hg⟩
            exact ⟨_, E, rfl, .v (.one (.i (.nil 0 1 c' a' false (fun e => by cases e) hc'))), ⟨hg.os, hg.tape, hg.output, hg.size, fun b hb _ => hg.block b hb (by simp)⟩,
              ⟨fun b hb => Nat.lt_of_lt_of_le (hin.wf.alt b hb) hg.size, hin.wf.tag, hin.wf.inj⟩, fun _ _ => Iff.rfl, Nat.le_refl _, fun _ _ => rfl, fun t g ht h => absurd (hin.wf.tag t g h).1 (Nat.not_lt.2 ht),
              fun h b hb => (by cases hb), fun h h' b b' g g' z z' hb => (by cases hb), fun h b g z hb => (by cases hb), fun h b hb => (by cases hb)⟩




def f185_L2B {α : Type} (n : Nat) (s0 : List Int) (s3 : Int) (f : (List Int) → Int → Option α) (k0 : (List Int) → Int → Option α) : Option α :=
  bif (decide (s3 > 0)) then
    gd (decide (0 ≤ (W (s3 - 1))) && decide ((W (s3 - 1)) < (s0.length : Int))) (
      bif ((s0.getD ((W (s3 - 1)).toNat) 0) == 0) then
        f s0 (W (s3 - 1))
      else
        k0 s0 s3)
  else
    k0 s0 s3
abbrev f185_L2H : Tm := ⟨[(0, .d hIs), (3, .d hI)], [], [], []⟩
abbrev f185_L2X0 : Tm := ⟨[(0, .d hIs), (3, .d hI)], [], [], []⟩
abbrev f185_L2O : List (Exit × Tm) := [(.exit 0, f185_L2X0)]
def f185_L2U {α : Type} (n : Nat) (v : f185_L2H.den) (f : f185_L2H.den → Option α) (ks : KS α f185_L2O) : Option α := f185_L2B n v.1.1 v.1.2.1 (fun s0 s3 => f ((s0, s3, ()), ())) (fun w0 w1 => ks.1 ((w0, w1, ()), ()))
def f185_L2 {α : Type} (n m : Nat) (s0 : List Int) (s3 : Int) (k0 : (List Int) → Int → Option α) : Option α := rounds (f185_L2U n) m ((s0, s3, ()), ()) (fun w => k0 w.1.1 w.1.2.1, ())
theorem f185_L2_0 {α : Type} (n : Nat) (s0 : List Int) (s3 : Int) (k0 : (List Int) → Int → Option α) : f185_L2 (α := α) n 0 s0 s3 k0 = none := rfl
theorem f185_L2_s {α : Type} (n m : Nat) (s0 : List Int) (s3 : Int) (k0 : (List Int) → Int → Option α) : f185_L2 (α := α) n (m + 1) s0 s3 k0 = f185_L2B n s0 s3 (fun s0 s3 => f185_L2 n m s0 s3 k0) k0 := rfl
def f185 (n : Nat) (a0 : List Int) : Option (List Int) :=
  f185_L2 n n a0 (a0.length : Int)
    (fun z_1 z_2 => (
      gd (decide (0 ≤ z_2) && decide (z_2 ≤ (z_1.length : Int))) (
        some ((z_1.drop 0).take (z_2.toNat - 0)))))
def f185_E (n : Nat) : Ent := ⟨185, [hIs], [hIs], fun x => f185 n x⟩
def f185_D (α : Type) (n : Nat) : D3 α := { reg := [], join := [], loop := [(2, ⟨f185_L2H, f185_L2O, rounds (f185_L2U n) n⟩)] }
theorem f185_ents (α : Type) (n : Nat) : AllS Tryz.prog (entsOf (f185_D α n).reg) := trivial
theorem f185_L2_d (α : Type) (n : Nat) : D3.OK Tryz.prog (tyOf Tryz.prog) ⟨21, []⟩ (f185_D α n) ((bodyOf Tryz.f185).at [1, 1, 0, 0, 0]) :=
  D3.OK.mk3 (f185_ents α n) (show loopsOf ((bodyOf Tryz.f185).at [1, 1, 0, 0, 0]) = [] by kernel_rfl) trivial
theorem f185_L2_ok (α : Type) (n : Nat) : LO.Sound (α := α) Tryz.prog ⟨21, []⟩ ⟨f185_L2H, f185_L2O, rounds (f185_L2U n) n⟩ (.loop ((bodyOf Tryz.f185).at [1, 1, 0, 0, 0])) :=
  loop_ok (tyOf_ok _) prog_fol (f185_L2U n) (f185_L2_d α n) (by intro v f ks; kernel_rfl) n
theorem f185_d (α : Type) (n : Nat) : D3.OK Tryz.prog (tyOf Tryz.prog) ⟨21, []⟩ (f185_D α n) (bodyOf Tryz.f185) :=
  D3.OK.mk3 (f185_ents α n) (show loopsOf (bodyOf Tryz.f185) = [(2, (.loop ((bodyOf Tryz.f185).at [1, 1, 0, 0, 0])))] by kernel_rfl) ⟨look_sound rfl (f185_L2_ok α n), trivial⟩
theorem f185_ok (n : Nat) : (f185_E n).Sound Tryz.prog :=
  fn_ok (tyOf_ok _) prog_fol (f185_D _ n) (show Tryz.prog.funcs[185]? = some Tryz.f185 by kernel_rfl) (by kernel_rfl) (show Tryz.f185.body = some (bodyOf Tryz.f185) by kernel_rfl) rfl rfl (Nat.le_of_ble_eq_true rfl) (f185_d _ n) (by intro x; kernel_rfl) 


def f160_L2B {α : Type} (n : Nat) (s0 : Int) (b4 : List Int) (f : Int → (List Int) → Option α) (k0 : (List Int) → Option α) : Option α :=
  bif (decide (s0 > 0)) then
    gd (decide ((b4.length + 1) * 8 ≤ 140737488355328)) (
      f (W (Int.tdiv s0 10000)) (b4 ++ [(Int.tmod s0 10000)]))
  else
    k0 b4
abbrev f160_L2H : Tm := ⟨[(0, .d hI), (3, .k (.hw 4))], [(4, .arr 3 hI false)], [12], []⟩
abbrev f160_L2X0 : Tm := ⟨[(3, .k (.hw 4))], [(4, .arr 3 hI false)], [], []⟩
abbrev f160_L2O : List (Exit × Tm) := [(.exit 0, f160_L2X0)]
def f160_L2U {α : Type} (n : Nat) (v : f160_L2H.den) (f : f160_L2H.den → Option α) (ks : KS α f160_L2O) : Option α := f160_L2B n v.1.1 v.2.1 (fun s0 b4 => f ((s0, (), ()), (b4, ()))) (fun w0 => ks.1 (((), ()), (w0, ())))
def f160_L2 {α : Type} (n m : Nat) (s0 : Int) (b4 : List Int) (k0 : (List Int) → Option α) : Option α := rounds (f160_L2U n) m ((s0, (), ()), (b4, ())) (fun w => k0 w.2.1, ())
theorem f160_L2_0 {α : Type} (n : Nat) (s0 : Int) (b4 : List Int) (k0 : (List Int) → Option α) : f160_L2 (α := α) n 0 s0 b4 k0 = none := rfl
theorem f160_L2_s {α : Type} (n m : Nat) (s0 : Int) (b4 : List Int) (k0 : (List Int) → Option α) : f160_L2 (α := α) n (m + 1) s0 b4 k0 = f160_L2B n s0 b4 (fun s0 b4 => f160_L2 n m s0 b4 k0) k0 := rfl
def f160 (n : Nat) (a0 : Int) : Option (List Int) :=
  f160_L2 n n a0 []
    (fun z_1 => (
      some z_1))
def f160_E (n : Nat) : Ent := ⟨160, [hI], [hIs], fun x => f160 n x⟩
def f160_D (α : Type) (n : Nat) : D3 α := { reg := [(1, ⟨0, [], [(0, { sh := some hI })]⟩), (4, ⟨0, [], [(3, { sh := some hI })]⟩)], join := [], loop := [(2, ⟨f160_L2H, f160_L2O, rounds (f160_L2U n) n⟩)] }
theorem f160_ents (α : Type) (n : Nat) : AllS Tryz.prog (entsOf (f160_D α n).reg) := trivial
theorem f160_L2_d (α : Type) (n : Nat) : D3.OK Tryz.prog (tyOf Tryz.prog) ⟨15, []⟩ (f160_D α n) ((bodyOf Tryz.f160).at [1, 1, 0, 0, 0]) :=
  D3.OK.mk3 (f160_ents α n) (show loopsOf ((bodyOf Tryz.f160).at [1, 1, 0, 0, 0]) = [] by kernel_rfl) trivial
theorem f160_L2_ok (α : Type) (n : Nat) : LO.Sound (α := α) Tryz.prog ⟨15, []⟩ ⟨f160_L2H, f160_L2O, rounds (f160_L2U n) n⟩ (.loop ((bodyOf Tryz.f160).at [1, 1, 0, 0, 0])) :=
  loop_ok (tyOf_ok _) prog_fol (f160_L2U n) (f160_L2_d α n) (by intro v f ks; kernel_rfl) n
theorem f160_d (α : Type) (n : Nat) : D3.OK Tryz.prog (tyOf Tryz.prog) ⟨15, []⟩ (f160_D α n) (bodyOf Tryz.f160) :=
  D3.OK.mk3 (f160_ents α n) (show loopsOf (bodyOf Tryz.f160) = [(2, (.loop ((bodyOf Tryz.f160).at [1, 1, 0, 0, 0])))] by kernel_rfl) ⟨look_sound rfl (f160_L2_ok α n), trivial⟩
theorem f160_ok (n : Nat) : (f160_E n).Sound Tryz.prog :=
  fn_ok (tyOf_ok _) prog_fol (f160_D _ n) (show Tryz.prog.funcs[160]? = some Tryz.f160 by kernel_rfl) (by kernel_rfl) (show Tryz.f160.body = some (bodyOf Tryz.f160) by kernel_rfl) rfl rfl (Nat.le_of_ble_eq_true rfl) (f160_d _ n) (by intro x; kernel_rfl) 


def f145B (n : Nat) (a0 : List Int) : Option (List Int) :=
  gd ((!a0.isEmpty)) (
    gd (decide ((0 + a0.length) * 8 ≤ 140737488355328)) (
      some a0))
def f145B_E (n : Nat) : Ent3 := ⟨145, [.im hIs], [[.one (.own 3 hI)]], fun x => f145B n x⟩
def f145B_D (α : Type) (n : Nat) : D3 α := { reg := [(3, ⟨0, [], [(0, { sh := some hI })]⟩)], join := [], loop := [] }
theorem f145B_ents (α : Type) (n : Nat) : AllS Tryz.prog (entsOf (f145B_D α n).reg) := trivial
theorem f145B_d (α : Type) (n : Nat) : D3.OK Tryz.prog (tyOf Tryz.prog) ⟨8, []⟩ (f145B_D α n) (bodyOf Tryz.f145) :=
  D3.OK.mk3 (f145B_ents α n) (show loopsOf (bodyOf Tryz.f145) = [] by kernel_rfl) trivial
theorem f145B_ok (n : Nat) : (f145B_E n).Sound Tryz.prog :=
  fn_okB (tyOf_ok _) prog_fol (f145B_D _ n) (show Tryz.prog.funcs[145]? = some Tryz.f145 by kernel_rfl) (by kernel_rfl) (show Tryz.f145.body = some (bodyOf Tryz.f145) by kernel_rfl) rfl rfl (Nat.le_of_ble_eq_true rfl) (f145B_d _ n) (by intro x; kernel_rfl) 


def f204B_L6B {α : Type} (n : Nat) (s0o : Nat) (s0l : Nat) (s1 : List Int) (s5 : Int) (s7 : Int) (s8 : Int) (s50 : Int) (s51 : Int) (b1000 : List Int) (f : Nat → Nat → (List Int) → Int → Int → Int → Int → Int → (List Int) → Option α) (k0 : Nat → Nat → (List Int) → Int → Int → Int → (List Int) → Option α) : Option α :=
  bif (decide (s51 < s50)) then
    gd (decide (0 ≤ s51) && decide (s51 < (s0l : Int))) (
      gd (decide ((s0o + s51.toNat) < b1000.length)) (
        let J_4 := fun (y_1 : Int) => (
          let J_3 := fun (y_2 : Int) => (
            gd (decide (0 ≤ s51) && decide (s51 < (s0l : Int))) (
              gd (decide ((s0o + s51.toNat) < b1000.length)) (
                f s0o s0l s1 s5 s7 y_2 s50 (W (s51 + 1)) (b1000.set (s0o + s51.toNat) (W (y_1 - (W (y_2 * 10000))))))))
          bif (decide (y_1 < 0)) then
            J_3 (W (Int.tdiv (W ((W (y_1 - 10000)) + 1)) 10000))
          else
            J_3 0)
        bif (decide (s51 < s5)) then
          gd (decide (0 ≤ s51) && decide (s51 < (s1.length : Int))) (
            J_4 (W ((W ((b1000.getD (s0o + s51.toNat) 0) + s8)) - (W (s7 * (s1.getD s51.toNat 0))))))
        else
          J_4 (W ((b1000.getD (s0o + s51.toNat) 0) + s8))))
  else
    k0 s0o s0l s1 s5 s7 s8 b1000
abbrev f204B_L6H : Tm := ⟨[(0, .hs 1000), (1, .d hIs), (5, .d hI), (7, .d hI), (8, .d hI), (50, .d hI), (51, .d hI)], [(1000, .arr 3 hI false)], [], []⟩
abbrev f204B_L6X0 : Tm := ⟨[(0, .hs 1000), (1, .d hIs), (5, .d hI), (7, .d hI), (8, .d hI)], [(1000, .arr 3 hI false)], [], []⟩
abbrev f204B_L6O : List (Exit × Tm) := [(.exit 0, f204B_L6X0)]
def f204B_L6U {α : Type} (n : Nat) (v : f204B_L6H.den) (f : f204B_L6H.den → Option α) (ks : KS α f204B_L6O) : Option α := f204B_L6B n v.1.1.1 v.1.1.2 v.1.2.1 v.1.2.2.1 v.1.2.2.2.1 v.1.2.2.2.2.1 v.1.2.2.2.2.2.1 v.1.2.2.2.2.2.2.1 v.2.1 (fun s0o s0l s1 s5 s7 s8 s50 s51 b1000 => f (((s0o, s0l), s1, s5, s7, s8, s50, s51, ()), (b1000, ()))) (fun w0 w1 w2 w3 w4 w5 w6 => ks.1 (((w0, w1), w2, w3, w4, w5, ()), (w6, ())))
def f204B_L6 {α : Type} (n m : Nat) (s0o : Nat) (s0l : Nat) (s1 : List Int) (s5 : Int) (s7 : Int) (s8 : Int) (s50 : Int) (s51 : Int) (b1000 : List Int) (k0 : Nat → Nat → (List Int) → Int → Int → Int → (List Int) → Option α) : Option α := rounds (f204B_L6U n) m (((s0o, s0l), s1, s5, s7, s8, s50, s51, ()), (b1000, ())) (fun w => k0 w.1.1.1 w.1.1.2 w.1.2.1 w.1.2.2.1 w.1.2.2.2.1 w.1.2.2.2.2.1 w.2.1, ())
theorem f204B_L6_0 {α : Type} (n : Nat) (s0o : Nat) (s0l : Nat) (s1 : List Int) (s5 : Int) (s7 : Int) (s8 : Int) (s50 : Int) (s51 : Int) (b1000 : List Int) (k0 : Nat → Nat → (List Int) → Int → Int → Int → (List Int) → Option α) : f204B_L6 (α := α) n 0 s0o s0l s1 s5 s7 s8 s50 s51 b1000 k0 = none := rfl
theorem f204B_L6_s {α : Type} (n m : Nat) (s0o : Nat) (s0l : Nat) (s1 : List Int) (s5 : Int) (s7 : Int) (s8 : Int) (s50 : Int) (s51 : Int) (b1000 : List Int) (k0 : Nat → Nat → (List Int) → Int → Int → Int → (List Int) → Option α) : f204B_L6 (α := α) n (m + 1) s0o s0l s1 s5 s7 s8 s50 s51 b1000 k0 = f204B_L6B n s0o s0l s1 s5 s7 s8 s50 s51 b1000 (fun s0o s0l s1 s5 s7 s8 s50 s51 b1000 => f204B_L6 n m s0o s0l s1 s5 s7 s8 s50 s51 b1000 k0) k0 := rfl
def f204B_L20B {α : Type} (n : Nat) (s0o : Nat) (s0l : Nat) (s1 : List Int) (s5 : Int) (s7 : Int) (s8 : Int) (s11 : Int) (s90 : Int) (s91 : Int) (b1000 : List Int) (f : Nat → Nat → (List Int) → Int → Int → Int → Int → Int → Int → (List Int) → Option α) (k0 : Nat → Nat → (List Int) → Int → Int → Int → Int → (List Int) → Option α) : Option α :=
  bif (decide (s91 < s90)) then
    gd (decide (0 ≤ s91) && decide (s91 < (s0l : Int))) (
      gd (decide ((s0o + s91.toNat) < b1000.length)) (
        let J_13 := fun (y_12 : Int) => (
          gd (decide (0 ≤ s91) && decide (s91 < (s0l : Int))) (
            gd (decide ((s0o + s91.toNat) < b1000.length)) (
              f s0o s0l s1 s5 s7 s8 (W (Int.tdiv y_12 10000)) s90 (W (s91 + 1)) (b1000.set (s0o + s91.toNat) (Int.tmod y_12 10000)))))
        bif (decide (s91 < s5)) then
          gd (decide (0 ≤ s91) && decide (s91 < (s1.length : Int))) (
            J_13 (W ((W ((b1000.getD (s0o + s91.toNat) 0) + s11)) + (s1.getD s91.toNat 0))))
        else
          J_13 (W ((b1000.getD (s0o + s91.toNat) 0) + s11))))
  else
    k0 s0o s0l s1 s5 s7 s8 s11 b1000
abbrev f204B_L20H : Tm := ⟨[(0, .hs 1000), (1, .d hIs), (5, .d hI), (7, .d hI), (8, .d hI), (11, .d hI), (90, .d hI), (91, .d hI)], [(1000, .arr 3 hI false)], [], []⟩
abbrev f204B_L20X0 : Tm := ⟨[(0, .hs 1000), (1, .d hIs), (5, .d hI), (7, .d hI), (8, .d hI), (11, .d hI)], [(1000, .arr 3 hI false)], [], []⟩
abbrev f204B_L20O : List (Exit × Tm) := [(.exit 4, f204B_L20X0)]
def f204B_L20U {α : Type} (n : Nat) (v : f204B_L20H.den) (f : f204B_L20H.den → Option α) (ks : KS α f204B_L20O) : Option α := f204B_L20B n v.1.1.1 v.1.1.2 v.1.2.1 v.1.2.2.1 v.1.2.2.2.1 v.1.2.2.2.2.1 v.1.2.2.2.2.2.1 v.1.2.2.2.2.2.2.1 v.1.2.2.2.2.2.2.2.1 v.2.1 (fun s0o s0l s1 s5 s7 s8 s11 s90 s91 b1000 => f (((s0o, s0l), s1, s5, s7, s8, s11, s90, s91, ()), (b1000, ()))) (fun w0 w1 w2 w3 w4 w5 w6 w7 => ks.1 (((w0, w1), w2, w3, w4, w5, w6, ()), (w7, ())))
def f204B_L20 {α : Type} (n m : Nat) (s0o : Nat) (s0l : Nat) (s1 : List Int) (s5 : Int) (s7 : Int) (s8 : Int) (s11 : Int) (s90 : Int) (s91 : Int) (b1000 : List Int) (k0 : Nat → Nat → (List Int) → Int → Int → Int → Int → (List Int) → Option α) : Option α := rounds (f204B_L20U n) m (((s0o, s0l), s1, s5, s7, s8, s11, s90, s91, ()), (b1000, ())) (fun w => k0 w.1.1.1 w.1.1.2 w.1.2.1 w.1.2.2.1 w.1.2.2.2.1 w.1.2.2.2.2.1 w.1.2.2.2.2.2.1 w.2.1, ())
theorem f204B_L20_0 {α : Type} (n : Nat) (s0o : Nat) (s0l : Nat) (s1 : List Int) (s5 : Int) (s7 : Int) (s8 : Int) (s11 : Int) (s90 : Int) (s91 : Int) (b1000 : List Int) (k0 : Nat → Nat → (List Int) → Int → Int → Int → Int → (List Int) → Option α) : f204B_L20 (α := α) n 0 s0o s0l s1 s5 s7 s8 s11 s90 s91 b1000 k0 = none := rfl
theorem f204B_L20_s {α : Type} (n m : Nat) (s0o : Nat) (s0l : Nat) (s1 : List Int) (s5 : Int) (s7 : Int) (s8 : Int) (s11 : Int) (s90 : Int) (s91 : Int) (b1000 : List Int) (k0 : Nat → Nat → (List Int) → Int → Int → Int → Int → (List Int) → Option α) : f204B_L20 (α := α) n (m + 1) s0o s0l s1 s5 s7 s8 s11 s90 s91 b1000 k0 = f204B_L20B n s0o s0l s1 s5 s7 s8 s11 s90 s91 b1000 (fun s0o s0l s1 s5 s7 s8 s11 s90 s91 b1000 => f204B_L20 n m s0o s0l s1 s5 s7 s8 s11 s90 s91 b1000 k0) k0 := rfl
def f204B_L16B {α : Type} (n : Nat) (s0o : Nat) (s0l : Nat) (s1 : List Int) (s5 : Int) (s7 : Int) (s8 : Int) (b1000 : List Int) (f : Nat → Nat → (List Int) → Int → Int → Int → (List Int) → Option α) (k0 : Int → (List Int) → Option α) : Option α :=
  bif (decide (s8 < 0)) then
    f204B_L20 n n s0o s0l s1 s5 (W (s7 - 1)) s8 0 (s0l : Int) 0 b1000
      (fun z_12 z_13 z_14 z_15 z_16 z_17 z_18 z_19 => (
        f z_12 z_13 z_14 z_15 z_16 (W (z_17 + z_18)) z_19))
  else
    k0 s7 b1000
abbrev f204B_L16H : Tm := ⟨[(0, .hs 1000), (1, .d hIs), (5, .d hI), (7, .d hI), (8, .d hI)], [(1000, .arr 3 hI false)], [], []⟩
abbrev f204B_L16X0 : Tm := ⟨[(7, .d hI)], [(1000, .arr 3 hI false)], [], []⟩
abbrev f204B_L16O : List (Exit × Tm) := [(.exit 2, f204B_L16X0)]
def f204B_L16U {α : Type} (n : Nat) (v : f204B_L16H.den) (f : f204B_L16H.den → Option α) (ks : KS α f204B_L16O) : Option α := f204B_L16B n v.1.1.1 v.1.1.2 v.1.2.1 v.1.2.2.1 v.1.2.2.2.1 v.1.2.2.2.2.1 v.2.1 (fun s0o s0l s1 s5 s7 s8 b1000 => f (((s0o, s0l), s1, s5, s7, s8, ()), (b1000, ()))) (fun w0 w1 => ks.1 ((w0, ()), (w1, ())))
def f204B_L16 {α : Type} (n m : Nat) (s0o : Nat) (s0l : Nat) (s1 : List Int) (s5 : Int) (s7 : Int) (s8 : Int) (b1000 : List Int) (k0 : Int → (List Int) → Option α) : Option α := rounds (f204B_L16U n) m (((s0o, s0l), s1, s5, s7, s8, ()), (b1000, ())) (fun w => k0 w.1.1 w.2.1, ())
theorem f204B_L16_0 {α : Type} (n : Nat) (s0o : Nat) (s0l : Nat) (s1 : List Int) (s5 : Int) (s7 : Int) (s8 : Int) (b1000 : List Int) (k0 : Int → (List Int) → Option α) : f204B_L16 (α := α) n 0 s0o s0l s1 s5 s7 s8 b1000 k0 = none := rfl
theorem f204B_L16_s {α : Type} (n m : Nat) (s0o : Nat) (s0l : Nat) (s1 : List Int) (s5 : Int) (s7 : Int) (s8 : Int) (b1000 : List Int) (k0 : Int → (List Int) → Option α) : f204B_L16 (α := α) n (m + 1) s0o s0l s1 s5 s7 s8 b1000 k0 = f204B_L16B n s0o s0l s1 s5 s7 s8 b1000 (fun s0o s0l s1 s5 s7 s8 b1000 => f204B_L16 n m s0o s0l s1 s5 s7 s8 b1000 k0) k0 := rfl
abbrev f204B_J11 : Tm := ⟨[(0, .hs 1000), (1, .d hIs), (5, .d hI), (7, .d hI), (9, .d hI), (10, .d hI), (50, .d hI), (51, .d hI)], [(1000, .arr 3 hI false)], [], []⟩
abbrev f204B_J14 : Tm := ⟨[(0, .hs 1000), (1, .d hIs), (5, .d hI), (7, .d hI), (8, .d hI), (9, .d hI), (10, .d hI), (50, .d hI), (51, .d hI)], [(1000, .arr 3 hI false)], [], []⟩
abbrev f204B_J25 : Tm := ⟨[(0, .hs 1000), (1, .d hIs), (5, .d hI), (7, .d hI), (8, .d hI), (12, .d hI), (13, .d hI), (90, .d hI), (91, .d hI)], [(1000, .arr 3 hI false)], [], []⟩
def f204B (n : Nat) (a0 : List Int × Nat × Nat) (a1 : List Int) : Option (Int × (List Int)) :=
  gd (decide (0 ≤ (a1.length : Int)) && decide ((a1.length : Int) < (a0.2.2 : Int))) (
    gd (decide ((a0.2.1 + (a1.length : Int).toNat) < a0.1.length)) (
      gd (decide (0 ≤ (W ((a1.length : Int) - 1))) && decide ((W ((a1.length : Int) - 1)) < (a0.2.2 : Int))) (
        gd (decide ((a0.2.1 + (W ((a1.length : Int) - 1)).toNat) < a0.1.length)) (
          gd (decide (0 ≤ (W ((a1.length : Int) - 2))) && decide ((W ((a1.length : Int) - 2)) < (a0.2.2 : Int))) (
            gd (decide ((a0.2.1 + (W ((a1.length : Int) - 2)).toNat) < a0.1.length)) (
              gd (decide (0 ≤ (W ((a1.length : Int) - 1))) && decide ((W ((a1.length : Int) - 1)) < (a1.length : Int))) (
                gd (decide (0 ≤ (W ((a1.length : Int) - 2))) && decide ((W ((a1.length : Int) - 2)) < (a1.length : Int))) (
                  gd (decide ((W ((W ((a1.getD ((W ((a1.length : Int) - 1)).toNat) 0) * 10000)) + (a1.getD ((W ((a1.length : Int) - 2)).toNat) 0))) ≠ 0)) (
                    f204B_L6 n n a0.2.1 a0.2.2 a1 (a1.length : Int) (min (W (Int.tdiv (W ((W ((W ((W ((a0.1.getD (a0.2.1 + (a1.length : Int).toNat) 0) * 10000)) + (a0.1.getD (a0.2.1 + (W ((a1.length : Int) - 1)).toNat) 0))) * 10000)) + (a0.1.getD (a0.2.1 + (W ((a1.length : Int) - 2)).toNat) 0))) (W ((W ((a1.getD ((W ((a1.length : Int) - 1)).toNat) 0) * 10000)) + (a1.getD ((W ((a1.length : Int) - 2)).toNat) 0))))) 9999) 0 (a0.2.2 : Int) 0 a0.1
                      (fun z_5 z_6 z_7 z_8 z_9 z_10 z_11 => (
                        f204B_L16 n n z_5 z_6 z_7 z_8 z_9 z_10 z_11
                          (fun z_20 z_21 => (
                            some (z_20, z_21))))))))))))))
def f204B_E (n : Nat) : Ent3 := ⟨204, [.one (.win 3 hI), .im hIs], [[.im hI]], fun x => f204B n x.1 x.2⟩
def f204B_D (α : Type) (n : Nat) : D3 α := { reg := [(2, ⟨17, [], []⟩), (3, ⟨13, [], []⟩)], join := [(11, f204B_J11), (14, f204B_J14), (25, f204B_J25)], loop := [(6, ⟨f204B_L6H, f204B_L6O, rounds (f204B_L6U n) n⟩), (20, ⟨f204B_L20H, f204B_L20O, rounds (f204B_L20U n) n⟩), (16, ⟨f204B_L16H, f204B_L16O, rounds (f204B_L16U n) n⟩)] }
theorem f204B_ents (α : Type) (n : Nat) : AllS Tryz.prog (entsOf (f204B_D α n).reg) := trivial
theorem f204B_L6_d (α : Type) (n : Nat) : D3.OK Tryz.prog (tyOf Tryz.prog) ⟨121, []⟩ (f204B_D α n) ((bodyOf Tryz.f204).at [1, 1, 1, 1, 1, 0, 1, 0, 0]) :=
  D3.OK.mk3 (f204B_ents α n) (show loopsOf ((bodyOf Tryz.f204).at [1, 1, 1, 1, 1, 0, 1, 0, 0]) = [] by kernel_rfl) trivial
theorem f204B_L6_ok (α : Type) (n : Nat) : LO.Sound (α := α) Tryz.prog ⟨121, []⟩ ⟨f204B_L6H, f204B_L6O, rounds (f204B_L6U n) n⟩ (.loop ((bodyOf Tryz.f204).at [1, 1, 1, 1, 1, 0, 1, 0, 0])) :=
  loop_ok (tyOf_ok _) prog_fol (f204B_L6U n) (f204B_L6_d α n) (by intro v f ks; kernel_rfl) n
theorem f204B_L20_d (α : Type) (n : Nat) : D3.OK Tryz.prog (tyOf Tryz.prog) ⟨121, []⟩ (f204B_D α n) ((bodyOf Tryz.f204).at [1, 1, 1, 1, 1, 1, 0, 0, 0, 1, 0, 1, 1, 0, 1, 0, 0]) :=
  D3.OK.mk3 (f204B_ents α n) (show loopsOf ((bodyOf Tryz.f204).at [1, 1, 1, 1, 1, 1, 0, 0, 0, 1, 0, 1, 1, 0, 1, 0, 0]) = [] by kernel_rfl) trivial
theorem f204B_L20_ok (α : Type) (n : Nat) : LO.Sound (α := α) Tryz.prog ⟨121, []⟩ ⟨f204B_L20H, f204B_L20O, rounds (f204B_L20U n) n⟩ (.loop ((bodyOf Tryz.f204).at [1, 1, 1, 1, 1, 1, 0, 0, 0, 1, 0, 1, 1, 0, 1, 0, 0])) :=
  loop_ok (tyOf_ok _) prog_fol (f204B_L20U n) (f204B_L20_d α n) (by intro v f ks; kernel_rfl) n
theorem f204B_L16_d (α : Type) (n : Nat) : D3.OK Tryz.prog (tyOf Tryz.prog) ⟨121, []⟩ (f204B_D α n) ((bodyOf Tryz.f204).at [1, 1, 1, 1, 1, 1, 0, 0, 0]) :=
  D3.OK.mk3 (f204B_ents α n) (show loopsOf ((bodyOf Tryz.f204).at [1, 1, 1, 1, 1, 1, 0, 0, 0]) = [(20, (.loop ((bodyOf Tryz.f204).at [1, 1, 1, 1, 1, 1, 0, 0, 0, 1, 0, 1, 1, 0, 1, 0, 0])))] by kernel_rfl) ⟨look_sound rfl (f204B_L20_ok α n), trivial⟩
theorem f204B_L16_ok (α : Type) (n : Nat) : LO.Sound (α := α) Tryz.prog ⟨121, []⟩ ⟨f204B_L16H, f204B_L16O, rounds (f204B_L16U n) n⟩ (.loop ((bodyOf Tryz.f204).at [1, 1, 1, 1, 1, 1, 0, 0, 0])) :=
  loop_ok (tyOf_ok _) prog_fol (f204B_L16U n) (f204B_L16_d α n) (by intro v f ks; kernel_rfl) n
theorem f204B_d (α : Type) (n : Nat) : D3.OK Tryz.prog (tyOf Tryz.prog) ⟨121, []⟩ (f204B_D α n) (bodyOf Tryz.f204) :=
  D3.OK.mk3 (f204B_ents α n) (show loopsOf (bodyOf Tryz.f204) = [(6, (.loop ((bodyOf Tryz.f204).at [1, 1, 1, 1, 1, 0, 1, 0, 0]))), (16, (.loop ((bodyOf Tryz.f204).at [1, 1, 1, 1, 1, 1, 0, 0, 0])))] by kernel_rfl) ⟨look_sound rfl (f204B_L6_ok α n), look_sound rfl (f204B_L16_ok α n), trivial⟩
theorem f204B_ok (n : Nat) : (f204B_E n).Sound Tryz.prog :=
  fn_okB (tyOf_ok _) prog_fol (f204B_D _ n) (show Tryz.prog.funcs[204]? = some Tryz.f204 by kernel_rfl) (by kernel_rfl) (show Tryz.f204.body = some (bodyOf Tryz.f204) by kernel_rfl) rfl rfl (Nat.le_of_ble_eq_true rfl) (f204B_d _ n) (by intro x; kernel_rfl) 


def f184_L7B {α : Type} (n : Nat) (i : Nat) (z : Int) (s29 : List Int) (c3_0 : List Int) (c8_0 : Int) (b27 : List Int) (f : (List Int) → (List Int) → Int → (List Int) → Option α) (k0 : Int → (List Int) → Option α) : Option α :=
  gd (decide (0 < (c3_0.length : Int))) (
    gd (decide ((c3_0.getD 0 0) ≠ 0)) (
      gd (decide (0 < (c3_0.length : Int))) (
        gd (decide ((c3_0.getD 0 0) ≠ 0)) (
          gd (decide (0 ≤ (i : Int)) && decide ((i : Int) < (b27.length : Int))) (
            gd (decide ((i : Int).toNat < b27.length)) (
              f s29 c3_0 (Int.tmod (W ((W (c8_0 * 10000)) + z)) (c3_0.getD 0 0)) (b27.set ((i : Int).toNat) (W (Int.tdiv (W ((W (c8_0 * 10000)) + z)) (c3_0.getD 0 0))))))))))
abbrev f184_L7H : Tm := ⟨[(3, .k (.hp 3 0 0)), (7, .k (.hp 7 0 0)), (8, .k (.hp 8 0 0)), (29, .d (.clo 223 (.ref hIs)))], [(3, .var 28 true false [.d hIs]), (7, .var 28 false false [.k (.hw 27)]), (8, .var 3 true false [.d hI]), (27, .arr 3 hI false)], [], []⟩
abbrev f184_L7X0 : Tm := ⟨[(7, .k (.hp 7 0 0)), (8, .k (.hp 8 0 0))], [(7, .var 28 false false [.k (.hw 27)]), (8, .var 3 true false [.d hI]), (27, .arr 3 hI false)], [3], []⟩
abbrev f184_L7O : List (Exit × Tm) := [(.normal, f184_L7X0)]
def f184_L7Z (v : f184_L7H.den) : List Int := (fun s29 c3_0 c8_0 b27 => s29) v.1.2.2.2.1 v.2.1.1 v.2.2.2.1.1 v.2.2.2.2.1
def f184_L7U {α : Type} (n : Nat) (i : Nat) (z : Int) (v : f184_L7H.den) (f : f184_L7H.den → Option α) (ks : KS α f184_L7O) : Option α := f184_L7B n i z v.1.2.2.2.1 v.2.1.1 v.2.2.2.1.1 v.2.2.2.2.1 (fun s29 c3_0 c8_0 b27 => f (((), (), (), s29, ()), ((c3_0, ()), ((), ()), (c8_0, ()), b27, ()))) (fun w0 w1 => ks.1 (((), (), ()), (((), ()), (w0, ()), w1, ())))
def f184_L7N {α : Type} (v : f184_L7H.den) (ks : KS α f184_L7O) : Option α := (fun s29 c3_0 c8_0 b27 => ks.1 (((), (), ()), (((), ()), (c8_0, ()), b27, ()))) v.1.2.2.2.1 v.2.1.1 v.2.2.2.1.1 v.2.2.2.2.1
def f184_L7 {α : Type} (n : Nat) (s29 : List Int) (c3_0 : List Int) (c8_0 : Int) (b27 : List Int) (k0 : Int → (List Int) → Option α) : Option α := rangeR f184_L7Z (f184_L7U n) f184_L7N (((), (), (), s29, ()), ((c3_0, ()), ((), ()), (c8_0, ()), b27, ())) (fun w => k0 w.2.2.1.1 w.2.2.2.1, ())
def f184_L7R {α : Type} (n : Nat) (zs : List Int) (i : Nat) (s29 : List Int) (c3_0 : List Int) (c8_0 : Int) (b27 : List Int) (k0 : Int → (List Int) → Option α) : Option α := rangeB f184_L7Z (f184_L7U n) zs i (((), (), (), s29, ()), ((c3_0, ()), ((), ()), (c8_0, ()), b27, ())) (fun v => f184_L7N v (fun w => k0 w.2.2.1.1 w.2.2.2.1, ())) (fun w => k0 w.2.2.1.1 w.2.2.2.1, ())
theorem f184_L7_e {α : Type} (n : Nat) (s29 : List Int) (c3_0 : List Int) (c8_0 : Int) (b27 : List Int) (k0 : Int → (List Int) → Option α) : f184_L7 (α := α) n s29 c3_0 c8_0 b27 k0 = gd (decide (s29.length ≤ 4611686018427387904)) (f184_L7R n s29 s29.length s29 c3_0 c8_0 b27 k0) := rfl
theorem f184_L7_0 {α : Type} (n : Nat) (zs : List Int) (s29 : List Int) (c3_0 : List Int) (c8_0 : Int) (b27 : List Int) (k0 : Int → (List Int) → Option α) : f184_L7R (α := α) n zs 0 s29 c3_0 c8_0 b27 k0 = k0 c8_0 b27 := rfl
theorem f184_L7_s {α : Type} (n : Nat) (zs : List Int) (i : Nat) (s29 : List Int) (c3_0 : List Int) (c8_0 : Int) (b27 : List Int) (k0 : Int → (List Int) → Option α) : f184_L7R (α := α) n zs (i + 1) s29 c3_0 c8_0 b27 k0 = f184_L7B n i (zs.getD i 0) s29 c3_0 c8_0 b27 (fun s29 c3_0 c8_0 b27 => gd (decide (s29 = zs)) (f184_L7R n zs i s29 c3_0 c8_0 b27 k0)) k0 := rfl
def f184_L14B {α : Type} (n : Nat) (s6 : Int) (s13 : Int) (c3_0 : List Int) (b62 : List Int) (b310 : List Int) (f : Int → Int → (List Int) → (List Int) → (List Int) → Option α) (k0 : (List Int) → (List Int) → Option α) : Option α :=
  bif (decide (s13 ≥ 0)) then
    gd (decide (0 ≤ s13) && decide (s13 ≤ (W ((W (s13 + s6)) + 1))) && decide ((W ((W (s13 + s6)) + 1)) ≤ (b310.length : Int))) (
      ob (f204B n (b310, s13.toNat, ((W ((W (s13 + s6)) + 1)).toNat - s13.toNat)) c3_0) fun r_9 =>
      gd (Nat.beq r_9.2.length b310.length && true) (
        gd (decide (0 ≤ s13) && decide (s13 < (b62.length : Int))) (
          gd (decide (s13.toNat < b62.length)) (
            f s6 (W (s13 - 1)) c3_0 (b62.set s13.toNat r_9.1) r_9.2))))
  else
    k0 b62 b310
abbrev f184_L14H : Tm := ⟨[(3, .k (.hp 3 0 0)), (6, .d hI), (11, .k (.hw 310)), (12, .k (.hw 62)), (13, .d hI)], [(3, .var 28 true false [.d hIs]), (62, .arr 3 hI false), (310, .arr 3 hI false)], [55], []⟩
abbrev f184_L14X0 : Tm := ⟨[(11, .k (.hw 310)), (12, .k (.hw 62))], [(62, .arr 3 hI false), (310, .arr 3 hI false)], [3], []⟩
abbrev f184_L14O : List (Exit × Tm) := [(.exit 2, f184_L14X0)]
def f184_L14U {α : Type} (n : Nat) (v : f184_L14H.den) (f : f184_L14H.den → Option α) (ks : KS α f184_L14O) : Option α := f184_L14B n v.1.2.1 v.1.2.2.2.2.1 v.2.1.1 v.2.2.1 v.2.2.2.1 (fun s6 s13 c3_0 b62 b310 => f (((), s6, (), (), s13, ()), ((c3_0, ()), b62, b310, ()))) (fun w0 w1 => ks.1 (((), (), ()), (w0, w1, ())))
def f184_L14 {α : Type} (n m : Nat) (s6 : Int) (s13 : Int) (c3_0 : List Int) (b62 : List Int) (b310 : List Int) (k0 : (List Int) → (List Int) → Option α) : Option α := rounds (f184_L14U n) m (((), s6, (), (), s13, ()), ((c3_0, ()), b62, b310, ())) (fun w => k0 w.2.1 w.2.2.1, ())
theorem f184_L14_0 {α : Type} (n : Nat) (s6 : Int) (s13 : Int) (c3_0 : List Int) (b62 : List Int) (b310 : List Int) (k0 : (List Int) → (List Int) → Option α) : f184_L14 (α := α) n 0 s6 s13 c3_0 b62 b310 k0 = none := rfl
theorem f184_L14_s {α : Type} (n m : Nat) (s6 : Int) (s13 : Int) (c3_0 : List Int) (b62 : List Int) (b310 : List Int) (k0 : (List Int) → (List Int) → Option α) : f184_L14 (α := α) n (m + 1) s6 s13 c3_0 b62 b310 k0 = f184_L14B n s6 s13 c3_0 b62 b310 (fun s6 s13 c3_0 b62 b310 => f184_L14 n m s6 s13 c3_0 b62 b310 k0) k0 := rfl
abbrev f184_G10 : Tm := ⟨[(3, .k (.hp 3 0 0)), (7, .k (.hp 7 0 0)), (8, .k (.hp 8 0 0)), (9, .d hI), (10, .d hI), (29, .d (.clo 223 (.ref hIs))), (30, .d hI), (31, .d hI)], [(3, .var 28 true false [.d hIs]), (7, .var 28 false false [.k (.hw 27)]), (8, .var 3 true false [.d hI]), (27, .arr 3 hI false)], [], []⟩
abbrev f184_G11 : Tm := ⟨[(7, .k (.hp 7 0 0)), (8, .k (.hp 8 0 0))], [(7, .var 28 false false [.k (.hw 27)]), (8, .var 3 true false [.d hI]), (27, .arr 3 hI false)], [], []⟩
abbrev f184_G12 : Tm := ⟨[(0, .d hIs), (3, .k (.hp 3 0 0)), (6, .d hI)], [(3, .var 28 true false [.d hIs])], [], []⟩
abbrev f184_G16 : Tm := ⟨[(3, .k (.hp 3 0 0)), (6, .d hI), (11, .k (.hw 310)), (12, .k (.hw 62)), (13, .d hI)], [(3, .var 28 true false [.d hIs]), (62, .arr 3 hI false), (310, .arr 3 hI false)], [], []⟩
def f184 (n : Nat) (a0 : List Int) (a1 : List Int) : Option ((List Int) × (List Int)) :=
  ob (f170 n a0 a1) fun r_1 =>
  bif (decide (r_1 < 0)) then
    ob (f145 n a0) fun r_2 =>
    some ([], r_2)
  else
    bif ((a1.length : Int) == 1) then
      gd (decide (0 ≤ (a0.length : Int)) && decide ((a0.length : Int) ≤ 4611686018427387904) && decide ((8 : Int) * (a0.length : Int) ≤ 281474976710656)) (
        ob (f201 n a0) fun r_3 =>
        f184_L7 n r_3 a1 0 (List.replicate ((a0.length : Int).toNat) 0)
          (fun z_4 z_5 => (
            ob (f185 n z_5) fun r_6 =>
            ob (f160 n z_4) fun r_7 =>
            some (r_6, r_7))))
    else
      ob (f145B n a0) fun r_8 =>
      gd (decide ((r_8.length + 1) * 8 ≤ 140737488355328)) (
        gd (decide (0 ≤ (W ((W ((a0.length : Int) - (a1.length : Int))) + 1))) && decide ((W ((W ((a0.length : Int) - (a1.length : Int))) + 1)) ≤ 4611686018427387904) && decide ((8 : Int) * (W ((W ((a0.length : Int) - (a1.length : Int))) + 1)) ≤ 281474976710656)) (
          f184_L14 n n (a1.length : Int) (W ((a0.length : Int) - (a1.length : Int))) a1 (List.replicate ((W ((W ((a0.length : Int) - (a1.length : Int))) + 1)).toNat) 0) (r_8 ++ [0])
            (fun z_10 z_11 => (
              ob (f185 n z_10) fun r_12 =>
              ob (f185 n z_11) fun r_13 =>
              some (r_12, r_13)))))
def f184_E (n : Nat) : Ent := ⟨184, [hIs, hIs], [hIs, hIs], fun x => f184 n x.1 x.2⟩
def f184_D (α : Type) (n : Nat) : D3 α := { reg := [(1, ⟨0, [], [(2, { ent := some (f170_E n) })]⟩), (2, ⟨0, [], [(0, { sh := some hI }), (2, { ent := some (f145_E n) })]⟩), (6, ⟨0, [], [(1, { ent := some (f201_E n) })]⟩), (11, ⟨0, [], [(1, { ent := some (f185_E n), fz := [(49, hIs)] }), (3, { ent := some (f160_E n) })]⟩), (12, ⟨0, [], [(1, { entB := some (f145B_E n), hb := 310 }), (2, { sh := some hI })]⟩), (16, ⟨0, [], [(10, { entB := some (f204B_E n), hb := 320 })]⟩), (17, ⟨0, [], [(1, { ent := some (f185_E n), fz := [(83, hIs)] }), (3, { ent := some (f185_E n), fz := [(85, hIs)] })]⟩)], join := [], loop := [(7, ⟨f184_L7H, f184_L7O, rangeR f184_L7Z (f184_L7U n) f184_L7N⟩), (14, ⟨f184_L14H, f184_L14O, rounds (f184_L14U n) n⟩)], any := [(10, f184_G10), (11, f184_G11), (12, f184_G12), (16, f184_G16)] }
theorem f184_A10 (n : Nat) : FamAll (tyOf Tryz.prog) ⟨87, []⟩ [] f184_G10 (regOps ((bodyOf Tryz.f184).at [1, 1, 1, 0, 1, 0, 1, 0, 1, 0, 1, 0, 1])) := by
  refine ⟨by kernel_rfl, fun w q hq => ?_⟩
  have e : WT [] (swapIdx (regOps ((bodyOf Tryz.f184).at [1, 1, 1, 0, 1, 0, 1, 0, 1, 0, 1, 0, 1])).toList) q = (q = []) := by kernel_rfl
  rw [e] at hq
  obtain rfl := hq
  exact FamEq.mk (by kernel_rfl)
theorem f184_A11 (n : Nat) : FamAll (tyOf Tryz.prog) ⟨87, []⟩ [(1, { ent := some (f185_E n), fz := [(49, hIs)] }), (3, { ent := some (f160_E n) })] f184_G11 (regOps ((bodyOf Tryz.f184).at [1, 1, 1, 0, 1, 0, 1, 1, 0])) := by
  refine ⟨by kernel_rfl, fun w q hq => ?_⟩
  have e : WT [(1, { ent := some (f185_E n), fz := [(49, hIs)] }), (3, { ent := some (f160_E n) })] (swapIdx (regOps ((bodyOf Tryz.f184).at [1, 1, 1, 0, 1, 0, 1, 1, 0])).toList) q = (∃ (y0 : HL (f185_E n).rs) (q0 : List (Nat × RV)), q = (1, .sv (resSV (f185_E n).rs y0)) :: q0 ∧ ∃ (y1 : HL (f160_E n).rs) (q1 : List (Nat × RV)), q0 = (3, .sv (resSV (f160_E n).rs y1)) :: q1 ∧ q1 = []) := by kernel_rfl
  rw [e] at hq
  obtain ⟨y0, q0, rfl, y1, q1, rfl, rfl⟩ := hq
  exact FamEq.mk (by kernel_rfl)
theorem f184_A12 (n : Nat) : FamAll (tyOf Tryz.prog) ⟨87, []⟩ [(1, { entB := some (f145B_E n), hb := 310 }), (2, { sh := some hI })] f184_G12 (regOps ((bodyOf Tryz.f184).at [1, 1, 1, 1, 0])) := by
  refine ⟨by kernel_rfl, fun w q hq => ?_⟩
  have e : WT [(1, { entB := some (f145B_E n), hb := 310 }), (2, { sh := some hI })] (swapIdx (regOps ((bodyOf Tryz.f184).at [1, 1, 1, 1, 0])).toList) q = (∃ (y0 : HF (ownsP 1000 (f145B_E n).ts) (f145B_E n).forms) (q0 : List (Nat × RV)), q = (1, .bx (f145B_E n) y0) :: q0 ∧ q0 = []) := by kernel_rfl
  rw [e] at hq
  obtain ⟨y0, q0, rfl, rfl⟩ := hq
  exact FamEq.mk (by kernel_rfl)
theorem f184_A16 (n : Nat) : FamAll (tyOf Tryz.prog) ⟨87, []⟩ [(10, { entB := some (f204B_E n), hb := 320 })] f184_G16 (regOps ((bodyOf Tryz.f184).at [1, 1, 1, 1, 1, 0, 1, 0, 0, 1, 0, 0])) := by
  refine ⟨by kernel_rfl, fun w q hq => ?_⟩
  have e : WT [(10, { entB := some (f204B_E n), hb := 320 })] (swapIdx (regOps ((bodyOf Tryz.f184).at [1, 1, 1, 1, 1, 0, 1, 0, 0, 1, 0, 0])).toList) q = (∃ (y0 : HF (ownsP 1000 (f204B_E n).ts) (f204B_E n).forms) (q0 : List (Nat × RV)), q = (10, .bx (f204B_E n) y0) :: q0 ∧ q0 = []) := by kernel_rfl
  rw [e] at hq
  obtain ⟨y0, q0, rfl, rfl⟩ := hq
  exact FamEq.mk (by kernel_rfl)
theorem f184_ents (α : Type) (n : Nat) : AllS Tryz.prog (entsOf (f184_D α n).reg) := ⟨f170_ok n, f145_ok n, f201_ok n, f185_ok n, f160_ok n, f145B_ok n, f204B_ok n, f185_ok n, f185_ok n, trivial⟩
theorem f184_L7A_d (α : Type) (n : Nat) : D3.OK Tryz.prog (tyOf Tryz.prog) ⟨87, []⟩ (f184_D α n) ((bodyOf Tryz.f184).at [1, 1, 1, 0, 1, 0, 1, 0, 1, 0, 0]) :=
  D3.OK.mk3a (f184_ents α n) (show loopsOf ((bodyOf Tryz.f184).at [1, 1, 1, 0, 1, 0, 1, 0, 1, 0, 0]) = [] by kernel_rfl) trivial (show anysOf ((bodyOf Tryz.f184).at [1, 1, 1, 0, 1, 0, 1, 0, 1, 0, 0]) = [] by kernel_rfl) trivial
theorem f184_L7B_d (α : Type) (n : Nat) : D3.OK Tryz.prog (tyOf Tryz.prog) ⟨87, []⟩ (f184_D α n) ((bodyOf Tryz.f184).at [1, 1, 1, 0, 1, 0, 1, 0, 1, 0, 1]) :=
  D3.OK.mk3a (f184_ents α n) (show loopsOf ((bodyOf Tryz.f184).at [1, 1, 1, 0, 1, 0, 1, 0, 1, 0, 1]) = [] by kernel_rfl) trivial (show anysOf ((bodyOf Tryz.f184).at [1, 1, 1, 0, 1, 0, 1, 0, 1, 0, 1]) = [(10, regOps ((bodyOf Tryz.f184).at [1, 1, 1, 0, 1, 0, 1, 0, 1, 0, 1, 0, 1]))] by kernel_rfl) ⟨fun X h => by cases h; exact f184_A10 n, trivial⟩
theorem f184_L7_ok (α : Type) (n : Nat) : LO.Sound (α := α) Tryz.prog ⟨87, []⟩ ⟨f184_L7H, f184_L7O, rangeR f184_L7Z (f184_L7U n) f184_L7N⟩ (.rangeFunc (.tmp 29) #[30, 31] ((bodyOf Tryz.f184).at [1, 1, 1, 0, 1, 0, 1, 0, 1, 0, 0]) ((bodyOf Tryz.f184).at [1, 1, 1, 0, 1, 0, 1, 0, 1, 0, 1])) :=
  range_ok (tyOf_ok _) prog_fol f184_L7Z (f184_L7U n) f184_L7N back_ok rfl rfl rfl rfl (f184_L7A_d α n) (f184_L7B_d α n) (by intro v; rfl) (by intro i z v f ks; kernel_rfl) (by intro v ks; kernel_rfl)
theorem f184_L14_d (α : Type) (n : Nat) : D3.OK Tryz.prog (tyOf Tryz.prog) ⟨87, []⟩ (f184_D α n) ((bodyOf Tryz.f184).at [1, 1, 1, 1, 1, 0, 1, 0, 0]) :=
  D3.OK.mk3a (f184_ents α n) (show loopsOf ((bodyOf Tryz.f184).at [1, 1, 1, 1, 1, 0, 1, 0, 0]) = [] by kernel_rfl) trivial (show anysOf ((bodyOf Tryz.f184).at [1, 1, 1, 1, 1, 0, 1, 0, 0]) = [(16, regOps ((bodyOf Tryz.f184).at [1, 1, 1, 1, 1, 0, 1, 0, 0, 1, 0, 0]))] by kernel_rfl) ⟨fun X h => by cases h; exact f184_A16 n, trivial⟩
theorem f184_L14_ok (α : Type) (n : Nat) : LO.Sound (α := α) Tryz.prog ⟨87, []⟩ ⟨f184_L14H, f184_L14O, rounds (f184_L14U n) n⟩ (.loop ((bodyOf Tryz.f184).at [1, 1, 1, 1, 1, 0, 1, 0, 0])) :=
  loop_ok (tyOf_ok _) prog_fol (f184_L14U n) (f184_L14_d α n) (by intro v f ks; kernel_rfl) n
theorem f184_d (α : Type) (n : Nat) : D3.OK Tryz.prog (tyOf Tryz.prog) ⟨87, []⟩ (f184_D α n) (bodyOf Tryz.f184) :=
  D3.OK.mk3a (f184_ents α n) (show loopsOf (bodyOf Tryz.f184) = [(7, (.rangeFunc (.tmp 29) #[30, 31] ((bodyOf Tryz.f184).at [1, 1, 1, 0, 1, 0, 1, 0, 1, 0, 0]) ((bodyOf Tryz.f184).at [1, 1, 1, 0, 1, 0, 1, 0, 1, 0, 1]))), (14, (.loop ((bodyOf Tryz.f184).at [1, 1, 1, 1, 1, 0, 1, 0, 0])))] by kernel_rfl) ⟨look_sound rfl (f184_L7_ok α n), look_sound rfl (f184_L14_ok α n), trivial⟩ (show anysOf (bodyOf Tryz.f184) = [(11, regOps ((bodyOf Tryz.f184).at [1, 1, 1, 0, 1, 0, 1, 1, 0])), (12, regOps ((bodyOf Tryz.f184).at [1, 1, 1, 1, 0]))] by kernel_rfl) ⟨fun X h => by cases h; exact f184_A11 n, fun X h => by cases h; exact f184_A12 n, trivial⟩
theorem f184_ok (n : Nat) : (f184_E n).Sound Tryz.prog :=
  fn_ok (tyOf_ok _) prog_fol (f184_D _ n) (show Tryz.prog.funcs[184]? = some Tryz.f184 by kernel_rfl) (by kernel_rfl) (show Tryz.f184.body = some (bodyOf Tryz.f184) by kernel_rfl) rfl rfl (Nat.le_of_ble_eq_true rfl) (f184_d _ n) (by intro x; kernel_rfl) 


def f183_L1B {α : Type} (n : Nat) (s0 : List Int) (s1 : List Int) (f : (List Int) → (List Int) → Option α) (k0 : (List Int) → Option α) : Option α :=
  bif (decide ((s1.length : Int) > 0)) then
    ob (f184 n s0 s1) fun r_1 =>
    f s1 r_1.2
  else
    k0 s0
abbrev f183_L1H : Tm := ⟨[(0, .d hIs), (1, .d hIs)], [], [], []⟩
abbrev f183_L1X0 : Tm := ⟨[(0, .d hIs)], [], [], []⟩
abbrev f183_L1O : List (Exit × Tm) := [(.exit 0, f183_L1X0)]
def f183_L1U {α : Type} (n : Nat) (v : f183_L1H.den) (f : f183_L1H.den → Option α) (ks : KS α f183_L1O) : Option α := f183_L1B n v.1.1 v.1.2.1 (fun s0 s1 => f ((s0, s1, ()), ())) (fun w0 => ks.1 ((w0, ()), ()))
def f183_L1 {α : Type} (n m : Nat) (s0 : List Int) (s1 : List Int) (k0 : (List Int) → Option α) : Option α := rounds (f183_L1U n) m ((s0, s1, ()), ()) (fun w => k0 w.1.1, ())
theorem f183_L1_0 {α : Type} (n : Nat) (s0 : List Int) (s1 : List Int) (k0 : (List Int) → Option α) : f183_L1 (α := α) n 0 s0 s1 k0 = none := rfl
theorem f183_L1_s {α : Type} (n m : Nat) (s0 : List Int) (s1 : List Int) (k0 : (List Int) → Option α) : f183_L1 (α := α) n (m + 1) s0 s1 k0 = f183_L1B n s0 s1 (fun s0 s1 => f183_L1 n m s0 s1 k0) k0 := rfl
def f183 (n : Nat) (a0 : List Int) (a1 : List Int) : Option (List Int) :=
  f183_L1 n n a0 a1
    (fun z_2 => (
      some z_2))
def f183_E (n : Nat) : Ent := ⟨183, [hIs, hIs], [hIs], fun x => f183 n x.1 x.2⟩
def f183_D (α : Type) (n : Nat) : D3 α := { reg := [(2, ⟨0, [], [(2, { ent := some (f184_E n) })]⟩)], join := [], loop := [(1, ⟨f183_L1H, f183_L1O, rounds (f183_L1U n) n⟩)] }
theorem f183_ents (α : Type) (n : Nat) : AllS Tryz.prog (entsOf (f183_D α n).reg) := ⟨f184_ok n, trivial⟩
theorem f183_L1_d (α : Type) (n : Nat) : D3.OK Tryz.prog (tyOf Tryz.prog) ⟨19, []⟩ (f183_D α n) ((bodyOf Tryz.f183).at [1, 0, 0, 0]) :=
  D3.OK.mk3 (f183_ents α n) (show loopsOf ((bodyOf Tryz.f183).at [1, 0, 0, 0]) = [] by kernel_rfl) trivial
theorem f183_L1_ok (α : Type) (n : Nat) : LO.Sound (α := α) Tryz.prog ⟨19, []⟩ ⟨f183_L1H, f183_L1O, rounds (f183_L1U n) n⟩ (.loop ((bodyOf Tryz.f183).at [1, 0, 0, 0])) :=
  loop_ok (tyOf_ok _) prog_fol (f183_L1U n) (f183_L1_d α n) (by intro v f ks; kernel_rfl) n
theorem f183_d (α : Type) (n : Nat) : D3.OK Tryz.prog (tyOf Tryz.prog) ⟨19, []⟩ (f183_D α n) (bodyOf Tryz.f183) :=
  D3.OK.mk3 (f183_ents α n) (show loopsOf (bodyOf Tryz.f183) = [(1, (.loop ((bodyOf Tryz.f183).at [1, 0, 0, 0])))] by kernel_rfl) ⟨look_sound rfl (f183_L1_ok α n), trivial⟩
theorem f183_ok (n : Nat) : (f183_E n).Sound Tryz.prog :=
  fn_ok (tyOf_ok _) prog_fol (f183_D _ n) (show Tryz.prog.funcs[183]? = some Tryz.f183 by kernel_rfl) (by kernel_rfl) (show Tryz.f183.body = some (bodyOf Tryz.f183) by kernel_rfl) rfl rfl (Nat.le_of_ble_eq_true rfl) (f183_d _ n) (by intro x; kernel_rfl) 


def f161 (n : Nat)  : Option (List Int) :=
  some [1]
def f161_E (n : Nat) : Ent := ⟨161, [], [hIs], fun _ => f161 n⟩
def f161_D (α : Type) (n : Nat) : D3 α := { reg := [(1, ⟨0, [], [(0, { sh := some hI })]⟩)], join := [], loop := [] }
theorem f161_ents (α : Type) (n : Nat) : AllS Tryz.prog (entsOf (f161_D α n).reg) := trivial
theorem f161_d (α : Type) (n : Nat) : D3.OK Tryz.prog (tyOf Tryz.prog) ⟨2, []⟩ (f161_D α n) (bodyOf Tryz.f161) :=
  D3.OK.mk3 (f161_ents α n) (show loopsOf (bodyOf Tryz.f161) = [] by kernel_rfl) trivial
theorem f161_ok (n : Nat) : (f161_E n).Sound Tryz.prog :=
  fn_ok (tyOf_ok _) prog_fol (f161_D _ n) (show Tryz.prog.funcs[161]? = some Tryz.f161 by kernel_rfl) (by kernel_rfl) (show Tryz.f161.body = some (bodyOf Tryz.f161) by kernel_rfl) rfl rfl (Nat.le_of_ble_eq_true rfl) (f161_d _ n) (by intro x; kernel_rfl) 


abbrev f163_J3 : Tm := ⟨[(1, .k (.hp 1 0 0))], [(1, .var 30 true false [.d .bool, .d hIs, .d hIs])], [], []⟩
def f163 (n : Nat) (a0 : Bool × (List Int) × (List Int)) : Option Bool :=
  let J_7 := fun (_ : Unit) => (
    ob (f183 n a0.2.1 a0.2.2) fun r_4 =>
    ob (f161 n) fun r_5 =>
    ob (f170 n r_4 r_5) fun r_6 =>
    some (r_6 == 0))
  ob (f197 n a0.2.1) fun r_1 =>
  bif (!r_1) then
    some false
  else
    ob (f197 n a0.2.2) fun r_2 =>
    bif (!r_2) then
      some false
    else
      bif ((a0.2.2.length : Int) == 0) then
        some false
      else
        bif a0.1 then
          ob (f74 n a0) fun r_3 =>
          bif r_3 then
            some false
          else
            J_7 ()
        else
          J_7 ()
def f163_E (n : Nat) : Ent := ⟨163, [hR], [.bool], fun x => f163 n x⟩
def f163_D (α : Type) (n : Nat) : D3 α := { reg := [(1, ⟨0, [], [(2, { ent := some (f197_E n) }), (7, { ent := some (f197_E n) }), (21, { ent := some (f74_E n) })]⟩), (3, ⟨0, [], [(4, { ent := some (f183_E n) }), (5, { ent := some (f161_E n) }), (6, { ent := some (f170_E n) })]⟩)], join := [(3, f163_J3)], loop := [] }
theorem f163_ents (α : Type) (n : Nat) : AllS Tryz.prog (entsOf (f163_D α n).reg) := ⟨f197_ok n, f197_ok n, f74_ok n, f183_ok n, f161_ok n, f170_ok n, trivial⟩
theorem f163_d (α : Type) (n : Nat) : D3.OK Tryz.prog (tyOf Tryz.prog) ⟨35, []⟩ (f163_D α n) (bodyOf Tryz.f163) :=
  D3.OK.mk3 (f163_ents α n) (show loopsOf (bodyOf Tryz.f163) = [] by kernel_rfl) trivial
theorem f163_ok (n : Nat) : (f163_E n).Sound Tryz.prog :=
  fn_ok (tyOf_ok _) prog_fol (f163_D _ n) (show Tryz.prog.funcs[163]? = some Tryz.f163 by kernel_rfl) (by kernel_rfl) (show Tryz.f163.body = some (bodyOf Tryz.f163) by kernel_rfl) rfl rfl (Nat.le_of_ble_eq_true rfl) (f163_d _ n) (by intro x; kernel_rfl) 


def f162 (n : Nat) (a0 : Bool × (List Int) × (List Int)) : Option Bool :=
  ob (f163 n a0) fun r_1 =>
  some (!r_1)
def f162_E (n : Nat) : Ent := ⟨162, [hR], [.bool], fun x => f162 n x⟩
def f162_D (α : Type) (n : Nat) : D3 α := { reg := [(1, ⟨0, [], [(1, { ent := some (f163_E n) })]⟩)], join := [], loop := [] }
theorem f162_ents (α : Type) (n : Nat) : AllS Tryz.prog (entsOf (f162_D α n).reg) := ⟨f163_ok n, trivial⟩
theorem f162_d (α : Type) (n : Nat) : D3.OK Tryz.prog (tyOf Tryz.prog) ⟨6, []⟩ (f162_D α n) (bodyOf Tryz.f162) :=
  D3.OK.mk3 (f162_ents α n) (show loopsOf (bodyOf Tryz.f162) = [] by kernel_rfl) trivial
theorem f162_ok (n : Nat) : (f162_E n).Sound Tryz.prog :=
  fn_ok (tyOf_ok _) prog_fol (f162_D _ n) (show Tryz.prog.funcs[162]? = some Tryz.f162 by kernel_rfl) (by kernel_rfl) (show Tryz.f162.body = some (bodyOf Tryz.f162) by kernel_rfl) rfl rfl (Nat.le_of_ble_eq_true rfl) (f162_d _ n) (by intro x; kernel_rfl) 


def f175_L2B {α : Type} (n : Nat) (s0 : List (Bool × (List Int) × (List Int))) (s7 : Int) (s8 : Int) (f : (List (Bool × (List Int) × (List Int))) → Int → Int → Option α) (k0 : Int → Option α) (k1 : Unit → Option α) : Option α :=
  bif (decide (s8 < s7)) then
    gd (decide (0 ≤ s8) && decide (s8 < (s0.length : Int))) (
      let x_1 := s0.getD s8.toNat (false, [], [])
      ob (f162 n x_1) fun r_2 =>
      bif r_2 then
        k0 s8
      else
        f s0 s7 (W (s8 + 1)))
  else
    k1 ()
abbrev f175_L2H : Tm := ⟨[(0, .d hRs), (1, .d (.fn 162)), (7, .d hI), (8, .d hI)], [], [], []⟩
abbrev f175_L2X0 : Tm := ⟨[(4, .d hI)], [], [], []⟩
abbrev f175_L2X1 : Tm := ⟨[], [], [], []⟩
abbrev f175_L2O : List (Exit × Tm) := [(.ret, f175_L2X0), (.exit 0, f175_L2X1)]
def f175_L2U {α : Type} (n : Nat) (v : f175_L2H.den) (f : f175_L2H.den → Option α) (ks : KS α f175_L2O) : Option α := f175_L2B n v.1.1 v.1.2.2.1 v.1.2.2.2.1 (fun s0 s7 s8 => f ((s0, (), s7, s8, ()), ())) (fun w0 => ks.1 ((w0, ()), ())) (fun _ => ks.2.1 ((), ()))
def f175_L2 {α : Type} (n m : Nat) (s0 : List (Bool × (List Int) × (List Int))) (s7 : Int) (s8 : Int) (k0 : Int → Option α) (k1 : Unit → Option α) : Option α := rounds (f175_L2U n) m ((s0, (), s7, s8, ()), ()) (fun w => k0 w.1.1, fun w => k1 (), ())
theorem f175_L2_0 {α : Type} (n : Nat) (s0 : List (Bool × (List Int) × (List Int))) (s7 : Int) (s8 : Int) (k0 : Int → Option α) (k1 : Unit → Option α) : f175_L2 (α := α) n 0 s0 s7 s8 k0 k1 = none := rfl
theorem f175_L2_s {α : Type} (n m : Nat) (s0 : List (Bool × (List Int) × (List Int))) (s7 : Int) (s8 : Int) (k0 : Int → Option α) (k1 : Unit → Option α) : f175_L2 (α := α) n (m + 1) s0 s7 s8 k0 k1 = f175_L2B n s0 s7 s8 (fun s0 s7 s8 => f175_L2 n m s0 s7 s8 k0 k1) k0 k1 := rfl
def f175 (n : Nat) (a0 : List (Bool × (List Int) × (List Int))) (a1 : Unit) : Option Int :=
  f175_L2 n n a0 (a0.length : Int) 0
    (fun z_3 => (
      some z_3))
    (fun (_ : Unit) => (
      some (-1)))
def f175_E (n : Nat) : Ent := ⟨175, [hRs, (.fn 162)], [hI], fun x => f175 n x.1 x.2⟩
def f175_D (α : Type) (n : Nat) : D3 α := { reg := [(4, ⟨0, [], [(5, { ent := some (f162_E n) })]⟩)], join := [], loop := [(2, ⟨f175_L2H, f175_L2O, rounds (f175_L2U n) n⟩)] }
theorem f175_ents (α : Type) (n : Nat) : AllS Tryz.prog (entsOf (f175_D α n).reg) := ⟨f162_ok n, trivial⟩
theorem f175_L2_d (α : Type) (n : Nat) : D3.OK Tryz.prog (tyOf Tryz.prog) ⟨19, []⟩ (f175_D α n) ((bodyOf Tryz.f175).at [1, 0, 1, 0, 0]) :=
  D3.OK.mk3 (f175_ents α n) (show loopsOf ((bodyOf Tryz.f175).at [1, 0, 1, 0, 0]) = [] by kernel_rfl) trivial
theorem f175_L2_ok (α : Type) (n : Nat) : LO.Sound (α := α) Tryz.prog ⟨19, []⟩ ⟨f175_L2H, f175_L2O, rounds (f175_L2U n) n⟩ (.loop ((bodyOf Tryz.f175).at [1, 0, 1, 0, 0])) :=
  loop_ok (tyOf_ok _) prog_fol (f175_L2U n) (f175_L2_d α n) (by intro v f ks; kernel_rfl) n
theorem f175_d (α : Type) (n : Nat) : D3.OK Tryz.prog (tyOf Tryz.prog) ⟨19, []⟩ (f175_D α n) (bodyOf Tryz.f175) :=
  D3.OK.mk3 (f175_ents α n) (show loopsOf (bodyOf Tryz.f175) = [(2, (.loop ((bodyOf Tryz.f175).at [1, 0, 1, 0, 0])))] by kernel_rfl) ⟨look_sound rfl (f175_L2_ok α n), trivial⟩
theorem f175_ok (n : Nat) : (f175_E n).Sound Tryz.prog :=
  fn_ok (tyOf_ok _) prog_fol (f175_D _ n) (show Tryz.prog.funcs[175]? = some Tryz.f175 by kernel_rfl) (by kernel_rfl) (show Tryz.f175.body = some (bodyOf Tryz.f175) by kernel_rfl) rfl rfl (Nat.le_of_ble_eq_true rfl) (f175_d _ n) (by intro x; kernel_rfl) 


def f111 (n : Nat) (a0 : List (Bool × (List Int) × (List Int))) (a1 : Unit) : Option Bool :=
  ob (f175 n a0 a1) fun r_1 =>
  some (decide (r_1 ≥ 0))
def f111_E (n : Nat) : Ent := ⟨111, [hRs, (.fn 162)], [.bool], fun x => f111 n x.1 x.2⟩
def f111_D (α : Type) (n : Nat) : D3 α := { reg := [(1, ⟨0, [], [(2, { ent := some (f175_E n) })]⟩)], join := [], loop := [] }
theorem f111_ents (α : Type) (n : Nat) : AllS Tryz.prog (entsOf (f111_D α n).reg) := ⟨f175_ok n, trivial⟩
theorem f111_d (α : Type) (n : Nat) : D3.OK Tryz.prog (tyOf Tryz.prog) ⟨9, []⟩ (f111_D α n) (bodyOf Tryz.f111) :=
  D3.OK.mk3 (f111_ents α n) (show loopsOf (bodyOf Tryz.f111) = [] by kernel_rfl) trivial
theorem f111_ok (n : Nat) : (f111_E n).Sound Tryz.prog :=
  fn_ok (tyOf_ok _) prog_fol (f111_D _ n) (show Tryz.prog.funcs[111]? = some Tryz.f111 by kernel_rfl) (by kernel_rfl) (show Tryz.f111.body = some (bodyOf Tryz.f111) by kernel_rfl) rfl rfl (Nat.le_of_ble_eq_true rfl) (f111_d _ n) (by intro x; kernel_rfl) 


def f69 (n : Nat) (a0 : Bool) (a1 : Int) : Option Int :=
  bif a0 then
    some 0
  else
    some a1
def f69_E (n : Nat) : Ent := ⟨69, [.bool, hI], [hI], fun x => f69 n x.1 x.2⟩
def f69_D (α : Type) (n : Nat) : D3 α := { reg := [], join := [], loop := [] }
theorem f69_ents (α : Type) (n : Nat) : AllS Tryz.prog (entsOf (f69_D α n).reg) := trivial
theorem f69_d (α : Type) (n : Nat) : D3.OK Tryz.prog (tyOf Tryz.prog) ⟨7, []⟩ (f69_D α n) (bodyOf Tryz.f69) :=
  D3.OK.mk3 (f69_ents α n) (show loopsOf (bodyOf Tryz.f69) = [] by kernel_rfl) trivial
theorem f69_ok (n : Nat) : (f69_E n).Sound Tryz.prog :=
  fn_ok (tyOf_ok _) prog_fol (f69_D _ n) (show Tryz.prog.funcs[69]? = some Tryz.f69 by kernel_rfl) (by kernel_rfl) (show Tryz.f69.body = some (bodyOf Tryz.f69) by kernel_rfl) rfl rfl (Nat.le_of_ble_eq_true rfl) (f69_d _ n) (by intro x; kernel_rfl) 


def f94 (n : Nat) (a0 : List (Bool × (List Int) × (List Int))) : Option Int :=
  ob (f111 n a0 ()) fun r_1 =>
  ob (f69 n (!r_1) 1) fun r_2 =>
  some r_2
def f94_E (n : Nat) : Ent := ⟨94, [hRs], [hI], fun x => f94 n x⟩
def f94_D (α : Type) (n : Nat) : D3 α := { reg := [(1, ⟨0, [], [(1, { ent := some (f111_E n) }), (3, { ent := some (f69_E n) })]⟩)], join := [], loop := [] }
theorem f94_ents (α : Type) (n : Nat) : AllS Tryz.prog (entsOf (f94_D α n).reg) := ⟨f111_ok n, f69_ok n, trivial⟩
theorem f94_d (α : Type) (n : Nat) : D3.OK Tryz.prog (tyOf Tryz.prog) ⟨7, []⟩ (f94_D α n) (bodyOf Tryz.f94) :=
  D3.OK.mk3 (f94_ents α n) (show loopsOf (bodyOf Tryz.f94) = [] by kernel_rfl) trivial
theorem f94_ok (n : Nat) : (f94_E n).Sound Tryz.prog :=
  fn_ok (tyOf_ok _) prog_fol (f94_D _ n) (show Tryz.prog.funcs[94]? = some Tryz.f94 by kernel_rfl) (by kernel_rfl) (show Tryz.f94.body = some (bodyOf Tryz.f94) by kernel_rfl) rfl rfl (Nat.le_of_ble_eq_true rfl) (f94_d _ n) (by intro x; kernel_rfl) 


def f109 (n : Nat) (a0 : List (Bool × (List Int) × (List Int))) : Option Bool :=
  bif (decide ((a0.length : Int) ≥ 1)) then
    bif (decide ((a0.length : Int) ≤ 4)) then
      ob (f94 n a0) fun r_1 =>
      some (r_1 == 0)
    else
      some false
  else
    some false
def f109_E (n : Nat) : Ent := ⟨109, [hRs], [.bool], fun x => f109 n x⟩
def f109_D (α : Type) (n : Nat) : D3 α := { reg := [(1, ⟨0, [], [(10, { ent := some (f94_E n) })]⟩)], join := [], loop := [] }
theorem f109_ents (α : Type) (n : Nat) : AllS Tryz.prog (entsOf (f109_D α n).reg) := ⟨f94_ok n, trivial⟩
theorem f109_d (α : Type) (n : Nat) : D3.OK Tryz.prog (tyOf Tryz.prog) ⟨16, []⟩ (f109_D α n) (bodyOf Tryz.f109) :=
  D3.OK.mk3 (f109_ents α n) (show loopsOf (bodyOf Tryz.f109) = [] by kernel_rfl) trivial
theorem f109_ok (n : Nat) : (f109_E n).Sound Tryz.prog :=
  fn_ok (tyOf_ok _) prog_fol (f109_D _ n) (show Tryz.prog.funcs[109]? = some Tryz.f109 by kernel_rfl) (by kernel_rfl) (show Tryz.f109.body = some (bodyOf Tryz.f109) by kernel_rfl) rfl rfl (Nat.le_of_ble_eq_true rfl) (f109_d _ n) (by intro x; kernel_rfl) 


def f165_L3B {α : Type} (n : Nat) (s3 : Int) (s6 : List (Int × Int × Int × Int)) (s7 : Int) (s8 : Int) (f : Int → (List (Int × Int × Int × Int)) → Int → Int → Option α) (k0 : Int → Option α) : Option α :=
  bif (decide (s8 < s7)) then
    gd (decide (0 ≤ s8) && decide (s8 < (s6.length : Int))) (
      let x_1 := s6.getD s8.toNat (0, 0, 0, 0)
      bif (x_1.1 == 2) then
        f (max s3 (W (x_1.2.2.2 + 1))) s6 s7 (W (s8 + 1))
      else
        f s3 s6 s7 (W (s8 + 1)))
  else
    k0 s3
abbrev f165_L3H : Tm := ⟨[(3, .d hI), (6, .d hNs), (7, .d hI), (8, .d hI)], [], [5], []⟩
abbrev f165_L3X0 : Tm := ⟨[(3, .d hI)], [], [], []⟩
abbrev f165_L3O : List (Exit × Tm) := [(.exit 0, f165_L3X0)]
def f165_L3U {α : Type} (n : Nat) (v : f165_L3H.den) (f : f165_L3H.den → Option α) (ks : KS α f165_L3O) : Option α := f165_L3B n v.1.1 v.1.2.1 v.1.2.2.1 v.1.2.2.2.1 (fun s3 s6 s7 s8 => f ((s3, s6, s7, s8, ()), ())) (fun w0 => ks.1 ((w0, ()), ()))
def f165_L3 {α : Type} (n m : Nat) (s3 : Int) (s6 : List (Int × Int × Int × Int)) (s7 : Int) (s8 : Int) (k0 : Int → Option α) : Option α := rounds (f165_L3U n) m ((s3, s6, s7, s8, ()), ()) (fun w => k0 w.1.1, ())
theorem f165_L3_0 {α : Type} (n : Nat) (s3 : Int) (s6 : List (Int × Int × Int × Int)) (s7 : Int) (s8 : Int) (k0 : Int → Option α) : f165_L3 (α := α) n 0 s3 s6 s7 s8 k0 = none := rfl
theorem f165_L3_s {α : Type} (n m : Nat) (s3 : Int) (s6 : List (Int × Int × Int × Int)) (s7 : Int) (s8 : Int) (k0 : Int → Option α) : f165_L3 (α := α) n (m + 1) s3 s6 s7 s8 k0 = f165_L3B n s3 s6 s7 s8 (fun s3 s6 s7 s8 => f165_L3 n m s3 s6 s7 s8 k0) k0 := rfl
def f165 (n : Nat) (a0 : List (Int × Int × Int × Int)) : Option Int :=
  f165_L3 n n 0 a0 (a0.length : Int) 0
    (fun z_2 => (
      some z_2))
def f165_E (n : Nat) : Ent := ⟨165, [hNs], [hI], fun x => f165 n x⟩
def f165_D (α : Type) (n : Nat) : D3 α := { reg := [], join := [], loop := [(3, ⟨f165_L3H, f165_L3O, rounds (f165_L3U n) n⟩)] }
theorem f165_ents (α : Type) (n : Nat) : AllS Tryz.prog (entsOf (f165_D α n).reg) := trivial
theorem f165_L3_d (α : Type) (n : Nat) : D3.OK Tryz.prog (tyOf Tryz.prog) ⟨22, []⟩ (f165_D α n) ((bodyOf Tryz.f165).at [1, 1, 0, 1, 0, 0]) :=
  D3.OK.mk3 (f165_ents α n) (show loopsOf ((bodyOf Tryz.f165).at [1, 1, 0, 1, 0, 0]) = [] by kernel_rfl) trivial
theorem f165_L3_ok (α : Type) (n : Nat) : LO.Sound (α := α) Tryz.prog ⟨22, []⟩ ⟨f165_L3H, f165_L3O, rounds (f165_L3U n) n⟩ (.loop ((bodyOf Tryz.f165).at [1, 1, 0, 1, 0, 0])) :=
  loop_ok (tyOf_ok _) prog_fol (f165_L3U n) (f165_L3_d α n) (by intro v f ks; kernel_rfl) n
theorem f165_d (α : Type) (n : Nat) : D3.OK Tryz.prog (tyOf Tryz.prog) ⟨22, []⟩ (f165_D α n) (bodyOf Tryz.f165) :=
  D3.OK.mk3 (f165_ents α n) (show loopsOf (bodyOf Tryz.f165) = [(3, (.loop ((bodyOf Tryz.f165).at [1, 1, 0, 1, 0, 0])))] by kernel_rfl) ⟨look_sound rfl (f165_L3_ok α n), trivial⟩
theorem f165_ok (n : Nat) : (f165_E n).Sound Tryz.prog :=
  fn_ok (tyOf_ok _) prog_fol (f165_D _ n) (show Tryz.prog.funcs[165]? = some Tryz.f165 by kernel_rfl) (by kernel_rfl) (show Tryz.f165.body = some (bodyOf Tryz.f165) by kernel_rfl) rfl rfl (Nat.le_of_ble_eq_true rfl) (f165_d _ n) (by intro x; kernel_rfl) 


def f93_L5B {α : Type} (n : Nat) (s0 : List (List (Bool × (List Int) × (List Int)))) (s13 : List (List (Bool × (List Int) × (List Int)))) (s14 : Int) (s15 : Int) (f : (List (List (Bool × (List Int) × (List Int)))) → (List (List (Bool × (List Int) × (List Int)))) → Int → Int → Option α) (k0 : Int → Option α) (k1 : (List (List (Bool × (List Int) × (List Int)))) → Option α) : Option α :=
  bif (decide (s15 < s14)) then
    gd (decide (0 ≤ s15) && decide (s15 < (s13.length : Int))) (
      ob (f109 n (s13.getD s15.toNat [])) fun r_2 =>
      bif (!r_2) then
        k0 1
      else
        f s0 s13 s14 (W (s15 + 1)))
  else
    k1 s0
abbrev f93_L5H : Tm := ⟨[(0, .d (.sl hRs)), (13, .d (.sl hRs)), (14, .d hI), (15, .d hI)], [], [], []⟩
abbrev f93_L5X0 : Tm := ⟨[(2, .d hI)], [], [], []⟩
abbrev f93_L5X1 : Tm := ⟨[(0, .d (.sl hRs))], [], [], []⟩
abbrev f93_L5O : List (Exit × Tm) := [(.ret, f93_L5X0), (.exit 0, f93_L5X1)]
def f93_L5U {α : Type} (n : Nat) (v : f93_L5H.den) (f : f93_L5H.den → Option α) (ks : KS α f93_L5O) : Option α := f93_L5B n v.1.1 v.1.2.1 v.1.2.2.1 v.1.2.2.2.1 (fun s0 s13 s14 s15 => f ((s0, s13, s14, s15, ()), ())) (fun w0 => ks.1 ((w0, ()), ())) (fun w0 => ks.2.1 ((w0, ()), ()))
def f93_L5 {α : Type} (n m : Nat) (s0 : List (List (Bool × (List Int) × (List Int)))) (s13 : List (List (Bool × (List Int) × (List Int)))) (s14 : Int) (s15 : Int) (k0 : Int → Option α) (k1 : (List (List (Bool × (List Int) × (List Int)))) → Option α) : Option α := rounds (f93_L5U n) m ((s0, s13, s14, s15, ()), ()) (fun w => k0 w.1.1, fun w => k1 w.1.1, ())
theorem f93_L5_0 {α : Type} (n : Nat) (s0 : List (List (Bool × (List Int) × (List Int)))) (s13 : List (List (Bool × (List Int) × (List Int)))) (s14 : Int) (s15 : Int) (k0 : Int → Option α) (k1 : (List (List (Bool × (List Int) × (List Int)))) → Option α) : f93_L5 (α := α) n 0 s0 s13 s14 s15 k0 k1 = none := rfl
theorem f93_L5_s {α : Type} (n m : Nat) (s0 : List (List (Bool × (List Int) × (List Int)))) (s13 : List (List (Bool × (List Int) × (List Int)))) (s14 : Int) (s15 : Int) (k0 : Int → Option α) (k1 : (List (List (Bool × (List Int) × (List Int)))) → Option α) : f93_L5 (α := α) n (m + 1) s0 s13 s14 s15 k0 k1 = f93_L5B n s0 s13 s14 s15 (fun s0 s13 s14 s15 => f93_L5 n m s0 s13 s14 s15 k0 k1) k0 k1 := rfl
def f93_L11B {α : Type} (n : Nat) (s0 : List (List (Bool × (List Int) × (List Int)))) (s23 : List (List (Bool × (List Int) × (List Int)))) (s24 : Int) (s25 : Int) (f : (List (List (Bool × (List Int) × (List Int)))) → (List (List (Bool × (List Int) × (List Int)))) → Int → Int → Option α) (k0 : Int → Option α) (k1 : Unit → Option α) : Option α :=
  bif (decide (s25 < s24)) then
    gd (decide (0 ≤ s25) && decide (s25 < (s23.length : Int))) (
      gd (decide (0 < (s0.length : Int))) (
        bif ((((s23.getD s25.toNat []).length : Nat) : Int) != (((s0.getD 0 []).length : Nat) : Int)) then
          k0 8
        else
          f s0 s23 s24 (W (s25 + 1))))
  else
    k1 ()
abbrev f93_L11H : Tm := ⟨[(0, .d (.sl hRs)), (23, .d (.sl hRs)), (24, .d hI), (25, .d hI)], [], [], []⟩
abbrev f93_L11X0 : Tm := ⟨[(2, .d hI)], [], [], []⟩
abbrev f93_L11X1 : Tm := ⟨[], [], [], []⟩
abbrev f93_L11O : List (Exit × Tm) := [(.ret, f93_L11X0), (.exit 2, f93_L11X1)]
def f93_L11U {α : Type} (n : Nat) (v : f93_L11H.den) (f : f93_L11H.den → Option α) (ks : KS α f93_L11O) : Option α := f93_L11B n v.1.1 v.1.2.1 v.1.2.2.1 v.1.2.2.2.1 (fun s0 s23 s24 s25 => f ((s0, s23, s24, s25, ()), ())) (fun w0 => ks.1 ((w0, ()), ())) (fun _ => ks.2.1 ((), ()))
def f93_L11 {α : Type} (n m : Nat) (s0 : List (List (Bool × (List Int) × (List Int)))) (s23 : List (List (Bool × (List Int) × (List Int)))) (s24 : Int) (s25 : Int) (k0 : Int → Option α) (k1 : Unit → Option α) : Option α := rounds (f93_L11U n) m ((s0, s23, s24, s25, ()), ()) (fun w => k0 w.1.1, fun w => k1 (), ())
theorem f93_L11_0 {α : Type} (n : Nat) (s0 : List (List (Bool × (List Int) × (List Int)))) (s23 : List (List (Bool × (List Int) × (List Int)))) (s24 : Int) (s25 : Int) (k0 : Int → Option α) (k1 : Unit → Option α) : f93_L11 (α := α) n 0 s0 s23 s24 s25 k0 k1 = none := rfl
theorem f93_L11_s {α : Type} (n m : Nat) (s0 : List (List (Bool × (List Int) × (List Int)))) (s23 : List (List (Bool × (List Int) × (List Int)))) (s24 : Int) (s25 : Int) (k0 : Int → Option α) (k1 : Unit → Option α) : f93_L11 (α := α) n (m + 1) s0 s23 s24 s25 k0 k1 = f93_L11B n s0 s23 s24 s25 (fun s0 s23 s24 s25 => f93_L11 n m s0 s23 s24 s25 k0 k1) k0 k1 := rfl
def f93 (n : Nat) (a0 : List (List (Bool × (List Int) × (List Int)))) : Option Int :=
  ob (f98 n a0) fun r_1 =>
  bif (r_1 != 0) then
    some r_1
  else
    f93_L5 n n a0 a0 (a0.length : Int) 0
      (fun z_3 => (
        some z_3))
      (fun z_4 => (
        f93_L11 n n z_4 z_4 (z_4.length : Int) 0
          (fun z_5 => (
            some z_5))
          (fun (_ : Unit) => (
            some 0))))
def f93_E (n : Nat) : Ent := ⟨93, [(.sl hRs)], [hI], fun x => f93 n x⟩
def f93_D (α : Type) (n : Nat) : D3 α := { reg := [(1, ⟨0, [], [(1, { ent := some (f98_E n) })]⟩), (7, ⟨0, [], [(1, { ent := some (f109_E n) })]⟩)], join := [], loop := [(5, ⟨f93_L5H, f93_L5O, rounds (f93_L5U n) n⟩), (11, ⟨f93_L11H, f93_L11O, rounds (f93_L11U n) n⟩)] }
theorem f93_ents (α : Type) (n : Nat) : AllS Tryz.prog (entsOf (f93_D α n).reg) := ⟨f98_ok n, f109_ok n, trivial⟩
theorem f93_L5_d (α : Type) (n : Nat) : D3.OK Tryz.prog (tyOf Tryz.prog) ⟨37, []⟩ (f93_D α n) ((bodyOf Tryz.f93).at [1, 1, 0, 1, 0, 0]) :=
  D3.OK.mk3 (f93_ents α n) (show loopsOf ((bodyOf Tryz.f93).at [1, 1, 0, 1, 0, 0]) = [] by kernel_rfl) trivial
theorem f93_L5_ok (α : Type) (n : Nat) : LO.Sound (α := α) Tryz.prog ⟨37, []⟩ ⟨f93_L5H, f93_L5O, rounds (f93_L5U n) n⟩ (.loop ((bodyOf Tryz.f93).at [1, 1, 0, 1, 0, 0])) :=
  loop_ok (tyOf_ok _) prog_fol (f93_L5U n) (f93_L5_d α n) (by intro v f ks; kernel_rfl) n
theorem f93_L11_d (α : Type) (n : Nat) : D3.OK Tryz.prog (tyOf Tryz.prog) ⟨37, []⟩ (f93_D α n) ((bodyOf Tryz.f93).at [1, 1, 1, 0, 1, 0, 0]) :=
  D3.OK.mk3 (f93_ents α n) (show loopsOf ((bodyOf Tryz.f93).at [1, 1, 1, 0, 1, 0, 0]) = [] by kernel_rfl) trivial
theorem f93_L11_ok (α : Type) (n : Nat) : LO.Sound (α := α) Tryz.prog ⟨37, []⟩ ⟨f93_L11H, f93_L11O, rounds (f93_L11U n) n⟩ (.loop ((bodyOf Tryz.f93).at [1, 1, 1, 0, 1, 0, 0])) :=
  loop_ok (tyOf_ok _) prog_fol (f93_L11U n) (f93_L11_d α n) (by intro v f ks; kernel_rfl) n
theorem f93_d (α : Type) (n : Nat) : D3.OK Tryz.prog (tyOf Tryz.prog) ⟨37, []⟩ (f93_D α n) (bodyOf Tryz.f93) :=
  D3.OK.mk3 (f93_ents α n) (show loopsOf (bodyOf Tryz.f93) = [(5, (.loop ((bodyOf Tryz.f93).at [1, 1, 0, 1, 0, 0]))), (11, (.loop ((bodyOf Tryz.f93).at [1, 1, 1, 0, 1, 0, 0])))] by kernel_rfl) ⟨look_sound rfl (f93_L5_ok α n), look_sound rfl (f93_L11_ok α n), trivial⟩
theorem f93_ok (n : Nat) : (f93_E n).Sound Tryz.prog :=
  fn_ok (tyOf_ok _) prog_fol (f93_D _ n) (show Tryz.prog.funcs[93]? = some Tryz.f93 by kernel_rfl) (by kernel_rfl) (show Tryz.f93.body = some (bodyOf Tryz.f93) by kernel_rfl) rfl rfl (Nat.le_of_ble_eq_true rfl) (f93_d _ n) (by intro x; kernel_rfl) 


def f141 (n : Nat) (a0 : Bool × (List Int) × (List Int)) : Option Int :=
  ob (f74 n a0) fun r_1 =>
  bif r_1 then
    some 0
  else
    bif a0.1 then
      some (-1)
    else
      some 1
def f141_E (n : Nat) : Ent := ⟨141, [hR], [hI], fun x => f141 n x⟩
def f141_D (α : Type) (n : Nat) : D3 α := { reg := [(1, ⟨0, [], [(1, { ent := some (f74_E n) })]⟩)], join := [], loop := [] }
theorem f141_ents (α : Type) (n : Nat) : AllS Tryz.prog (entsOf (f141_D α n).reg) := ⟨f74_ok n, trivial⟩
theorem f141_d (α : Type) (n : Nat) : D3.OK Tryz.prog (tyOf Tryz.prog) ⟨9, []⟩ (f141_D α n) (bodyOf Tryz.f141) :=
  D3.OK.mk3 (f141_ents α n) (show loopsOf (bodyOf Tryz.f141) = [] by kernel_rfl) trivial
theorem f141_ok (n : Nat) : (f141_E n).Sound Tryz.prog :=
  fn_ok (tyOf_ok _) prog_fol (f141_D _ n) (show Tryz.prog.funcs[141]? = some Tryz.f141 by kernel_rfl) (by kernel_rfl) (show Tryz.f141.body = some (bodyOf Tryz.f141) by kernel_rfl) rfl rfl (Nat.le_of_ble_eq_true rfl) (f141_d _ n) (by intro x; kernel_rfl) 


def f143_L7B {α : Type} (n : Nat) (s1 : List Int) (s6 : Int) (s7 : Int) (s8 : Int) (s9 : Int) (s16 : List Int) (s17 : Int) (s18 : Int) (b15 : List Int) (f : (List Int) → Int → Int → Int → Int → (List Int) → Int → Int → (List Int) → Option α) (k0 : (List Int) → (List Int) → Int → Int → (List Int) → Option α) : Option α :=
  let J_3 := fun (_ : Unit) => (
    let J_2 := fun (y_1 : Int) => (
      gd (decide (0 ≤ (W (s6 + s9))) && decide ((W (s6 + s9)) < (b15.length : Int))) (
        gd (decide ((W (s6 + s9)).toNat < b15.length)) (
          gd (decide (0 ≤ (W (s6 + s9))) && decide ((W (s6 + s9)) < (b15.length : Int))) (
            gd (decide ((W (s6 + s9)).toNat < b15.length)) (
              f s1 s6 s7 (W (Int.tdiv (W (y_1 + (b15.getD ((W (s6 + s9)).toNat) 0))) 10000)) (W (s9 + 1)) s16 s17 s18 (b15.set ((W (s6 + s9)).toNat) (Int.tmod (W (y_1 + (b15.getD ((W (s6 + s9)).toNat) 0))) 10000)))))))
    bif (decide (s9 < (s1.length : Int))) then
      gd (decide (0 ≤ s9) && decide (s9 < (s1.length : Int))) (
        J_2 (W (s8 + (W (s7 * (s1.getD s9.toNat 0))))))
    else
      J_2 s8)
  bif (decide (s9 < (s1.length : Int))) then
    J_3 ()
  else
    bif (decide (s8 > 0)) then
      J_3 ()
    else
      k0 s1 s16 s17 s18 b15
abbrev f143_L7H : Tm := ⟨[(1, .d hIs), (5, .k (.hw 15)), (6, .d hI), (7, .d hI), (8, .d hI), (9, .d hI), (16, .d hIs), (17, .d hI), (18, .d hI)], [(15, .arr 3 hI false)], [], []⟩
abbrev f143_L7X0 : Tm := ⟨[(1, .d hIs), (5, .k (.hw 15)), (16, .d hIs), (17, .d hI), (18, .d hI)], [(15, .arr 3 hI false)], [], []⟩
abbrev f143_L7O : List (Exit × Tm) := [(.exit 2, f143_L7X0)]
def f143_L7U {α : Type} (n : Nat) (v : f143_L7H.den) (f : f143_L7H.den → Option α) (ks : KS α f143_L7O) : Option α := f143_L7B n v.1.1 v.1.2.2.1 v.1.2.2.2.1 v.1.2.2.2.2.1 v.1.2.2.2.2.2.1 v.1.2.2.2.2.2.2.1 v.1.2.2.2.2.2.2.2.1 v.1.2.2.2.2.2.2.2.2.1 v.2.1 (fun s1 s6 s7 s8 s9 s16 s17 s18 b15 => f ((s1, (), s6, s7, s8, s9, s16, s17, s18, ()), (b15, ()))) (fun w0 w1 w2 w3 w4 => ks.1 ((w0, (), w1, w2, w3, ()), (w4, ())))
def f143_L7 {α : Type} (n m : Nat) (s1 : List Int) (s6 : Int) (s7 : Int) (s8 : Int) (s9 : Int) (s16 : List Int) (s17 : Int) (s18 : Int) (b15 : List Int) (k0 : (List Int) → (List Int) → Int → Int → (List Int) → Option α) : Option α := rounds (f143_L7U n) m ((s1, (), s6, s7, s8, s9, s16, s17, s18, ()), (b15, ())) (fun w => k0 w.1.1 w.1.2.2.1 w.1.2.2.2.1 w.1.2.2.2.2.1 w.2.1, ())
theorem f143_L7_0 {α : Type} (n : Nat) (s1 : List Int) (s6 : Int) (s7 : Int) (s8 : Int) (s9 : Int) (s16 : List Int) (s17 : Int) (s18 : Int) (b15 : List Int) (k0 : (List Int) → (List Int) → Int → Int → (List Int) → Option α) : f143_L7 (α := α) n 0 s1 s6 s7 s8 s9 s16 s17 s18 b15 k0 = none := rfl
theorem f143_L7_s {α : Type} (n m : Nat) (s1 : List Int) (s6 : Int) (s7 : Int) (s8 : Int) (s9 : Int) (s16 : List Int) (s17 : Int) (s18 : Int) (b15 : List Int) (k0 : (List Int) → (List Int) → Int → Int → (List Int) → Option α) : f143_L7 (α := α) n (m + 1) s1 s6 s7 s8 s9 s16 s17 s18 b15 k0 = f143_L7B n s1 s6 s7 s8 s9 s16 s17 s18 b15 (fun s1 s6 s7 s8 s9 s16 s17 s18 b15 => f143_L7 n m s1 s6 s7 s8 s9 s16 s17 s18 b15 k0) k0 := rfl
def f143_L3B {α : Type} (n : Nat) (s1 : List Int) (s16 : List Int) (s17 : Int) (s18 : Int) (b15 : List Int) (f : (List Int) → (List Int) → Int → Int → (List Int) → Option α) (k0 : (List Int) → Option α) : Option α :=
  bif (decide (s18 < s17)) then
    gd (decide (0 ≤ s18) && decide (s18 < (s16.length : Int))) (
      f143_L7 n n s1 s18 (s16.getD s18.toNat 0) 0 0 s16 s17 s18 b15
        (fun z_1 z_2 z_3 z_4 z_5 => (
          f z_1 z_2 z_3 (W (z_4 + 1)) z_5)))
  else
    k0 b15
abbrev f143_L3H : Tm := ⟨[(1, .d hIs), (5, .k (.hw 15)), (16, .d hIs), (17, .d hI), (18, .d hI)], [(15, .arr 3 hI false)], [], []⟩
abbrev f143_L3X0 : Tm := ⟨[(5, .k (.hw 15))], [(15, .arr 3 hI false)], [], []⟩
abbrev f143_L3O : List (Exit × Tm) := [(.exit 0, f143_L3X0)]
def f143_L3U {α : Type} (n : Nat) (v : f143_L3H.den) (f : f143_L3H.den → Option α) (ks : KS α f143_L3O) : Option α := f143_L3B n v.1.1 v.1.2.2.1 v.1.2.2.2.1 v.1.2.2.2.2.1 v.2.1 (fun s1 s16 s17 s18 b15 => f ((s1, (), s16, s17, s18, ()), (b15, ()))) (fun w0 => ks.1 (((), ()), (w0, ())))
def f143_L3 {α : Type} (n m : Nat) (s1 : List Int) (s16 : List Int) (s17 : Int) (s18 : Int) (b15 : List Int) (k0 : (List Int) → Option α) : Option α := rounds (f143_L3U n) m ((s1, (), s16, s17, s18, ()), (b15, ())) (fun w => k0 w.2.1, ())
theorem f143_L3_0 {α : Type} (n : Nat) (s1 : List Int) (s16 : List Int) (s17 : Int) (s18 : Int) (b15 : List Int) (k0 : (List Int) → Option α) : f143_L3 (α := α) n 0 s1 s16 s17 s18 b15 k0 = none := rfl
theorem f143_L3_s {α : Type} (n m : Nat) (s1 : List Int) (s16 : List Int) (s17 : Int) (s18 : Int) (b15 : List Int) (k0 : (List Int) → Option α) : f143_L3 (α := α) n (m + 1) s1 s16 s17 s18 b15 k0 = f143_L3B n s1 s16 s17 s18 b15 (fun s1 s16 s17 s18 b15 => f143_L3 n m s1 s16 s17 s18 b15 k0) k0 := rfl
abbrev f143_J9 : Tm := ⟨[(1, .d hIs), (5, .k (.hw 15)), (6, .d hI), (7, .d hI), (8, .d hI), (9, .d hI), (16, .d hIs), (17, .d hI), (18, .d hI)], [(15, .arr 3 hI false)], [], []⟩
abbrev f143_J11 : Tm := ⟨[(1, .d hIs), (5, .k (.hw 15)), (6, .d hI), (7, .d hI), (8, .d hI), (9, .d hI), (16, .d hIs), (17, .d hI), (18, .d hI)], [(15, .arr 3 hI false)], [], []⟩
def f143 (n : Nat) (a0 : List Int) (a1 : List Int) : Option (List Int) :=
  gd (decide (0 ≤ (W ((a0.length : Int) + (a1.length : Int)))) && decide ((W ((a0.length : Int) + (a1.length : Int))) ≤ 4611686018427387904) && decide ((8 : Int) * (W ((a0.length : Int) + (a1.length : Int))) ≤ 281474976710656)) (
    f143_L3 n n a1 a0 (a0.length : Int) 0 (List.replicate ((W ((a0.length : Int) + (a1.length : Int))).toNat) 0)
      (fun z_6 => (
        ob (f185 n z_6) fun r_7 =>
        some r_7)))
def f143_E (n : Nat) : Ent := ⟨143, [hIs, hIs], [hIs], fun x => f143 n x.1 x.2⟩
def f143_D (α : Type) (n : Nat) : D3 α := { reg := [(14, ⟨0, [], [(1, { ent := some (f185_E n), fz := [(63, hIs)] })]⟩)], join := [(9, f143_J9), (11, f143_J11)], loop := [(7, ⟨f143_L7H, f143_L7O, rounds (f143_L7U n) n⟩), (3, ⟨f143_L3H, f143_L3O, rounds (f143_L3U n) n⟩)] }
theorem f143_ents (α : Type) (n : Nat) : AllS Tryz.prog (entsOf (f143_D α n).reg) := ⟨f185_ok n, trivial⟩
theorem f143_L7_d (α : Type) (n : Nat) : D3.OK Tryz.prog (tyOf Tryz.prog) ⟨65, []⟩ (f143_D α n) ((bodyOf Tryz.f143).at [1, 1, 0, 1, 0, 0, 1, 1, 0, 0, 1, 1, 1, 0, 0]) :=
  D3.OK.mk3 (f143_ents α n) (show loopsOf ((bodyOf Tryz.f143).at [1, 1, 0, 1, 0, 0, 1, 1, 0, 0, 1, 1, 1, 0, 0]) = [] by kernel_rfl) trivial
theorem f143_L7_ok (α : Type) (n : Nat) : LO.Sound (α := α) Tryz.prog ⟨65, []⟩ ⟨f143_L7H, f143_L7O, rounds (f143_L7U n) n⟩ (.loop ((bodyOf Tryz.f143).at [1, 1, 0, 1, 0, 0, 1, 1, 0, 0, 1, 1, 1, 0, 0])) :=
  loop_ok (tyOf_ok _) prog_fol (f143_L7U n) (f143_L7_d α n) (by intro v f ks; kernel_rfl) n
theorem f143_L3_d (α : Type) (n : Nat) : D3.OK Tryz.prog (tyOf Tryz.prog) ⟨65, []⟩ (f143_D α n) ((bodyOf Tryz.f143).at [1, 1, 0, 1, 0, 0]) :=
  D3.OK.mk3 (f143_ents α n) (show loopsOf ((bodyOf Tryz.f143).at [1, 1, 0, 1, 0, 0]) = [(7, (.loop ((bodyOf Tryz.f143).at [1, 1, 0, 1, 0, 0, 1, 1, 0, 0, 1, 1, 1, 0, 0])))] by kernel_rfl) ⟨look_sound rfl (f143_L7_ok α n), trivial⟩
theorem f143_L3_ok (α : Type) (n : Nat) : LO.Sound (α := α) Tryz.prog ⟨65, []⟩ ⟨f143_L3H, f143_L3O, rounds (f143_L3U n) n⟩ (.loop ((bodyOf Tryz.f143).at [1, 1, 0, 1, 0, 0])) :=
  loop_ok (tyOf_ok _) prog_fol (f143_L3U n) (f143_L3_d α n) (by intro v f ks; kernel_rfl) n
theorem f143_d (α : Type) (n : Nat) : D3.OK Tryz.prog (tyOf Tryz.prog) ⟨65, []⟩ (f143_D α n) (bodyOf Tryz.f143) :=
  D3.OK.mk3 (f143_ents α n) (show loopsOf (bodyOf Tryz.f143) = [(3, (.loop ((bodyOf Tryz.f143).at [1, 1, 0, 1, 0, 0])))] by kernel_rfl) ⟨look_sound rfl (f143_L3_ok α n), trivial⟩
theorem f143_ok (n : Nat) : (f143_E n).Sound Tryz.prog :=
  fn_ok (tyOf_ok _) prog_fol (f143_D _ n) (show Tryz.prog.funcs[143]? = some Tryz.f143 by kernel_rfl) (by kernel_rfl) (show Tryz.f143.body = some (bodyOf Tryz.f143) by kernel_rfl) rfl rfl (Nat.le_of_ble_eq_true rfl) (f143_d _ n) (by intro x; kernel_rfl) 


def f181 (n : Nat) (a0 : Bool × (List Int) × (List Int)) (a1 : Bool × (List Int) × (List Int)) : Option Int :=
  ob (f141 n a0) fun r_1 =>
  ob (f141 n a1) fun r_2 =>
  bif (r_1 != r_2) then
    ob (f141 n a0) fun r_3 =>
    ob (f141 n a1) fun r_4 =>
    some (W (r_3 - r_4))
  else
    ob (f143 n a0.2.1 a1.2.2) fun r_5 =>
    ob (f143 n a1.2.1 a0.2.2) fun r_6 =>
    ob (f170 n r_5 r_6) fun r_7 =>
    bif a0.1 then
      some (W (0 - r_7))
    else
      some r_7
def f181_E (n : Nat) : Ent := ⟨181, [hR, hR], [hI], fun x => f181 n x.1 x.2⟩
def f181_D (α : Type) (n : Nat) : D3 α := { reg := [(1, ⟨3, [], [(1, { ent := some (f141_E n) }), (3, { ent := some (f141_E n) })]⟩), (2, ⟨3, [], [(1, { ent := some (f141_E n) }), (3, { ent := some (f141_E n) })]⟩), (3, ⟨9, [], [(4, { ent := some (f143_E n) }), (9, { ent := some (f143_E n) }), (10, { ent := some (f170_E n) })]⟩)], join := [], loop := [] }
theorem f181_ents (α : Type) (n : Nat) : AllS Tryz.prog (entsOf (f181_D α n).reg) := ⟨f141_ok n, f141_ok n, f141_ok n, f141_ok n, f143_ok n, f143_ok n, f170_ok n, trivial⟩
theorem f181_d (α : Type) (n : Nat) : D3.OK Tryz.prog (tyOf Tryz.prog) ⟨32, []⟩ (f181_D α n) (bodyOf Tryz.f181) :=
  D3.OK.mk3 (f181_ents α n) (show loopsOf (bodyOf Tryz.f181) = [] by kernel_rfl) trivial
theorem f181_ok (n : Nat) : (f181_E n).Sound Tryz.prog :=
  fn_ok (tyOf_ok _) prog_fol (f181_D _ n) (show Tryz.prog.funcs[181]? = some Tryz.f181 by kernel_rfl) (by kernel_rfl) (show Tryz.f181.body = some (bodyOf Tryz.f181) by kernel_rfl) rfl rfl (Nat.le_of_ble_eq_true rfl) (f181_d _ n) (by intro x; kernel_rfl) 


def f209_L2B {α : Type} (n : Nat) (s1 : List (Bool × (List Int) × (List Int))) (s7 : List (Bool × (List Int) × (List Int))) (s8 : Int) (s9 : Int) (f : (List (Bool × (List Int) × (List Int))) → (List (Bool × (List Int) × (List Int))) → Int → Int → Option α) (k0 : Bool → Option α) (k1 : Unit → Option α) : Option α :=
  bif (decide (s9 < s8)) then
    gd (decide (0 ≤ s9) && decide (s9 < (s7.length : Int))) (
      let x_1 := s7.getD s9.toNat (false, [], [])
      gd (decide (0 ≤ s9) && decide (s9 < (s1.length : Int))) (
        let x_2 := s1.getD s9.toNat (false, [], [])
        ob (f181 n x_1 x_2) fun r_3 =>
        bif (decide (r_3 > 0)) then
          k0 false
        else
          f s1 s7 s8 (W (s9 + 1))))
  else
    k1 ()
abbrev f209_L2H : Tm := ⟨[(1, .d hRs), (7, .d hRs), (8, .d hI), (9, .d hI)], [], [6], []⟩
abbrev f209_L2X0 : Tm := ⟨[(4, .d .bool)], [], [6], []⟩
abbrev f209_L2X1 : Tm := ⟨[], [], [], []⟩
abbrev f209_L2O : List (Exit × Tm) := [(.ret, f209_L2X0), (.exit 0, f209_L2X1)]
def f209_L2U {α : Type} (n : Nat) (v : f209_L2H.den) (f : f209_L2H.den → Option α) (ks : KS α f209_L2O) : Option α := f209_L2B n v.1.1 v.1.2.1 v.1.2.2.1 v.1.2.2.2.1 (fun s1 s7 s8 s9 => f ((s1, s7, s8, s9, ()), ())) (fun w0 => ks.1 ((w0, ()), ())) (fun _ => ks.2.1 ((), ()))
def f209_L2 {α : Type} (n m : Nat) (s1 : List (Bool × (List Int) × (List Int))) (s7 : List (Bool × (List Int) × (List Int))) (s8 : Int) (s9 : Int) (k0 : Bool → Option α) (k1 : Unit → Option α) : Option α := rounds (f209_L2U n) m ((s1, s7, s8, s9, ()), ()) (fun w => k0 w.1.1, fun w => k1 (), ())
theorem f209_L2_0 {α : Type} (n : Nat) (s1 : List (Bool × (List Int) × (List Int))) (s7 : List (Bool × (List Int) × (List Int))) (s8 : Int) (s9 : Int) (k0 : Bool → Option α) (k1 : Unit → Option α) : f209_L2 (α := α) n 0 s1 s7 s8 s9 k0 k1 = none := rfl
theorem f209_L2_s {α : Type} (n m : Nat) (s1 : List (Bool × (List Int) × (List Int))) (s7 : List (Bool × (List Int) × (List Int))) (s8 : Int) (s9 : Int) (k0 : Bool → Option α) (k1 : Unit → Option α) : f209_L2 (α := α) n (m + 1) s1 s7 s8 s9 k0 k1 = f209_L2B n s1 s7 s8 s9 (fun s1 s7 s8 s9 => f209_L2 n m s1 s7 s8 s9 k0 k1) k0 k1 := rfl
def f209 (n : Nat) (a0 : List (Bool × (List Int) × (List Int))) (a1 : List (Bool × (List Int) × (List Int))) : Option Bool :=
  f209_L2 n n a1 a0 (a0.length : Int) 0
    (fun z_4 => (
      some z_4))
    (fun (_ : Unit) => (
      some true))
def f209_E (n : Nat) : Ent := ⟨209, [hRs, hRs], [.bool], fun x => f209 n x.1 x.2⟩
def f209_D (α : Type) (n : Nat) : D3 α := { reg := [(4, ⟨5, [], [(5, { ent := some (f181_E n) })]⟩)], join := [], loop := [(2, ⟨f209_L2H, f209_L2O, rounds (f209_L2U n) n⟩)] }
theorem f209_ents (α : Type) (n : Nat) : AllS Tryz.prog (entsOf (f209_D α n).reg) := ⟨f181_ok n, trivial⟩
theorem f209_L2_d (α : Type) (n : Nat) : D3.OK Tryz.prog (tyOf Tryz.prog) ⟨22, []⟩ (f209_D α n) ((bodyOf Tryz.f209).at [1, 0, 1, 0, 0]) :=
  D3.OK.mk3 (f209_ents α n) (show loopsOf ((bodyOf Tryz.f209).at [1, 0, 1, 0, 0]) = [] by kernel_rfl) trivial
theorem f209_L2_ok (α : Type) (n : Nat) : LO.Sound (α := α) Tryz.prog ⟨22, []⟩ ⟨f209_L2H, f209_L2O, rounds (f209_L2U n) n⟩ (.loop ((bodyOf Tryz.f209).at [1, 0, 1, 0, 0])) :=
  loop_ok (tyOf_ok _) prog_fol (f209_L2U n) (f209_L2_d α n) (by intro v f ks; kernel_rfl) n
theorem f209_d (α : Type) (n : Nat) : D3.OK Tryz.prog (tyOf Tryz.prog) ⟨22, []⟩ (f209_D α n) (bodyOf Tryz.f209) :=
  D3.OK.mk3 (f209_ents α n) (show loopsOf (bodyOf Tryz.f209) = [(2, (.loop ((bodyOf Tryz.f209).at [1, 0, 1, 0, 0])))] by kernel_rfl) ⟨look_sound rfl (f209_L2_ok α n), trivial⟩
theorem f209_ok (n : Nat) : (f209_E n).Sound Tryz.prog :=
  fn_ok (tyOf_ok _) prog_fol (f209_D _ n) (show Tryz.prog.funcs[209]? = some Tryz.f209 by kernel_rfl) (by kernel_rfl) (show Tryz.f209.body = some (bodyOf Tryz.f209) by kernel_rfl) rfl rfl (Nat.le_of_ble_eq_true rfl) (f209_d _ n) (by intro x; kernel_rfl) 


abbrev f194_J7 : Tm := ⟨[(1, .k (.hp 1 0 0))], [(1, .var 56 true false [.d hNs, .d hRs, .d hRs, .d hRs, .d hI, .d .bool, .d hIs, .d hIs, .d hI, .d hI])], [], []⟩
def f194 (n : Nat) (a0 : (List (Int × Int × Int × Int)) × (List (Bool × (List Int) × (List Int))) × (List (Bool × (List Int) × (List Int))) × (List (Bool × (List Int) × (List Int))) × Int × (Bool × (List Int) × (List Int)) × Int × Int) : Option Bool :=
  ob (f198 n a0.1) fun r_1 =>
  bif (!r_1) then
    some false
  else
    ob (f109 n a0.2.1) fun r_2 =>
    bif (!r_2) then
      some false
    else
      ob (f165 n a0.1) fun r_3 =>
      bif (decide ((a0.2.1.length : Int) < r_3)) then
        some false
      else
        ob (f70 n a0.2.2.2.2.1 1 4) fun r_4 =>
        bif (!r_4) then
          some false
        else
          ob (f163 n a0.2.2.2.2.2.1) fun r_5 =>
          bif (!r_5) then
            some false
          else
            bif a0.2.2.2.2.2.1.1 then
              some false
            else
              ob (f70 n a0.2.2.2.2.2.2.1 0 6) fun r_6 =>
              bif (!r_6) then
                some false
              else
                ob (f70 n a0.2.2.2.2.2.2.2 0 30) fun r_7 =>
                bif (!r_7) then
                  some false
                else
                  let J_11 := fun (_ : Unit) => (
                    ob (f93 n [a0.2.1, a0.2.2.1, a0.2.2.2.1]) fun r_8 =>
                    bif (r_8 == 0) then
                      ob (f209 n a0.2.2.1 a0.2.1) fun r_9 =>
                      bif r_9 then
                        ob (f209 n a0.2.1 a0.2.2.2.1) fun r_10 =>
                        some r_10
                      else
                        some false
                    else
                      some false)
                  bif ((a0.2.2.1.length : Int) == 0) then
                    bif ((a0.2.2.2.1.length : Int) == 0) then
                      some true
                    else
                      J_11 ()
                  else
                    J_11 ()
def f194_E (n : Nat) : Ent := ⟨194, [(.st (.pair hE (.pair hRs (.pair hRs (.pair hRs (.pair hI (.pair hR (.pair hI hI))))))))], [.bool], fun x => f194 n x⟩
def f194_D (α : Type) (n : Nat) : D3 α := { reg := [(1, ⟨18, [], [(2, { ent := some (f198_E n) }), (7, { ent := some (f109_E n) }), (17, { ent := some (f165_E n) }), (23, { ent := some (f70_E n) })]⟩), (3, ⟨0, [], [(2, { ent := some (f163_E n) }), (12, { ent := some (f70_E n) }), (18, { ent := some (f70_E n) })]⟩), (7, ⟨0, [], [(6, { sh := some hRs }), (7, { ent := some (f93_E n) }), (14, { ent := some (f209_E n) }), (21, { ent := some (f209_E n) })]⟩)], join := [(7, f194_J7)], loop := [] }
theorem f194_ents (α : Type) (n : Nat) : AllS Tryz.prog (entsOf (f194_D α n).reg) := ⟨f198_ok n, f109_ok n, f165_ok n, f70_ok n, f163_ok n, f70_ok n, f70_ok n, f93_ok n, f209_ok n, f209_ok n, trivial⟩
theorem f194_d (α : Type) (n : Nat) : D3.OK Tryz.prog (tyOf Tryz.prog) ⟨83, []⟩ (f194_D α n) (bodyOf Tryz.f194) :=
  D3.OK.mk3 (f194_ents α n) (show loopsOf (bodyOf Tryz.f194) = [] by kernel_rfl) trivial
theorem f194_ok (n : Nat) : (f194_E n).Sound Tryz.prog :=
  fn_ok (tyOf_ok _) prog_fol (f194_D _ n) (show Tryz.prog.funcs[194]? = some Tryz.f194 by kernel_rfl) (by kernel_rfl) (show Tryz.f194.body = some (bodyOf Tryz.f194) by kernel_rfl) rfl rfl (Nat.le_of_ble_eq_true rfl) (f194_d _ n) (by intro x; kernel_rfl) 


def f153 (n : Nat) (a0 : (List (Int × Int × Int × Int)) × (List (Bool × (List Int) × (List Int))) × (List (Bool × (List Int) × (List Int))) × (List (Bool × (List Int) × (List Int))) × Int × (Bool × (List Int) × (List Int)) × Int × Int) : Option Int :=
  ob (f194 n a0) fun r_1 =>
  ob (f69 n r_1 1) fun r_2 =>
  some r_2
def f153_E (n : Nat) : Ent := ⟨153, [(.st (.pair hE (.pair hRs (.pair hRs (.pair hRs (.pair hI (.pair hR (.pair hI hI))))))))], [hI], fun x => f153 n x⟩
def f153_D (α : Type) (n : Nat) : D3 α := { reg := [(1, ⟨0, [], [(1, { ent := some (f194_E n) }), (2, { ent := some (f69_E n) })]⟩)], join := [], loop := [] }
theorem f153_ents (α : Type) (n : Nat) : AllS Tryz.prog (entsOf (f153_D α n).reg) := ⟨f194_ok n, f69_ok n, trivial⟩
theorem f153_d (α : Type) (n : Nat) : D3.OK Tryz.prog (tyOf Tryz.prog) ⟨6, []⟩ (f153_D α n) (bodyOf Tryz.f153) :=
  D3.OK.mk3 (f153_ents α n) (show loopsOf (bodyOf Tryz.f153) = [] by kernel_rfl) trivial
theorem f153_ok (n : Nat) : (f153_E n).Sound Tryz.prog :=
  fn_ok (tyOf_ok _) prog_fol (f153_D _ n) (show Tryz.prog.funcs[153]? = some Tryz.f153 by kernel_rfl) (by kernel_rfl) (show Tryz.f153.body = some (bodyOf Tryz.f153) by kernel_rfl) rfl rfl (Nat.le_of_ble_eq_true rfl) (f153_d _ n) (by intro x; kernel_rfl) 


def f68_L2B {α : Type} (n : Nat) (s5 : List Int) (s6 : Int) (s7 : Int) (f : (List Int) → Int → Int → Option α) (k0 : Int → Option α) (k1 : Unit → Option α) : Option α :=
  bif (decide (s7 < s6)) then
    gd (decide (0 ≤ s7) && decide (s7 < (s5.length : Int))) (
      bif ((s5.getD s7.toNat 0) != 0) then
        k0 (s5.getD s7.toNat 0)
      else
        f s5 s6 (W (s7 + 1)))
  else
    k1 ()
abbrev f68_L2H : Tm := ⟨[(5, .d hIs), (6, .d hI), (7, .d hI)], [], [], []⟩
abbrev f68_L2X0 : Tm := ⟨[(2, .d hI)], [], [], []⟩
abbrev f68_L2X1 : Tm := ⟨[], [], [], []⟩
abbrev f68_L2O : List (Exit × Tm) := [(.ret, f68_L2X0), (.exit 0, f68_L2X1)]
def f68_L2U {α : Type} (n : Nat) (v : f68_L2H.den) (f : f68_L2H.den → Option α) (ks : KS α f68_L2O) : Option α := f68_L2B n v.1.1 v.1.2.1 v.1.2.2.1 (fun s5 s6 s7 => f ((s5, s6, s7, ()), ())) (fun w0 => ks.1 ((w0, ()), ())) (fun _ => ks.2.1 ((), ()))
def f68_L2 {α : Type} (n m : Nat) (s5 : List Int) (s6 : Int) (s7 : Int) (k0 : Int → Option α) (k1 : Unit → Option α) : Option α := rounds (f68_L2U n) m ((s5, s6, s7, ()), ()) (fun w => k0 w.1.1, fun w => k1 (), ())
theorem f68_L2_0 {α : Type} (n : Nat) (s5 : List Int) (s6 : Int) (s7 : Int) (k0 : Int → Option α) (k1 : Unit → Option α) : f68_L2 (α := α) n 0 s5 s6 s7 k0 k1 = none := rfl
theorem f68_L2_s {α : Type} (n m : Nat) (s5 : List Int) (s6 : Int) (s7 : Int) (k0 : Int → Option α) (k1 : Unit → Option α) : f68_L2 (α := α) n (m + 1) s5 s6 s7 k0 k1 = f68_L2B n s5 s6 s7 (fun s5 s6 s7 => f68_L2 n m s5 s6 s7 k0 k1) k0 k1 := rfl
def f68 (n : Nat) (a0 : List Int) : Option Int :=
  f68_L2 n n a0 (a0.length : Int) 0
    (fun z_1 => (
      some z_1))
    (fun (_ : Unit) => (
      some 0))
def f68_E (n : Nat) : Ent := ⟨68, [hIs], [hI], fun x => f68 n x⟩
def f68_D (α : Type) (n : Nat) : D3 α := { reg := [], join := [], loop := [(2, ⟨f68_L2H, f68_L2O, rounds (f68_L2U n) n⟩)] }
theorem f68_ents (α : Type) (n : Nat) : AllS Tryz.prog (entsOf (f68_D α n).reg) := trivial
theorem f68_L2_d (α : Type) (n : Nat) : D3.OK Tryz.prog (tyOf Tryz.prog) ⟨15, []⟩ (f68_D α n) ((bodyOf Tryz.f68).at [1, 0, 1, 0, 0]) :=
  D3.OK.mk3 (f68_ents α n) (show loopsOf ((bodyOf Tryz.f68).at [1, 0, 1, 0, 0]) = [] by kernel_rfl) trivial
theorem f68_L2_ok (α : Type) (n : Nat) : LO.Sound (α := α) Tryz.prog ⟨15, []⟩ ⟨f68_L2H, f68_L2O, rounds (f68_L2U n) n⟩ (.loop ((bodyOf Tryz.f68).at [1, 0, 1, 0, 0])) :=
  loop_ok (tyOf_ok _) prog_fol (f68_L2U n) (f68_L2_d α n) (by intro v f ks; kernel_rfl) n
theorem f68_d (α : Type) (n : Nat) : D3.OK Tryz.prog (tyOf Tryz.prog) ⟨15, []⟩ (f68_D α n) (bodyOf Tryz.f68) :=
  D3.OK.mk3 (f68_ents α n) (show loopsOf (bodyOf Tryz.f68) = [(2, (.loop ((bodyOf Tryz.f68).at [1, 0, 1, 0, 0])))] by kernel_rfl) ⟨look_sound rfl (f68_L2_ok α n), trivial⟩
theorem f68_ok (n : Nat) : (f68_E n).Sound Tryz.prog :=
  fn_ok (tyOf_ok _) prog_fol (f68_D _ n) (show Tryz.prog.funcs[68]? = some Tryz.f68 by kernel_rfl) (by kernel_rfl) (show Tryz.f68.body = some (bodyOf Tryz.f68) by kernel_rfl) rfl rfl (Nat.le_of_ble_eq_true rfl) (f68_d _ n) (by intro x; kernel_rfl) 


abbrev f84_G1 : Tm := ⟨[(1, .d hRs), (2, .k (.hp 2 0 0))], [(2, .var 56 true false [.d hNs, .d hRs, .d hRs, .d hRs, .d hI, .d .bool, .d hIs, .d hIs, .d hI, .d hI])], [], []⟩
def f84 (n : Nat) (a0 : (List (Int × Int × Int × Int)) × (List (Bool × (List Int) × (List Int))) × (List (Bool × (List Int) × (List Int))) × (List (Bool × (List Int) × (List Int))) × Int × (Bool × (List Int) × (List Int)) × Int × Int) (a1 : List (Bool × (List Int) × (List Int))) : Option Int :=
  ob (f98 n [a1]) fun r_1 =>
  ob (f153 n a0) fun r_2 =>
  ob (f109 n a1) fun r_3 =>
  ob (f69 n r_3 1) fun r_4 =>
  ob (f68 n [r_1, r_2, r_4]) fun r_5 =>
  bif (r_5 != 0) then
    ob (f69 n true 8) fun r_6 =>
    ob (f68 n [r_5, r_6]) fun r_7 =>
    some r_7
  else
    ob (f69 n ((a1.length : Int) == (a0.2.1.length : Int)) 8) fun r_8 =>
    ob (f68 n [r_5, r_8]) fun r_9 =>
    some r_9
def f84_E (n : Nat) : Ent := ⟨84, [(.st (.pair hE (.pair hRs (.pair hRs (.pair hRs (.pair hI (.pair hR (.pair hI hI)))))))), hRs], [hI], fun x => f84 n x.1 x.2⟩
def f84_D (α : Type) (n : Nat) : D3 α := { reg := [(1, ⟨0, [], [(1, { sh := some hRs }), (2, { ent := some (f98_E n) }), (4, { ent := some (f153_E n) }), (6, { ent := some (f109_E n) }), (7, { ent := some (f69_E n) }), (8, { sh := some hI }), (9, { ent := some (f68_E n) })]⟩), (2, ⟨0, [], [(11, { ent := some (f69_E n) }), (12, { sh := some hI }), (13, { ent := some (f68_E n) })]⟩)], join := [], loop := [], any := [(1, f84_G1)] }
theorem f84_A1 (n : Nat) : FamAll (tyOf Tryz.prog) ⟨30, []⟩ [(1, { sh := some hRs }), (2, { ent := some (f98_E n) }), (4, { ent := some (f153_E n) }), (6, { ent := some (f109_E n) }), (7, { ent := some (f69_E n) }), (8, { sh := some hI }), (9, { ent := some (f68_E n) })] f84_G1 (regOps ((bodyOf Tryz.f84).at [1, 0])) := by
  refine ⟨by kernel_rfl, fun w q hq => ?_⟩
  have e : WT [(1, { sh := some hRs }), (2, { ent := some (f98_E n) }), (4, { ent := some (f153_E n) }), (6, { ent := some (f109_E n) }), (7, { ent := some (f69_E n) }), (8, { sh := some hI }), (9, { ent := some (f68_E n) })] (swapIdx (regOps ((bodyOf Tryz.f84).at [1, 0])).toList) q = (∃ (y0 : HL (f98_E n).rs) (q0 : List (Nat × RV)), q = (2, .sv (resSV (f98_E n).rs y0)) :: q0 ∧ ∃ (y1 : HL (f153_E n).rs) (q1 : List (Nat × RV)), q0 = (4, .sv (resSV (f153_E n).rs y1)) :: q1 ∧ ∃ (y2 : HL (f109_E n).rs) (q2 : List (Nat × RV)), q1 = (6, .sv (resSV (f109_E n).rs y2)) :: q2 ∧ ∃ (y3 : HL (f69_E n).rs) (q3 : List (Nat × RV)), q2 = (7, .sv (resSV (f69_E n).rs y3)) :: q3 ∧ ∃ (y4 : HL (f68_E n).rs) (q4 : List (Nat × RV)), q3 = (9, .sv (resSV (f68_E n).rs y4)) :: q4 ∧ q4 = []) := by kernel_rfl
  rw [e] at hq
  obtain ⟨y0, q0, rfl, y1, q1, rfl, y2, q2, rfl, y3, q3, rfl, y4, q4, rfl, rfl⟩ := hq
  exact FamEq.mk (by kernel_rfl)
theorem f84_ents (α : Type) (n : Nat) : AllS Tryz.prog (entsOf (f84_D α n).reg) := ⟨f98_ok n, f153_ok n, f109_ok n, f69_ok n, f68_ok n, f69_ok n, f68_ok n, trivial⟩
theorem f84_d (α : Type) (n : Nat) : D3.OK Tryz.prog (tyOf Tryz.prog) ⟨30, []⟩ (f84_D α n) (bodyOf Tryz.f84) :=
  D3.OK.mk3a (f84_ents α n) (show loopsOf (bodyOf Tryz.f84) = [] by kernel_rfl) trivial (show anysOf (bodyOf Tryz.f84) = [(1, regOps ((bodyOf Tryz.f84).at [1, 0]))] by kernel_rfl) ⟨fun X h => by cases h; exact f84_A1 n, trivial⟩
theorem f84_ok (n : Nat) : (f84_E n).Sound Tryz.prog :=
  fn_ok (tyOf_ok _) prog_fol (f84_D _ n) (show Tryz.prog.funcs[84]? = some Tryz.f84 by kernel_rfl) (by kernel_rfl) (show Tryz.f84.body = some (bodyOf Tryz.f84) by kernel_rfl) rfl rfl (Nat.le_of_ble_eq_true rfl) (f84_d _ n) (by intro x; kernel_rfl) 


def f157 (n : Nat) (a0 : (List (Int × Int × Int × Int)) × (List (Bool × (List Int) × (List Int))) × (List (Bool × (List Int) × (List Int))) × (List (Bool × (List Int) × (List Int))) × Int × (Bool × (List Int) × (List Int)) × Int × Int) : Option Bool :=
  some (decide ((a0.2.2.1.length : Int) > 0))
def f157_E (n : Nat) : Ent := ⟨157, [(.st (.pair hE (.pair hRs (.pair hRs (.pair hRs (.pair hI (.pair hR (.pair hI hI))))))))], [.bool], fun x => f157 n x⟩
def f157_D (α : Type) (n : Nat) : D3 α := { reg := [], join := [], loop := [] }
theorem f157_ents (α : Type) (n : Nat) : AllS Tryz.prog (entsOf (f157_D α n).reg) := trivial
theorem f157_d (α : Type) (n : Nat) : D3.OK Tryz.prog (tyOf Tryz.prog) ⟨7, []⟩ (f157_D α n) (bodyOf Tryz.f157) :=
  D3.OK.mk3 (f157_ents α n) (show loopsOf (bodyOf Tryz.f157) = [] by kernel_rfl) trivial
theorem f157_ok (n : Nat) : (f157_E n).Sound Tryz.prog :=
  fn_ok (tyOf_ok _) prog_fol (f157_D _ n) (show Tryz.prog.funcs[157]? = some Tryz.f157 by kernel_rfl) (by kernel_rfl) (show Tryz.f157.body = some (bodyOf Tryz.f157) by kernel_rfl) rfl rfl (Nat.le_of_ble_eq_true rfl) (f157_d _ n) (by intro x; kernel_rfl) 


def f168 (n : Nat) (a0 : Int) (a1 : List (Bool × (List Int) × (List Int))) : Option (Bool × (List Int) × (List Int)) :=
  gd (decide (0 ≤ a0) && decide (a0 < (a1.length : Int))) (
    let x_1 := a1.getD a0.toNat (false, [], [])
    some x_1)
def f168_E (n : Nat) : Ent := ⟨168, [hI, (.ref hRs)], [hR], fun x => f168 n x.1 x.2⟩
def f168_D (α : Type) (n : Nat) : D3 α := { reg := [], join := [], loop := [] }
theorem f168_ents (α : Type) (n : Nat) : AllS Tryz.prog (entsOf (f168_D α n).reg) := trivial
theorem f168_d (α : Type) (n : Nat) : D3.OK Tryz.prog (tyOf Tryz.prog) ⟨8, []⟩ (f168_D α n) (bodyOf Tryz.f168) :=
  D3.OK.mk3 (f168_ents α n) (show loopsOf (bodyOf Tryz.f168) = [] by kernel_rfl) trivial
theorem f168_ok (n : Nat) : (f168_E n).Sound Tryz.prog :=
  fn_ok (tyOf_ok _) prog_fol (f168_D _ n) (show Tryz.prog.funcs[168]? = some Tryz.f168 by kernel_rfl) (by kernel_rfl) (show Tryz.f168.body = some (bodyOf Tryz.f168) by kernel_rfl) rfl rfl (Nat.le_of_ble_eq_true rfl) (f168_d _ n) (by intro x; kernel_rfl) 


def f97 (n : Nat) (a0 : Bool × (List Int) × (List Int)) : Option (Bool × (List Int) × (List Int)) :=
  ob (f145 n a0.2.1) fun r_1 =>
  ob (f145 n a0.2.2) fun r_2 =>
  some (a0.1, r_1, r_2)
def f97_E (n : Nat) : Ent := ⟨97, [hR], [hR], fun x => f97 n x⟩
def f97_D (α : Type) (n : Nat) : D3 α := { reg := [(1, ⟨8, [], [(4, { ent := some (f145_E n) }), (7, { ent := some (f145_E n) })]⟩)], join := [], loop := [] }
theorem f97_ents (α : Type) (n : Nat) : AllS Tryz.prog (entsOf (f97_D α n).reg) := ⟨f145_ok n, f145_ok n, trivial⟩
theorem f97_d (α : Type) (n : Nat) : D3.OK Tryz.prog (tyOf Tryz.prog) ⟨12, []⟩ (f97_D α n) (bodyOf Tryz.f97) :=
  D3.OK.mk3 (f97_ents α n) (show loopsOf (bodyOf Tryz.f97) = [] by kernel_rfl) trivial
theorem f97_ok (n : Nat) : (f97_E n).Sound Tryz.prog :=
  fn_ok (tyOf_ok _) prog_fol (f97_D _ n) (show Tryz.prog.funcs[97]? = some Tryz.f97 by kernel_rfl) (by kernel_rfl) (show Tryz.f97.body = some (bodyOf Tryz.f97) by kernel_rfl) rfl rfl (Nat.le_of_ble_eq_true rfl) (f97_d _ n) (by intro x; kernel_rfl) 


def f129_L3B {α : Type} (n : Nat) (s1 : List (Bool × (List Int) × (List Int))) (s8 : Int) (s9 : Int) (b7 : List (Bool × (List Int) × (List Int))) (f : (List (Bool × (List Int) × (List Int))) → Int → Int → (List (Bool × (List Int) × (List Int))) → Option α) (k0 : (List (Bool × (List Int) × (List Int))) → Option α) : Option α :=
  bif (decide (s9 < s8)) then
    ob (f168 n s9 s1) fun r_1 =>
    ob (f97 n r_1) fun r_2 =>
    gd (decide ((b7.length + 1) * 56 ≤ 140737488355328)) (
      f s1 s8 (W (s9 + 1)) (b7 ++ [r_2]))
  else
    k0 b7
abbrev f129_L3H : Tm := ⟨[(1, .d (.clo 168 (.ref hRs))), (5, .k (.hw 7)), (8, .d hI), (9, .d hI)], [(7, .arr 30 hR false)], [17], []⟩
abbrev f129_L3X0 : Tm := ⟨[(5, .k (.hw 7))], [(7, .arr 30 hR false)], [], []⟩
abbrev f129_L3O : List (Exit × Tm) := [(.exit 0, f129_L3X0)]
def f129_L3U {α : Type} (n : Nat) (v : f129_L3H.den) (f : f129_L3H.den → Option α) (ks : KS α f129_L3O) : Option α := f129_L3B n v.1.1 v.1.2.2.1 v.1.2.2.2.1 v.2.1 (fun s1 s8 s9 b7 => f ((s1, (), s8, s9, ()), (b7, ()))) (fun w0 => ks.1 (((), ()), (w0, ())))
def f129_L3 {α : Type} (n m : Nat) (s1 : List (Bool × (List Int) × (List Int))) (s8 : Int) (s9 : Int) (b7 : List (Bool × (List Int) × (List Int))) (k0 : (List (Bool × (List Int) × (List Int))) → Option α) : Option α := rounds (f129_L3U n) m ((s1, (), s8, s9, ()), (b7, ())) (fun w => k0 w.2.1, ())
theorem f129_L3_0 {α : Type} (n : Nat) (s1 : List (Bool × (List Int) × (List Int))) (s8 : Int) (s9 : Int) (b7 : List (Bool × (List Int) × (List Int))) (k0 : (List (Bool × (List Int) × (List Int))) → Option α) : f129_L3 (α := α) n 0 s1 s8 s9 b7 k0 = none := rfl
theorem f129_L3_s {α : Type} (n m : Nat) (s1 : List (Bool × (List Int) × (List Int))) (s8 : Int) (s9 : Int) (b7 : List (Bool × (List Int) × (List Int))) (k0 : (List (Bool × (List Int) × (List Int))) → Option α) : f129_L3 (α := α) n (m + 1) s1 s8 s9 b7 k0 = f129_L3B n s1 s8 s9 b7 (fun s1 s8 s9 b7 => f129_L3 n m s1 s8 s9 b7 k0) k0 := rfl
def f129 (n : Nat) (a0 : Int) (a1 : List (Bool × (List Int) × (List Int))) : Option (List (Bool × (List Int) × (List Int))) :=
  f129_L3 n n a1 a0 0 []
    (fun z_3 => (
      some z_3))
def f129_E (n : Nat) : Ent := ⟨129, [hI, (.clo 168 (.ref hRs))], [hRs], fun x => f129 n x.1 x.2⟩
def f129_D (α : Type) (n : Nat) : D3 α := { reg := [(1, ⟨0, [], [(0, { sh := some hR })]⟩), (5, ⟨0, [], [(3, { ent := some (f168_E n) }), (4, { ent := some (f97_E n) }), (5, { sh := some hR })]⟩)], join := [], loop := [(3, ⟨f129_L3H, f129_L3O, rounds (f129_L3U n) n⟩)] }
theorem f129_ents (α : Type) (n : Nat) : AllS Tryz.prog (entsOf (f129_D α n).reg) := ⟨f168_ok n, f97_ok n, trivial⟩
theorem f129_L3_d (α : Type) (n : Nat) : D3.OK Tryz.prog (tyOf Tryz.prog) ⟨21, []⟩ (f129_D α n) ((bodyOf Tryz.f129).at [1, 1, 0, 1, 0, 0]) :=
  D3.OK.mk3 (f129_ents α n) (show loopsOf ((bodyOf Tryz.f129).at [1, 1, 0, 1, 0, 0]) = [] by kernel_rfl) trivial
theorem f129_L3_ok (α : Type) (n : Nat) : LO.Sound (α := α) Tryz.prog ⟨21, []⟩ ⟨f129_L3H, f129_L3O, rounds (f129_L3U n) n⟩ (.loop ((bodyOf Tryz.f129).at [1, 1, 0, 1, 0, 0])) :=
  loop_ok (tyOf_ok _) prog_fol (f129_L3U n) (f129_L3_d α n) (by intro v f ks; kernel_rfl) n
theorem f129_d (α : Type) (n : Nat) : D3.OK Tryz.prog (tyOf Tryz.prog) ⟨21, []⟩ (f129_D α n) (bodyOf Tryz.f129) :=
  D3.OK.mk3 (f129_ents α n) (show loopsOf (bodyOf Tryz.f129) = [(3, (.loop ((bodyOf Tryz.f129).at [1, 1, 0, 1, 0, 0])))] by kernel_rfl) ⟨look_sound rfl (f129_L3_ok α n), trivial⟩
theorem f129_ok (n : Nat) : (f129_E n).Sound Tryz.prog :=
  fn_ok (tyOf_ok _) prog_fol (f129_D _ n) (show Tryz.prog.funcs[129]? = some Tryz.f129 by kernel_rfl) (by kernel_rfl) (show Tryz.f129.body = some (bodyOf Tryz.f129) by kernel_rfl) rfl rfl (Nat.le_of_ble_eq_true rfl) (f129_d _ n) (by intro x; kernel_rfl) 


def f100 (n : Nat) (a0 : List (Bool × (List Int) × (List Int))) : Option (List (Bool × (List Int) × (List Int))) :=
  ob (f129 n (a0.length : Int) a0) fun r_1 =>
  some r_1
def f100_E (n : Nat) : Ent := ⟨100, [hRs], [hRs], fun x => f100 n x⟩
def f100_D (α : Type) (n : Nat) : D3 α := { reg := [(1, ⟨0, [], [(2, { sh := some (.ref hRs) }), (3, { ent := some (f129_E n) })]⟩)], join := [], loop := [] }
theorem f100_ents (α : Type) (n : Nat) : AllS Tryz.prog (entsOf (f100_D α n).reg) := ⟨f129_ok n, trivial⟩
theorem f100_d (α : Type) (n : Nat) : D3.OK Tryz.prog (tyOf Tryz.prog) ⟨7, []⟩ (f100_D α n) (bodyOf Tryz.f100) :=
  D3.OK.mk3 (f100_ents α n) (show loopsOf (bodyOf Tryz.f100) = [] by kernel_rfl) trivial
theorem f100_ok (n : Nat) : (f100_E n).Sound Tryz.prog :=
  fn_ok (tyOf_ok _) prog_fol (f100_D _ n) (show Tryz.prog.funcs[100]? = some Tryz.f100 by kernel_rfl) (by kernel_rfl) (show Tryz.f100.body = some (bodyOf Tryz.f100) by kernel_rfl) rfl rfl (Nat.le_of_ble_eq_true rfl) (f100_d _ n) (by intro x; kernel_rfl) 


def f196 (n : Nat) (a0 : Int) (a1 : List (Bool × (List Int) × (List Int))) (a2 : List (Bool × (List Int) × (List Int))) (a3 : List (Bool × (List Int) × (List Int))) : Option (Bool × (List Int) × (List Int)) :=
  gd (decide (0 ≤ a0) && decide (a0 < (a1.length : Int))) (
    let x_1 := a1.getD a0.toNat (false, [], [])
    gd (decide (0 ≤ a0) && decide (a0 < (a2.length : Int))) (
      let x_2 := a2.getD a0.toNat (false, [], [])
      ob (f181 n x_1 x_2) fun r_3 =>
      bif (decide (r_3 < 0)) then
        gd (decide (0 ≤ a0) && decide (a0 < (a2.length : Int))) (
          let x_4 := a2.getD a0.toNat (false, [], [])
          some x_4)
      else
        gd (decide (0 ≤ a0) && decide (a0 < (a1.length : Int))) (
          let x_5 := a1.getD a0.toNat (false, [], [])
          gd (decide (0 ≤ a0) && decide (a0 < (a3.length : Int))) (
            let x_6 := a3.getD a0.toNat (false, [], [])
            ob (f181 n x_5 x_6) fun r_7 =>
            bif (decide (r_7 > 0)) then
              gd (decide (0 ≤ a0) && decide (a0 < (a3.length : Int))) (
                let x_8 := a3.getD a0.toNat (false, [], [])
                some x_8)
            else
              gd (decide (0 ≤ a0) && decide (a0 < (a1.length : Int))) (
                let x_9 := a1.getD a0.toNat (false, [], [])
                some x_9)))))
def f196_E (n : Nat) : Ent := ⟨196, [hI, (.ref hRs), (.ref hRs), (.ref hRs)], [hR], fun x => f196 n x.1 x.2.1 x.2.2.1 x.2.2.2⟩
def f196_D (α : Type) (n : Nat) : D3 α := { reg := [(1, ⟨8, [], [(8, { ent := some (f181_E n) })]⟩), (3, ⟨8, [], [(8, { ent := some (f181_E n) })]⟩)], join := [], loop := [] }
theorem f196_ents (α : Type) (n : Nat) : AllS Tryz.prog (entsOf (f196_D α n).reg) := ⟨f181_ok n, f181_ok n, trivial⟩
theorem f196_d (α : Type) (n : Nat) : D3.OK Tryz.prog (tyOf Tryz.prog) ⟨40, []⟩ (f196_D α n) (bodyOf Tryz.f196) :=
  D3.OK.mk3 (f196_ents α n) (show loopsOf (bodyOf Tryz.f196) = [] by kernel_rfl) trivial
theorem f196_ok (n : Nat) : (f196_E n).Sound Tryz.prog :=
  fn_ok (tyOf_ok _) prog_fol (f196_D _ n) (show Tryz.prog.funcs[196]? = some Tryz.f196 by kernel_rfl) (by kernel_rfl) (show Tryz.f196.body = some (bodyOf Tryz.f196) by kernel_rfl) rfl rfl (Nat.le_of_ble_eq_true rfl) (f196_d _ n) (by intro x; kernel_rfl) 


def f129b_L3B {α : Type} (n : Nat) (s1 : (List (Bool × (List Int) × (List Int))) × (List (Bool × (List Int) × (List Int))) × (List (Bool × (List Int) × (List Int)))) (s8 : Int) (s9 : Int) (b7 : List (Bool × (List Int) × (List Int))) (f : ((List (Bool × (List Int) × (List Int))) × (List (Bool × (List Int) × (List Int))) × (List (Bool × (List Int) × (List Int)))) → Int → Int → (List (Bool × (List Int) × (List Int))) → Option α) (k0 : (List (Bool × (List Int) × (List Int))) → Option α) : Option α :=
  bif (decide (s9 < s8)) then
    ob (f196 n s9 s1.1 s1.2.1 s1.2.2) fun r_1 =>
    ob (f97 n r_1) fun r_2 =>
    gd (decide ((b7.length + 1) * 56 ≤ 140737488355328)) (
      f s1 s8 (W (s9 + 1)) (b7 ++ [r_2]))
  else
    k0 b7
abbrev f129b_L3H : Tm := ⟨[(1, .d (.clo 196 (.pair (.ref hRs) (.pair (.ref hRs) (.ref hRs))))), (5, .k (.hw 7)), (8, .d hI), (9, .d hI)], [(7, .arr 30 hR false)], [17], []⟩
abbrev f129b_L3X0 : Tm := ⟨[(5, .k (.hw 7))], [(7, .arr 30 hR false)], [], []⟩
abbrev f129b_L3O : List (Exit × Tm) := [(.exit 0, f129b_L3X0)]
def f129b_L3U {α : Type} (n : Nat) (v : f129b_L3H.den) (f : f129b_L3H.den → Option α) (ks : KS α f129b_L3O) : Option α := f129b_L3B n v.1.1 v.1.2.2.1 v.1.2.2.2.1 v.2.1 (fun s1 s8 s9 b7 => f ((s1, (), s8, s9, ()), (b7, ()))) (fun w0 => ks.1 (((), ()), (w0, ())))
def f129b_L3 {α : Type} (n m : Nat) (s1 : (List (Bool × (List Int) × (List Int))) × (List (Bool × (List Int) × (List Int))) × (List (Bool × (List Int) × (List Int)))) (s8 : Int) (s9 : Int) (b7 : List (Bool × (List Int) × (List Int))) (k0 : (List (Bool × (List Int) × (List Int))) → Option α) : Option α := rounds (f129b_L3U n) m ((s1, (), s8, s9, ()), (b7, ())) (fun w => k0 w.2.1, ())
theorem f129b_L3_0 {α : Type} (n : Nat) (s1 : (List (Bool × (List Int) × (List Int))) × (List (Bool × (List Int) × (List Int))) × (List (Bool × (List Int) × (List Int)))) (s8 : Int) (s9 : Int) (b7 : List (Bool × (List Int) × (List Int))) (k0 : (List (Bool × (List Int) × (List Int))) → Option α) : f129b_L3 (α := α) n 0 s1 s8 s9 b7 k0 = none := rfl
theorem f129b_L3_s {α : Type} (n m : Nat) (s1 : (List (Bool × (List Int) × (List Int))) × (List (Bool × (List Int) × (List Int))) × (List (Bool × (List Int) × (List Int)))) (s8 : Int) (s9 : Int) (b7 : List (Bool × (List Int) × (List Int))) (k0 : (List (Bool × (List Int) × (List Int))) → Option α) : f129b_L3 (α := α) n (m + 1) s1 s8 s9 b7 k0 = f129b_L3B n s1 s8 s9 b7 (fun s1 s8 s9 b7 => f129b_L3 n m s1 s8 s9 b7 k0) k0 := rfl
def f129b (n : Nat) (a0 : Int) (a1 : (List (Bool × (List Int) × (List Int))) × (List (Bool × (List Int) × (List Int))) × (List (Bool × (List Int) × (List Int)))) : Option (List (Bool × (List Int) × (List Int))) :=
  f129b_L3 n n a1 a0 0 []
    (fun z_3 => (
      some z_3))
def f129b_E (n : Nat) : Ent := ⟨129, [hI, (.clo 196 (.pair (.ref hRs) (.pair (.ref hRs) (.ref hRs))))], [hRs], fun x => f129b n x.1 x.2⟩
def f129b_D (α : Type) (n : Nat) : D3 α := { reg := [(1, ⟨0, [], [(0, { sh := some hR })]⟩), (5, ⟨0, [], [(3, { ent := some (f196_E n) }), (4, { ent := some (f97_E n) }), (5, { sh := some hR })]⟩)], join := [], loop := [(3, ⟨f129b_L3H, f129b_L3O, rounds (f129b_L3U n) n⟩)] }
theorem f129b_ents (α : Type) (n : Nat) : AllS Tryz.prog (entsOf (f129b_D α n).reg) := ⟨f196_ok n, f97_ok n, trivial⟩
theorem f129b_L3_d (α : Type) (n : Nat) : D3.OK Tryz.prog (tyOf Tryz.prog) ⟨21, []⟩ (f129b_D α n) ((bodyOf Tryz.f129).at [1, 1, 0, 1, 0, 0]) :=
  D3.OK.mk3 (f129b_ents α n) (show loopsOf ((bodyOf Tryz.f129).at [1, 1, 0, 1, 0, 0]) = [] by kernel_rfl) trivial
theorem f129b_L3_ok (α : Type) (n : Nat) : LO.Sound (α := α) Tryz.prog ⟨21, []⟩ ⟨f129b_L3H, f129b_L3O, rounds (f129b_L3U n) n⟩ (.loop ((bodyOf Tryz.f129).at [1, 1, 0, 1, 0, 0])) :=
  loop_ok (tyOf_ok _) prog_fol (f129b_L3U n) (f129b_L3_d α n) (by intro v f ks; kernel_rfl) n
theorem f129b_d (α : Type) (n : Nat) : D3.OK Tryz.prog (tyOf Tryz.prog) ⟨21, []⟩ (f129b_D α n) (bodyOf Tryz.f129) :=
  D3.OK.mk3 (f129b_ents α n) (show loopsOf (bodyOf Tryz.f129) = [(3, (.loop ((bodyOf Tryz.f129).at [1, 1, 0, 1, 0, 0])))] by kernel_rfl) ⟨look_sound rfl (f129b_L3_ok α n), trivial⟩
theorem f129b_ok (n : Nat) : (f129b_E n).Sound Tryz.prog :=
  fn_ok (tyOf_ok _) prog_fol (f129b_D _ n) (show Tryz.prog.funcs[129]? = some Tryz.f129 by kernel_rfl) (by kernel_rfl) (show Tryz.f129.body = some (bodyOf Tryz.f129) by kernel_rfl) rfl rfl (Nat.le_of_ble_eq_true rfl) (f129b_d _ n) (by intro x; kernel_rfl) 


def f158 (n : Nat) (a0 : List (Bool × (List Int) × (List Int))) (a1 : List (Bool × (List Int) × (List Int))) (a2 : List (Bool × (List Int) × (List Int))) : Option (List (Bool × (List Int) × (List Int))) :=
  ob (f129b n (a0.length : Int) (a0, a1, a2)) fun r_1 =>
  some r_1
def f158_E (n : Nat) : Ent := ⟨158, [hRs, hRs, hRs], [hRs], fun x => f158 n x.1 x.2.1 x.2.2⟩
def f158_D (α : Type) (n : Nat) : D3 α := { reg := [(1, ⟨0, [], [(2, { sh := some (.pair (.ref hRs) (.pair (.ref hRs) (.ref hRs))) }), (3, { ent := some (f129b_E n) })]⟩)], join := [], loop := [] }
theorem f158_ents (α : Type) (n : Nat) : AllS Tryz.prog (entsOf (f158_D α n).reg) := ⟨f129b_ok n, trivial⟩
theorem f158_d (α : Type) (n : Nat) : D3.OK Tryz.prog (tyOf Tryz.prog) ⟨11, []⟩ (f158_D α n) (bodyOf Tryz.f158) :=
  D3.OK.mk3 (f158_ents α n) (show loopsOf (bodyOf Tryz.f158) = [] by kernel_rfl) trivial
theorem f158_ok (n : Nat) : (f158_E n).Sound Tryz.prog :=
  fn_ok (tyOf_ok _) prog_fol (f158_D _ n) (show Tryz.prog.funcs[158]? = some Tryz.f158 by kernel_rfl) (by kernel_rfl) (show Tryz.f158.body = some (bodyOf Tryz.f158) by kernel_rfl) rfl rfl (Nat.le_of_ble_eq_true rfl) (f158_d _ n) (by intro x; kernel_rfl) 


def f88 (n : Nat) (a0 : (List (Int × Int × Int × Int)) × (List (Bool × (List Int) × (List Int))) × (List (Bool × (List Int) × (List Int))) × (List (Bool × (List Int) × (List Int))) × Int × (Bool × (List Int) × (List Int)) × Int × Int) (a1 : List (Bool × (List Int) × (List Int))) : Option (List (Bool × (List Int) × (List Int))) :=
  ob (f157 n a0) fun r_1 =>
  bif (!r_1) then
    ob (f100 n a1) fun r_2 =>
    some r_2
  else
    ob (f158 n a1 a0.2.2.1 a0.2.2.2.1) fun r_3 =>
    some r_3
def f88_E (n : Nat) : Ent := ⟨88, [(.st (.pair hE (.pair hRs (.pair hRs (.pair hRs (.pair hI (.pair hR (.pair hI hI)))))))), hRs], [hRs], fun x => f88 n x.1 x.2⟩
def f88_D (α : Type) (n : Nat) : D3 α := { reg := [(1, ⟨0, [], [(1, { ent := some (f157_E n) })]⟩), (2, ⟨0, [], [(1, { ent := some (f100_E n) })]⟩), (3, ⟨0, [], [(5, { ent := some (f158_E n) })]⟩)], join := [], loop := [] }
theorem f88_ents (α : Type) (n : Nat) : AllS Tryz.prog (entsOf (f88_D α n).reg) := ⟨f157_ok n, f100_ok n, f158_ok n, trivial⟩
theorem f88_d (α : Type) (n : Nat) : D3.OK Tryz.prog (tyOf Tryz.prog) ⟨16, []⟩ (f88_D α n) (bodyOf Tryz.f88) :=
  D3.OK.mk3 (f88_ents α n) (show loopsOf (bodyOf Tryz.f88) = [] by kernel_rfl) trivial
theorem f88_ok (n : Nat) : (f88_E n).Sound Tryz.prog :=
  fn_ok (tyOf_ok _) prog_fol (f88_D _ n) (show Tryz.prog.funcs[88]? = some Tryz.f88 by kernel_rfl) (by kernel_rfl) (show Tryz.f88.body = some (bodyOf Tryz.f88) by kernel_rfl) rfl rfl (Nat.le_of_ble_eq_true rfl) (f88_d _ n) (by intro x; kernel_rfl) 


def f180 (n : Nat) (a0 : Bool × (List Int) × (List Int)) (a1 : Bool × (List Int) × (List Int)) : Option Bool :=
  ob (f181 n a0 a1) fun r_1 =>
  some (r_1 == 0)
def f180_E (n : Nat) : Ent := ⟨180, [hR, hR], [.bool], fun x => f180 n x.1 x.2⟩
def f180_D (α : Type) (n : Nat) : D3 α := { reg := [(1, ⟨0, [], [(2, { ent := some (f181_E n) })]⟩)], join := [], loop := [] }
theorem f180_ents (α : Type) (n : Nat) : AllS Tryz.prog (entsOf (f180_D α n).reg) := ⟨f181_ok n, trivial⟩
theorem f180_d (α : Type) (n : Nat) : D3.OK Tryz.prog (tyOf Tryz.prog) ⟨9, []⟩ (f180_D α n) (bodyOf Tryz.f180) :=
  D3.OK.mk3 (f180_ents α n) (show loopsOf (bodyOf Tryz.f180) = [] by kernel_rfl) trivial
theorem f180_ok (n : Nat) : (f180_E n).Sound Tryz.prog :=
  fn_ok (tyOf_ok _) prog_fol (f180_D _ n) (show Tryz.prog.funcs[180]? = some Tryz.f180 by kernel_rfl) (by kernel_rfl) (show Tryz.f180.body = some (bodyOf Tryz.f180) by kernel_rfl) rfl rfl (Nat.le_of_ble_eq_true rfl) (f180_d _ n) (by intro x; kernel_rfl) 


def f179_L4B {α : Type} (n : Nat) (s1 : List (Bool × (List Int) × (List Int))) (s15 : List (Bool × (List Int) × (List Int))) (s16 : Int) (s17 : Int) (f : (List (Bool × (List Int) × (List Int))) → (List (Bool × (List Int) × (List Int))) → Int → Int → Option α) (k0 : Bool → Option α) (k1 : Unit → Option α) : Option α :=
  bif (decide (s17 < s16)) then
    gd (decide (0 ≤ s17) && decide (s17 < (s15.length : Int))) (
      let x_1 := s15.getD s17.toNat (false, [], [])
      gd (decide (0 ≤ s17) && decide (s17 < (s1.length : Int))) (
        let x_2 := s1.getD s17.toNat (false, [], [])
        ob (f180 n x_1 x_2) fun r_3 =>
        bif (!r_3) then
          k0 false
        else
          f s1 s15 s16 (W (s17 + 1))))
  else
    k1 ()
abbrev f179_L4H : Tm := ⟨[(1, .d hRs), (2, .d (.fn 180)), (15, .d hRs), (16, .d hI), (17, .d hI)], [], [8, 9], []⟩
abbrev f179_L4X0 : Tm := ⟨[(6, .d .bool)], [], [8, 9], []⟩
abbrev f179_L4X1 : Tm := ⟨[], [], [], []⟩
abbrev f179_L4O : List (Exit × Tm) := [(.ret, f179_L4X0), (.exit 0, f179_L4X1)]
def f179_L4U {α : Type} (n : Nat) (v : f179_L4H.den) (f : f179_L4H.den → Option α) (ks : KS α f179_L4O) : Option α := f179_L4B n v.1.1 v.1.2.2.1 v.1.2.2.2.1 v.1.2.2.2.2.1 (fun s1 s15 s16 s17 => f ((s1, (), s15, s16, s17, ()), ())) (fun w0 => ks.1 ((w0, ()), ())) (fun _ => ks.2.1 ((), ()))
def f179_L4 {α : Type} (n m : Nat) (s1 : List (Bool × (List Int) × (List Int))) (s15 : List (Bool × (List Int) × (List Int))) (s16 : Int) (s17 : Int) (k0 : Bool → Option α) (k1 : Unit → Option α) : Option α := rounds (f179_L4U n) m ((s1, (), s15, s16, s17, ()), ()) (fun w => k0 w.1.1, fun w => k1 (), ())
theorem f179_L4_0 {α : Type} (n : Nat) (s1 : List (Bool × (List Int) × (List Int))) (s15 : List (Bool × (List Int) × (List Int))) (s16 : Int) (s17 : Int) (k0 : Bool → Option α) (k1 : Unit → Option α) : f179_L4 (α := α) n 0 s1 s15 s16 s17 k0 k1 = none := rfl
theorem f179_L4_s {α : Type} (n m : Nat) (s1 : List (Bool × (List Int) × (List Int))) (s15 : List (Bool × (List Int) × (List Int))) (s16 : Int) (s17 : Int) (k0 : Bool → Option α) (k1 : Unit → Option α) : f179_L4 (α := α) n (m + 1) s1 s15 s16 s17 k0 k1 = f179_L4B n s1 s15 s16 s17 (fun s1 s15 s16 s17 => f179_L4 n m s1 s15 s16 s17 k0 k1) k0 k1 := rfl
def f179 (n : Nat) (a0 : List (Bool × (List Int) × (List Int))) (a1 : List (Bool × (List Int) × (List Int))) (a2 : Unit) : Option Bool :=
  bif ((a0.length : Int) != (a1.length : Int)) then
    some false
  else
    f179_L4 n n a1 a0 (a0.length : Int) 0
      (fun z_4 => (
        some z_4))
      (fun (_ : Unit) => (
        some true))
def f179_E (n : Nat) : Ent := ⟨179, [hRs, hRs, (.fn 180)], [.bool], fun x => f179 n x.1 x.2.1 x.2.2⟩
def f179_D (α : Type) (n : Nat) : D3 α := { reg := [(7, ⟨0, [], [(3, { ent := some (f180_E n) })]⟩)], join := [], loop := [(4, ⟨f179_L4H, f179_L4O, rounds (f179_L4U n) n⟩)] }
theorem f179_ents (α : Type) (n : Nat) : AllS Tryz.prog (entsOf (f179_D α n).reg) := ⟨f180_ok n, trivial⟩
theorem f179_L4_d (α : Type) (n : Nat) : D3.OK Tryz.prog (tyOf Tryz.prog) ⟨32, []⟩ (f179_D α n) ((bodyOf Tryz.f179).at [1, 1, 0, 1, 0, 0]) :=
  D3.OK.mk3 (f179_ents α n) (show loopsOf ((bodyOf Tryz.f179).at [1, 1, 0, 1, 0, 0]) = [] by kernel_rfl) trivial
theorem f179_L4_ok (α : Type) (n : Nat) : LO.Sound (α := α) Tryz.prog ⟨32, []⟩ ⟨f179_L4H, f179_L4O, rounds (f179_L4U n) n⟩ (.loop ((bodyOf Tryz.f179).at [1, 1, 0, 1, 0, 0])) :=
  loop_ok (tyOf_ok _) prog_fol (f179_L4U n) (f179_L4_d α n) (by intro v f ks; kernel_rfl) n
theorem f179_d (α : Type) (n : Nat) : D3.OK Tryz.prog (tyOf Tryz.prog) ⟨32, []⟩ (f179_D α n) (bodyOf Tryz.f179) :=
  D3.OK.mk3 (f179_ents α n) (show loopsOf (bodyOf Tryz.f179) = [(4, (.loop ((bodyOf Tryz.f179).at [1, 1, 0, 1, 0, 0])))] by kernel_rfl) ⟨look_sound rfl (f179_L4_ok α n), trivial⟩
theorem f179_ok (n : Nat) : (f179_E n).Sound Tryz.prog :=
  fn_ok (tyOf_ok _) prog_fol (f179_D _ n) (show Tryz.prog.funcs[179]? = some Tryz.f179 by kernel_rfl) (by kernel_rfl) (show Tryz.f179.body = some (bodyOf Tryz.f179) by kernel_rfl) rfl rfl (Nat.le_of_ble_eq_true rfl) (f179_d _ n) (by intro x; kernel_rfl) 


def f139 (n : Nat) (a0 : List (Bool × (List Int) × (List Int))) (a1 : List (Bool × (List Int) × (List Int))) : Option Bool :=
  ob (f179 n a0 a1 ()) fun r_1 =>
  some r_1
def f139_E (n : Nat) : Ent := ⟨139, [hRs, hRs], [.bool], fun x => f139 n x.1 x.2⟩
def f139_D (α : Type) (n : Nat) : D3 α := { reg := [(1, ⟨0, [], [(2, { ent := some (f179_E n) })]⟩)], join := [], loop := [] }
theorem f139_ents (α : Type) (n : Nat) : AllS Tryz.prog (entsOf (f139_D α n).reg) := ⟨f179_ok n, trivial⟩
theorem f139_d (α : Type) (n : Nat) : D3.OK Tryz.prog (tyOf Tryz.prog) ⟨8, []⟩ (f139_D α n) (bodyOf Tryz.f139) :=
  D3.OK.mk3 (f139_ents α n) (show loopsOf (bodyOf Tryz.f139) = [] by kernel_rfl) trivial
theorem f139_ok (n : Nat) : (f139_E n).Sound Tryz.prog :=
  fn_ok (tyOf_ok _) prog_fol (f139_D _ n) (show Tryz.prog.funcs[139]? = some Tryz.f139 by kernel_rfl) (by kernel_rfl) (show Tryz.f139.body = some (bodyOf Tryz.f139) by kernel_rfl) rfl rfl (Nat.le_of_ble_eq_true rfl) (f139_d _ n) (by intro x; kernel_rfl) 


def f85 (n : Nat) (a0 : (List (Int × Int × Int × Int)) × (List (Bool × (List Int) × (List Int))) × (List (Bool × (List Int) × (List Int))) × (List (Bool × (List Int) × (List Int))) × Int × (Bool × (List Int) × (List Int)) × Int × Int) (a1 : List (Bool × (List Int) × (List Int))) : Option Bool :=
  ob (f88 n a0 a1) fun r_1 =>
  ob (f139 n r_1 a1) fun r_2 =>
  some r_2
def f85_E (n : Nat) : Ent := ⟨85, [(.st (.pair hE (.pair hRs (.pair hRs (.pair hRs (.pair hI (.pair hR (.pair hI hI)))))))), hRs], [.bool], fun x => f85 n x.1 x.2⟩
def f85_D (α : Type) (n : Nat) : D3 α := { reg := [(1, ⟨0, [], [(2, { ent := some (f88_E n) }), (4, { ent := some (f139_E n) })]⟩)], join := [], loop := [] }
theorem f85_ents (α : Type) (n : Nat) : AllS Tryz.prog (entsOf (f85_D α n).reg) := ⟨f88_ok n, f139_ok n, trivial⟩
theorem f85_d (α : Type) (n : Nat) : D3.OK Tryz.prog (tyOf Tryz.prog) ⟨10, []⟩ (f85_D α n) (bodyOf Tryz.f85) :=
  D3.OK.mk3 (f85_ents α n) (show loopsOf (bodyOf Tryz.f85) = [] by kernel_rfl) trivial
theorem f85_ok (n : Nat) : (f85_E n).Sound Tryz.prog :=
  fn_ok (tyOf_ok _) prog_fol (f85_D _ n) (show Tryz.prog.funcs[85]? = some Tryz.f85 by kernel_rfl) (by kernel_rfl) (show Tryz.f85.body = some (bodyOf Tryz.f85) by kernel_rfl) rfl rfl (Nat.le_of_ble_eq_true rfl) (f85_d _ n) (by intro x; kernel_rfl) 


def f31 (n : Nat) (a0 : (List (Int × Int × Int × Int)) × (List (Bool × (List Int) × (List Int))) × (List (Bool × (List Int) × (List Int))) × (List (Bool × (List Int) × (List Int))) × Int × (Bool × (List Int) × (List Int)) × Int × Int) (a1 : List (Bool × (List Int) × (List Int))) : Option (Bool × Int) :=
  ob (f84 n a0 a1) fun r_1 =>
  bif (r_1 != 0) then
    some (false, r_1)
  else
    ob (f85 n a0 a1) fun r_2 =>
    some (r_2, 0)
def f31_E (n : Nat) : Ent := ⟨31, [(.st (.pair hE (.pair hRs (.pair hRs (.pair hRs (.pair hI (.pair hR (.pair hI hI)))))))), hRs], [.bool, hI], fun x => f31 n x.1 x.2⟩
def f31_D (α : Type) (n : Nat) : D3 α := { reg := [(1, ⟨0, [], [(2, { ent := some (f84_E n) })]⟩), (4, ⟨0, [], [(2, { ent := some (f85_E n) })]⟩)], join := [], loop := [] }
theorem f31_ents (α : Type) (n : Nat) : AllS Tryz.prog (entsOf (f31_D α n).reg) := ⟨f84_ok n, f85_ok n, trivial⟩
theorem f31_d (α : Type) (n : Nat) : D3.OK Tryz.prog (tyOf Tryz.prog) ⟨16, []⟩ (f31_D α n) (bodyOf Tryz.f31) :=
  D3.OK.mk3 (f31_ents α n) (show loopsOf (bodyOf Tryz.f31) = [] by kernel_rfl) trivial
theorem f31_ok (n : Nat) : (f31_E n).Sound Tryz.prog :=
  fn_ok (tyOf_ok _) prog_fol (f31_D _ n) (show Tryz.prog.funcs[31]? = some Tryz.f31 by kernel_rfl) (by kernel_rfl) (show Tryz.f31.body = some (bodyOf Tryz.f31) by kernel_rfl) rfl rfl (Nat.le_of_ble_eq_true rfl) (f31_d _ n) (by intro x; kernel_rfl) 


def f195 (n : Nat) (a0 : Int × Int × Int × Int) (a1 : Int × Int × Int × Int) : Option Bool :=
  bif (a0.1 != a1.1) then
    some false
  else
    bif (a0.2.1 != a1.2.1) then
      some false
    else
      bif (a0.2.2.1 != a1.2.2.1) then
        some false
      else
        bif (a0.2.2.2 != a1.2.2.2) then
          some false
        else
          some true
def f195_E (n : Nat) : Ent := ⟨195, [hN, hN], [.bool], fun x => f195 n x.1 x.2⟩
def f195_D (α : Type) (n : Nat) : D3 α := { reg := [], join := [], loop := [] }
theorem f195_ents (α : Type) (n : Nat) : AllS Tryz.prog (entsOf (f195_D α n).reg) := trivial
theorem f195_d (α : Type) (n : Nat) : D3.OK Tryz.prog (tyOf Tryz.prog) ⟨25, []⟩ (f195_D α n) (bodyOf Tryz.f195) :=
  D3.OK.mk3 (f195_ents α n) (show loopsOf (bodyOf Tryz.f195) = [] by kernel_rfl) trivial
theorem f195_ok (n : Nat) : (f195_E n).Sound Tryz.prog :=
  fn_ok (tyOf_ok _) prog_fol (f195_D _ n) (show Tryz.prog.funcs[195]? = some Tryz.f195 by kernel_rfl) (by kernel_rfl) (show Tryz.f195.body = some (bodyOf Tryz.f195) by kernel_rfl) rfl rfl (Nat.le_of_ble_eq_true rfl) (f195_d _ n) (by intro x; kernel_rfl) 


def f154_L4B {α : Type} (n : Nat) (s0 : List (Int × Int × Int × Int)) (s1 : List (Int × Int × Int × Int)) (s5 : Int) (f : (List (Int × Int × Int × Int)) → (List (Int × Int × Int × Int)) → Int → Option α) (k0 : Bool → Option α) (k1 : Unit → Option α) : Option α :=
  bif (decide (s5 < (s0.length : Int))) then
    gd (decide (0 ≤ s5) && decide (s5 < (s0.length : Int))) (
      let x_1 := s0.getD s5.toNat (0, 0, 0, 0)
      gd (decide (0 ≤ s5) && decide (s5 < (s1.length : Int))) (
        let x_2 := s1.getD s5.toNat (0, 0, 0, 0)
        ob (f195 n x_1 x_2) fun r_3 =>
        bif (!r_3) then
          k0 false
        else
          f s0 s1 (W (s5 + 1))))
  else
    k1 ()
abbrev f154_L4H : Tm := ⟨[(0, .d hNs), (1, .d hNs), (5, .d hI)], [], [], []⟩
abbrev f154_L4X0 : Tm := ⟨[(4, .d .bool)], [], [], []⟩
abbrev f154_L4X1 : Tm := ⟨[], [], [], []⟩
abbrev f154_L4O : List (Exit × Tm) := [(.ret, f154_L4X0), (.exit 0, f154_L4X1)]
def f154_L4U {α : Type} (n : Nat) (v : f154_L4H.den) (f : f154_L4H.den → Option α) (ks : KS α f154_L4O) : Option α := f154_L4B n v.1.1 v.1.2.1 v.1.2.2.1 (fun s0 s1 s5 => f ((s0, s1, s5, ()), ())) (fun w0 => ks.1 ((w0, ()), ())) (fun _ => ks.2.1 ((), ()))
def f154_L4 {α : Type} (n m : Nat) (s0 : List (Int × Int × Int × Int)) (s1 : List (Int × Int × Int × Int)) (s5 : Int) (k0 : Bool → Option α) (k1 : Unit → Option α) : Option α := rounds (f154_L4U n) m ((s0, s1, s5, ()), ()) (fun w => k0 w.1.1, fun w => k1 (), ())
theorem f154_L4_0 {α : Type} (n : Nat) (s0 : List (Int × Int × Int × Int)) (s1 : List (Int × Int × Int × Int)) (s5 : Int) (k0 : Bool → Option α) (k1 : Unit → Option α) : f154_L4 (α := α) n 0 s0 s1 s5 k0 k1 = none := rfl
theorem f154_L4_s {α : Type} (n m : Nat) (s0 : List (Int × Int × Int × Int)) (s1 : List (Int × Int × Int × Int)) (s5 : Int) (k0 : Bool → Option α) (k1 : Unit → Option α) : f154_L4 (α := α) n (m + 1) s0 s1 s5 k0 k1 = f154_L4B n s0 s1 s5 (fun s0 s1 s5 => f154_L4 n m s0 s1 s5 k0 k1) k0 k1 := rfl
def f154 (n : Nat) (a0 : List (Int × Int × Int × Int)) (a1 : List (Int × Int × Int × Int)) : Option Bool :=
  bif ((a0.length : Int) != (a1.length : Int)) then
    some false
  else
    f154_L4 n n a0 a1 0
      (fun z_4 => (
        some z_4))
      (fun (_ : Unit) => (
        some true))
def f154_E (n : Nat) : Ent := ⟨154, [hNs, hNs], [.bool], fun x => f154 n x.1 x.2⟩
def f154_D (α : Type) (n : Nat) : D3 α := { reg := [(6, ⟨8, [], [(8, { ent := some (f195_E n) })]⟩)], join := [], loop := [(4, ⟨f154_L4H, f154_L4O, rounds (f154_L4U n) n⟩)] }
theorem f154_ents (α : Type) (n : Nat) : AllS Tryz.prog (entsOf (f154_D α n).reg) := ⟨f195_ok n, trivial⟩
theorem f154_L4_d (α : Type) (n : Nat) : D3.OK Tryz.prog (tyOf Tryz.prog) ⟨27, []⟩ (f154_D α n) ((bodyOf Tryz.f154).at [1, 1, 0, 1, 0, 0]) :=
  D3.OK.mk3 (f154_ents α n) (show loopsOf ((bodyOf Tryz.f154).at [1, 1, 0, 1, 0, 0]) = [] by kernel_rfl) trivial
theorem f154_L4_ok (α : Type) (n : Nat) : LO.Sound (α := α) Tryz.prog ⟨27, []⟩ ⟨f154_L4H, f154_L4O, rounds (f154_L4U n) n⟩ (.loop ((bodyOf Tryz.f154).at [1, 1, 0, 1, 0, 0])) :=
  loop_ok (tyOf_ok _) prog_fol (f154_L4U n) (f154_L4_d α n) (by intro v f ks; kernel_rfl) n
theorem f154_d (α : Type) (n : Nat) : D3.OK Tryz.prog (tyOf Tryz.prog) ⟨27, []⟩ (f154_D α n) (bodyOf Tryz.f154) :=
  D3.OK.mk3 (f154_ents α n) (show loopsOf (bodyOf Tryz.f154) = [(4, (.loop ((bodyOf Tryz.f154).at [1, 1, 0, 1, 0, 0])))] by kernel_rfl) ⟨look_sound rfl (f154_L4_ok α n), trivial⟩
theorem f154_ok (n : Nat) : (f154_E n).Sound Tryz.prog :=
  fn_ok (tyOf_ok _) prog_fol (f154_D _ n) (show Tryz.prog.funcs[154]? = some Tryz.f154 by kernel_rfl) (by kernel_rfl) (show Tryz.f154.body = some (bodyOf Tryz.f154) by kernel_rfl) rfl rfl (Nat.le_of_ble_eq_true rfl) (f154_d _ n) (by intro x; kernel_rfl) 


def f86 (n : Nat) (a0 : List (Int × Int × Int × Int)) (a1 : List (Int × Int × Int × Int)) : Option Bool :=
  ob (f154 n a0 a1) fun r_1 =>
  bif (!r_1) then
    some false
  else
    some true
def f86_E (n : Nat) : Ent := ⟨86, [hE, hE], [.bool], fun x => f86 n x.1 x.2⟩
def f86_D (α : Type) (n : Nat) : D3 α := { reg := [(1, ⟨0, [], [(4, { ent := some (f154_E n) })]⟩)], join := [], loop := [] }
theorem f86_ents (α : Type) (n : Nat) : AllS Tryz.prog (entsOf (f86_D α n).reg) := ⟨f154_ok n, trivial⟩
theorem f86_d (α : Type) (n : Nat) : D3.OK Tryz.prog (tyOf Tryz.prog) ⟨11, []⟩ (f86_D α n) (bodyOf Tryz.f86) :=
  D3.OK.mk3 (f86_ents α n) (show loopsOf (bodyOf Tryz.f86) = [] by kernel_rfl) trivial
theorem f86_ok (n : Nat) : (f86_E n).Sound Tryz.prog :=
  fn_ok (tyOf_ok _) prog_fol (f86_D _ n) (show Tryz.prog.funcs[86]? = some Tryz.f86 by kernel_rfl) (by kernel_rfl) (show Tryz.f86.body = some (bodyOf Tryz.f86) by kernel_rfl) rfl rfl (Nat.le_of_ble_eq_true rfl) (f86_d _ n) (by intro x; kernel_rfl) 


def f133_L4B {α : Type} (n : Nat) (s0 : List Int) (s1 : List Int) (s5 : Int) (f : (List Int) → (List Int) → Int → Option α) (k0 : Bool → Option α) (k1 : Unit → Option α) : Option α :=
  bif (decide (s5 < (s0.length : Int))) then
    gd (decide (0 ≤ s5) && decide (s5 < (s0.length : Int))) (
      gd (decide (0 ≤ s5) && decide (s5 < (s1.length : Int))) (
        bif ((s0.getD s5.toNat 0) != (s1.getD s5.toNat 0)) then
          k0 false
        else
          f s0 s1 (W (s5 + 1))))
  else
    k1 ()
abbrev f133_L4H : Tm := ⟨[(0, .d hIs), (1, .d hIs), (5, .d hI)], [], [], []⟩
abbrev f133_L4X0 : Tm := ⟨[(4, .d .bool)], [], [], []⟩
abbrev f133_L4X1 : Tm := ⟨[], [], [], []⟩
abbrev f133_L4O : List (Exit × Tm) := [(.ret, f133_L4X0), (.exit 0, f133_L4X1)]
def f133_L4U {α : Type} (n : Nat) (v : f133_L4H.den) (f : f133_L4H.den → Option α) (ks : KS α f133_L4O) : Option α := f133_L4B n v.1.1 v.1.2.1 v.1.2.2.1 (fun s0 s1 s5 => f ((s0, s1, s5, ()), ())) (fun w0 => ks.1 ((w0, ()), ())) (fun _ => ks.2.1 ((), ()))
def f133_L4 {α : Type} (n m : Nat) (s0 : List Int) (s1 : List Int) (s5 : Int) (k0 : Bool → Option α) (k1 : Unit → Option α) : Option α := rounds (f133_L4U n) m ((s0, s1, s5, ()), ()) (fun w => k0 w.1.1, fun w => k1 (), ())
theorem f133_L4_0 {α : Type} (n : Nat) (s0 : List Int) (s1 : List Int) (s5 : Int) (k0 : Bool → Option α) (k1 : Unit → Option α) : f133_L4 (α := α) n 0 s0 s1 s5 k0 k1 = none := rfl
theorem f133_L4_s {α : Type} (n m : Nat) (s0 : List Int) (s1 : List Int) (s5 : Int) (k0 : Bool → Option α) (k1 : Unit → Option α) : f133_L4 (α := α) n (m + 1) s0 s1 s5 k0 k1 = f133_L4B n s0 s1 s5 (fun s0 s1 s5 => f133_L4 n m s0 s1 s5 k0 k1) k0 k1 := rfl
def f133 (n : Nat) (a0 : List Int) (a1 : List Int) : Option Bool :=
  bif ((a0.length : Int) != (a1.length : Int)) then
    some false
  else
    f133_L4 n n a0 a1 0
      (fun z_1 => (
        some z_1))
      (fun (_ : Unit) => (
        some true))
def f133_E (n : Nat) : Ent := ⟨133, [hIs, hIs], [.bool], fun x => f133 n x.1 x.2⟩
def f133_D (α : Type) (n : Nat) : D3 α := { reg := [(6, ⟨8, [], []⟩)], join := [], loop := [(4, ⟨f133_L4H, f133_L4O, rounds (f133_L4U n) n⟩)] }
theorem f133_ents (α : Type) (n : Nat) : AllS Tryz.prog (entsOf (f133_D α n).reg) := trivial
theorem f133_L4_d (α : Type) (n : Nat) : D3.OK Tryz.prog (tyOf Tryz.prog) ⟨26, []⟩ (f133_D α n) ((bodyOf Tryz.f133).at [1, 1, 0, 1, 0, 0]) :=
  D3.OK.mk3 (f133_ents α n) (show loopsOf ((bodyOf Tryz.f133).at [1, 1, 0, 1, 0, 0]) = [] by kernel_rfl) trivial
theorem f133_L4_ok (α : Type) (n : Nat) : LO.Sound (α := α) Tryz.prog ⟨26, []⟩ ⟨f133_L4H, f133_L4O, rounds (f133_L4U n) n⟩ (.loop ((bodyOf Tryz.f133).at [1, 1, 0, 1, 0, 0])) :=
  loop_ok (tyOf_ok _) prog_fol (f133_L4U n) (f133_L4_d α n) (by intro v f ks; kernel_rfl) n
theorem f133_d (α : Type) (n : Nat) : D3.OK Tryz.prog (tyOf Tryz.prog) ⟨26, []⟩ (f133_D α n) (bodyOf Tryz.f133) :=
  D3.OK.mk3 (f133_ents α n) (show loopsOf (bodyOf Tryz.f133) = [(4, (.loop ((bodyOf Tryz.f133).at [1, 1, 0, 1, 0, 0])))] by kernel_rfl) ⟨look_sound rfl (f133_L4_ok α n), trivial⟩
theorem f133_ok (n : Nat) : (f133_E n).Sound Tryz.prog :=
  fn_ok (tyOf_ok _) prog_fol (f133_D _ n) (show Tryz.prog.funcs[133]? = some Tryz.f133 by kernel_rfl) (by kernel_rfl) (show Tryz.f133.body = some (bodyOf Tryz.f133) by kernel_rfl) rfl rfl (Nat.le_of_ble_eq_true rfl) (f133_d _ n) (by intro x; kernel_rfl) 


def f62 (n : Nat) (a0 : Bool × (List Int) × (List Int)) (a1 : Bool × (List Int) × (List Int)) : Option Bool :=
  bif (!(a0.1 == a1.1)) then
    some false
  else
    ob (f133 n a0.2.1 a1.2.1) fun r_1 =>
    bif (!r_1) then
      some false
    else
      ob (f133 n a0.2.2 a1.2.2) fun r_2 =>
      bif (!r_2) then
        some false
      else
        some true
def f62_E (n : Nat) : Ent := ⟨62, [hR, hR], [.bool], fun x => f62 n x.1 x.2⟩
def f62_D (α : Type) (n : Nat) : D3 α := { reg := [(3, ⟨0, [], [(4, { ent := some (f133_E n) })]⟩), (5, ⟨0, [], [(4, { ent := some (f133_E n) })]⟩)], join := [], loop := [] }
theorem f62_ents (α : Type) (n : Nat) : AllS Tryz.prog (entsOf (f62_D α n).reg) := ⟨f133_ok n, f133_ok n, trivial⟩
theorem f62_d (α : Type) (n : Nat) : D3.OK Tryz.prog (tyOf Tryz.prog) ⟨22, []⟩ (f62_D α n) (bodyOf Tryz.f62) :=
  D3.OK.mk3 (f62_ents α n) (show loopsOf (bodyOf Tryz.f62) = [] by kernel_rfl) trivial
theorem f62_ok (n : Nat) : (f62_E n).Sound Tryz.prog :=
  fn_ok (tyOf_ok _) prog_fol (f62_D _ n) (show Tryz.prog.funcs[62]? = some Tryz.f62 by kernel_rfl) (by kernel_rfl) (show Tryz.f62.body = some (bodyOf Tryz.f62) by kernel_rfl) rfl rfl (Nat.le_of_ble_eq_true rfl) (f62_d _ n) (by intro x; kernel_rfl) 


def f20_L4B {α : Type} (n : Nat) (s0 : List (Bool × (List Int) × (List Int))) (s1 : List (Bool × (List Int) × (List Int))) (s5 : Int) (f : (List (Bool × (List Int) × (List Int))) → (List (Bool × (List Int) × (List Int))) → Int → Option α) (k0 : Bool → Option α) (k1 : Unit → Option α) : Option α :=
  bif (decide (s5 < (s0.length : Int))) then
    gd (decide (0 ≤ s5) && decide (s5 < (s0.length : Int))) (
      let x_1 := s0.getD s5.toNat (false, [], [])
      gd (decide (0 ≤ s5) && decide (s5 < (s1.length : Int))) (
        let x_2 := s1.getD s5.toNat (false, [], [])
        ob (f62 n x_1 x_2) fun r_3 =>
        bif (!r_3) then
          k0 false
        else
          f s0 s1 (W (s5 + 1))))
  else
    k1 ()
abbrev f20_L4H : Tm := ⟨[(0, .d hRs), (1, .d hRs), (5, .d hI)], [], [], []⟩
abbrev f20_L4X0 : Tm := ⟨[(4, .d .bool)], [], [], []⟩
abbrev f20_L4X1 : Tm := ⟨[], [], [], []⟩
abbrev f20_L4O : List (Exit × Tm) := [(.ret, f20_L4X0), (.exit 0, f20_L4X1)]
def f20_L4U {α : Type} (n : Nat) (v : f20_L4H.den) (f : f20_L4H.den → Option α) (ks : KS α f20_L4O) : Option α := f20_L4B n v.1.1 v.1.2.1 v.1.2.2.1 (fun s0 s1 s5 => f ((s0, s1, s5, ()), ())) (fun w0 => ks.1 ((w0, ()), ())) (fun _ => ks.2.1 ((), ()))
def f20_L4 {α : Type} (n m : Nat) (s0 : List (Bool × (List Int) × (List Int))) (s1 : List (Bool × (List Int) × (List Int))) (s5 : Int) (k0 : Bool → Option α) (k1 : Unit → Option α) : Option α := rounds (f20_L4U n) m ((s0, s1, s5, ()), ()) (fun w => k0 w.1.1, fun w => k1 (), ())
theorem f20_L4_0 {α : Type} (n : Nat) (s0 : List (Bool × (List Int) × (List Int))) (s1 : List (Bool × (List Int) × (List Int))) (s5 : Int) (k0 : Bool → Option α) (k1 : Unit → Option α) : f20_L4 (α := α) n 0 s0 s1 s5 k0 k1 = none := rfl
theorem f20_L4_s {α : Type} (n m : Nat) (s0 : List (Bool × (List Int) × (List Int))) (s1 : List (Bool × (List Int) × (List Int))) (s5 : Int) (k0 : Bool → Option α) (k1 : Unit → Option α) : f20_L4 (α := α) n (m + 1) s0 s1 s5 k0 k1 = f20_L4B n s0 s1 s5 (fun s0 s1 s5 => f20_L4 n m s0 s1 s5 k0 k1) k0 k1 := rfl
def f20 (n : Nat) (a0 : List (Bool × (List Int) × (List Int))) (a1 : List (Bool × (List Int) × (List Int))) : Option Bool :=
  bif ((a0.length : Int) != (a1.length : Int)) then
    some false
  else
    f20_L4 n n a0 a1 0
      (fun z_4 => (
        some z_4))
      (fun (_ : Unit) => (
        some true))
def f20_E (n : Nat) : Ent := ⟨20, [hRs, hRs], [.bool], fun x => f20 n x.1 x.2⟩
def f20_D (α : Type) (n : Nat) : D3 α := { reg := [(6, ⟨8, [], [(8, { ent := some (f62_E n) })]⟩)], join := [], loop := [(4, ⟨f20_L4H, f20_L4O, rounds (f20_L4U n) n⟩)] }
theorem f20_ents (α : Type) (n : Nat) : AllS Tryz.prog (entsOf (f20_D α n).reg) := ⟨f62_ok n, trivial⟩
theorem f20_L4_d (α : Type) (n : Nat) : D3.OK Tryz.prog (tyOf Tryz.prog) ⟨27, []⟩ (f20_D α n) ((bodyOf Tryz.f20).at [1, 1, 0, 1, 0, 0]) :=
  D3.OK.mk3 (f20_ents α n) (show loopsOf ((bodyOf Tryz.f20).at [1, 1, 0, 1, 0, 0]) = [] by kernel_rfl) trivial
theorem f20_L4_ok (α : Type) (n : Nat) : LO.Sound (α := α) Tryz.prog ⟨27, []⟩ ⟨f20_L4H, f20_L4O, rounds (f20_L4U n) n⟩ (.loop ((bodyOf Tryz.f20).at [1, 1, 0, 1, 0, 0])) :=
  loop_ok (tyOf_ok _) prog_fol (f20_L4U n) (f20_L4_d α n) (by intro v f ks; kernel_rfl) n
theorem f20_d (α : Type) (n : Nat) : D3.OK Tryz.prog (tyOf Tryz.prog) ⟨27, []⟩ (f20_D α n) (bodyOf Tryz.f20) :=
  D3.OK.mk3 (f20_ents α n) (show loopsOf (bodyOf Tryz.f20) = [(4, (.loop ((bodyOf Tryz.f20).at [1, 1, 0, 1, 0, 0])))] by kernel_rfl) ⟨look_sound rfl (f20_L4_ok α n), trivial⟩
theorem f20_ok (n : Nat) : (f20_E n).Sound Tryz.prog :=
  fn_ok (tyOf_ok _) prog_fol (f20_D _ n) (show Tryz.prog.funcs[20]? = some Tryz.f20 by kernel_rfl) (by kernel_rfl) (show Tryz.f20.body = some (bodyOf Tryz.f20) by kernel_rfl) rfl rfl (Nat.le_of_ble_eq_true rfl) (f20_d _ n) (by intro x; kernel_rfl) 


def f32 (n : Nat) (a0 : (List (Int × Int × Int × Int)) × (List (Bool × (List Int) × (List Int))) × (List (Bool × (List Int) × (List Int))) × (List (Bool × (List Int) × (List Int))) × Int × (Bool × (List Int) × (List Int)) × Int × Int) (a1 : (List (Int × Int × Int × Int)) × (List (Bool × (List Int) × (List Int))) × (List (Bool × (List Int) × (List Int))) × (List (Bool × (List Int) × (List Int))) × Int × (Bool × (List Int) × (List Int)) × Int × Int) : Option Bool :=
  ob (f86 n a0.1 a1.1) fun r_1 =>
  bif (!r_1) then
    some false
  else
    ob (f20 n a0.2.1 a1.2.1) fun r_2 =>
    bif (!r_2) then
      some false
    else
      ob (f20 n a0.2.2.1 a1.2.2.1) fun r_3 =>
      bif (!r_3) then
        some false
      else
        ob (f20 n a0.2.2.2.1 a1.2.2.2.1) fun r_4 =>
        bif (!r_4) then
          some false
        else
          bif (a0.2.2.2.2.1 != a1.2.2.2.2.1) then
            some false
          else
            ob (f62 n a0.2.2.2.2.2.1 a1.2.2.2.2.2.1) fun r_5 =>
            bif (!r_5) then
              some false
            else
              bif (a0.2.2.2.2.2.2.1 != a1.2.2.2.2.2.2.1) then
                some false
              else
                bif (a0.2.2.2.2.2.2.2 != a1.2.2.2.2.2.2.2) then
                  some false
                else
                  some true
def f32_E (n : Nat) : Ent := ⟨32, [(.st (.pair hE (.pair hRs (.pair hRs (.pair hRs (.pair hI (.pair hR (.pair hI hI)))))))), (.st (.pair hE (.pair hRs (.pair hRs (.pair hRs (.pair hI (.pair hR (.pair hI hI))))))))], [.bool], fun x => f32 n x.1 x.2⟩
def f32_D (α : Type) (n : Nat) : D3 α := { reg := [(1, ⟨0, [], [(4, { ent := some (f86_E n) })]⟩), (3, ⟨0, [], [(4, { ent := some (f20_E n) })]⟩), (5, ⟨0, [], [(4, { ent := some (f20_E n) })]⟩), (7, ⟨0, [], [(4, { ent := some (f20_E n) })]⟩), (11, ⟨0, [], [(4, { ent := some (f62_E n) })]⟩)], join := [], loop := [] }
theorem f32_ents (α : Type) (n : Nat) : AllS Tryz.prog (entsOf (f32_D α n).reg) := ⟨f86_ok n, f20_ok n, f20_ok n, f20_ok n, f62_ok n, trivial⟩
theorem f32_d (α : Type) (n : Nat) : D3.OK Tryz.prog (tyOf Tryz.prog) ⟨50, []⟩ (f32_D α n) (bodyOf Tryz.f32) :=
  D3.OK.mk3 (f32_ents α n) (show loopsOf (bodyOf Tryz.f32) = [] by kernel_rfl) trivial
theorem f32_ok (n : Nat) : (f32_E n).Sound Tryz.prog :=
  fn_ok (tyOf_ok _) prog_fol (f32_D _ n) (show Tryz.prog.funcs[32]? = some Tryz.f32 by kernel_rfl) (by kernel_rfl) (show Tryz.f32.body = some (bodyOf Tryz.f32) by kernel_rfl) rfl rfl (Nat.le_of_ble_eq_true rfl) (f32_d _ n) (by intro x; kernel_rfl) 


def f7 (n : Nat) (a0 : (List (Int × Int × Int × Int)) × (List (Bool × (List Int) × (List Int))) × (List (Bool × (List Int) × (List Int))) × (List (Bool × (List Int) × (List Int))) × Int × (Bool × (List Int) × (List Int)) × Int × Int) (a1 : List (Bool × (List Int) × (List Int))) : Option Bool :=
  ob (f28 n a0 1048576) fun r_1 =>
  bif (decide (r_1 < 0)) then
    some true
  else
    ob (f18 n a1 r_1) fun r_2 =>
    bif (decide (r_2 < 0)) then
      some true
    else
      ob (f30 n a0) fun r_3 =>
      ob (f19 n a1) fun r_4 =>
      ob (f29 n r_3 r_4) fun r_5 =>
      ob (f30 n a0) fun r_6 =>
      ob (f19 n a1) fun r_7 =>
      ob (f31 n r_6 r_7) fun r_8 =>
      bif (!(r_8.1 == r_5.1)) then
        some false
      else
        bif (r_8.2 != r_5.2) then
          some false
        else
          ob (f30 n a0) fun r_9 =>
          ob (f32 n r_6 r_9) fun r_10 =>
          bif (!r_10) then
            some false
          else
            ob (f19 n a1) fun r_11 =>
            ob (f20 n r_7 r_11) fun r_12 =>
            bif (!r_12) then
              some false
            else
              some true
def f7_E (n : Nat) : Ent := ⟨7, [(.st (.pair hE (.pair hRs (.pair hRs (.pair hRs (.pair hI (.pair hR (.pair hI hI)))))))), hRs], [.bool], fun x => f7 n x.1 x.2⟩
def f7_D (α : Type) (n : Nat) : D3 α := { reg := [(2, ⟨0, [], [(2, { ent := some (f28_E n) })]⟩), (5, ⟨0, [], [(2, { ent := some (f18_E n) })]⟩), (8, ⟨0, [], [(1, { ent := some (f30_E n) }), (3, { ent := some (f19_E n) }), (4, { ent := some (f29_E n) })]⟩), (9, ⟨0, [], [(1, { ent := some (f30_E n) })]⟩), (10, ⟨0, [], [(1, { ent := some (f19_E n) })]⟩), (11, ⟨0, [], [(2, { ent := some (f31_E n) })]⟩), (14, ⟨3, [], [(2, { ent := some (f30_E n) }), (3, { ent := some (f32_E n) })]⟩), (16, ⟨0, [], [(2, { ent := some (f19_E n) }), (3, { ent := some (f20_E n) })]⟩)], join := [], loop := [] }
theorem f7_ents (α : Type) (n : Nat) : AllS Tryz.prog (entsOf (f7_D α n).reg) := ⟨f28_ok n, f18_ok n, f30_ok n, f19_ok n, f29_ok n, f30_ok n, f19_ok n, f31_ok n, f30_ok n, f32_ok n, f19_ok n, f20_ok n, trivial⟩
theorem f7_d (α : Type) (n : Nat) : D3.OK Tryz.prog (tyOf Tryz.prog) ⟨58, []⟩ (f7_D α n) (bodyOf Tryz.f7) :=
  D3.OK.mk3 (f7_ents α n) (show loopsOf (bodyOf Tryz.f7) = [] by kernel_rfl) trivial
theorem f7_ok (n : Nat) : (f7_E n).Sound Tryz.prog :=
  fn_ok (tyOf_ok _) prog_fol (f7_D _ n) (show Tryz.prog.funcs[7]? = some Tryz.f7 by kernel_rfl) (by kernel_rfl) (show Tryz.f7.body = some (bodyOf Tryz.f7) by kernel_rfl) rfl rfl (Nat.le_of_ble_eq_true rfl) (f7_d _ n) (by intro x; kernel_rfl) 




end Go.Ev
