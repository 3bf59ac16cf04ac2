/- SolverWord returns what the reference's returns, for every integer: proved of the row, then of the card that ties the package's table of words to the program's text.
Conditions: none beyond the row's own: the table of words reads as the program's text lays it when the call begins (the card ties that). -/
import Derived.Test.YtiojppddbbfmaaaDoorRows
import Derived.Test.YtiojppddbbfmaaaDoorCards
import Derived.Test.YtiojppddbbfmaaaDoorTie
import Derived.WalkKit
import Derived.WalkSpells
import Derived.WalkLawsBesides
import Derived.ProofKit
import Derived.OpenVars
import Derived.LaidMore
import Derived.Stop.Joined
import Derived.SevenTiedAt
namespace Go.Proofs.YtiojppddbbfmaaaDoor
open Go Go.ChangeShapes Go.WideShapes Go.ChangeAt Go.RowKit

theorem Tryd.own : ownKnob Tryd.prog.godebug = .none := by kernel_rfl
theorem Tryd.laidOut : laidOutB Tryd.prog = true := by kernel_rfl

/-- the arguments read behind the call as they did -/
theorem trodAll_below {H : Type} {enc : TypeId × Value → H} {P : Program} (hl : laidOutB P = true) {W W' : World} (hb : Below W.heap.size W W') : ∀ {ts : List TypeId} {vs : List Value} {ds : List (DataW H)} {ps : List MemPlace}, (ts.all fun t => P.readableRec t && decide (t < P.types.size)) = true →
    DataW.TrodAll enc P W 0 (fun _ => true) true ts vs ds ps → (∀ x ∈ ps, x.block < W.heap.size) → DataW.TrodAll enc P W' 0 (fun b => decide (b < W.heap.size)) true ts vs ds ps
  | [], _, _, _, _, h, _ => by
    obtain ⟨rfl, rfl, rfl⟩ := trodAll_nil h
    exact h
  | t :: ts, _, _, _, hr, h, hlt => by
    obtain ⟨v, vs1, d, ds1, a, b, rfl, rfl, rfl, h1, h2⟩ := trodAll_cons h
    simp only [List.all_cons, Bool.and_eq_true, decide_eq_true_eq] at hr
    exact ⟨a, b, Below.trod hl hr.1.1 hr.1.2 h1 hb (fun x hx => hlt x (List.mem_append.2 (.inl hx))), trodAll_below hl hb hr.2 h2 (fun x hx => hlt x (List.mem_append.2 (.inr hx))), rfl⟩

theorem post_below {H : Type} {enc : TypeId × Value → H} {P : Program} {f : Func} {s : ChangeSpec} {W W' : World} {args : Array Value} {ds gs : List (DataW H)} {before : List MemPlace} {t : TypeId} (hl : laidOutB P = true)
    (hrec : (f.params.toList.all fun t => P.readableRec t && decide (t < P.types.size)) = true) (hvr : varsRowed P s.vars = true)
    (hW : DataW.Whole enc P f.params.toList s.vars false W args.toList ds gs before) (hb : Below W.heap.size W W') (hrt : f.resultTypes = #[t]) (htb : P.underlying t = some .bool)
    (hfn : s.fn H (ds ++ gs) = { results := [.lit (.bool true)], args := ds, vars := gs }) : s.post enc P f false true false false W args (.bool true) W' := by
  have hlt := hW.lt
  obtain ⟨p, q, hA, hV, rfl, hfz, hnd⟩ := hW
  refine ⟨ds, gs, p ++ q, [], p, q, ⟨p, q, hA, hV, rfl, hfz, hnd⟩, ?_, ?_, ?_, hb.frame _, fun h => by cases h⟩
  · rw [hfn, hrt]
    exact trodAll_mk1 (shut_bool htb _)
  · rw [hfn]
    exact trodAll_below hl hb hrec hA (fun x hx => hlt x (List.mem_append.2 (.inl hx)))
  · rw [hfn]
    exact Below.trodVars hl hb hvr hV

theorem cell_in {w : World} {b o : Nat} {v : Value} (h : w.cell? ⟨b, o, Option.none⟩ = some v) : b < w.heap.size := by
  rcases Nat.lt_or_ge b w.heap.size with hl | hg
  · exact hl
  · have e : w.heap[b]? = Option.none := by simp; omega
    simp [World.cell?, e] at h

/-- WHAT THE CONDITION GIVES THE WALKS: the table's cell and its words -/
theorem words_of_laid {W : World} {name : String} {ws : List (List UInt8)} {g : Nat} (h : laidMetH Tryd.prog [(name, .slice (ws.map fun s => .lit (.string s)) [])] W)
    (hg : Tryd.prog.globalNamed name = some g) (ht : (Tryd.prog.globals[g]?).map (·.type) = some 26) (hne : ∃ s, ws[0]? = some s) :
    ∃ b o cap, W.cell? ⟨g, 0, Option.none⟩ = some (.slice (some ⟨b, o, Option.none⟩) ws.length cap) ∧ ∀ (i : Nat) s, ws[i]? = some s → W.cell? ⟨b, o + i, Option.none⟩ = some (.string ⟨s.toArray⟩) := by
  rw [MakeChecks.laidMetH_plain _ _ _ (by rfl)] at h
  obtain ⟨ps, ⟨g', t, cs, fuel, p, q, hg', ht', hv, hd, _, _⟩, _, _⟩ := h
  obtain rfl := Option.some.inj (hg.symm.trans hg')
  obtain rfl := Option.some.inj (ht.symm.trans ht')
  have c9 : Tryd.prog.cellsOf 9 = 1 := by kernel_rfl
  obtain ⟨a, cap, hcs, _, hel⟩ := open_row Tryd.underlying26 c9 hd
  have hel' : ∀ (i : Nat) s, ws[i]? = some s → W.cell? (a.add i) = some (.string ⟨s.toArray⟩) := by
    intro i s hi
    obtain ⟨v, n, z, hc, hr⟩ := hel i (.lit (.string s)) (by rw [List.getElem?_map, hi]; rfl)
    obtain ⟨s', hv', hx, _⟩ := DataW.trod_string Tryd.underlying9 hr
    have e1 : v = .string s' := by simpa using hv'
    have e2 : s = s'.data.toList := by simpa using congrArg Prod.fst hx
    rw [hc, e1, e2]
  have hvc := World.var?_cell hg' hv 0
  rw [Array.eq_one_of_toList hcs] at hvc
  obtain ⟨b, o, spot⟩ := a
  obtain ⟨s0, hs0⟩ := hne
  have hspot : spot = Option.none := by simpa [Addr.add] using World.cell?_spot (hel' 0 s0 hs0)
  subst hspot
  refine ⟨b, o, cap, by simpa using hvc, fun i s hi => ?_⟩
  have e : (⟨b, o, Option.none⟩ : Addr).add i = ⟨b, o + i, Option.none⟩ := by unfold Addr.add; split <;> simp_all
  rw [← e]; exact hel' i s hi

theorem solver_low (n : Int) (w : World) (hn : n < 1) : Calls Tryd.prog 3 #[.int .i64 n] w fun e w' => e = .returned (.bool true) ∧ Below w.heap.size w w' := by
  have h1 : decide (1 ≤ n) = false := by simp; omega
  go_enter Tryd.func3, Tryd.ntmps3
  go_wp2
  go_ret
  exact ⟨rfl, Below.refl _ _⟩

theorem solver_high (n : Int) (w : World) (hn : 4 < n) : Calls Tryd.prog 3 #[.int .i64 n] w fun e w' => e = .returned (.bool true) ∧ Below w.heap.size w w' := by
  have h1 : decide (1 ≤ n) = true := by simp; omega
  have h2 : decide (n ≤ 4) = false := by simp; omega
  go_enter Tryd.func3, Tryd.ntmps3
  go_wp2
  go_ret
  exact ⟨rfl, Below.refl _ _⟩

theorem solver_1 (w : World) (b o cap : Nat) (hc : w.cell? ⟨0, 0, none⟩ = some (.slice (some ⟨b, o, none⟩) 5 cap)) (h1 : w.cell? ⟨b, o + 1, none⟩ = some (.string ⟨#[100, 101, 115, 99, 101, 110, 116]⟩)) (hb : b < w.heap.size) (h0 : 0 < w.heap.size) :
    Calls Tryd.prog 3 #[.int .i64 1] w fun e w' => e = .returned (.bool true) ∧ Below w.heap.size w w' := by
  go_enter Tryd.func3, Tryd.ntmps3
  go_wp2
  go_ret
  exact ⟨rfl, (Below.refl _ _).alloc (Nat.le_refl _) _⟩

theorem solver_2 (w : World) (b o cap : Nat) (hc : w.cell? ⟨0, 0, none⟩ = some (.slice (some ⟨b, o, none⟩) 5 cap)) (h1 : w.cell? ⟨b, o + 2, none⟩ = some (.string ⟨#[99, 111, 110, 106, 117, 103, 97, 116, 101]⟩)) (hb : b < w.heap.size) (h0 : 0 < w.heap.size) :
    Calls Tryd.prog 3 #[.int .i64 2] w fun e w' => e = .returned (.bool true) ∧ Below w.heap.size w w' := by
  go_enter Tryd.func3, Tryd.ntmps3
  go_wp2
  go_ret
  exact ⟨rfl, (Below.refl _ _).alloc (Nat.le_refl _) _⟩

theorem solver_3 (w : World) (b o cap : Nat) (hc : w.cell? ⟨0, 0, none⟩ = some (.slice (some ⟨b, o, none⟩) 5 cap)) (h1 : w.cell? ⟨b, o + 3, none⟩ = some (.string ⟨#[112, 114, 111, 106, 101, 99, 116]⟩)) (hb : b < w.heap.size) (h0 : 0 < w.heap.size) :
    Calls Tryd.prog 3 #[.int .i64 3] w fun e w' => e = .returned (.bool true) ∧ Below w.heap.size w w' := by
  go_enter Tryd.func3, Tryd.ntmps3
  go_wp2
  go_ret
  exact ⟨rfl, (Below.refl _ _).alloc (Nat.le_refl _) _⟩

theorem solver_4 (w : World) (b o cap : Nat) (hc : w.cell? ⟨0, 0, none⟩ = some (.slice (some ⟨b, o, none⟩) 5 cap)) (h1 : w.cell? ⟨b, o + 4, none⟩ = some (.string ⟨#[110, 101, 119, 116, 111, 110]⟩)) (hb : b < w.heap.size) (h0 : 0 < w.heap.size) :
    Calls Tryd.prog 3 #[.int .i64 4] w fun e w' => e = .returned (.bool true) ∧ Below w.heap.size w w' := by
  go_enter Tryd.func3, Tryd.ntmps3
  go_wp2
  go_ret
  exact ⟨rfl, (Below.refl _ _).alloc (Nat.le_refl _) _⟩

def solverWords : List (List UInt8) := [[], [100, 101, 115, 99, 101, 110, 116], [99, 111, 110, 106, 117, 103, 97, 116, 101], [112, 114, 111, 106, 101, 99, 116], [110, 101, 119, 116, 111, 110]]

theorem solver_any (n : Int) (w : World) (b o cap : Nat) (hc : w.cell? ⟨0, 0, none⟩ = some (.slice (some ⟨b, o, none⟩) 5 cap)) (hs : ∀ (i : Nat) s, solverWords[i]? = some s → w.cell? ⟨b, o + i, none⟩ = some (.string ⟨s.toArray⟩)) :
    Calls Tryd.prog 3 #[.int .i64 n] w fun e w' => e = .returned (.bool true) ∧ Below w.heap.size w w' := by
  have hg : 0 < w.heap.size := cell_in hc
  have hb : b < w.heap.size := cell_in (hs 0 _ rfl)
  rcases (by omega : n < 1 ∨ n = 1 ∨ n = 2 ∨ n = 3 ∨ n = 4 ∨ 4 < n) with hn | rfl | rfl | rfl | rfl | hn
  · exact solver_low n w hn
  · exact solver_1 w b o cap hc (by simpa using hs 1 _ rfl) hb hg
  · exact solver_2 w b o cap hc (by simpa using hs 2 _ rfl) hb hg
  · exact solver_3 w b o cap hc (by simpa using hs 3 _ rfl) hb hg
  · exact solver_4 w b o cap hc (by simpa using hs 4 _ rfl) hb hg
  · exact solver_high n w hn

theorem solver_met (os : Os) (args : Array Value) : laidMetH Tryd.prog Rows.fnExactSolverWordRow.laid ((World.doorLaid Tryd.prog 400 os).forCall (fun _ _ => 0) ⟨#[], args, []⟩).memory :=
  laidMetH_of_parts3 (fuel := 8) (laidMet_of_run' 8 (by kernel_rfl) (by kernel_rfl)) (by kernel_rfl) (by kernel_rfl)

set_option maxRecDepth 100000 in
theorem solver_lifted (os : Os) (started : os.Started) (H : Type) (enc : TypeId × Value → H) :
    ReturnsInHanded {} Tryd.checked os 3 .any (fun w args => (Rows.fnExactSolverWordSpec.pre enc Tryd.prog Tryd.f3 [] false w args ∧ laidMetH Tryd.prog Rows.fnExactSolverWordRow.laid w) ∧ sizedMet enc Tryd.prog Tryd.f3 (OpenSpec.ofChange Rows.fnExactSolverWordSpec) false w args)
      (Rows.fnExactSolverWordSpec.post enc Tryd.prog Tryd.f3 false true false false) := by
  refine returnsInHanded_of_change_and (C := Tryd.checked) (X := fun w _ => laidMetH Tryd.prog Rows.fnExactSolverWordRow.laid w) (fun _ _ _ hh h => h.of_heap hh) Tryd.own started (by kernel_rfl) Tryd.func3
    (ChangeSpec.witness_shaped (enc := enc) (C := Tryd.checked) (os := os) (X := fun w _ => laidMetH Tryd.prog Rows.fnExactSolverWordRow.laid w) false (World.doorLaid Tryd.prog 400 os) #[.int .i64 0] 8 rfl (World.shaped_of_RefB (by kernel_rfl) (by kernel_rfl)) (by kernel_rfl) (by kernel_rfl) (by kernel_rfl) (solver_met os _)) ?_
  intro W base args ds gs before hval0 hW _ _ hL _
  have hval : ∀ (j : Nat) t v, Tryd.f3.params[j]? = some t → args[j]? = some v → Value.okWide Tryd.prog W .any base t v := hval0
  have hW' := hW
  obtain ⟨p, q, hA0, hV, rfl, hfz, hnd⟩ := hW
  have hA : DataW.TrodAll enc Tryd.prog W 0 (fun _ => true) true Tryd.f3.params.toList args.toList ds p := hA0
  rw [Tryd.params3] at hA hval
  obtain ⟨v0, d0, rfl, rfl, h0⟩ := trodAll_one hA
  obtain ⟨n, rfl, rfl, rfl, _⟩ := open_int Tryd.underlying3 (hval 0 3 v0 rfl rfl) h0
  obtain ⟨_, _, _, _, d1, _, rfl, _⟩ := trodVars_one hV
  obtain ⟨b, o, cap, hc, hs⟩ := words_of_laid (name := "loop.example/g00615/impl.solverWords") (ws := solverWords) (g := 0) hL (by kernel_rfl) (by kernel_rfl) ⟨_, rfl⟩
  refine (solver_any n W b o cap hc hs).mono fun e W' ⟨he, hb⟩ => ?_
  subst he
  exact ⟨_, rfl, post_below Tryd.laidOut (by kernel_rfl) (by kernel_rfl) hW' hb rfl Tryd.underlying4 rfl⟩

theorem solver_row_holds : Rows.FnExactSolverWordSaid :=
  OpenClaim.holds_of_wide 3 Tryd.f3 rfl rfl rfl rfl rfl rfl rfl ⟨rfl, rfl, rfl, rfl, rfl⟩ rfl rfl rfl rfl rfl (by kernel_rfl) Tryd.func3 (by kernel_rfl)
    (of_decide_eq_true (by kernel_rfl)) (by unfold Func.isWrapper; first | (rw [if_pos (by decide +kernel)]; kernel_rfl) | (rw [if_neg (by decide +kernel)]; exact ⟨rfl, rfl⟩))
    (fun os started H enc _ => solver_lifted os started H enc)

theorem solver_holds : Rows.FnExactSolverWordCardSaid :=
  Claim7.holds_tied_plain_at .later [] [.widerDeep] true (true, "24e26db1f93ece38ed85435715ee225277f86afce03bbb12a1e929d9d411c3c7") false
    solver_row_holds (fun _ h => by cases h) (by kernel_rfl) (fun _ h => by cases h) fnExactSolverWord_row_tie rfl ⟨rfl, rfl⟩ (by kernel_rfl) rfl
    (fun f fn hf hfn => by
      obtain rfl : f = 3 := Option.some.inj ((show Tryd.prog.funcNamed "loop.example/g00615/laws.FnExactSolverWord" = some 3 by kernel_rfl).symm.trans hf) |>.symm
      obtain rfl : fn = Tryd.f3 := (Option.some.inj (Tryd.func3.symm.trans hfn)).symm
      exact ⟨by kernel_rfl, fun j t ht => by
        rw [Tryd.params3] at ht
        have hm : t ∈ [3] := by simpa using Array.mem_of_getElem? ht
        have hall : ([3].all fun u => !Tryd.prog.wantsStandIn u) = true := by kernel_rfl
        exact (show Tryd.prog.wantsStandIn t = false by simpa using List.all_eq_true.1 hall t hm)⟩)
    (by kernel_rfl)
#print axioms solver_holds
end Go.Proofs.YtiojppddbbfmaaaDoor
