/- DERIVED. The plain laws: what the models compute. -/
import Derived.Test.YtckjalpomcaamaaGa

/- DERIVED. Small laws of the printed models' words. -/
namespace Go.Ev
open Go

theorem W_id {x : Int} (h : -9223372036854775808 ≤ x) (h' : x < 9223372036854775808) : W x = x := wrap64_id h h'

@[simp] theorem ob_some {α β : Type} (r : β) (k : β → Option α) : ob (some r) k = k r := rfl
@[simp] theorem ob_none {α β : Type} (k : β → Option α) : ob (none : Option β) k = none := rfl
@[simp] theorem gd_true {α : Type} (x : Option α) : gd true x = x := rfl
@[simp] theorem gd_false {α : Type} (x : Option α) : gd false x = none := rfl
theorem gd_pos {α : Type} {g : Bool} (h : g = true) (x : Option α) : gd g x = x := by rw [h]; rfl

theorem foldl_max_le (l : List Int) (a b : Int) : l.foldl max a ≤ b ↔ a ≤ b ∧ ∀ x ∈ l, x ≤ b := by
  induction l generalizing a with
  | nil => simp
  | cons y r ih =>
    simp only [List.foldl_cons, ih, List.mem_cons, forall_eq_or_imp]
    constructor
    · rintro ⟨h, h'⟩; exact ⟨by omega, by omega, h'⟩
    · rintro ⟨h, h', h''⟩; exact ⟨by omega, h''⟩

theorem getD_append_left {α : Type} {l m : List α} {i : Nat} {d : α} (h : i < l.length) : (l ++ m).getD i d = l.getD i d := by
  simp [List.getD_eq_getElem?_getD, List.getElem?_append_left h]
theorem getD_append_last {α : Type} {l : List α} {x d : α} : (l ++ [x]).getD l.length d = x := by
  simp [List.getD_eq_getElem?_getD]

theorem getD_drop_cons {α : Type} {l r : List α} {x d : α} {k : Nat} (h : l.drop k = x :: r) : l.getD k d = x ∧ k < l.length ∧ l.drop (k + 1) = r := by
  have hk : k < l.length := by
    rcases Nat.lt_or_ge k l.length with h' | h'
    · exact h'
    · rw [List.drop_of_length_le h'] at h; cases h
  have := List.drop_eq_getElem_cons hk
  rw [h] at this
  injection this with h1 h2
  exact ⟨by simp [List.getD_eq_getElem?_getD, hk, h1], hk, h2.symm⟩

end Go.Ev

/- DERIVED. Expressions: both sides ask the same of nodes. -/
namespace Go.Ev
open Go

abbrev Nod := Int × Int × Int × Int

theorem f47_eq {n : Nat} {a lo hi : Int} : f47 n a lo hi = some (decide (lo ≤ a ∧ a ≤ hi)) := by
  unfold f47; by_cases h : lo ≤ a <;> simp [h]
theorem f42_eq {n : Nat} {a lo hi : Int} : f42 n a lo hi = some (decide (lo ≤ a ∧ a ≤ hi)) := by
  unfold f42; by_cases h : lo ≤ a <;> simp [h]

def kidsP (op : Int) : Int := if op = 3 ∨ op = 4 ∨ op = 5 ∨ op = 6 then 2 else if op = 7 ∨ op = 8 then 1 else 0

theorem f34_eq {n : Nat} {x : Nod} : f34 n x = some (kidsP x.1) := by
  unfold f34 kidsP
  simp only [Bool.cond_eq_ite, beq_iff_eq]
  grind

def numP (x : Nod) : Prop := if x.1 = 1 then 0 ≤ x.2.2.2 ∧ x.2.2.2 ≤ 999999999 else if x.1 = 2 then 0 ≤ x.2.2.2 ∧ x.2.2.2 ≤ 3 else if x.1 = 8 then 0 ≤ x.2.2.2 ∧ x.2.2.2 ≤ 8 else x.2.2.2 = 0
instance (x : Nod) : Decidable (numP x) := by unfold numP; infer_instance

theorem f57_eq {n : Nat} {x : Nod} : f57 n x = some (decide (numP x)) := by
  unfold f57 numP
  simp only [Bool.cond_eq_ite, beq_iff_eq, f47_eq, ob_some]
  grind

theorem f58_eq {n : Nat} {h : Bool} {k i : Int} (hi : 0 ≤ i ∧ i < 1152921504606846976) : f58 n h k i = some (decide (if h = true then 0 ≤ k ∧ k ≤ i - 1 else k = 0)) := by
  unfold f58
  simp only [f47_eq, ob_some, W_id (x := i - 1) (by omega) (by omega), Bool.cond_eq_ite]
  cases h <;> grind

def plainP (x : Nod) (i : Int) : Prop := (1 ≤ x.1 ∧ x.1 ≤ 8) ∧ numP x ∧ (if kidsP x.1 > 0 then 0 ≤ x.2.1 ∧ x.2.1 ≤ i - 1 else x.2.1 = 0) ∧ (if kidsP x.1 > 1 then 0 ≤ x.2.2.1 ∧ x.2.2.1 ≤ i - 1 else x.2.2.1 = 0)
instance (x : Nod) (i : Int) : Decidable (plainP x i) := by unfold plainP; infer_instance

theorem f56_eq {n : Nat} {x : Nod} {i : Int} (hi : 0 ≤ i ∧ i < 1152921504606846976) : f56 n x i = some (decide (plainP x i)) := by
  unfold f56 plainP
  simp only [f47_eq, f57_eq, f34_eq, ob_some, f58_eq hi, Bool.cond_eq_ite, decide_eq_true_eq]
  grind

theorem f44_eq {n : Nat} {a : Int} : f44 n a = some (decide (3 ≤ a ∧ a ≤ 6)) := by
  unfold f44; simp [f42_eq]
theorem f46_eq {n : Nat} {a : Int} : f46 n a = some (decide (a = 7 ∨ a = 8)) := by
  unfold f46; simp only [Bool.cond_eq_ite, beq_iff_eq]; grind
theorem f52_eq {n : Nat} {b : Bool} : f52 n b = some (if b = true then 1 else 0) := by
  unfold f52; cases b <;> rfl

/-- what a node must be, by the reference: but the place where its tree begins -/
def nodeP (x : Nod) (i : Int) : Prop := (1 ≤ x.1 ∧ x.1 ≤ 8) ∧ (if 3 ≤ x.1 ∧ x.1 ≤ 6 then (0 ≤ x.2.1 ∧ x.2.1 ≤ i - 1) ∧ (x.2.1 + 1 ≤ x.2.2.1 ∧ x.2.2.1 ≤ i - 1) ∧ x.2.2.2 = 0
  else if x.1 = 7 ∨ x.1 = 8 then x.2.1 = i - 1 ∧ 0 < i ∧ x.2.2.1 = 0 ∧ 0 ≤ x.2.2.2 ∧ x.2.2.2 ≤ (if x.1 = 8 then 8 else 0)
  else if x.1 = 2 then x.2.1 = 0 ∧ x.2.2.1 = 0 ∧ 0 ≤ x.2.2.2 ∧ x.2.2.2 ≤ 3 else x.2.1 = 0 ∧ x.2.2.1 = 0 ∧ 0 ≤ x.2.2.2 ∧ x.2.2.2 ≤ 999999999)
instance (x : Nod) (i : Int) : Decidable (nodeP x i) := by unfold nodeP; infer_instance

theorem f43_eq {n : Nat} {x : Nod} {i : Int} (hi : 0 ≤ i ∧ i < 1152921504606846976) : f43 n x i = some (decide (nodeP x i)) := by
  unfold f43 nodeP
  simp only [f42_eq, f44_eq, f46_eq, f52_eq, ob_some, W_id (x := i - 1) (by omega) (by omega), Bool.cond_eq_ite, decide_eq_true_eq, beq_iff_eq]
  by_cases h0 : 1 ≤ x.1 ∧ x.1 ≤ 8
  · by_cases h1 : 3 ≤ x.1 ∧ x.1 ≤ 6
    · by_cases h2 : 0 ≤ x.2.1 ∧ x.2.1 ≤ i - 1
      · rw [W_id (x := x.2.1 + 1) (by omega) (by omega)]
        simp only [h0, h1, h2]
        by_cases h3 : x.2.1 + 1 ≤ x.2.2.1 ∧ x.2.2.1 ≤ i - 1
        · simp [h3]; rfl
        · simp [h3]
      · simp [h0, h1, h2]
    · by_cases h2 : x.1 = 7 ∨ x.1 = 8
      · have e : W (8 * (if (x.1 == 8) = true then 1 else 0)) = if x.1 = 8 then 8 else 0 := by
          by_cases h : x.1 = 8 <;> simp [h] <;> exact W_id (by omega) (by omega)
        simp only [beq_iff_eq] at e
        simp only [h0, h1, h2, e]
        grind
      · grind
  · simp [h0]

/-- a node that fits, after these beginnings -/
def okP (bs : List Int) (x : Nod) (i : Int) : Prop := nodeP x i ∧ (3 ≤ x.1 ∧ x.1 ≤ 6 → x.2.2.1 = i - 1 ∧ bs.getD x.2.2.1.toNat 0 = x.2.1 + 1)
instance (bs : List Int) (x : Nod) (i : Int) : Decidable (okP bs x i) := by unfold okP; infer_instance

def nb (bs : List Int) (x : Nod) (i : Int) : Int := if 3 ≤ x.1 ∧ x.1 ≤ 8 then bs.getD x.2.1.toNat 0 else i
def nd (ds : List Int) (x : Nod) : Int := if 3 ≤ x.1 ∧ x.1 ≤ 6 then 1 + max (ds.getD x.2.1.toNat 0) (ds.getD x.2.2.1.toNat 0) else if x.1 = 7 ∨ x.1 = 8 then 1 + ds.getD x.2.1.toNat 0 else 1

def runE : List Int → List Int → List Nod → Option (List Int × List Int)
  | bs, ds, [] => some (bs, ds)
  | bs, ds, x :: r => if okP bs x bs.length then runE (bs ++ [nb bs x bs.length]) (ds ++ [nd ds x]) r else none

/-- what holds of beginnings and depths on the way -/
structure InvE (bs ds : List Int) : Prop where
  len : ds.length = bs.length
  small : bs.length ≤ 1048576
  b : ∀ j, j < bs.length → 0 ≤ bs.getD j 0 ∧ bs.getD j 0 ≤ j
  d : ∀ j, j < ds.length → 1 ≤ ds.getD j 0 ∧ ds.getD j 0 ≤ j + 1

theorem toNat_lt {a : Int} {k : Nat} (h0 : 0 ≤ a) (h : a ≤ (k : Int) - 1) : a.toNat < k := by omega

theorem InvE.step {bs ds : List Int} (h : InvE bs ds) {x : Nod} (hx : okP bs x bs.length) (hs : bs.length + 1 ≤ 1048576) : InvE (bs ++ [nb bs x bs.length]) (ds ++ [nd ds x]) := by
  obtain ⟨h1, h2, h3, h4⟩ := h
  have hn := hx.1
  unfold nodeP at hn
  refine ⟨by simp [h1], by simpa using hs, fun j hj => ?_, fun j hj => ?_⟩
  · simp only [List.length_append, List.length_cons, List.length_nil] at hj
    rcases Nat.lt_or_ge j bs.length with hlt | hge
    · rw [getD_append_left hlt]; exact h3 j hlt
    · obtain rfl : j = bs.length := by omega
      rw [getD_append_last]
      unfold nb
      split
      · have ha : 0 ≤ x.2.1 ∧ x.2.1 ≤ (bs.length : Int) - 1 := by
          split at hn
          · omega
          · split at hn
            · omega
            · omega
        have := h3 _ (toNat_lt ha.1 ha.2)
        omega
      · omega
  · simp only [List.length_append, List.length_cons, List.length_nil] at hj
    rcases Nat.lt_or_ge j ds.length with hlt | hge
    · rw [getD_append_left hlt]; exact h4 j hlt
    · obtain rfl : j = ds.length := by omega
      rw [getD_append_last]
      unfold nd
      split
      · rename_i h2'
        rw [if_pos h2'] at hn
        have ha := h4 _ (by rw [h1]; exact toNat_lt (k := bs.length) (a := x.2.1) (by omega) (by omega))
        have hb := h4 _ (by rw [h1]; exact toNat_lt (k := bs.length) (a := x.2.2.1) (by omega) (by omega))
        omega
      · rename_i h2'
        rw [if_neg h2'] at hn
        split
        · rename_i h3'
          rw [if_pos h3'] at hn
          have ha := h4 _ (by rw [h1]; exact toNat_lt (k := bs.length) (a := x.2.1) (by omega) (by omega))
          omega
        · omega

/-- the program's test of a node is the reference's -/
theorem plain_ok {bs ds : List Int} (h : InvE bs ds) {x : Nod} : okP bs x bs.length ↔ plainP x bs.length ∧ (kidsP x.1 = 1 → x.2.1 = (bs.length : Int) - 1) ∧ (kidsP x.1 = 2 → x.2.2.1 = (bs.length : Int) - 1 ∧ x.2.1 = bs.getD x.2.2.1.toNat 0 - 1) := by
  obtain ⟨h1, h2, h3, h4⟩ := h
  unfold okP nodeP plainP numP kidsP
  by_cases h2 : 3 ≤ x.1 ∧ x.1 ≤ 6
  · have e : x.1 = 3 ∨ x.1 = 4 ∨ x.1 = 5 ∨ x.1 = 6 := by omega
    have e1 : ¬ x.1 = 1 := by omega
    have e2 : ¬ x.1 = 2 := by omega
    have e3 : ¬ x.1 = 8 := by omega
    simp only [if_pos e, if_pos h2, if_neg e1, if_neg e2, if_neg e3]
    constructor
    · rintro ⟨⟨ha, hb, hc, hd⟩, hf⟩
      obtain ⟨hf1, hf2⟩ := hf h2
      refine ⟨⟨ha, hd, by rw [if_pos (by decide)]; omega, by rw [if_pos (by decide)]; omega⟩, fun h => absurd h (by decide), fun _ => by omega⟩
    · rintro ⟨⟨ha, hb, hc, hd⟩, _, hf⟩
      obtain ⟨hf1, hf2⟩ := hf trivial
      rw [if_pos (by decide)] at hc hd
      have := h3 _ (toNat_lt hd.1 hd.2)
      refine ⟨⟨ha, hc, ?_, hb⟩, fun _ => ⟨hf1, by omega⟩⟩
      omega
  · have e : ¬ (x.1 = 3 ∨ x.1 = 4 ∨ x.1 = 5 ∨ x.1 = 6) := by omega
    simp only [if_neg e, if_neg h2]
    by_cases h5 : x.1 = 7 ∨ x.1 = 8
    · have e1 : ¬ x.1 = 1 := by omega
      have e2 : ¬ x.1 = 2 := by omega
      simp only [if_pos h5, if_neg e1, if_neg e2]
      constructor
      · rintro ⟨⟨ha, hb, hc, hd, hn⟩, _⟩
        refine ⟨⟨ha, ?_, by rw [if_pos (by decide)]; omega, by rw [if_neg (by decide)]; exact hd⟩, fun _ => hb, fun h => absurd h (by decide)⟩
        split <;> (split at hn <;> omega)
      · rintro ⟨⟨ha, hb, hc, hd⟩, hf, _⟩
        rw [if_pos (by decide)] at hc
        rw [if_neg (by decide)] at hd
        have hf := hf trivial
        refine ⟨⟨ha, hf, by omega, hd, ?_⟩, fun h => absurd h h2⟩
        split at hb <;> split <;> omega
    · have e3 : ¬ x.1 = 8 := by omega
      simp only [if_neg h5, if_neg e3]
      constructor
      · rintro ⟨⟨ha, hb⟩, _⟩
        refine ⟨⟨ha, ?_, ?_, ?_⟩, fun h => absurd h (by decide), fun h => absurd h (by decide)⟩
        · have hb1 : x.1 = 1 ∨ x.1 = 2 := by omega
          rcases hb1 with h1' | h1'
          · rw [if_neg (by omega)] at hb; rw [if_pos h1']; omega
          · rw [if_pos h1'] at hb; rw [if_neg (by omega), if_pos h1']; omega
        · rw [if_neg (by decide)]; split at hb <;> omega
        · rw [if_neg (by decide)]; split at hb <;> omega
      · rintro ⟨⟨ha, hb, hc, hd⟩, _, _⟩
        rw [if_neg (by decide)] at hc hd
        refine ⟨⟨ha, ?_⟩, fun h => absurd h h2⟩
        have hb1 : x.1 = 1 ∨ x.1 = 2 := by omega
        rcases hb1 with h1' | h1'
        · rw [if_pos h1'] at hb; rw [if_neg (by omega)]; omega
        · rw [if_neg (by omega), if_pos h1'] at hb; rw [if_pos h1']; omega

/-- the program's round -/
theorem shape_round {α : Type} {n k : Nat} {e : List Nod} {bs ds : List Int} {f} {k0 : Bool → Option α} {k1} (hi : InvE bs ds) (hk : bs.length = k) (hlt : k < e.length) (hN : e.length ≤ 1048576) :
    f54_L3B n e (e.length : Int) (k : Int) bs ds f k0 k1 = if okP bs (e.getD k (0, 0, 0, 0)) (bs.length : Nat) then f e (e.length : Int) ((k + 1 : Nat) : Int) (bs ++ [nb bs (e.getD k (0, 0, 0, 0)) (bs.length : Nat)]) (ds ++ [nd ds (e.getD k (0, 0, 0, 0))]) else k0 false := by
  have hp := plain_ok hi (x := e.getD k (0, 0, 0, 0))
  obtain ⟨h1, h2, h3, h4⟩ := hi
  subst hk
  unfold f54_L3B
  generalize hx : e.getD bs.length (0, 0, 0, 0) = x at hp ⊢
  rw [Bool.cond_decide, if_pos (by omega), gd_pos (by simp; omega)]
  simp only [Int.toNat_natCast, hx, f56_eq (x := x) (i := (bs.length : Int)) (by omega), f34_eq, ob_some, W_id (x := (bs.length : Int) - 1) (by omega) (by omega), W_id (x := (bs.length : Int) + 1) (by omega) (by omega)]
  by_cases hpl : plainP x bs.length
  · simp only [hpl, decide_true, Bool.not_true, cond_false]
    have hpl' := hpl
    unfold plainP at hpl'
    by_cases k1' : kidsP x.1 = 1
    · have hop : x.1 = 7 ∨ x.1 = 8 := by unfold kidsP at k1'; grind
      simp only [k1', beq_self_eq_true, cond_true]
      rw [if_pos (by rw [k1']; decide)] at hpl'
      by_cases ha : x.2.1 = (bs.length : Int) - 1
      · have hok : okP bs x bs.length := hp.2 ⟨hpl, fun _ => ha, fun h => by omega⟩
        have hd := h4 x.2.1.toNat (by omega)
        rw [if_pos hok]
        have e1 : (x.2.1 != (bs.length : Int) - 1) = false := by simp [ha]
        rw [e1, cond_false, gd_pos (by simp; omega), gd_pos (by simp; omega), gd_pos (by simp; omega), gd_pos (by simp; omega), gd_pos (by simp; omega), gd_pos (by simp; omega), W_id (by omega) (by omega)]
        have e2 : nb bs x bs.length = bs.getD x.2.1.toNat 0 := by unfold nb; rw [if_pos (by omega)]
        have e3 : nd ds x = ds.getD x.2.1.toNat 0 + 1 := by unfold nd; rw [if_neg (by omega), if_pos hop]; omega
        rw [e2, e3]
        rfl
      · have hok : ¬ okP bs x bs.length := fun h => ha ((hp.1 h).2.1 k1')
        rw [if_neg hok]
        have e1 : (x.2.1 != (bs.length : Int) - 1) = true := by simp [ha]
        rw [e1, cond_true]
    · have e0 : (kidsP x.1 == 1) = false := by simp [k1']
      rw [e0, cond_false]
      by_cases k2' : kidsP x.1 = 2
      · have hop : 3 ≤ x.1 ∧ x.1 ≤ 6 := by unfold kidsP at k2'; grind
        simp only [k2', beq_self_eq_true, cond_true]
        rw [if_pos (by rw [k2']; decide), if_pos (by rw [k2']; decide)] at hpl'
        by_cases hb : x.2.2.1 = (bs.length : Int) - 1
        · have e1 : (x.2.2.1 != (bs.length : Int) - 1) = false := by simp [hb]
          have hbb := h3 x.2.2.1.toNat (by omega)
          rw [e1, cond_false, gd_pos (by simp; omega), gd_pos (by simp; omega), W_id (x := bs.getD x.2.2.1.toNat 0 - 1) (by omega) (by omega)]
          by_cases ha : x.2.1 = bs.getD x.2.2.1.toNat 0 - 1
          · have hok : okP bs x bs.length := hp.2 ⟨hpl, fun h => by omega, fun _ => ⟨hb, ha⟩⟩
            have hd := h4 x.2.1.toNat (by omega)
            have hd' := h4 x.2.2.1.toNat (by omega)
            rw [if_pos hok]
            have e1 : (x.2.1 != bs.getD x.2.2.1.toNat 0 - 1) = false := by rw [← ha]; simp
            rw [e1, cond_false, gd_pos (by simp; omega), gd_pos (by simp; omega), gd_pos (by simp; omega), gd_pos (by simp; omega), gd_pos (by simp; omega), gd_pos (by simp; omega), gd_pos (by simp; omega), gd_pos (by simp; omega), W_id (by omega) (by omega)]
            have e2 : nb bs x bs.length = bs.getD x.2.1.toNat 0 := by unfold nb; rw [if_pos (by omega)]
            have e3 : nd ds x = max (ds.getD x.2.1.toNat 0) (ds.getD x.2.2.1.toNat 0) + 1 := by unfold nd; rw [if_pos hop]; omega
            rw [e2, e3]
            rfl
          · have hok : ¬ okP bs x bs.length := fun h => ha ((hp.1 h).2.2 k2').2
            rw [if_neg hok]
            have e1 : (x.2.1 != bs.getD x.2.2.1.toNat 0 - 1) = true := by simp only [bne_iff_ne, ne_eq]; exact ha
            rw [e1, cond_true]
        · have hok : ¬ okP bs x bs.length := fun h => hb ((hp.1 h).2.2 k2').1
          rw [if_neg hok]
          have e1 : (x.2.2.1 != (bs.length : Int) - 1) = true := by simp [hb]
          rw [e1, cond_true]
      · have e0 : (kidsP x.1 == 2) = false := by simp [k2']
        rw [e0, cond_false]
        have hok : okP bs x bs.length := hp.2 ⟨hpl, fun h => absurd h k1', fun h => absurd h k2'⟩
        have hop : x.1 = 1 ∨ x.1 = 2 := by unfold kidsP at k1' k2'; grind
        rw [if_pos hok, gd_pos (by simp; omega), gd_pos (by simp; omega)]
        have e2 : nb bs x bs.length = bs.length := by unfold nb; rw [if_neg (by omega)]
        have e3 : nd ds x = 1 := by unfold nd; rw [if_neg (by omega), if_neg (by omega)]
        rw [e2, e3]
        rfl
  · have hok : ¬ okP bs x bs.length := fun h => hpl (hp.1 h).1
    rw [if_neg hok]
    simp only [hpl, decide_false, Bool.not_false, cond_true]

end Go.Ev

/- DERIVED. Expressions: both sides take the same ones. -/
namespace Go.Ev
open Go

theorem runE_inv : ∀ (r : List Nod) (bs ds bs' ds' : List Int), InvE bs ds → bs.length + r.length ≤ 1048576 → runE bs ds r = some (bs', ds') → InvE bs' ds' ∧ bs'.length = bs.length + r.length ∧ (∀ j, j < bs.length → bs'.getD j 0 = bs.getD j 0) ∧ (∀ j, j < ds.length → ds'.getD j 0 = ds.getD j 0)
  | [], bs, ds, bs', ds', hi, _, h => by
    simp only [runE, Option.some.injEq, Prod.mk.injEq] at h
    obtain ⟨rfl, rfl⟩ := h
    exact ⟨hi, by simp, fun _ _ => rfl, fun _ _ => rfl⟩
  | x :: r, bs, ds, bs', ds', hi, hl, h => by
    simp only [runE] at h
    simp only [List.length_cons] at hl
    split at h
    · rename_i hok
      obtain ⟨h1, h2, h3, h4⟩ := runE_inv r _ _ bs' ds' (hi.step hok (by omega)) (by simp; omega) h
      refine ⟨h1, by rw [h2]; simp; omega, fun j hj => ?_, fun j hj => ?_⟩
      · rw [h3 j (by simp; omega), getD_append_left hj]
      · rw [h4 j (by simp; omega), getD_append_left hj]
    · cases h

theorem shape_loop {α : Type} {n : Nat} {e : List Nod} (hN : e.length ≤ 1048576) {k0 : Bool → Option α} {k1 : List Int → List Int → Option α} : ∀ (r : List Nod) (m : Nat) (bs ds : List Int), InvE bs ds → e.drop bs.length = r → bs.length + r.length = e.length → r.length < m →
    f54_L3 n m e (e.length : Int) (bs.length : Int) bs ds k0 k1 = match runE bs ds r with
      | some (bs', ds') => k1 bs' ds'
      | none => k0 false
  | [], m + 1, bs, ds, hi, hd, hl, hm => by
    rw [f54_L3_s]
    unfold f54_L3B
    simp only [List.length_nil] at hl
    rw [Bool.cond_decide, if_neg (by omega)]
    rfl
  | x :: r, m + 1, bs, ds, hi, hd, hl, hm => by
    obtain ⟨hx, hlt, hd'⟩ := getD_drop_cons (d := (0, 0, 0, 0)) hd
    rw [f54_L3_s, shape_round hi rfl hlt hN, hx]
    simp only [runE]
    by_cases hok : okP bs x bs.length
    · rw [if_pos hok, if_pos hok]
      have ih := shape_loop hN r m (bs ++ [nb bs x bs.length]) (ds ++ [nd ds x]) (hi.step hok (by omega)) (by simpa using hd') (by simp; simp at hl; omega) (by simp at hm; omega) (n := n) (k0 := k0) (k1 := k1)
      simp only [List.length_append, List.length_cons, List.length_nil, Nat.zero_add] at ih
      exact ih
    · rw [if_neg hok, if_neg hok]

theorem inv0 : InvE [] [] := ⟨rfl, by simp, fun j hj => by simp at hj, fun j hj => by simp at hj⟩

theorem f54_eq {n : Nat} {e : List Nod} (hN : e.length ≤ 1048576) (hn : 1048577 ≤ n) : f54 n e = some (match runE [] [] e with
    | some (bs, ds) => (bs, ds, true)
    | none => ([], [], false)) := by
  unfold f54
  have := shape_loop (n := n) hN (k0 := fun z => some ([], [], z)) (k1 := fun a b => some (a, b, true)) e n [] [] inv0 rfl (by simp) (by omega)
  simp only [List.length_nil] at this
  refine Eq.trans this ?_
  cases runE [] [] e with
  | none => rfl
  | some p => rfl

theorem max_loop {α : Type} {n : Nat} {l : List Int} (hN : l.length ≤ 1048576) {k0 : Int → Option α} : ∀ (r : List Int) (m k : Nat) (a : Int), l.drop k = r → k + r.length = l.length → r.length < m → f55_L5 n m l a (k : Int) k0 = k0 (r.foldl max a)
  | [], m + 1, k, a, hd, hl, hm => by
    rw [f55_L5_s]
    unfold f55_L5B
    simp only [List.length_nil] at hl
    rw [Bool.cond_decide, if_neg (by omega)]
    rfl
  | x :: r, m + 1, k, a, hd, hl, hm => by
    obtain ⟨hx, hlt, hd'⟩ := getD_drop_cons (d := 0) hd
    rw [f55_L5_s]
    unfold f55_L5B
    rw [Bool.cond_decide, if_pos (by omega), gd_pos (by simp; omega), W_id (by omega) (by omega)]
    simp only [Int.toNat_natCast, hx]
    simp only [List.length_cons] at hl hm
    exact max_loop hN r m (k + 1) (max a x) hd' (by omega) (by omega)

theorem f55_eq {n : Nat} {l : List Int} (hN : l.length ≤ 1048576) (hn : 1048577 ≤ n) (h0 : 0 < l.length) : ∃ r, f55 n l = some r ∧ (r ≤ 12 ↔ ∀ x ∈ l, x ≤ 12) := by
  cases l with
  | nil => cases h0
  | cons x r =>
    refine ⟨r.foldl max x, ?_, ?_⟩
    · unfold f55
      rw [Bool.cond_decide, if_neg (by simp only [List.length_cons]; omega), gd_pos (by simp)]
      have := max_loop (n := n) (k0 := fun z => some z) hN r n 1 x rfl (by simp only [List.length_cons]; omega) (by simp at hN; omega)
      exact this
    · rw [foldl_max_le]
      simp

/-- what both sides ask of an expression -/
def exprP (e : List Nod) : Prop := (1 ≤ e.length ∧ e.length ≤ 60) ∧ ∃ bs ds, runE [] [] e = some (bs, ds) ∧ bs.getD (e.length - 1) 0 = 0 ∧ ∀ x ∈ ds, x ≤ 12

open Classical in
theorem f40_eq {n : Nat} {e : List Nod} (hN : e.length ≤ 1048576) (hn : 1048577 ≤ n) : f40 n e = some (decide (exprP e)) := by
  unfold f40
  rw [f47_eq, ob_some]
  by_cases h1 : (1 : Int) ≤ (e.length : Int) ∧ (e.length : Int) ≤ 60
  · simp only [h1, and_self, decide_true, Bool.not_true, cond_false]
    rw [f54_eq hN hn, ob_some]
    cases hr : runE [] [] e with
    | none =>
      have : ¬ exprP e := fun ⟨_, _, _, h, _⟩ => by rw [hr] at h; cases h
      simp [this]
    | some p =>
      obtain ⟨bs, ds⟩ := p
      obtain ⟨hi, hl, _, _⟩ := runE_inv e [] [] bs ds inv0 (by simpa using hN) hr
      simp only [List.length_nil, Nat.zero_add] at hl
      simp only [cond_true]
      rw [W_id (x := (e.length : Int) - 1) (by omega) (by omega), gd_pos (by simp; omega)]
      have et : ((e.length : Int) - 1).toNat = e.length - 1 := by omega
      rw [et]
      by_cases hb : bs.getD (e.length - 1) 0 = 0
      · obtain ⟨r, hr1, hr2⟩ := f55_eq (n := n) (l := ds) (by rw [hi.len]; omega) hn (by rw [hi.len]; omega)
        rw [hr1, ob_some]
        have e1 : (bs.getD (e.length - 1) 0 == 0) = true := by rw [hb]; rfl
        rw [e1, cond_true]
        congr 1
        rw [decide_eq_decide, hr2]
        constructor
        · intro h; exact ⟨by omega, bs, ds, hr, hb, h⟩
        · rintro ⟨_, bs', ds', h, _, h'⟩
          rw [hr] at h
          simp only [Option.some.injEq, Prod.mk.injEq] at h
          obtain ⟨rfl, rfl⟩ := h
          exact h'
      · have e1 : (bs.getD (e.length - 1) 0 == 0) = false := by simp only [beq_eq_false_iff_ne, ne_eq]; exact hb
        have : ¬ exprP e := fun ⟨_, bs', ds', h, hb', _⟩ => by
          rw [hr] at h
          simp only [Option.some.injEq, Prod.mk.injEq] at h
          obtain ⟨rfl, rfl⟩ := h
          exact hb hb'
        rw [e1, cond_false]
        simp [this]
  · have : ¬ exprP e := fun ⟨h, _⟩ => h1 (by omega)
    simp only [h1, decide_false, Bool.not_false, cond_true, this]

/-! where a tree begins -/
theorem first_loop {α : Type} {n : Nat} {e : List Nod} {bs : List Int} (hN : e.length ≤ 1048576)
    (hb : ∀ j, j < bs.length → okP (bs.take j) (e.getD j (0, 0, 0, 0)) j ∧ bs.getD j 0 = nb (bs.take j) (e.getD j (0, 0, 0, 0)) j) (hl : bs.length ≤ e.length) {k0 : Int → Option α} :
    ∀ (j m : Nat), j < bs.length → j < m → f45_L2 n m (j : Int) e (e.getD j (0, 0, 0, 0)).1 (e.getD j (0, 0, 0, 0)).2.1 (e.getD j (0, 0, 0, 0)).2.2.1 (e.getD j (0, 0, 0, 0)).2.2.2 k0 = k0 (bs.getD j 0) := by
  intro j
  induction j using Nat.strongRecOn with
  | ind j ih =>
    intro m hj hm
    obtain ⟨m, rfl⟩ : ∃ m', m = m' + 1 := ⟨m - 1, by omega⟩
    obtain ⟨hok, hv⟩ := hb j hj
    rw [f45_L2_s]
    unfold f45_L2B
    rw [hv]
    generalize hx : e.getD j (0, 0, 0, 0) = x at hok hv ⊢
    have hn := hok.1
    unfold nodeP at hn
    simp only [f44_eq, f46_eq, ob_some, Bool.cond_decide]
    by_cases h1 : 3 ≤ x.1 ∧ x.1 ≤ 8
    · have ha : 0 ≤ x.2.1 ∧ x.2.1 ≤ (j : Int) - 1 := by
        split at hn
        · omega
        · split at hn
          · omega
          · omega
      have hlt : x.2.1.toNat < j := by omega
      have e1 : nb (bs.take j) x j = bs.getD x.2.1.toNat 0 := by
        unfold nb
        rw [if_pos h1]
        simp [List.getD_eq_getElem?_getD, List.getElem?_take, hlt]
      have key := ih x.2.1.toNat hlt m (by omega) (by omega)
      have et : ((x.2.1.toNat : Nat) : Int) = x.2.1 := by omega
      rw [et] at key
      rw [e1, gd_pos (by simp; omega)]
      by_cases h2 : 3 ≤ x.1 ∧ x.1 ≤ 6
      · rw [if_pos h2]; exact key
      · rw [if_neg h2, if_pos (by omega)]; exact key
    · rw [if_neg (by omega), if_neg (by omega)]
      unfold nb
      rw [if_neg h1]

/-- all that ran so far -/
def Ran (e : List Nod) (bs : List Int) : Prop := ∀ j, j < bs.length → okP (bs.take j) (e.getD j (0, 0, 0, 0)) j ∧ bs.getD j 0 = nb (bs.take j) (e.getD j (0, 0, 0, 0)) j

theorem f45_eq {n : Nat} {e : List Nod} {bs : List Int} (hN : e.length ≤ 1048576) (hn : 1048577 ≤ n) (hb : Ran e bs) (hl : bs.length ≤ e.length) {j : Int} (hj : 0 ≤ j ∧ j < (bs.length : Int)) : f45 n e j = some (bs.getD j.toNat 0) := by
  unfold f45
  rw [gd_pos (by simp; omega)]
  have := first_loop (n := n) hN hb hl (k0 := fun z => some z) j.toNat n (by omega) (by omega)
  rw [show ((j.toNat : Nat) : Int) = j by omega] at this
  exact this

theorem Ran.step {e : List Nod} {bs : List Int} (h : Ran e bs) {x : Nod} (hx : e.getD bs.length (0, 0, 0, 0) = x) (hok : okP bs x bs.length) : Ran e (bs ++ [nb bs x bs.length]) := by
  intro j hj
  simp only [List.length_append, List.length_cons, List.length_nil] at hj
  rcases Nat.lt_or_ge j bs.length with hlt | hge
  · rw [getD_append_left hlt, List.take_append_of_le_length (by omega)]
    exact h j hlt
  · obtain rfl : j = bs.length := by omega
    rw [getD_append_last, List.take_left', hx]
    · exact ⟨hok, rfl⟩
    · rfl

end Go.Ev

/- DERIVED. The reference's test of an expression; degrees on both sides. -/
namespace Go.Ev
open Go

theorem spec_loop {α : Type} {n : Nat} {e : List Nod} (hN : e.length ≤ 1048576) (hn : 1048577 ≤ n) {k0 : Bool → Option α} {k1 : List Nod → Option α} : ∀ (r : List Nod) (m : Nat) (bs ds : List Int), InvE bs ds → Ran e bs → (∀ x ∈ ds, x ≤ 12) → e.drop bs.length = r → bs.length + r.length = e.length → r.length < m →
    f26_L5 n m (bs.length : Int) e ds k0 k1 = match runE bs ds r with
      | some (_, ds') => if ∀ x ∈ ds', x ≤ 12 then k1 e else k0 false
      | none => k0 false
  | [], m + 1, bs, ds, hi, hr, h12, hd, hl, hm => by
    rw [f26_L5_s]
    unfold f26_L5B
    simp only [List.length_nil] at hl
    rw [Bool.cond_decide, if_neg (by omega)]
    simp only [runE]
    rw [if_pos h12]
  | x :: r, m + 1, bs, ds, hi, hr, h12, hd, hl, hm => by
    obtain ⟨hx, hlt, hd'⟩ := getD_drop_cons (d := (0, 0, 0, 0)) hd
    have hi0 := hi
    obtain ⟨h1, h2, h3, h4⟩ := hi
    simp only [List.length_cons] at hl hm
    -- what the round comes to
    have round : ∀ f : Int → List Nod → List Int → Option α, f26_L5B n (bs.length : Int) e ds f k0 k1 = if okP bs x bs.length ∧ nd ds x ≤ 12 then f ((bs.length + 1 : Nat) : Int) e (ds ++ [nd ds x]) else k0 false := by
      intro f
      unfold f26_L5B
      rw [Bool.cond_decide, if_pos (by omega), gd_pos (by simp; omega)]
      simp only [Int.toNat_natCast, hx, f43_eq (x := x) (i := (bs.length : Int)) (by omega), f44_eq, f46_eq, ob_some, W_id (x := (bs.length : Int) - 1) (by omega) (by omega), W_id (x := (bs.length : Int) + 1) (by omega) (by omega)]
      by_cases hno : nodeP x bs.length
      · simp only [hno, decide_true, Bool.not_true, cond_false]
        have hno' := hno
        unfold nodeP at hno'
        by_cases h5 : 3 ≤ x.1 ∧ x.1 ≤ 6
        · have h6 : ¬ (x.1 = 7 ∨ x.1 = 8) := by omega
          rw [if_pos h5] at hno'
          simp only [h5, h6, and_self, decide_true, cond_true, decide_false, cond_false]
          by_cases hb : x.2.2.1 = (bs.length : Int) - 1
          · have e1 : (x.2.2.1 != (bs.length : Int) - 1) = false := by simp [hb]
            rw [e1, cond_false, f45_eq hN hn hr (by omega) (by omega), ob_some, W_id (x := x.2.1 + 1) (by omega) (by omega)]
            by_cases ha : bs.getD x.2.2.1.toNat 0 = x.2.1 + 1
            · have hok : okP bs x bs.length := ⟨hno, fun _ => ⟨hb, ha⟩⟩
              have e1 : (bs.getD x.2.2.1.toNat 0 != x.2.1 + 1) = false := by rw [ha]; simp
              have da := h4 x.2.1.toNat (by omega)
              have db := h4 x.2.2.1.toNat (by omega)
              have e3 : nd ds x = 1 + max (ds.getD x.2.1.toNat 0) (ds.getD x.2.2.1.toNat 0) := by unfold nd; rw [if_pos h5]
              rw [e1, cond_false, gd_pos (by simp; omega), gd_pos (by simp; omega), gd_pos (by simp; omega), gd_pos (by simp; omega), W_id (by omega) (by omega), ← e3, Bool.cond_decide]
              by_cases h12' : nd ds x ≤ 12
              · rw [if_neg (by omega), gd_pos (by simp; omega), if_pos ⟨hok, h12'⟩]
                rfl
              · rw [if_pos (by omega), if_neg (fun h => h12' h.2)]
            · have hok : ¬ okP bs x bs.length := fun h => ha (h.2 h5).2
              have e1 : (bs.getD x.2.2.1.toNat 0 != x.2.1 + 1) = true := by simp only [bne_iff_ne, ne_eq]; exact ha
              rw [e1, cond_true, if_neg (fun h => hok h.1)]
          · have hok : ¬ okP bs x bs.length := fun h => hb (h.2 h5).1
            have e1 : (x.2.2.1 != (bs.length : Int) - 1) = true := by simp [hb]
            rw [e1, cond_true, if_neg (fun h => hok h.1)]
        · rw [if_neg h5] at hno'
          have hok : okP bs x bs.length := ⟨hno, fun h => absurd h h5⟩
          simp only [h5, decide_false, cond_false]
          by_cases h6 : x.1 = 7 ∨ x.1 = 8
          · rw [if_pos h6] at hno'
            have da := h4 x.2.1.toNat (by omega)
            have e3 : nd ds x = 1 + ds.getD x.2.1.toNat 0 := by unfold nd; rw [if_neg h5, if_pos h6]
            simp only [h6, decide_true, cond_true]
            rw [gd_pos (by simp; omega), gd_pos (by simp; omega), W_id (by omega) (by omega), ← e3, Bool.cond_decide]
            by_cases h12' : nd ds x ≤ 12
            · rw [if_neg (by omega), gd_pos (by simp; omega), if_pos ⟨hok, h12'⟩]
              rfl
            · rw [if_pos (by omega), if_neg (fun h => h12' h.2)]
          · simp only [h6, decide_false, cond_false]
            have e3 : nd ds x = 1 := by unfold nd; rw [if_neg h5, if_neg h6]
            rw [Bool.cond_decide, if_neg (by omega), gd_pos (by simp; omega), if_pos ⟨hok, by omega⟩, e3]
            rfl
      · have hok : ¬ okP bs x bs.length := fun h => hno h.1
        simp only [hno, decide_false, Bool.not_false, cond_true]
        rw [if_neg (fun h => hok h.1)]
    rw [f26_L5_s, round]
    simp only [runE]
    by_cases hok : okP bs x bs.length
    · rw [if_pos hok]
      by_cases h12' : nd ds x ≤ 12
      · rw [if_pos ⟨hok, h12'⟩]
        have ih := spec_loop hN hn r m (bs ++ [nb bs x bs.length]) (ds ++ [nd ds x]) (hi0.step hok (by omega)) (hr.step hx hok) (fun y hy => by
          rcases List.mem_append.1 hy with hy | hy
          · exact h12 y hy
          · simp only [List.mem_singleton] at hy; subst hy; exact h12') (by simpa using hd') (by simp; omega) (by omega) (k0 := k0) (k1 := k1)
        simp only [List.length_append, List.length_cons, List.length_nil, Nat.zero_add] at ih
        exact ih
      · rw [if_neg (fun h => h12' h.2)]
        cases hrun : runE (bs ++ [nb bs x bs.length]) (ds ++ [nd ds x]) r with
        | none => rfl
        | some p =>
          obtain ⟨bs', ds'⟩ := p
          obtain ⟨q1, q2, _, q4⟩ := runE_inv r _ _ bs' ds' (hi0.step hok (by omega)) (by simp; omega) hrun
          have hlt' : ds.length < ds'.length := by rw [q1.len, q2]; simp; omega
          have hv := q4 ds.length (by simp)
          rw [getD_append_last] at hv
          have hm' : nd ds x ∈ ds' := by
            rw [← hv]
            simp only [List.getD_eq_getElem?_getD, List.getElem?_eq_getElem hlt', Option.getD_some]
            exact List.getElem_mem hlt'
          simp only
          rw [if_neg (fun h => h12' (h _ hm'))]
    · rw [if_neg hok, if_neg (fun h => hok h.1)]

theorem runE_ran {e : List Nod} : ∀ (r : List Nod) (bs ds bs' ds' : List Int), Ran e bs → e.drop bs.length = r → runE bs ds r = some (bs', ds') → Ran e bs'
  | [], bs, ds, bs', ds', hr, _, h => by
    simp only [runE, Option.some.injEq, Prod.mk.injEq] at h
    obtain ⟨rfl, _⟩ := h
    exact hr
  | x :: r, bs, ds, bs', ds', hr, hd, h => by
    obtain ⟨hx, _, hd'⟩ := getD_drop_cons (d := (0, 0, 0, 0)) hd
    simp only [runE] at h
    split at h
    · rename_i hok
      exact runE_ran r _ _ bs' ds' (hr.step hx hok) (by simpa using hd') h
    · cases h

open Classical in
theorem f26_eq {n : Nat} {e : List Nod} (hN : e.length ≤ 1048576) (hn : 1048577 ≤ n) : f26 n e = some (decide (exprP e)) := by
  unfold f26
  rw [f42_eq, ob_some]
  by_cases h1 : (1 : Int) ≤ (e.length : Int) ∧ (e.length : Int) ≤ 60
  · simp only [h1, and_self, decide_true, Bool.not_true, cond_false]
    have := spec_loop (n := n) hN hn (k0 := fun z => some z) (k1 := fun z => ob (f45 n z (W ((z.length : Int) - 1))) fun r => some (r == 0)) e n [] [] inv0 (fun j hj => by simp at hj) (by simp) rfl (by simp) (by omega)
    simp only [List.length_nil] at this
    refine Eq.trans this ?_
    cases hr : runE [] [] e with
    | none =>
      have : ¬ exprP e := fun ⟨_, _, _, h, _⟩ => by rw [hr] at h; cases h
      simp [this]
    | some p =>
      obtain ⟨bs, ds⟩ := p
      obtain ⟨hi, hl, _, _⟩ := runE_inv e [] [] bs ds inv0 (by simpa using hN) hr
      simp only [List.length_nil, Nat.zero_add] at hl
      have hran := runE_ran e [] [] bs ds (fun j hj => by simp at hj) rfl hr
      simp only
      by_cases h12 : ∀ x ∈ ds, x ≤ 12
      · rw [if_pos h12, W_id (by omega) (by omega), f45_eq hN hn hran (by omega) (by omega), ob_some]
        have et : ((e.length : Int) - 1).toNat = e.length - 1 := by omega
        rw [et]
        by_cases hb : bs.getD (e.length - 1) 0 = 0
        · have : exprP e := ⟨by omega, bs, ds, hr, hb, h12⟩
          rw [hb]
          simp [this]
        · have : ¬ exprP e := fun ⟨_, bs', ds', h, hb', _⟩ => by
            rw [hr] at h
            simp only [Option.some.injEq, Prod.mk.injEq] at h
            obtain ⟨rfl, rfl⟩ := h
            exact hb hb'
          have e1 : (bs.getD (e.length - 1) 0 == 0) = false := by simp only [beq_eq_false_iff_ne, ne_eq]; exact hb
          rw [e1]
          simp [this]
      · have : ¬ exprP e := fun ⟨_, bs', ds', h, _, h'⟩ => by
          rw [hr] at h
          simp only [Option.some.injEq, Prod.mk.injEq] at h
          obtain ⟨rfl, rfl⟩ := h
          exact h12 h'
        rw [if_neg h12]
        simp [this]
  · have : ¬ exprP e := fun ⟨h, _⟩ => h1 (by omega)
    simp only [h1, decide_false, Bool.not_false, cond_true, this]

end Go.Ev

/- DERIVED. Degrees on both sides; the laws of DegreeOf and IsQuadratic. -/
namespace Go.Ev
open Go

def dg (x : Nod) (a b : Int) : Int :=
  if x.1 = 2 then 1 else if x.1 = 1 then 0 else if a < 0 ∨ b < 0 then -1 else if x.1 = 3 ∨ x.1 = 4 then max a b else if x.1 = 5 then W (a + b)
  else if x.1 = 6 then (if b > 0 then -1 else a) else if x.1 = 8 then W (a * x.2.2.2) else a

def dv (out : List Int) (x : Nod) : Int := dg x (if 3 ≤ x.1 ∧ x.1 ≤ 8 then out.getD x.2.1.toNat 0 else 0) (if 3 ≤ x.1 ∧ x.1 ≤ 6 then out.getD x.2.2.1.toNat 0 else 0)

def degRun : List Int → List Nod → List Int
  | out, [] => out
  | out, x :: r => degRun (out ++ [dv out x]) r

/-- children come ahead -/
def Kids (e : List Nod) : Prop := ∀ j, j < e.length → let x := e.getD j (0, 0, 0, 0); (1 ≤ x.1 ∧ x.1 ≤ 8) ∧ (3 ≤ x.1 ∧ x.1 ≤ 8 → 0 ≤ x.2.1 ∧ x.2.1 < (j : Int)) ∧ (3 ≤ x.1 ∧ x.1 ≤ 6 → 0 ≤ x.2.2.1 ∧ x.2.2.1 < (j : Int))

theorem nodeP_kids {x : Nod} {j : Nat} (h : nodeP x j) : (1 ≤ x.1 ∧ x.1 ≤ 8) ∧ (3 ≤ x.1 ∧ x.1 ≤ 8 → 0 ≤ x.2.1 ∧ x.2.1 < (j : Int)) ∧ (3 ≤ x.1 ∧ x.1 ≤ 6 → 0 ≤ x.2.2.1 ∧ x.2.2.1 < (j : Int)) := by
  unfold nodeP at h
  refine ⟨h.1, fun h1 => ?_, fun h1 => ?_⟩
  · split at h
    · omega
    · split at h
      · omega
      · omega
  · rw [if_pos h1] at h; omega

theorem exprP_kids {e : List Nod} (hN : e.length ≤ 1048576) (h : exprP e) : Kids e := by
  obtain ⟨_, bs, ds, hr, _, _⟩ := h
  obtain ⟨hi, hl, _, _⟩ := runE_inv e [] [] bs ds inv0 (by simpa using hN) hr
  have hran := runE_ran e [] [] bs ds (fun j hj => by simp at hj) rfl hr
  simp only [List.length_nil, Nat.zero_add] at hl
  intro j hj
  exact nodeP_kids (hran j (by omega)).1.1

theorem deg_round {α : Type} {n : Nat} {e : List Nod} (hN : e.length ≤ 1048576) (hk : Kids e) {out : List Int} (hlt : out.length < e.length) {f} {k0 : List Int → Option α} :
    f41_L3B n e (e.length : Int) (out.length : Int) out f k0 = f e (e.length : Int) ((out.length + 1 : Nat) : Int) (out ++ [dv out (e.getD out.length (0, 0, 0, 0))]) := by
  obtain ⟨h1, h2, h3⟩ := hk out.length hlt
  unfold f41_L3B dv
  generalize hx : e.getD out.length (0, 0, 0, 0) = x at h1 h2 h3 ⊢
  rw [Bool.cond_decide, if_pos (by omega), gd_pos (by simp; omega)]
  simp only [Int.toNat_natCast, hx, f34_eq, ob_some, W_id (x := (out.length : Int) + 1) (by omega) (by omega), Bool.cond_decide]
  have g1 : gd (decide ((out.length + 1) * 8 ≤ 140737488355328)) = fun y : Option α => y := by
    funext y; exact gd_pos (by simp; omega) y
  simp only [g1]
  have ec : ((out.length : Int) + 1) = ((out.length + 1 : Nat) : Int) := rfl
  rw [← ec]
  by_cases h4 : 3 ≤ x.1 ∧ x.1 ≤ 6
  · have hkd : kidsP x.1 = 2 := by unfold kidsP; rw [if_pos (by omega)]
    have ha := h2 (by omega)
    have hb := h3 h4
    simp only [hkd]
    rw [if_pos (by decide), if_pos (by decide), if_pos (show 3 ≤ x.1 ∧ x.1 ≤ 8 by omega), if_pos h4, gd_pos (by simp; omega), gd_pos (by simp; omega), gd_pos (by simp; omega), gd_pos (by simp; omega), gd_pos (by simp; omega), gd_pos (by simp; omega)]
    generalize out.getD x.2.1.toNat 0 = a
    generalize out.getD x.2.2.1.toNat 0 = b
    unfold dg
    have q1 : (x.1 == 2) = false := by simp; omega
    have q7 : (x.1 == 7) = false := by simp; omega
    have q8 : (x.1 == 8) = false := by simp; omega
    simp only [q1, q7, q8, cond_false, Bool.cond_eq_ite, beq_iff_eq]
    by_cases ha' : a < 0
    · simp only [if_pos ha']
      rw [if_neg (show ¬ x.1 = 2 by omega), if_neg (show ¬ x.1 = 1 by omega), if_pos (show a < 0 ∨ b < 0 by omega)]
      grind
    · simp only [if_neg ha']
      by_cases hb' : b < 0
      · simp only [if_pos hb']
        rw [if_neg (show ¬ x.1 = 2 by omega), if_neg (show ¬ x.1 = 1 by omega), if_pos (show a < 0 ∨ b < 0 by omega)]
        grind
      · simp only [if_neg hb']
        rw [if_neg (show ¬ x.1 = 2 by omega), if_neg (show ¬ x.1 = 1 by omega), if_neg (show ¬ (a < 0 ∨ b < 0) by omega)]
        have hop : x.1 = 3 ∨ x.1 = 4 ∨ x.1 = 5 ∨ x.1 = 6 := by omega
        rcases hop with h | h | h | h <;> simp [h]
        split <;> rfl
  · have h3' : ¬ (3 ≤ x.1 ∧ x.1 ≤ 6) := h4
    by_cases h5 : 3 ≤ x.1 ∧ x.1 ≤ 8
    · have hop : x.1 = 7 ∨ x.1 = 8 := by omega
      have hkd : kidsP x.1 = 1 := by unfold kidsP; rw [if_neg (by omega), if_pos hop]
      have ha := h2 (by omega)
      simp only [hkd]
      rw [if_pos (by decide), if_neg (by decide), if_pos h5, if_neg h4, gd_pos (by simp; omega), gd_pos (by simp; omega), gd_pos (by simp; omega), gd_pos (by simp; omega)]
      generalize out.getD x.2.1.toNat 0 = a
      unfold dg
      by_cases ha' : a < 0
      · simp only [if_pos ha']
        rcases hop with h | h <;> simp [h, ha']
      · simp only [if_neg ha']
        rcases hop with h | h <;> simp [h, ha', Int.mul_comm]
    · have hop : x.1 = 1 ∨ x.1 = 2 := by omega
      have hkd : kidsP x.1 = 0 := by unfold kidsP; rw [if_neg (by omega), if_neg (by omega)]
      simp only [hkd]
      rw [if_neg (by decide), if_neg (by decide), if_neg h5, if_neg h4]
      unfold dg
      rcases hop with h | h <;> simp [h]

theorem deg_loop {α : Type} {n : Nat} {e : List Nod} (hN : e.length ≤ 1048576) (hk : Kids e) {k0 : List Int → Option α} : ∀ (r : List Nod) (m : Nat) (out : List Int), e.drop out.length = r → out.length + r.length = e.length → r.length < m →
    f41_L3 n m e (e.length : Int) (out.length : Int) out k0 = k0 (degRun out r)
  | [], m + 1, out, hd, hl, hm => by
    rw [f41_L3_s]
    unfold f41_L3B
    simp only [List.length_nil] at hl
    rw [Bool.cond_decide, if_neg (by omega)]
    rfl
  | x :: r, m + 1, out, hd, hl, hm => by
    obtain ⟨hx, hlt, hd'⟩ := getD_drop_cons (d := (0, 0, 0, 0)) hd
    rw [f41_L3_s, deg_round hN hk hlt, hx]
    simp only [List.length_cons] at hl hm
    have ih := deg_loop hN hk r m (out ++ [dv out x]) (by simpa using hd') (by simp; omega) (by omega) (n := n) (k0 := k0)
    simp only [List.length_append, List.length_cons, List.length_nil, Nat.zero_add] at ih
    exact ih

theorem f41_eq {n : Nat} {e : List Nod} (hN : e.length ≤ 1048576) (hn : 1048577 ≤ n) (hk : Kids e) : f41 n e = some (degRun [] e) := by
  unfold f41
  exact deg_loop (n := n) hN hk (k0 := fun z => some z) e n [] rfl (by simp) (by omega)

theorem degRun_len : ∀ (r : List Nod) (out : List Int), (degRun out r).length = out.length + r.length
  | [], out => by simp [degRun]
  | x :: r, out => by simp [degRun, degRun_len r]; omega

theorem degRun_pre : ∀ (r : List Nod) (out : List Int) (j : Nat), j < out.length → (degRun out r).getD j 0 = out.getD j 0
  | [], out, j, hj => rfl
  | x :: r, out, j, hj => by
    simp only [degRun]
    rw [degRun_pre r _ j (by simp; omega), getD_append_left hj]

theorem degRun_at {e : List Nod} (hk : Kids e) : ∀ (r : List Nod) (out : List Int), e.drop out.length = r → ∀ j, out.length ≤ j → j < e.length → (degRun out r).getD j 0 = dv (degRun out r) (e.getD j (0, 0, 0, 0))
  | [], out, hd, j, h1, h2 => by
    have := List.drop_eq_nil_iff.1 hd
    omega
  | x :: r, out, hd, j, h1, h2 => by
    obtain ⟨hx, hlt, hd'⟩ := getD_drop_cons (d := (0, 0, 0, 0)) hd
    simp only [degRun]
    rcases Nat.lt_or_ge out.length j with h | h
    · exact degRun_at hk r (out ++ [dv out x]) (by simpa using hd') j (by simp; omega) h2
    · obtain rfl : j = out.length := by omega
      rw [degRun_pre r _ _ (by simp), getD_append_last, hx]
      obtain ⟨_, k1, k2⟩ := hk out.length hlt
      rw [hx] at k1 k2
      unfold dv
      congr 1
      · by_cases h3 : 3 ≤ x.1 ∧ x.1 ≤ 8
        · have := k1 h3
          rw [if_pos h3, if_pos h3, degRun_pre r _ _ (by simp; omega), getD_append_left (by omega)]
        · rw [if_neg h3, if_neg h3]
      · by_cases h3 : 3 ≤ x.1 ∧ x.1 ≤ 6
        · have := k2 h3
          rw [if_pos h3, if_pos h3, degRun_pre r _ _ (by simp; omega), getD_append_left (by omega)]
        · rw [if_neg h3, if_neg h3]

theorem f27_eq {n : Nat} {e : List Nod} (hN : e.length ≤ 1048576) (hk : Kids e) : ∀ (j d : Nat), j < e.length → j < d → f27 n d e (j : Int) = some ((degRun [] e).getD j 0) := by
  intro j
  induction j using Nat.strongRecOn with
  | ind j ih =>
    intro d hj hd
    obtain ⟨d, rfl⟩ : ∃ d', d = d' + 1 := ⟨d - 1, by omega⟩
    obtain ⟨h1, h2, h3⟩ := hk j hj
    rw [degRun_at hk e [] rfl j (by simp) hj]
    unfold dv
    rw [f27]
    generalize hx : e.getD j (0, 0, 0, 0) = x at h1 h2 h3 ⊢
    rw [gd_pos (by simp; omega)]
    simp only [Int.toNat_natCast, hx, f44_eq, ob_some, Bool.cond_eq_ite, beq_iff_eq, decide_eq_true_eq]
    by_cases h4 : 3 ≤ x.1 ∧ x.1 ≤ 8
    · have ha := h2 h4
      have e1 := ih x.2.1.toNat (by omega) d (by omega) (by omega)
      rw [show ((x.2.1.toNat : Nat) : Int) = x.2.1 by omega] at e1
      rw [if_neg (show ¬ x.1 = 2 by omega), if_neg (show ¬ x.1 = 1 by omega), e1, ob_some, if_pos h4]
      generalize (degRun [] e).getD x.2.1.toNat 0 = a
      by_cases h5 : 3 ≤ x.1 ∧ x.1 ≤ 6
      · have hb := h3 h5
        have e2 := ih x.2.2.1.toNat (by omega) d (by omega) (by omega)
        rw [show ((x.2.2.1.toNat : Nat) : Int) = x.2.2.1 by omega] at e2
        rw [if_pos h5, e2, ob_some, if_pos h5]
        generalize (degRun [] e).getD x.2.2.1.toNat 0 = b
        unfold dg
        rw [if_neg (show ¬ x.1 = 2 by omega), if_neg (show ¬ x.1 = 1 by omega)]
        by_cases ha' : a < 0
        · rw [if_pos ha', if_pos (by omega)]
        · rw [if_neg ha']
          by_cases hb' : b < 0
          · rw [if_pos hb', if_pos (by omega)]
          · rw [if_neg hb', if_neg (show ¬ (a < 0 ∨ b < 0) by omega)]
            have hop : x.1 = 3 ∨ x.1 = 4 ∨ x.1 = 5 ∨ x.1 = 6 := by omega
            rcases hop with h | h | h | h <;> simp [h]
            split <;> rfl
      · rw [if_neg h5, if_neg h5]
        unfold dg
        rw [if_neg (show ¬ x.1 = 2 by omega), if_neg (show ¬ x.1 = 1 by omega)]
        by_cases ha' : a < 0
        · rw [if_pos ha', if_pos (by omega)]
        · rw [if_neg ha', if_neg (by omega), if_neg (show ¬ (a < 0 ∨ (0 : Int) < 0) by omega)]
          have hop : x.1 = 7 ∨ x.1 = 8 := by omega
          rcases hop with h | h <;> simp [h]
    · have hop : x.1 = 1 ∨ x.1 = 2 := by omega
      rw [if_neg h4, if_neg (show ¬ (3 ≤ x.1 ∧ x.1 ≤ 6) by omega)]
      unfold dg
      rcases hop with h | h <;> simp [h]

/-! the rest of the laws -/
theorem f25_eq {n : Nat} {b : Bool} {c : Int} : f25 n b c = some (if b = true then 0 else c) := by unfold f25; cases b <;> rfl

open Classical in
theorem f23_eq {n : Nat} {e : List Nod} (hN : e.length ≤ 1048576) (hn : 1048577 ≤ n) : f23 n e = some (if exprP e then 0 else 1) := by
  unfold f23
  rw [f40_eq hN hn, ob_some, f25_eq, ob_some]
  by_cases h : exprP e <;> simp [h]

theorem f24_eq {n : Nat} {e : List Nod} (hN : e.length ≤ 1048576) (hn : 1048577 ≤ n) (h : exprP e) : f24 n e = some ((degRun [] e).getD (e.length - 1) 0) := by
  have h1 := h.1
  unfold f24
  rw [f41_eq hN hn (exprP_kids hN h), ob_some, W_id (by omega) (by omega), gd_pos (by simp [degRun_len]; omega)]
  rw [show ((e.length : Int) - 1).toNat = e.length - 1 by omega]

theorem f27_last {n : Nat} {e : List Nod} (hN : e.length ≤ 1048576) (hn : 1048577 ≤ n) (h : exprP e) : f27 n n e (W ((e.length : Int) - 1)) = some ((degRun [] e).getD (e.length - 1) 0) := by
  have h1 := h.1
  rw [W_id (by omega) (by omega)]
  have := f27_eq (n := n) hN (exprP_kids hN h) (e.length - 1) n (by omega) (by omega)
  rw [show ((e.length - 1 : Nat) : Int) = (e.length : Int) - 1 by omega] at this
  exact this

theorem copy_loop {α : Type} {n : Nat} {e : List Nod} (hN : e.length ≤ 1048576) {k0 : List Nod → Option α} : ∀ (r : List Nod) (m : Nat) (out : List Nod), e.drop out.length = r → out.length + r.length = e.length → r.length < m →
    (∀ j, j < out.length → out.getD j (0, 0, 0, 0) = e.getD j (0, 0, 0, 0)) → f31_L3 n m e (out.length : Int) (out ++ List.replicate r.length (0, 0, 0, 0)) k0 = k0 e
  | [], m + 1, out, hd, hl, hm, ho => by
    rw [f31_L3_s]
    unfold f31_L3B
    simp only [List.length_nil] at hl
    rw [Bool.cond_decide, if_neg (by omega)]
    congr 1
    simp only [List.length_nil, List.replicate_zero, List.append_nil]
    apply List.ext_getElem (by omega)
    intro j h1 h2
    have := ho j h1
    simpa [List.getD_eq_getElem?_getD, h1, h2] using this
  | x :: r, m + 1, out, hd, hl, hm, ho => by
    obtain ⟨hx, hlt, hd'⟩ := getD_drop_cons (d := (0, 0, 0, 0)) hd
    rw [f31_L3_s]
    unfold f31_L3B
    simp only [List.length_cons] at hl hm
    rw [Bool.cond_decide, if_pos (by omega), gd_pos (by simp; omega), W_id (by omega) (by omega)]
    simp only [Int.toNat_natCast, hx]
    unfold f48
    rw [ob_some, gd_pos (by simp; omega), gd_pos (by simp)]
    have es : (out ++ List.replicate (x :: r).length (0, 0, 0, 0)).set out.length x = (out ++ [x]) ++ List.replicate r.length (0, 0, 0, 0) := by
      rw [List.set_append_right _ _ (Nat.le_refl _)]
      simp [List.replicate_succ]
    rw [es]
    have ih := copy_loop hN r m (out ++ [x]) (by simpa using hd') (by simp; omega) (by omega) (fun j hj => by
      simp only [List.length_append, List.length_cons, List.length_nil] at hj
      rcases Nat.lt_or_ge j out.length with h | h
      · rw [getD_append_left h]; exact ho j h
      · obtain rfl : j = out.length := by omega
        rw [getD_append_last, hx]) (n := n) (k0 := k0)
    simp only [List.length_append, List.length_cons, List.length_nil, Nat.zero_add] at ih
    exact ih

theorem f13_eq {n : Nat} {e : List Nod} (hN : e.length ≤ 1048576) (hn : 1048577 ≤ n) : f13 n e = some e := by
  unfold f13 f31
  rw [gd_pos (by simp; omega)]
  have := copy_loop (n := n) hN (k0 := fun z => some z) e n [] rfl (by simp) (by omega) (fun j hj => by simp at hj)
  simp only [List.length_nil, List.nil_append] at this
  rw [Int.toNat_natCast]
  have this : f31_L3 n n e 0 (List.replicate e.length (0, 0, 0, 0)) (fun z => some z) = some e := this
  rw [this]
  rfl

theorem f49_same {n : Nat} {x : Nod} : f49 n x x = some true := by unfold f49; simp

theorem same_loop {α : Type} {n : Nat} {e : List Nod} (hN : e.length ≤ 1048576) {k0 : Bool → Option α} {k1 : Unit → Option α} : ∀ (m k : Nat), k ≤ e.length → e.length - k < m → f32_L4 n m e e (k : Int) k0 k1 = k1 ()
  | m + 1, k, hk, hm => by
    rw [f32_L4_s]
    unfold f32_L4B
    by_cases h : k < e.length
    · rw [Bool.cond_decide, if_pos (by omega), gd_pos (by simp; omega), W_id (by omega) (by omega)]
      simp only [f49_same, ob_some, Bool.not_true, cond_false]
      rw [gd_pos (by simp; omega)]
      exact same_loop hN m (k + 1) (by omega) (by omega)
    · rw [Bool.cond_decide, if_neg (by omega)]

theorem f14_eq {n : Nat} {e : List Nod} (hN : e.length ≤ 1048576) (hn : 1048577 ≤ n) : f14 n e e = some true := by
  unfold f14 f32
  simp only [bne_self_eq_false, cond_false]
  have := same_loop (n := n) hN (k0 := fun z => some z) (k1 := fun _ => some true) n 0 (by omega) (by omega)
  have this : f32_L4 n n e e 0 (fun z => some z) (fun _ => some true) = some true := this
  rw [this]
  rfl

theorem f11_eq {n : Nat} {e : List Nod} (hlen : e.length ≤ 9223372036854775807) : f11 n e 1048576 = some (if e.length ≤ 1048576 then 1048576 - (e.length : Int) else -1) := by
  unfold f11 f29
  rw [W_id (by omega) (by omega)]
  by_cases h : e.length ≤ 1048576
  · rw [Bool.cond_decide, if_neg (by omega), ob_some, Bool.cond_decide, if_neg (by omega), if_pos h]
  · rw [Bool.cond_decide, if_pos (by omega), ob_some, if_neg h]
    rfl

theorem f5_eq {n : Nat} {e : List Nod} (hlen : e.length ≤ 9223372036854775807) (hn : 1048577 ≤ n) : f5 n e = some true := by
  unfold f5
  rw [f11_eq hlen, ob_some]
  by_cases hN : e.length ≤ 1048576
  · rw [if_pos hN, Bool.cond_decide, if_neg (by omega), f13_eq hN hn, ob_some]
    have key : f9 n e = f8 n e := by
      unfold f9 f8
      rw [f26_eq hN hn, ob_some, f23_eq hN hn, ob_some]
      by_cases h : exprP e
      · simp only [h, decide_true, Bool.not_true, cond_false, if_true, bne_self_eq_false]
        rw [f27_last hN hn h, ob_some, f24_eq hN hn h, ob_some, f25_eq, ob_some]
        generalize (degRun [] e).getD (e.length - 1) 0 = v
        by_cases hv : v < 0
        · rw [Bool.cond_decide, if_pos hv]
          simp; omega
        · rw [Bool.cond_decide, if_neg hv]
          simp; omega
      · simp [h]
    simp only [ob_some]
    rw [← key]
    have hs : ∃ r, f9 n e = some r := by
      unfold f9
      rw [f26_eq hN hn, ob_some]
      by_cases h : exprP e
      · simp only [h, decide_true, Bool.not_true, cond_false]
        rw [f27_last hN hn h, ob_some]
        by_cases hv : (degRun [] e).getD (e.length - 1) 0 < 0
        · rw [Bool.cond_decide, if_pos hv]; exact ⟨_, rfl⟩
        · rw [Bool.cond_decide, if_neg hv]; exact ⟨_, rfl⟩
      · simp [h]
    obtain ⟨r, hr⟩ := hs
    simp [hr, f14_eq hN hn]
  · rw [if_neg hN]
    rfl

theorem f4_eq {n : Nat} {e : List Nod} (hlen : e.length ≤ 9223372036854775807) (hn : 1048577 ≤ n) : f4 n e = some true := by
  unfold f4
  rw [f11_eq hlen, ob_some]
  by_cases hN : e.length ≤ 1048576
  · rw [if_pos hN, Bool.cond_decide, if_neg (by omega), f13_eq hN hn, ob_some]
    have key : ∃ r, f12 n e = some r ∧ f10 n e = some r := by
      unfold f12 f10 f30 f28
      rw [f26_eq hN hn, ob_some, f23_eq hN hn, ob_some]
      by_cases h : exprP e
      · simp only [h, decide_true, Bool.not_true, cond_false, if_true, bne_self_eq_false]
        rw [f27_last hN hn h, ob_some, f24_eq hN hn h, ob_some, f42_eq, f47_eq]
        exact ⟨_, rfl, rfl⟩
      · simp [h]
    obtain ⟨r, h1, h2⟩ := key
    simp [h1, h2, f14_eq hN hn]
  · rw [if_neg hN]
    rfl

end Go.Ev
