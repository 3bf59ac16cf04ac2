/- DERIVED. The plain laws: what the models compute. -/
import Derived.Test.YtcoilfmbghghpaaKd

set_option linter.all false
set_option linter.unusedVariables false
set_option linter.unusedSimpArgs false

namespace Go.Ev
open Go

theorem W_id {x : Int} (h : -9223372036854775808 ≤ x) (h' : x < 9223372036854775808) : W x = x := wrap64_id h h'

@[simp] theorem ob_some {α β : Type} (r : β) (k : β → Option α) : ob (some r) k = k r := rfl

@[simp] theorem ob_none {α β : Type} (k : β → Option α) : ob (none : Option β) k = none := rfl

@[simp] theorem gd_true {α : Type} (x : Option α) : gd true x = x := rfl

@[simp] theorem gd_false {α : Type} (x : Option α) : gd false x = none := rfl

theorem gd_pos {α : Type} {g : Bool} (h : g = true) (x : Option α) : gd g x = x := by rw [h]; rfl

/-- the number that limbs are -/
def vl : List Int → Int
  | [] => 0
  | x :: r => x + 10000 * vl r

def Lm (l : List Int) : Prop := ∀ x ∈ l, 0 ≤ x ∧ x < 10000

/-- the limbs of a number -/
def dg (n : Nat) : List Int := if n = 0 then [] else ((n % 10000 : Nat) : Int) :: dg (n / 10000)
termination_by n
decreasing_by omega

theorem dg_zero : dg 0 = [] := by rw [dg]; rfl

theorem dg_pos {n : Nat} (h : n ≠ 0) : dg n = ((n % 10000 : Nat) : Int) :: dg (n / 10000) := by rw [dg, if_neg h]

theorem Lm.nil : Lm [] := fun _ h => by cases h

theorem Lm.cons {x : Int} {l : List Int} (hx : 0 ≤ x ∧ x < 10000) (hl : Lm l) : Lm (x :: l) := fun y hy => by
  rcases List.mem_cons.1 hy with rfl | hy
  · exact hx
  · exact hl y hy

theorem Lm.head {x : Int} {l : List Int} (h : Lm (x :: l)) : 0 ≤ x ∧ x < 10000 := h x (by simp)

theorem Lm.tail {x : Int} {l : List Int} (h : Lm (x :: l)) : Lm l := fun y hy => h y (by simp [hy])

theorem Lm.app {l m : List Int} (h : Lm l) (h' : Lm m) : Lm (l ++ m) := fun y hy => (List.mem_append.1 hy).elim (h y) (h' y)

theorem Lm.take {l : List Int} (h : Lm l) (k : Nat) : Lm (l.take k) := fun y hy => h y (List.mem_of_mem_take hy)

theorem Lm.drop {l : List Int} (h : Lm l) (k : Nat) : Lm (l.drop k) := fun y hy => h y (List.mem_of_mem_drop hy)

theorem Lm.set {l : List Int} (h : Lm l) (k : Nat) {x : Int} (hx : 0 ≤ x ∧ x < 10000) : Lm (l.set k x) := fun y hy => by
  rcases List.mem_or_eq_of_mem_set hy with hy | rfl
  · exact h y hy
  · exact hx

theorem Lm.get {l : List Int} (h : Lm l) (k : Nat) : 0 ≤ l.getD k 0 ∧ l.getD k 0 < 10000 := by
  rw [List.getD_eq_getElem?_getD]
  cases e : l[k]? with
  | none => simp
  | some x => exact h x (List.mem_of_getElem? e)

theorem Lm.rep (n : Nat) : Lm (List.replicate n 0) := fun y hy => by
  obtain rfl := (List.mem_replicate.1 hy).2
  omega

theorem Lm_dg (n : Nat) : Lm (dg n) := by
  induction n using Nat.strongRecOn with
  | _ n ih =>
    by_cases h : n = 0
    · subst h; rw [dg_zero]; exact Lm.nil
    · rw [dg_pos h]
      exact Lm.cons (by omega) (ih _ (by omega))

theorem vl_dg (n : Nat) : vl (dg n) = n := by
  induction n using Nat.strongRecOn with
  | _ n ih =>
    by_cases h : n = 0
    · subst h; rw [dg_zero]; rfl
    · rw [dg_pos h, vl, ih _ (by omega)]
      omega

theorem vl_nonneg {l : List Int} (h : Lm l) : 0 ≤ vl l := by
  induction l with
  | nil => exact Int.le_refl _
  | cons x r ih =>
    have := h.head
    have := ih h.tail
    simp only [vl]; omega

theorem pw_pos (k : Nat) : (0 : Int) < 10000 ^ k := Int.pow_pos (by omega)

theorem pw_succ (k : Nat) : (10000 : Int) ^ (k + 1) = 10000 * 10000 ^ k := by rw [Int.pow_succ, Int.mul_comm]

theorem pw_le {i j : Nat} (h : i ≤ j) : (10000 : Int) ^ i ≤ 10000 ^ j := by
  induction j with
  | zero => obtain rfl : i = 0 := by omega
            exact Int.le_refl _
  | succ j ih =>
    by_cases e : i = j + 1
    · subst e; exact Int.le_refl _
    · have := ih (by omega)
      have := pw_pos j
      rw [pw_succ]; omega

theorem pw_lt {i j : Nat} (h : (10000 : Int) ^ i < 10000 ^ j) : i < j := by
  rcases Nat.lt_or_ge i j with h' | h'
  · exact h'
  · have := pw_le h'; omega

theorem vl_lt {l : List Int} (h : Lm l) : vl l < 10000 ^ l.length := by
  induction l with
  | nil => simp [vl]
  | cons x r ih =>
    have := h.head
    have := ih h.tail
    simp only [vl, List.length_cons, pw_succ]; omega

theorem vl_app (l m : List Int) : vl (l ++ m) = vl l + 10000 ^ l.length * vl m := by
  induction l with
  | nil => simp [vl]
  | cons x r ih => simp only [List.cons_append, vl, ih, List.length_cons, pw_succ]; grind

theorem vl_snoc (l : List Int) (x : Int) : vl (l ++ [x]) = vl l + 10000 ^ l.length * x := by rw [vl_app]; simp [vl]

theorem vl_rep (n : Nat) : vl (List.replicate n 0) = 0 := by
  induction n with
  | zero => rfl
  | succ n ih => simp [List.replicate_succ, vl, ih]

theorem vl_take_succ {l : List Int} {k : Nat} (h : k < l.length) : vl (l.take (k + 1)) = vl (l.take k) + 10000 ^ k * l.getD k 0 := by
  rw [List.take_succ_eq_append_getElem h, vl_snoc, List.length_take, Nat.min_eq_left (by omega), List.getD_eq_getElem?_getD, List.getElem?_eq_getElem h]
  rfl

theorem vl_set {l : List Int} {k : Nat} (x : Int) (h : k < l.length) : vl (l.set k x) = vl l + 10000 ^ k * (x - l.getD k 0) := by
  induction l generalizing k with
  | nil => simp at h
  | cons y r ih =>
    cases k with
    | zero => simp [vl]; omega
    | succ k =>
      have := ih (k := k) (by simpa using h)
      simp only [List.set_cons_succ, vl, this, List.getD_cons_succ, pw_succ]
      grind

/-- limbs without noughts at their end -/
def Cn (l : List Int) : Prop := Lm l ∧ (l ≠ [] → l.getD (l.length - 1) 0 ≠ 0)

theorem Cn_dg (n : Nat) : Cn (dg n) := by
  refine ⟨Lm_dg n, ?_⟩
  induction n using Nat.strongRecOn with
  | _ n ih =>
    by_cases h : n = 0
    · subst h; rw [dg_zero]; exact fun h => absurd rfl h
    · rw [dg_pos h]
      intro _
      by_cases e : dg (n / 10000) = []
      · rw [e]
        have h0 : n / 10000 = 0 := by
          have := vl_dg (n / 10000)
          rw [e] at this
          simp only [vl] at this
          omega
        simp
        omega
      · have := ih (n / 10000) (by omega) e
        have hl : 0 < (dg (n / 10000)).length := List.length_pos_iff.2 e
        simp only [List.length_cons, Nat.add_sub_cancel]
        rw [show (dg (n / 10000)).length = ((dg (n / 10000)).length - 1) + 1 by omega, List.getD_cons_succ]
        exact this

theorem Cn.tail {x : Int} {l : List Int} (h : Cn (x :: l)) : Cn l := by
  refine ⟨h.1.tail, fun hn => ?_⟩
  have := h.2 (by simp)
  have hl : 0 < l.length := List.length_pos_iff.2 hn
  simp only [List.length_cons, Nat.add_sub_cancel] at this
  rw [show l.length = (l.length - 1) + 1 by omega, List.getD_cons_succ] at this
  exact this

theorem Cn.pos {l : List Int} (h : Cn l) (hn : l ≠ []) : 0 < vl l := by
  induction l with
  | nil => exact absurd rfl hn
  | cons x r ih =>
    have hx := h.1.head
    have hr := vl_nonneg h.1.tail
    by_cases e : r = []
    · subst e
      have := h.2 (by simp)
      simp at this
      simp only [vl]; omega
    · have := ih h.tail e
      simp only [vl]; omega

theorem dg_vl {l : List Int} (h : Cn l) : dg (vl l).toNat = l := by
  induction l with
  | nil => exact dg_zero
  | cons x r ih =>
    have hx := h.1.head
    have hr := vl_nonneg h.1.tail
    have hp := h.pos (by simp)
    have ih := ih h.tail
    simp only [vl] at hp ⊢
    rw [dg_pos (by omega)]
    congr 1
    · omega
    · rw [← ih]
      congr 1
      rw [ih]
      omega

theorem Cn.ge {l : List Int} (h : Cn l) (hn : l ≠ []) : (10000 : Int) ^ (l.length - 1) ≤ vl l := by
  have hl : 0 < l.length := List.length_pos_iff.2 hn
  have h1 := vl_take_succ (l := l) (k := l.length - 1) (by omega)
  rw [show l.length - 1 + 1 = l.length by omega, List.take_length] at h1
  have h2 := h.2 hn
  have h3 := h.1.get (l.length - 1)
  have h4 := vl_nonneg (h.1.take (l.length - 1))
  have h5 := pw_pos (l.length - 1)
  have h6 : (10000 : Int) ^ (l.length - 1) * 1 ≤ 10000 ^ (l.length - 1) * l.getD (l.length - 1) 0 := Int.mul_le_mul_of_nonneg_left (by omega) (by omega)
  omega

theorem dg_len {n k : Nat} : (dg n).length ≤ k ↔ (n : Int) < 10000 ^ k := by
  constructor
  · intro h
    have := vl_lt (Lm_dg n)
    rw [vl_dg] at this
    exact Int.lt_of_lt_of_le this (pw_le h)
  · intro h
    by_cases e : dg n = []
    · rw [e]; simp
    · have := (Cn_dg n).ge e
      rw [vl_dg] at this
      have := pw_lt (Int.lt_of_le_of_lt this h)
      have hl : 0 < (dg n).length := List.length_pos_iff.2 e
      omega

theorem dg_nil {n : Nat} : dg n = [] ↔ n = 0 := by
  constructor
  · intro h
    have := vl_dg n
    rw [h] at this
    simp only [vl] at this
    omega
  · rintro rfl; exact dg_zero

theorem dg_inj {a b : Nat} (h : dg a = dg b) : a = b := by
  have h1 := vl_dg a
  rw [h, vl_dg] at h1
  omega

theorem len_mono {a b : Nat} (h : a ≤ b) : (dg a).length ≤ (dg b).length := by
  refine dg_len.2 ?_
  have := vl_lt (Lm_dg b)
  rw [vl_dg] at this
  omega

/-- -1, 0, 1 -/
def cm (x y : Int) : Int := if x < y then -1 else if x = y then 0 else 1

theorem cmp_take {a b : List Int} (ha : Lm a) (hb : Lm b) {k : Nat} (h1 : k < a.length) (h2 : k < b.length) (h : a.getD k 0 < b.getD k 0) : vl (a.take (k + 1)) < vl (b.take (k + 1)) := by
  rw [vl_take_succ h1, vl_take_succ h2]
  have q1 := vl_lt (ha.take k)
  rw [List.length_take, Nat.min_eq_left (by omega)] at q1
  have q2 := vl_nonneg (hb.take k)
  have q3 : (10000 : Int) ^ k * (a.getD k 0 + 1) ≤ 10000 ^ k * b.getD k 0 := Int.mul_le_mul_of_nonneg_left (by omega) (by have := pw_pos k; omega)
  rw [Int.mul_add, Int.mul_one] at q3
  omega

theorem Cn.lt_of_len {a b : List Int} (ha : Cn a) (hb : Cn b) (h : a.length < b.length) : vl a < vl b := by
  have h1 := vl_lt ha.1
  have h2 := hb.ge (by intro e; subst e; simp at h)
  have h3 : (10000 : Int) ^ a.length ≤ 10000 ^ (b.length - 1) := pw_le (by omega)
  omega

/-- the front part, of which what is behind is nought -/
theorem Cn.of_take {l : List Int} (h : Lm l) {t : Nat} (ht : t ≤ l.length) (hl : t = 0 ∨ l.getD (t - 1) 0 ≠ 0) : Cn (l.take t) := by
  refine ⟨h.take t, fun hn => ?_⟩
  have hlen : (l.take t).length = t := by simp; omega
  rcases hl with rfl | hl
  · simp at hn
  · have ht0 : t ≠ 0 := by rintro rfl; simp at hn
    rw [hlen, List.getD_eq_getElem?_getD, List.getElem?_take, if_pos (by omega), ← List.getD_eq_getElem?_getD]
    exact hl

theorem tdv {x : Int} (h : 0 ≤ x) : Int.tdiv x 10000 = x / 10000 := Int.tdiv_eq_ediv_of_nonneg h

theorem tmd {x : Int} (h : 0 ≤ x) : Int.tmod x 10000 = x % 10000 := Int.tmod_eq_emod_of_nonneg h

theorem trim185 {α : Type} {n : Nat} {l : List Int} (hN : l.length ≤ 1099511627776) {k0 : List Int → Int → Option α} : ∀ (m k : Nat), k < m → k ≤ l.length →
    ∃ t, t ≤ k ∧ f185_L2 n m l (k : Int) k0 = k0 l (t : Int) ∧ vl (l.take t) = vl (l.take k) ∧ (t = 0 ∨ l.getD (t - 1) 0 ≠ 0)
  | 0, k, h, _ => by omega
  | m + 1, k, h, hk => by
    rw [f185_L2_s]
    unfold f185_L2B
    dsimp only
    by_cases h0 : k = 0
    · subst h0; exact ⟨0, Nat.le_refl _, rfl, rfl, .inl rfl⟩
    · rw [Bool.cond_decide, if_pos (by omega), W_id (by omega) (by omega), gd_pos (by simp; omega)]
      have e : ((k : Int) - 1).toNat = k - 1 := by omega
      rw [e, Bool.cond_eq_ite]
      by_cases hz : l.getD (k - 1) 0 = 0
      · rw [if_pos (by rw [hz]; rfl)]
        obtain ⟨t, h1, h2, h3, h4⟩ := trim185 (n := n) hN (k0 := k0) m (k - 1) (by omega) (by omega)
        refine ⟨t, by omega, ?_, ?_, h4⟩
        · rw [show (k : Int) - 1 = ((k - 1 : Nat) : Int) by omega]; exact h2
        · rw [h3]
          have := vl_take_succ (l := l) (k := k - 1) (by omega)
          rw [show k - 1 + 1 = k by omega, hz] at this
          rw [this]; simp
      · rw [if_neg (by simpa using hz)]
        exact ⟨k, Nat.le_refl _, rfl, rfl, .inr hz⟩

theorem f185_eq {n : Nat} {l : List Int} (hl : Lm l) (hN : l.length ≤ 1099511627776) (hn : l.length < n) : f185 n l = some (dg (vl l).toNat) := by
  unfold f185
  obtain ⟨t, h1, h2, h3, h4⟩ := trim185 (n := n) hN (k0 := fun z_1 z_2 => gd (decide (0 ≤ z_2) && decide (z_2 ≤ (z_1.length : Int))) (gd (decide ((0 + ((z_1.drop 0).take (z_2.toNat - 0)).length) * 8 ≤ 140737488355328)) (some ((z_1.drop 0).take (z_2.toNat - 0))))) n l.length hn (Nat.le_refl _)
  rw [h2, gd_pos (by simp; omega), gd_pos (by simp; omega)]
  simp only [List.drop_zero, Int.toNat_natCast, Nat.sub_zero]
  rw [List.take_length] at h3
  rw [← h3, dg_vl (Cn.of_take hl (by omega) h4)]

theorem trim186 {α : Type} {n : Nat} {l : List Int} (hN : l.length ≤ 1099511627776) {k0 : List Int → Int → Option α} : ∀ (m k : Nat), k < m → k ≤ l.length →
    ∃ t, t ≤ k ∧ f186_L2 n m l (k : Int) k0 = k0 l (t : Int) ∧ vl (l.take t) = vl (l.take k) ∧ (t = 0 ∨ l.getD (t - 1) 0 ≠ 0)
  | 0, k, h, _ => by omega
  | m + 1, k, h, hk => by
    rw [f186_L2_s]
    unfold f186_L2B
    dsimp only
    by_cases h0 : k = 0
    · subst h0; exact ⟨0, Nat.le_refl _, rfl, rfl, .inl rfl⟩
    · rw [Bool.cond_decide, if_pos (by omega), W_id (by omega) (by omega), gd_pos (by simp; omega)]
      have e : ((k : Int) - 1).toNat = k - 1 := by omega
      rw [e, Bool.cond_eq_ite]
      by_cases hz : l.getD (k - 1) 0 = 0
      · rw [if_pos (by rw [hz]; rfl)]
        obtain ⟨t, h1, h2, h3, h4⟩ := trim186 (n := n) hN (k0 := k0) m (k - 1) (by omega) (by omega)
        refine ⟨t, by omega, ?_, ?_, h4⟩
        · rw [show (k : Int) - 1 = ((k - 1 : Nat) : Int) by omega]; exact h2
        · rw [h3]
          have := vl_take_succ (l := l) (k := k - 1) (by omega)
          rw [show k - 1 + 1 = k by omega, hz] at this
          rw [this]; simp
      · rw [if_neg (by simpa using hz)]
        exact ⟨k, Nat.le_refl _, rfl, rfl, .inr hz⟩

theorem f186_eq {n : Nat} {l : List Int} (hl : Lm l) (hN : l.length ≤ 1099511627776) (hn : l.length < n) : f186 n l = some (dg (vl l).toNat) := by
  unfold f186
  obtain ⟨t, h1, h2, h3, h4⟩ := trim186 (n := n) hN (k0 := fun z_1 z_2 => gd (decide (0 ≤ z_2) && decide (z_2 ≤ (z_1.length : Int))) (some ((z_1.drop 0).take (z_2.toNat - 0)))) n l.length hn (Nat.le_refl _)
  rw [h2, gd_pos (by simp; omega)]
  simp only [List.drop_zero, Int.toNat_natCast, Nat.sub_zero]
  rw [List.take_length] at h3
  rw [← h3, dg_vl (Cn.of_take hl (by omega) h4)]

theorem small190 {α : Type} {n : Nat} {k0 : List Int → Option α} : ∀ (m x : Nat) (o : List Int), (x : Int) ≤ 9223372036854775807 → (dg x).length < m → o.length + (dg x).length ≤ 1099511627776 → f190_L2 n m (x : Int) o k0 = k0 (o ++ dg x)
  | 0, x, o, _, h, _ => by omega
  | m + 1, x, o, hx, h, hN => by
    rw [f190_L2_s]
    unfold f190_L2B
    dsimp only
    by_cases h0 : x = 0
    · subst h0; rw [dg_zero]; simp
    · rw [dg_pos h0] at h hN ⊢
      simp only [List.length_cons] at h hN
      rw [Bool.cond_decide, if_pos (by omega), gd_pos (by simp; omega), tdv (by omega), tmd (by omega), W_id (by omega) (by omega), show (x : Int) / 10000 = ((x / 10000 : Nat) : Int) by omega, show (x : Int) % 10000 = ((x % 10000 : Nat) : Int) by omega]
      rw [small190 (n := n) m (x / 10000) _ (by omega) (by omega) (by simp; omega)]
      simp

theorem f190_eq {n : Nat} {x : Nat} (hx : (x : Int) ≤ 9223372036854775807) (hn : 10 < n) : f190 n (x : Int) = some (dg x) := by
  have hl : (dg x).length ≤ 5 := dg_len.2 (by rw [show (10000 : Int) ^ 5 = 100000000000000000000 from rfl]; omega)
  unfold f190
  rw [small190 (n := n) n x [] hx (by omega) (by simp; omega)]
  simp

theorem small163 {α : Type} {n : Nat} {k0 : List Int → Option α} : ∀ (m x : Nat) (o : List Int), (x : Int) ≤ 9223372036854775807 → (dg x).length < m → o.length + (dg x).length ≤ 1099511627776 → f163_L2 n m (x : Int) o k0 = k0 (o ++ dg x)
  | 0, x, o, _, h, _ => by omega
  | m + 1, x, o, hx, h, hN => by
    rw [f163_L2_s]
    unfold f163_L2B
    dsimp only
    by_cases h0 : x = 0
    · subst h0; rw [dg_zero]; simp
    · rw [dg_pos h0] at h hN ⊢
      simp only [List.length_cons] at h hN
      rw [Bool.cond_decide, if_pos (by omega), gd_pos (by simp; omega), tdv (by omega), tmd (by omega), W_id (by omega) (by omega), show (x : Int) / 10000 = ((x / 10000 : Nat) : Int) by omega, show (x : Int) % 10000 = ((x % 10000 : Nat) : Int) by omega]
      rw [small163 (n := n) m (x / 10000) _ (by omega) (by omega) (by simp; omega)]
      simp

theorem f163_eq {n : Nat} {x : Nat} (hx : (x : Int) ≤ 9223372036854775807) (hn : 10 < n) : f163 n (x : Int) = some (dg x) := by
  have hl : (dg x).length ≤ 5 := dg_len.2 (by rw [show (10000 : Int) ^ 5 = 100000000000000000000 from rfl]; omega)
  unfold f163
  rw [small163 (n := n) n x [] hx (by omega) (by simp; omega)]
  simp

theorem f175_eq {n : Nat} {b : Bool} : f175 n b = some (if b = true then 1 else 0) := by cases b <;> rfl

theorem cm_lt {x y : Int} (h : x < y) : cm x y = -1 := by unfold cm; rw [if_pos h]

theorem cm_gt {x y : Int} (h : y < x) : cm x y = 1 := by unfold cm; rw [if_neg (by omega), if_neg (by omega)]

theorem cm_eq {x y : Int} (h : x = y) : cm x y = 0 := by unfold cm; rw [if_neg (by omega), if_pos h]

theorem cm_add (x y z : Int) : cm (x + z) (y + z) = cm x y := by
  rcases Int.lt_trichotomy x y with h | h | h
  · rw [cm_lt h, cm_lt (by omega)]
  · rw [cm_eq h, cm_eq (by omega)]
  · rw [cm_gt h, cm_gt (by omega)]

theorem cmp127 {α : Type} {n : Nat} {a b : List Int} (ha : Lm a) (hb : Lm b) (hab : a.length = b.length) (hN : a.length ≤ 1099511627776) {k0 : Int → Option α} {k1 : Unit → Option α} : ∀ (m k : Nat), k < m → k ≤ a.length →
    f127_L4 n m a b ((k : Int) - 1) k0 k1 = if vl (a.take k) = vl (b.take k) then k1 () else k0 (cm (vl (a.take k)) (vl (b.take k)))
  | 0, k, h, _ => by omega
  | m + 1, k, h, hk => by
    rw [f127_L4_s]
    unfold f127_L4B
    dsimp only
    by_cases h0 : k = 0
    · subst h0
      simp
    · rw [Bool.cond_decide, if_pos (by omega), gd_pos (by simp; omega), gd_pos (by simp; omega)]
      have e : ((k : Int) - 1).toNat = k - 1 := by omega
      rw [e, Bool.cond_eq_ite]
      have ta := vl_take_succ (l := a) (k := k - 1) (by omega)
      have tb := vl_take_succ (l := b) (k := k - 1) (by omega)
      rw [show k - 1 + 1 = k by omega] at ta tb
      by_cases hz : a.getD (k - 1) 0 = b.getD (k - 1) 0
      · rw [if_neg (by simpa using hz), W_id (by omega) (by omega)]
        rw [show (k : Int) - 1 - 1 = ((k - 1 : Nat) : Int) - 1 by omega, cmp127 (n := n) ha hb hab hN m (k - 1) (by omega) (by omega)]
        rw [ta, tb, hz]
        by_cases h1 : vl (a.take (k - 1)) = vl (b.take (k - 1))
        · rw [if_pos h1, if_pos (by omega)]
        · rw [if_neg h1, if_neg (by omega)]
          rw [cm_add]
      · rw [if_pos (by simpa using hz), gd_pos (by simp; omega), gd_pos (by simp; omega), f175_eq, ob_some]
        rcases Int.lt_or_gt_of_ne hz with h1 | h1
        · have := cmp_take ha hb (k := k - 1) (by omega) (by omega) h1
          rw [show k - 1 + 1 = k by omega] at this
          rw [show (if vl (a.take k) = vl (b.take k) then k1 () else k0 (cm (vl (a.take k)) (vl (b.take k)))) = k0 (-1) by rw [if_neg (by omega), cm_lt this], if_neg (by rw [decide_eq_true_eq]; omega)]
          rfl
        · have := cmp_take hb ha (k := k - 1) (by omega) (by omega) h1
          rw [show k - 1 + 1 = k by omega] at this
          rw [show (if vl (a.take k) = vl (b.take k) then k1 () else k0 (cm (vl (a.take k)) (vl (b.take k)))) = k0 1 by rw [if_neg (by omega), cm_gt this], if_pos (by rw [decide_eq_true_eq]; omega)]
          rfl

theorem f127_eq {n : Nat} {a b : List Int} (ha : Cn a) (hb : Cn b) (hN : a.length ≤ 1099511627776) (hn : a.length < n) : f127 n a b = some (cm (vl a) (vl b)) := by
  unfold f127
  rw [Bool.cond_eq_ite]
  by_cases h : a.length = b.length
  · rw [if_neg (by simp [h]), W_id (by omega) (by omega), cmp127 (n := n) ha.1 hb.1 h hN n a.length hn (Nat.le_refl _)]
    rw [List.take_length, h, List.take_length]
    by_cases h1 : vl a = vl b
    · rw [if_pos h1, cm_eq h1]
    · rw [if_neg h1]
  · rw [if_pos (by simp; omega), f175_eq, ob_some]
    rcases Nat.lt_or_gt_of_ne h with h1 | h1
    · rw [cm_lt (ha.lt_of_len hb h1), if_neg (by simp; omega)]; rfl
    · rw [cm_gt (hb.lt_of_len ha h1), if_pos (by simp; omega)]; rfl

theorem cmp136 {α : Type} {n : Nat} {a b : List Int} (ha : Lm a) (hb : Lm b) (hab : a.length = b.length) {k0 k1 : Int → Option α} : ∀ (k : Nat), k ≤ a.length →
    f136_L6R n a k a b 0 k0 k1 = if vl (a.take k) = vl (b.take k) then k0 0 else k1 (cm (vl (a.take k)) (vl (b.take k)))
  | 0, _ => by rw [f136_L6_0]; simp
  | k + 1, hk => by
    rw [f136_L6_s]
    unfold f136_L6B
    dsimp only
    rw [gd_pos (by simp; omega), Bool.cond_eq_ite]
    have ta := vl_take_succ (l := a) (k := k) (by omega)
    have tb := vl_take_succ (l := b) (k := k) (by omega)
    simp only [Int.toNat_natCast]
    by_cases hz : a.getD k 0 = b.getD k 0
    · rw [if_neg (by simpa using hz), gd_pos (by simp), cmp136 ha hb hab k (by omega)]
      rw [ta, tb, hz]
      by_cases h1 : vl (a.take k) = vl (b.take k)
      · rw [if_pos h1, if_pos (by omega)]
      · rw [if_neg h1, if_neg (by omega)]
        rw [cm_add]
    · rw [if_pos (by simpa using hz), gd_pos (by simp; omega), Bool.cond_decide]
      rcases Int.lt_or_gt_of_ne hz with h1 | h1
      · have := cmp_take ha hb (k := k) (by omega) (by omega) h1
        rw [show (if vl (a.take (k + 1)) = vl (b.take (k + 1)) then k0 0 else k1 (cm (vl (a.take (k + 1))) (vl (b.take (k + 1))))) = k1 (-1) by rw [if_neg (by omega), cm_lt this], if_pos h1]
      · have := cmp_take hb ha (k := k) (by omega) (by omega) h1
        rw [show (if vl (a.take (k + 1)) = vl (b.take (k + 1)) then k0 0 else k1 (cm (vl (a.take (k + 1))) (vl (b.take (k + 1))))) = k1 1 by rw [if_neg (by omega), cm_gt this], if_neg (by omega)]

theorem f136_eq {n : Nat} {a b : List Int} (ha : Cn a) (hb : Cn b) (hN : a.length ≤ 1099511627776) : f136 n a b = some (cm (vl a) (vl b)) := by
  unfold f136
  rw [Bool.cond_eq_ite]
  by_cases h : a.length = b.length
  · rw [if_neg (by simp [h])]
    rw [show f181 n a = some a from rfl, ob_some, f136_L6_e, gd_pos (by simp; omega), cmp136 ha.1 hb.1 h a.length (Nat.le_refl _)]
    rw [List.take_length, h, List.take_length]
    by_cases h1 : vl a = vl b
    · rw [if_pos h1, cm_eq h1]
    · rw [if_neg h1]
  · rw [if_pos (by simp; omega), Bool.cond_decide]
    rcases Nat.lt_or_gt_of_ne h with h1 | h1
    · rw [cm_lt (ha.lt_of_len hb h1), if_pos (by omega)]
    · rw [cm_gt (hb.lt_of_len ha h1), if_neg (by omega)]

theorem vl_take_suc (l : List Int) (k : Nat) : vl (l.take (k + 1)) = vl (l.take k) + 10000 ^ k * l.getD k 0 := by
  rcases Nat.lt_or_ge k l.length with h | h
  · exact vl_take_succ h
  · rw [List.take_of_length_le (by omega), List.take_of_length_le (by omega), List.getD_eq_getElem?_getD, List.getElem?_eq_none h]
    simp

theorem getD_out {l : List Int} {k : Nat} (h : l.length ≤ k) : l.getD k 0 = 0 := by
  rw [List.getD_eq_getElem?_getD, List.getElem?_eq_none h]; rfl

theorem Cn.of_ge {l : List Int} (h : Lm l) (hg : l ≠ [] → (10000 : Int) ^ (l.length - 1) ≤ vl l) : Cn l := by
  refine ⟨h, fun hn e => ?_⟩
  have hl : 0 < l.length := List.length_pos_iff.2 hn
  have h1 := vl_take_suc l (l.length - 1)
  rw [show l.length - 1 + 1 = l.length by omega, List.take_length, e] at h1
  have h2 := vl_lt (h.take (l.length - 1))
  rw [List.length_take, Nat.min_eq_left (by omega)] at h2
  have := hg hn
  omega

theorem take_le (l : List Int) {k : Nat} (h : l.length ≤ k) : l.take k = l := List.take_of_length_le h


theorem add188 {α : Type} {n : Nat} {a b : List Int} (ha : Cn a) (hb : Cn b) (hN : a.length ≤ 1099511627776) (hNb : b.length ≤ 1099511627776) {k0 : List Int → Option α} : ∀ (m i : Nat) (c : Int) (o : List Int), o.length = i → Lm o → 0 ≤ c → c ≤ 1 →
    vl o + 10000 ^ i * c = vl (a.take i) + vl (b.take i) → (i ≤ max a.length b.length ∨ (i = max a.length b.length + 1 ∧ c = 0 ∧ o.getD (i - 1) 0 ≠ 0)) → max a.length b.length + 2 ≤ i + m →
    f188_L4 n m a b c (i : Int) o k0 = k0 (dg (vl a + vl b).toNat)
  | 0, i, c, o, ho, hlo, hc0, hc1, hv, hq, hm => by omega
  | m + 1, i, c, o, ho, hlo, hc0, hc1, hv, hq, hm => by
    rw [f188_L4_s]
    unfold f188_L4B
    dsimp only
    have fin : a.length ≤ i → b.length ≤ i → c = 0 → o = dg (vl a + vl b).toNat := fun h1 h2 h3 => by
      rw [take_le a h1, take_le b h2, h3] at hv
      have hv' : vl o = vl a + vl b := by simpa using hv
      have : Cn o := Cn.of_ge hlo fun hn => by
        have hl : 0 < o.length := List.length_pos_iff.2 hn
        rcases hq with hq | ⟨hq1, _, hq3⟩
        · have hmx : i = max a.length b.length := by omega
          rw [ho, hv']
          rcases Nat.le_total a.length b.length with hab | hab
          · have h4 := hb.ge (List.length_pos_iff.1 (by omega))
            have h5 := vl_nonneg ha.1
            rw [show i - 1 = b.length - 1 by omega]; omega
          · have h4 := ha.ge (List.length_pos_iff.1 (by omega))
            have h5 := vl_nonneg hb.1
            rw [show i - 1 = a.length - 1 by omega]; omega
        · have h1 := vl_take_suc o (o.length - 1)
          rw [show o.length - 1 + 1 = o.length by omega, List.take_length] at h1
          have h2 := vl_nonneg (hlo.take (o.length - 1))
          have h3 := hlo.get (o.length - 1)
          rw [← ho] at hq3
          have h4 := pw_pos (o.length - 1)
          have h5 : (10000 : Int) ^ (o.length - 1) * 1 ≤ 10000 ^ (o.length - 1) * o.getD (o.length - 1) 0 := Int.mul_le_mul_of_nonneg_left (by omega) (by omega)
          omega
      rw [← hv', dg_vl this]
    have go : ∀ (y : Int), y = c + a.getD i 0 + b.getD i 0 → (i < max a.length b.length ∨ (i = max a.length b.length ∧ 0 < c)) → f188_L4 n m a b (W (Int.tdiv y 10000)) (W ((i : Int) + 1)) (o ++ [Int.tmod y 10000]) k0 = k0 (dg (vl a + vl b).toNat) := by
      intro y hy hi
      have h1 := ha.1.get i
      have h2 := hb.1.get i
      rw [tdv (by omega), tmd (by omega), W_id (by omega) (by omega), W_id (by omega) (by omega)]
      have ta := vl_take_suc a i
      have tb := vl_take_suc b i
      have hyy : y = 10000 * (y / 10000) + y % 10000 := by omega
      refine add188 (n := n) ha hb hN hNb m (i + 1) _ _ (by simp [ho]) (hlo.app (Lm.cons (by omega) Lm.nil)) (by omega) (by omega) ?_ ?_ (by omega)
      · rw [vl_snoc, ho, ta, tb, pw_succ]
        generalize y / 10000 = q at *
        generalize y % 10000 = r at *
        generalize (10000 : Int) ^ i = P at *
        grind
      · rcases hi with hi | ⟨hi, hc⟩
        · exact .inl (by omega)
        · right
          have e1 : a.getD i 0 = 0 := getD_out (by omega)
          have e2 : b.getD i 0 = 0 := getD_out (by omega)
          have e3 : y = 1 := by omega
          subst e3
          refine ⟨by omega, by rfl, ?_⟩
          rw [Nat.add_sub_cancel, ← ho, List.getD_eq_getElem?_getD]
          simp
    have hcases : (i < a.length ∨ i < b.length ∨ 0 < c) → (i < max a.length b.length ∨ (i = max a.length b.length ∧ 0 < c)) := fun h => by
      rcases h with h | h | h
      · exact .inl (by omega)
      · exact .inl (by omega)
      · rcases hq with hq | ⟨_, h0, _⟩
        · omega
        · omega
    have ho2 : (decide ((o.length + 1) * 8 ≤ 140737488355328)) = true := by
      rw [decide_eq_true_eq]
      rcases hq with hq | ⟨hq, _⟩ <;> omega
    have h1 := ha.1.get i
    have h2 := hb.1.get i
    by_cases hA : i < a.length
    · have dA : decide ((i : Int) < (a.length : Int)) = true := by rw [decide_eq_true_eq]; omega
      simp only [dA, cond_true, Int.toNat_natCast]
      rw [gd_pos (by simp; try omega), W_id (x := c + a.getD i 0) (by omega) (by omega)]
      by_cases hB : i < b.length
      · have dB : decide ((i : Int) < (b.length : Int)) = true := by rw [decide_eq_true_eq]; omega
        simp only [dB, cond_true]
        rw [gd_pos (by simp; try omega), gd_pos ho2, W_id (x := c + a.getD i 0 + b.getD i 0) (by omega) (by omega)]
        exact go _ rfl (hcases (.inl hA))
      · have dB : decide ((i : Int) < (b.length : Int)) = false := by rw [decide_eq_false_iff_not]; omega
        simp only [dB, cond_false]
        rw [gd_pos ho2]
        exact go _ (by rw [getD_out (l := b) (by omega)]; omega) (hcases (.inl hA))
    · have dA : decide ((i : Int) < (a.length : Int)) = false := by rw [decide_eq_false_iff_not]; omega
      simp only [dA, cond_false, Int.toNat_natCast]
      by_cases hB : i < b.length
      · have dB : decide ((i : Int) < (b.length : Int)) = true := by rw [decide_eq_true_eq]; omega
        simp only [dB, cond_true]
        rw [gd_pos (by simp; try omega), gd_pos ho2, W_id (x := c + b.getD i 0) (by omega) (by omega)]
        exact go _ (by rw [getD_out (l := a) (by omega)]; omega) (hcases (.inr (.inl hB)))
      · have dB : decide ((i : Int) < (b.length : Int)) = false := by rw [decide_eq_false_iff_not]; omega
        simp only [dB, cond_false]
        rw [Bool.cond_decide]
        by_cases hc : 0 < c
        · rw [if_pos (by omega), gd_pos ho2]
          exact go _ (by rw [getD_out (l := a) (by omega), getD_out (l := b) (by omega)]; omega) (hcases (.inr (.inr hc)))
        · rw [if_neg (by omega), fin (by omega) (by omega) (by omega)]

theorem f188_eq {n : Nat} {a b : List Int} (ha : Cn a) (hb : Cn b) (hN : a.length ≤ 1099511627776) (hNb : b.length ≤ 1099511627776) (hn : max a.length b.length + 2 ≤ n) : f188 n a b = some (dg (vl a + vl b).toNat) := by
  unfold f188
  have := add188 (n := n) ha hb hN hNb (k0 := fun z_6 => some z_6) n 0 0 [] rfl Lm.nil (by omega) (by omega) (by simp [vl]) (.inl (by omega)) (by omega)
  exact this

theorem sub189 {α : Type} {n : Nat} {a b : List Int} (ha : Lm a) (hb : Lm b) (hN : a.length ≤ 1099511627776) {k0 : List Int → Option α} : ∀ (m i : Nat) (c : Int) (o : List Int), o.length = i → Lm o → 0 ≤ c → c ≤ 1 → i ≤ a.length →
    vl o - 10000 ^ i * c = vl (a.take i) - vl (b.take i) → a.length + 1 ≤ i + m →
    ∃ o' c', f189_L4 n m a b c (i : Int) o k0 = k0 o' ∧ o'.length = a.length ∧ Lm o' ∧ 0 ≤ c' ∧ c' ≤ 1 ∧ vl o' - 10000 ^ a.length * c' = vl a - vl (b.take a.length)
  | 0, i, c, o, ho, hlo, hc0, hc1, hi, hv, hm => by omega
  | m + 1, i, c, o, ho, hlo, hc0, hc1, hi, hv, hm => by
    rw [f189_L4_s]
    unfold f189_L4B
    dsimp only
    by_cases hA : i < a.length
    · rw [Bool.cond_decide, if_pos (by omega), gd_pos (by simp; try omega)]
      have h1 := ha.get i
      have h2 := hb.get i
      have ta := vl_take_suc a i
      have tb := vl_take_suc b i
      have ho2 : (decide ((o.length + 1) * 8 ≤ 140737488355328)) = true := by
        rw [decide_eq_true_eq]; omega
      have go : ∀ y : Int, y = a.getD i 0 - c - b.getD i 0 → ∃ o' c', f189_L4 n m a b (if y < 0 then 1 else 0) (W ((i : Int) + 1)) (o ++ [W (y + W ((if y < 0 then 1 else 0) * 10000))]) k0 = k0 o' ∧ o'.length = a.length ∧ Lm o' ∧ 0 ≤ c' ∧ c' ≤ 1 ∧ vl o' - 10000 ^ a.length * c' = vl a - vl (b.take a.length) := by
        intro y hy
        obtain ⟨d, hd⟩ : ∃ d : Int, d = if y < 0 then 1 else 0 := ⟨_, rfl⟩
        have hd1 : 0 ≤ d ∧ d ≤ 1 ∧ 0 ≤ y + d * 10000 ∧ y + d * 10000 < 10000 := by
          rw [hd]
          split <;> omega
        rw [← hd, W_id (x := d * 10000) (by omega) (by omega), W_id (x := y + d * 10000) (by omega) (by omega), W_id (x := (i : Int) + 1) (by omega) (by omega)]
        refine sub189 (n := n) ha hb hN m (i + 1) d _ (by simp [ho]) (hlo.app (Lm.cons (by omega) Lm.nil)) (by omega) (by omega) (by omega) ?_ (by omega)
        rw [vl_snoc, ho, ta, tb, pw_succ]
        generalize (10000 : Int) ^ i = P at *
        grind
      simp only [Int.toNat_natCast]
      by_cases hB : i < b.length
      · have dB : decide ((i : Int) < (b.length : Int)) = true := by rw [decide_eq_true_eq]; omega
        simp only [dB, cond_true]
        rw [gd_pos (by simp; try omega)]
        simp only [W_id (x := a.getD i 0 - c) (by omega) (by omega), W_id (x := a.getD i 0 - c - b.getD i 0) (by omega) (by omega)]
        rw [f175_eq, ob_some, gd_pos ho2]
        simp only [decide_eq_true_eq]
        exact go _ rfl
      · have dB : decide ((i : Int) < (b.length : Int)) = false := by rw [decide_eq_false_iff_not]; omega
        simp only [dB, cond_false]
        simp only [W_id (x := a.getD i 0 - c) (by omega) (by omega)]
        rw [f175_eq, ob_some, gd_pos ho2]
        simp only [decide_eq_true_eq]
        exact go _ (by rw [getD_out (l := b) (by omega)]; omega)
    · rw [Bool.cond_decide, if_neg (by omega)]
      obtain rfl : i = a.length := by omega
      rw [List.take_length] at hv
      exact ⟨o, c, rfl, ho, hlo, hc0, hc1, hv⟩

theorem f189_eq {n : Nat} {a b : List Int} (ha : Cn a) (hb : Cn b) (hN : a.length ≤ 1099511627776) (hn : a.length + 1 ≤ n) (hab : vl b ≤ vl a) : f189 n a b = some (dg (vl a - vl b).toNat) := by
  have hl : b.length ≤ a.length := by
    rcases Nat.lt_or_ge a.length b.length with h | h
    · have := ha.lt_of_len hb h; omega
    · exact h
  unfold f189
  obtain ⟨o, c, h1, h2, h3, h4, h5, h6⟩ := sub189 (n := n) ha.1 hb.1 hN (k0 := fun z_4 => ob (f185 n z_4) fun r_5 => some r_5) n 0 0 [] rfl Lm.nil (by omega) (by omega) (by omega) (by simp [vl]) (by omega)
  have h1 : f189_L4 n n a b 0 0 [] (fun z_4 => ob (f185 n z_4) fun r_5 => some r_5) = _ := h1
  rw [h1, f185_eq h3 (by omega) (by omega), ob_some]
  rw [take_le b hl] at h6
  have h7 := vl_lt h3
  rw [h2] at h7
  have : c = 0 := by
    rcases Int.lt_or_eq_of_le h4 with h | h
    · have : c = 1 := by omega
      rw [this] at h6
      omega
    · exact h.symm
  rw [this] at h6
  rw [show vl o = vl a - vl b by simpa using h6]

theorem vl_drop {l : List Int} {k : Nat} (h : k < l.length) : vl (l.drop k) = l.getD k 0 + 10000 * vl (l.drop (k + 1)) := by
  rw [List.drop_eq_getElem_cons h, vl, List.getD_eq_getElem?_getD, List.getElem?_eq_getElem h]; rfl

/-- one step of a row of a product -/
theorem mul_step {P o ok y q r c ai bk v' T : Int} (h : o + P * (c + ai * (bk + 10000 * v')) = T) (hy : y = ok + c + ai * bk) (hq : y = 10000 * q + r) : o + P * (r - ok) + 10000 * P * (q + ai * v') = T := by
  grind

theorem limb_mul {x y : Int} (hx : 0 ≤ x ∧ x < 10000) (hy : 0 ≤ y ∧ y < 10000) : 0 ≤ x * y ∧ x * y ≤ 99980001 := by
  have h1 := Int.mul_nonneg hx.1 hy.1
  have h2 : x * y ≤ 9999 * y := Int.mul_le_mul_of_nonneg_right (by omega) hy.1
  omega

theorem mul154 {α : Type} {n : Nat} {a b : List Int} (ha : Lm a) (hb : Lm b) (i : Nat) (hi : i < a.length) {S : Nat} (hS : a.length + b.length < S) (hN : S ≤ 1099511627776) {T : Int} (hT : T < 10000 ^ S) {k0 : List Int → List Int → Int → List Int → Option α} :
    ∀ (m k : Nat) (c : Int) (o : List Int), Lm o → o.length = S → 0 ≤ c → c < 10000 → i + k ≤ S → vl o + 10000 ^ (i + k) * (c + a.getD i 0 * vl (b.drop k)) = T → S + 1 ≤ i + k + m →
    ∃ o', Lm o' ∧ o'.length = S ∧ vl o' = T ∧ f154_L7 n m a b (i : Int) c (k : Int) o k0 = k0 a b (i : Int) o'
  | 0, k, c, o, hlo, ho, hc0, hc1, hik, hv, hm => by omega
  | m + 1, k, c, o, hlo, ho, hc0, hc1, hik, hv, hm => by
    rw [f154_L7_s]
    unfold f154_L7B
    dsimp only
    have h1 := ha.get i
    have h2 := hb.get k
    have h3 := hlo.get (i + k)
    have h4 := limb_mul h1 h2
    have hvo := vl_nonneg hlo
    have go : ∀ y : Int, i + k < S → (k < b.length ∨ b.length ≤ k) → y = o.getD (i + k) 0 + c + a.getD i 0 * b.getD k 0 →
        ∃ o', Lm o' ∧ o'.length = S ∧ vl o' = T ∧ f154_L7 n m a b (i : Int) (W (Int.tdiv y 10000)) (W ((k : Int) + 1)) (o.set (i + k) (Int.tmod y 10000)) k0 = k0 a b (i : Int) o' := by
      intro y hlt hk hy
      rw [tdv (by omega), tmd (by omega), W_id (by omega) (by omega), W_id (by omega) (by omega)]
      refine mul154 (n := n) ha hb i hi hS hN hT m (k + 1) _ _ (hlo.set _ (by omega)) (by simpa using ho) (by omega) (by omega) (by omega) ?_ (by omega)
      rw [vl_set _ (by omega), show i + (k + 1) = (i + k) + 1 by omega, pw_succ]
      have hyy : y = 10000 * (y / 10000) + y % 10000 := by omega
      refine mul_step (bk := b.getD k 0) ?_ hy hyy
      rcases hk with hk | hk
      · rw [← vl_drop hk]; exact hv
      · rw [List.drop_of_length_le (by omega)] at hv ⊢
        rw [getD_out hk]
        simpa [vl] using hv
    by_cases hB : k < b.length
    · have dB : decide ((k : Int) < (b.length : Int)) = true := by rw [decide_eq_true_eq]; omega
      simp only [dB, cond_true, Int.toNat_natCast]
      rw [W_id (x := (i : Int) + (k : Int)) (by omega) (by omega)]
      have e : ((i : Int) + (k : Int)).toNat = i + k := by omega
      simp only [e]
      rw [gd_pos (by simp; try omega), gd_pos (by simp; try omega), gd_pos (by simp; try omega), gd_pos (by simp; try omega), W_id (x := a.getD i 0 * b.getD k 0) (by omega) (by omega), W_id (x := o.getD (i + k) 0 + c) (by omega) (by omega), W_id (x := o.getD (i + k) 0 + c + a.getD i 0 * b.getD k 0) (by omega) (by omega), gd_pos (by simp; try omega), gd_pos (by simp; try omega)]
      exact go _ (by omega) (.inl hB) rfl
    · have dB : decide ((k : Int) < (b.length : Int)) = false := by rw [decide_eq_false_iff_not]; omega
      simp only [dB, cond_false]
      rw [Bool.cond_decide]
      rw [List.drop_of_length_le (by omega)] at hv
      by_cases hc : 0 < c
      · have hlt : i + k < S := by
          refine pw_lt ?_
          have h5 : (10000 : Int) ^ (i + k) * 1 ≤ 10000 ^ (i + k) * c := Int.mul_le_mul_of_nonneg_left (by omega) (by have := pw_pos (i + k); omega)
          simp only [vl, Int.mul_zero, Int.add_zero] at hv
          omega
        rw [if_pos (by omega), W_id (x := (i : Int) + (k : Int)) (by omega) (by omega)]
        have e : ((i : Int) + (k : Int)).toNat = i + k := by omega
        simp only [e]
        rw [gd_pos (by simp; try omega), gd_pos (by simp; try omega), gd_pos (by simp; try omega), gd_pos (by simp; try omega), W_id (x := o.getD (i + k) 0 + c) (by omega) (by omega)]
        exact go _ hlt (.inr (by omega)) (by rw [getD_out (l := b) (by omega)]; omega)
      · rw [if_neg (by omega)]
        obtain rfl : c = 0 := by omega
        exact ⟨o, hlo, ho, by simpa [vl] using hv, rfl⟩

theorem mul_lt {a b : List Int} (ha : Lm a) (hb : Lm b) {i S : Nat} (hS : i + b.length ≤ S) : vl (a.take i) * vl b < 10000 ^ S := by
  have h1 := vl_lt (ha.take i)
  have h2 := vl_lt hb
  have h3 := vl_nonneg (ha.take i)
  have h4 := vl_nonneg hb
  have h5 : (10000 : Int) ^ (a.take i).length ≤ 10000 ^ i := pw_le (by simp; omega)
  have h6 := pw_pos i
  have h7 := pw_pos b.length
  have h8 : vl (a.take i) * vl b ≤ vl (a.take i) * 10000 ^ b.length := Int.mul_le_mul_of_nonneg_left (by omega) h3
  have h9 : vl (a.take i) * 10000 ^ b.length < 10000 ^ i * 10000 ^ b.length := Int.mul_lt_mul_of_pos_right (by omega) h7
  rw [← Int.pow_add] at h9
  have h10 : (10000 : Int) ^ (i + b.length) ≤ 10000 ^ S := pw_le hS
  omega

theorem mulo154 {α : Type} {n : Nat} {a b : List Int} (ha : Lm a) (hb : Lm b) {S : Nat} (hS : a.length + b.length < S) (hN : S ≤ 1099511627776) (hn : S + 1 ≤ n) {k0 : List Int → Option α} :
    ∀ (m i : Nat) (o : List Int), Lm o → o.length = S → i ≤ a.length → vl o = vl (a.take i) * vl b → a.length + 1 ≤ i + m →
    ∃ o', Lm o' ∧ o'.length = S ∧ vl o' = vl a * vl b ∧ f154_L3 n m a b (i : Int) o k0 = k0 o'
  | 0, i, o, hlo, ho, hi, hv, hm => by omega
  | m + 1, i, o, hlo, ho, hi, hv, hm => by
    rw [f154_L3_s]
    unfold f154_L3B
    dsimp only
    rw [Bool.cond_decide]
    by_cases hA : i < a.length
    · rw [if_pos (by omega)]
      have hT : vl (a.take (i + 1)) * vl b < 10000 ^ S := mul_lt ha hb (by omega)
      obtain ⟨o', q1, q2, q3, q4⟩ := mul154 (n := n) ha hb i hA hS hN hT (k0 := fun z_1 z_2 z_3 z_4 => f154_L3 n m z_1 z_2 (W (z_3 + 1)) z_4 k0) n 0 0 o hlo ho (by omega) (by omega) (by omega) (by
        rw [hv, vl_take_suc, List.drop_zero, Nat.add_zero]
        generalize (10000 : Int) ^ i = P
        grind) (by omega)
      have q4 : f154_L7 n n a b (i : Int) 0 0 o _ = _ := q4
      rw [q4, W_id (by omega) (by omega)]
      exact mulo154 (n := n) ha hb hS hN hn m (i + 1) o' q1 q2 (by omega) q3 (by omega)
    · rw [if_neg (by omega)]
      obtain rfl : i = a.length := by omega
      rw [List.take_length] at hv
      exact ⟨o, hlo, ho, hv, rfl⟩

theorem f154_eq {n : Nat} {a b : List Int} (ha : Lm a) (hb : Lm b) (hN : a.length + b.length ≤ 1099511627770) (hn : a.length + b.length + 2 ≤ n) : f154 n a b = some (dg (vl a * vl b).toNat) := by
  unfold f154
  rw [W_id (x := (a.length : Int) + (b.length : Int)) (by omega) (by omega), W_id (x := (a.length : Int) + (b.length : Int) + 1) (by omega) (by omega), gd_pos (by simp; try omega)]
  have e : ((a.length : Int) + (b.length : Int) + 1).toNat = a.length + b.length + 1 := by omega
  rw [e]
  obtain ⟨o, q1, q2, q3, q4⟩ := mulo154 (n := n) ha hb (S := a.length + b.length + 1) (by omega) (by omega) (by omega) (k0 := fun z_5 => ob (f185 n z_5) fun r_6 => some r_6) n 0 (List.replicate (a.length + b.length + 1) 0) (Lm.rep _) (by simp) (by omega) (by rw [vl_rep]; simp [vl]) (by omega)
  have q4 : f154_L3 n n a b 0 _ _ = _ := q4
  rw [q4, f185_eq q1 (by omega) (by omega), ob_some, q3]

theorem mul149 {α : Type} {n : Nat} {a b : List Int} (ha : Lm a) (hb : Lm b) (i : Nat) (hi : i < a.length) {S : Nat} (hS : a.length + b.length ≤ S) (hN : S ≤ 1099511627776) {T : Int} (hT : T < 10000 ^ S) (q1 : List Int) (q2 q3 : Int) {k0 : List Int → List Int → Int → Int → List Int → Option α} :
    ∀ (m k : Nat) (c : Int) (o : List Int), Lm o → o.length = S → 0 ≤ c → c < 10000 → i + k ≤ S → vl o + 10000 ^ (i + k) * (c + a.getD i 0 * vl (b.drop k)) = T → S + 1 ≤ i + k + m →
    ∃ o', Lm o' ∧ o'.length = S ∧ vl o' = T ∧ f149_L7 n m b (i : Int) (a.getD i 0) c (k : Int) q1 q2 q3 o k0 = k0 b q1 q2 q3 o'
  | 0, k, c, o, hlo, ho, hc0, hc1, hik, hv, hm => by omega
  | m + 1, k, c, o, hlo, ho, hc0, hc1, hik, hv, hm => by
    rw [f149_L7_s]
    unfold f149_L7B
    dsimp only
    have h1 := ha.get i
    have h2 := hb.get k
    have h3 := hlo.get (i + k)
    have h4 := limb_mul h1 h2
    have hvo := vl_nonneg hlo
    have go : ∀ y : Int, i + k < S → (k < b.length ∨ b.length ≤ k) → y = o.getD (i + k) 0 + c + a.getD i 0 * b.getD k 0 →
        ∃ o', Lm o' ∧ o'.length = S ∧ vl o' = T ∧ f149_L7 n m b (i : Int) (a.getD i 0) (W (Int.tdiv y 10000)) (W ((k : Int) + 1)) q1 q2 q3 (o.set (i + k) (Int.tmod y 10000)) k0 = k0 b q1 q2 q3 o' := by
      intro y hlt hk hy
      rw [tdv (by omega), tmd (by omega), W_id (by omega) (by omega), W_id (by omega) (by omega)]
      refine mul149 (n := n) ha hb i hi hS hN hT q1 q2 q3 m (k + 1) _ _ (hlo.set _ (by omega)) (by simpa using ho) (by omega) (by omega) (by omega) ?_ (by omega)
      rw [vl_set _ (by omega), show i + (k + 1) = (i + k) + 1 by omega, pw_succ]
      have hyy : y = 10000 * (y / 10000) + y % 10000 := by omega
      refine mul_step (bk := b.getD k 0) ?_ hy hyy
      rcases hk with hk | hk
      · rw [← vl_drop hk]; exact hv
      · rw [List.drop_of_length_le (by omega)] at hv ⊢
        rw [getD_out hk]
        simpa [vl] using hv
    by_cases hB : k < b.length
    · have dB : decide ((k : Int) < (b.length : Int)) = true := by rw [decide_eq_true_eq]; omega
      simp only [dB, cond_true, Int.toNat_natCast]
      rw [W_id (x := (i : Int) + (k : Int)) (by omega) (by omega)]
      have e : ((i : Int) + (k : Int)).toNat = i + k := by omega
      simp only [e]
      rw [gd_pos (by simp; try omega), W_id (x := a.getD i 0 * b.getD k 0) (by omega) (by omega), W_id (x := c + a.getD i 0 * b.getD k 0) (by omega) (by omega), gd_pos (by simp; try omega), gd_pos (by simp; try omega), gd_pos (by simp; try omega), gd_pos (by simp; try omega), W_id (x := c + a.getD i 0 * b.getD k 0 + o.getD (i + k) 0) (by omega) (by omega)]
      exact go _ (by omega) (.inl hB) (by omega)
    · have dB : decide ((k : Int) < (b.length : Int)) = false := by rw [decide_eq_false_iff_not]; omega
      simp only [dB, cond_false]
      rw [Bool.cond_decide]
      rw [List.drop_of_length_le (by omega)] at hv
      by_cases hc : 0 < c
      · have hlt : i + k < S := by
          refine pw_lt ?_
          have h5 : (10000 : Int) ^ (i + k) * 1 ≤ 10000 ^ (i + k) * c := Int.mul_le_mul_of_nonneg_left (by omega) (by have := pw_pos (i + k); omega)
          simp only [vl, Int.mul_zero, Int.add_zero] at hv
          omega
        rw [if_pos (by omega), W_id (x := (i : Int) + (k : Int)) (by omega) (by omega)]
        have e : ((i : Int) + (k : Int)).toNat = i + k := by omega
        simp only [e]
        rw [gd_pos (by simp; try omega), gd_pos (by simp; try omega), gd_pos (by simp; try omega), gd_pos (by simp; try omega), W_id (x := c + o.getD (i + k) 0) (by omega) (by omega)]
        exact go _ hlt (.inr (by omega)) (by rw [getD_out (l := b) (by omega)]; omega)
      · rw [if_neg (by omega)]
        obtain rfl : c = 0 := by omega
        exact ⟨o, hlo, ho, by simpa [vl] using hv, rfl⟩

theorem mulo149 {α : Type} {n : Nat} {a b : List Int} (ha : Lm a) (hb : Lm b) {S : Nat} (hS : a.length + b.length ≤ S) (hN : S ≤ 1099511627776) (hn : S + 1 ≤ n) {k0 : List Int → Option α} :
    ∀ (m i : Nat) (o : List Int), Lm o → o.length = S → i ≤ a.length → vl o = vl (a.take i) * vl b → a.length + 1 ≤ i + m →
    ∃ o', Lm o' ∧ o'.length = S ∧ vl o' = vl a * vl b ∧ f149_L3 n m b a (a.length : Int) (i : Int) o k0 = k0 o'
  | 0, i, o, hlo, ho, hi, hv, hm => by omega
  | m + 1, i, o, hlo, ho, hi, hv, hm => by
    rw [f149_L3_s]
    unfold f149_L3B
    dsimp only
    rw [Bool.cond_decide]
    by_cases hA : i < a.length
    · rw [if_pos (by omega), gd_pos (by simp; try omega)]
      simp only [Int.toNat_natCast]
      have hT : vl (a.take (i + 1)) * vl b < 10000 ^ S := mul_lt ha hb (by omega)
      obtain ⟨o', q1, q2, q3, q4⟩ := mul149 (n := n) ha hb i hA hS hN hT a (a.length : Int) (i : Int) (k0 := fun z_1 z_2 z_3 z_4 z_5 => f149_L3 n m z_1 z_2 z_3 (W (z_4 + 1)) z_5 k0) n 0 0 o hlo ho (by omega) (by omega) (by omega) (by
        rw [hv, vl_take_suc, List.drop_zero, Nat.add_zero]
        generalize (10000 : Int) ^ i = P
        grind) (by omega)
      have q4 : f149_L7 n n b (i : Int) (a.getD i 0) 0 0 a (a.length : Int) (i : Int) o _ = _ := q4
      rw [q4, W_id (by omega) (by omega)]
      exact mulo149 (n := n) ha hb hS hN hn m (i + 1) o' q1 q2 (by omega) q3 (by omega)
    · rw [if_neg (by omega)]
      obtain rfl : i = a.length := by omega
      rw [List.take_length] at hv
      exact ⟨o, hlo, ho, hv, rfl⟩

theorem f149_eq {n : Nat} {a b : List Int} (ha : Lm a) (hb : Lm b) (hN : a.length + b.length ≤ 1099511627770) (hn : a.length + b.length + 2 ≤ n) : f149 n a b = some (dg (vl a * vl b).toNat) := by
  unfold f149
  rw [W_id (x := (a.length : Int) + (b.length : Int)) (by omega) (by omega), gd_pos (by simp; try omega)]
  have e : ((a.length : Int) + (b.length : Int)).toNat = a.length + b.length := by omega
  rw [e]
  obtain ⟨o, q1, q2, q3, q4⟩ := mulo149 (n := n) ha hb (S := a.length + b.length) (by omega) (by omega) (by omega) (k0 := fun z_5 => ob (f186 n z_5) fun r_6 => some r_6) n 0 (List.replicate (a.length + b.length) 0) (Lm.rep _) (by simp) (by omega) (by rw [vl_rep]; simp [vl]) (by omega)
  have q4 : f149_L3 n n b a (a.length : Int) 0 _ _ = _ := q4
  rw [q4, f186_eq q1 (by omega) (by omega), ob_some, q3]

theorem pwc (k : Nat) : ((10000 ^ k : Nat) : Int) = (10000 : Int) ^ k := by rw [Int.natCast_pow]; rfl

theorem nc10 (Q : Nat) : ((10000 * Q : Nat) : Int) = 10000 * (Q : Int) := by omega

theorem nc10a (Q q : Nat) : ((10000 * Q + q : Nat) : Int) = 10000 * (Q : Int) + q := by omega

theorem nc10b (Q q : Nat) : ((q + 10000 * Q : Nat) : Int) = q + 10000 * (Q : Int) := by omega

theorem len_of {n k : Nat} (h : n < 10000 ^ k) : (dg n).length ≤ k := dg_len.2 (by rw [← pwc]; omega)

theorem lt_len (n : Nat) : n < 10000 ^ (dg n).length := by
  have := dg_len.1 (Nat.le_refl (dg n).length)
  rw [← pwc] at this
  omega

theorem lt_len' {n k : Nat} (h : (dg n).length ≤ k) : n < 10000 ^ k := by
  have := dg_len.1 h
  rw [← pwc] at this
  omega

theorem len_mul (a b : Nat) : (dg (a * b)).length ≤ (dg a).length + (dg b).length := by
  refine len_of ?_
  rw [Nat.pow_add]
  exact Nat.mul_lt_mul'' (lt_len a) (lt_len b)

theorem len_add (a b : Nat) : (dg (a + b)).length ≤ max (dg a).length (dg b).length + 1 := by
  refine len_of ?_
  have h1 : a < 10000 ^ max (dg a).length (dg b).length := lt_len' (by omega)
  have h2 : b < 10000 ^ max (dg a).length (dg b).length := lt_len' (by omega)
  rw [Nat.pow_succ]
  omega

theorem len_one {a : Nat} (h : a < 10000) : (dg a).length ≤ 1 := len_of (by simpa using h)

theorem len_ten (a : Nat) (x : Nat) (h : x < 10000) : (dg (x + 10000 * a)).length ≤ (dg a).length + 1 := by
  refine len_of ?_
  have := lt_len a
  rw [Nat.pow_succ]
  omega

theorem s_cmp {n a b : Nat} (h : (dg a).length ≤ 1099511627776) (hn : (dg a).length < n) : f127 n (dg a) (dg b) = some (cm a b) := by
  rw [f127_eq (Cn_dg a) (Cn_dg b) h hn, vl_dg, vl_dg]

theorem s_mul {n a b : Nat} (h : (dg a).length + (dg b).length ≤ 1099511627770) (hn : (dg a).length + (dg b).length + 2 ≤ n) : f154 n (dg a) (dg b) = some (dg (a * b)) := by
  rw [f154_eq (Lm_dg a) (Lm_dg b) h hn, vl_dg, vl_dg]; congr 1

theorem s_add {n a b : Nat} (h : (dg a).length ≤ 1099511627776) (h' : (dg b).length ≤ 1099511627776) (hn : max (dg a).length (dg b).length + 2 ≤ n) : f188 n (dg a) (dg b) = some (dg (a + b)) := by
  rw [f188_eq (Cn_dg a) (Cn_dg b) h h' hn, vl_dg, vl_dg]; congr 1

theorem s_sub {n a b : Nat} (h : (dg a).length ≤ 1099511627776) (hn : (dg a).length + 1 ≤ n) (hab : b ≤ a) : f189 n (dg a) (dg b) = some (dg (a - b)) := by
  rw [f189_eq (Cn_dg a) (Cn_dg b) h hn (by rw [vl_dg, vl_dg]; omega), vl_dg, vl_dg]
  congr 2
  omega

theorem i_mul {n a b : Nat} (h : (dg a).length + (dg b).length ≤ 1099511627770) (hn : (dg a).length + (dg b).length + 2 ≤ n) : f149 n (dg a) (dg b) = some (dg (a * b)) := by
  rw [f149_eq (Lm_dg a) (Lm_dg b) h hn, vl_dg, vl_dg]; congr 1

theorem i_cmp {n a b : Nat} (h : (dg a).length ≤ 1099511627776) : f136 n (dg a) (dg b) = some (cm a b) := by
  rw [f136_eq (Cn_dg a) (Cn_dg b) h, vl_dg, vl_dg]

theorem bis176 {α : Type} {n B R : Nat} (hBl : (dg B).length ≤ 1099511627700) (hn : (dg B).length + 20 ≤ n) (s0 : List Int) (s8 : Int) (b14 : List Int) {k0 : List Int → List Int → List Int → Int → Int → List Int → Option α} :
    ∀ (m lo hi : Nat), lo < hi → hi ≤ 10000 → lo * B ≤ R → R < hi * B → hi ≤ lo + m →
    f176_L10 n m s0 (dg B) (dg R) s8 (lo : Int) (hi : Int) b14 k0 = k0 s0 (dg B) (dg R) s8 ((R / B : Nat) : Int) b14
  | 0, lo, hi, h1, h2, h3, h4, h5 => by omega
  | m + 1, lo, hi, h1, h2, h3, h4, h5 => by
    rw [f176_L10_s]
    unfold f176_L10B
    dsimp only
    rw [W_id (x := (hi : Int) - (lo : Int)) (by omega) (by omega), W_id (x := (lo : Int) + (hi : Int)) (by omega) (by omega)]
    have e : Int.tdiv ((lo : Int) + (hi : Int)) 2 = (((lo + hi) / 2 : Nat) : Int) := by
      rw [Int.tdiv_eq_ediv_of_nonneg (by omega)]; omega
    rw [e, W_id (x := (((lo + hi) / 2 : Nat) : Int)) (by omega) (by omega)]
    generalize hmid : (lo + hi) / 2 = mid
    by_cases hc : lo + 1 < hi
    · rw [Bool.cond_decide, if_pos (by omega), f190_eq (by omega) (by omega), ob_some]
      have hl := len_one (a := mid) (by omega)
      have hm := len_mul B mid
      rw [s_mul (by omega) (by omega), ob_some, s_cmp (by omega) (by omega), ob_some, Bool.cond_decide]
      by_cases hle : B * mid ≤ R
      · have : cm ((B * mid : Nat) : Int) (R : Int) ≤ 0 := by
          rcases Nat.lt_or_eq_of_le hle with h | h
          · rw [cm_lt (by omega)]; omega
          · rw [cm_eq (by omega)]; omega
        rw [if_pos this]
        exact bis176 hBl hn s0 s8 b14 m mid hi (by omega) h2 (by rw [Nat.mul_comm]; exact hle) h4 (by omega)
      · have : ¬ cm ((B * mid : Nat) : Int) (R : Int) ≤ 0 := by
          rw [cm_gt (by omega)]; omega
        rw [if_neg this]
        exact bis176 hBl hn s0 s8 b14 m lo mid (by omega) (by omega) h3 (by rw [Nat.mul_comm]; omega) (by omega)
    · rw [Bool.cond_decide, if_neg (by omega)]
      obtain rfl : hi = lo + 1 := by omega
      have : R / B = lo := by
        rw [Nat.div_eq_iff (Nat.pos_of_ne_zero (by rintro rfl; simp at h4))]
        rw [Nat.add_mul] at h4
        omega
      rw [this]

theorem div176 {α : Type} {n L A B : Nat} (hB : 0 < B) (hA : (dg A).length ≤ L) (hBl : (dg B).length ≤ L) (hL : L ≤ 1099511627000) (hn : L + 10040 ≤ n) {k0 : List Int → List Int → Option α} :
    ∀ (k m Q R : Nat) (o : List Int), k < m → k ≤ (dg A).length → R < B → o.length = (dg A).length → Lm o → (∀ i, i < k → o.getD i 0 = 0) → vl o = 10000 ^ k * (Q : Int) → (Q : Int) * B + R = vl ((dg A).drop k) →
    ∃ o', Lm o' ∧ o'.length = (dg A).length ∧ vl o' = ((A / B : Nat) : Int) ∧ f176_L4 n m (dg A) (dg B) (dg R) ((k : Int) - 1) o k0 = k0 (dg (A % B)) o'
  | _, 0, _, _, _, h1, _, _, _, _, _, _, _ => by omega
  | 0, m + 1, Q, R, o, h1, h2, h3, h4, h5, h6, h7, h8 => by
    rw [f176_L4_s]
    unfold f176_L4B
    dsimp only
    rw [Bool.cond_decide, if_neg (by omega)]
    rw [List.drop_zero, vl_dg] at h8
    have h8 : Q * B + R = A := by
      have : ((Q * B + R : Nat) : Int) = A := by rw [Int.natCast_add, Int.natCast_mul]; exact h8
      omega
    have h9 : A / B = Q := by rw [← h8, Nat.add_comm, Nat.add_mul_div_right _ _ hB, Nat.div_eq_of_lt h3, Nat.zero_add]
    have h10 : A % B = R := by rw [← h8, Nat.mul_add_mod_self_right, Nat.mod_eq_of_lt h3]
    exact ⟨o, h5, h4, by rw [h7, h9]; simp, by rw [h10]⟩
  | k + 1, m + 1, Q, R, o, h1, h2, h3, h4, h5, h6, h7, h8 => by
    rw [f176_L4_s]
    unfold f176_L4B
    dsimp only
    rw [Bool.cond_decide, if_pos (by omega)]
    rw [show (((k + 1 : Nat) : Int) - 1) = (k : Int) by omega]
    simp only [Int.toNat_natCast]
    have hg := (Lm_dg A).get k
    obtain ⟨x, hx⟩ : ∃ x : Nat, (dg A).getD k 0 = (x : Int) := ⟨((dg A).getD k 0).toNat, by omega⟩
    have hlR : (dg R).length ≤ L := Nat.le_trans (len_mono (by omega)) hBl
    have hlRx := len_ten R x (by omega)
    have hRx : vl ((dg A).drop k) = (x : Int) + 10000 * ((Q : Int) * B + R) := by
      rw [vl_drop (by omega), hx, ← h8]
    have hR' : x + 10000 * R < 10000 * B := by omega
    rw [hx, gd_pos (by simp; try omega), gd_pos (by simp; try omega), f185_eq (Lm.app (Lm.cons (by omega) Lm.nil) (Lm_dg R)) (by simp; omega) (by simp; omega), ob_some]
    have e1 : (vl ([(x : Int)] ++ dg R)).toNat = x + 10000 * R := by
      rw [List.cons_append, List.nil_append, vl, vl_dg]; omega
    rw [e1, s_cmp (by omega) (by omega), ob_some, W_id (x := (k : Int) - 1) (by omega) (by omega), Bool.cond_decide]
    by_cases hlt : x + 10000 * R < B
    · rw [if_pos (by rw [cm_lt (by omega)]; omega)]
      refine div176 hB hA hBl hL hn k m (10000 * Q) (x + 10000 * R) o (by omega) (by omega) hlt h4 h5 (fun i hi => h6 i (by omega)) ?_ ?_
      · rw [h7, pw_succ, nc10]; grind
      · rw [hRx, nc10, nc10b]; grind
    · rw [if_neg (by
        rcases Nat.lt_or_eq_of_le (Nat.le_of_not_lt hlt) with h | h
        · rw [cm_gt (by omega)]; omega
        · rw [cm_eq (by omega)]; omega)]
      have hbis := bis176 (n := n) (B := B) (R := x + 10000 * R) (by omega) (by omega) (dg A) (k : Int) o (k0 := fun z_3 z_4 z_5 z_6 z_7 z_8 => (
              gd (decide (0 ≤ z_6) && decide (z_6 < (z_8.length : Int))) (
                gd (decide (z_6.toNat < z_8.length)) (
                  ob (f190 n z_7) fun r_9 =>
                  ob (f154 n z_4 r_9) fun r_10 =>
                  ob (f189 n z_5 r_10) fun r_11 =>
                  f176_L4 n m z_3 z_4 r_11 (W (z_6 - 1)) (z_8.set z_6.toNat z_7) k0)))) n 0 10000 (by omega) (by omega) (by omega) hR' (by omega)
      have hbis : f176_L10 n n (dg A) (dg B) (dg (x + 10000 * R)) (k : Int) 0 10000 o _ = _ := hbis
      rw [hbis]
      simp only [Int.toNat_natCast]
      have hq : (x + 10000 * R) / B < 10000 := by
        rw [Nat.div_lt_iff_lt_mul hB]; omega
      have hqr := Nat.div_add_mod (x + 10000 * R) B
      have hqm := Nat.mod_lt (x + 10000 * R) hB
      generalize hqq : (x + 10000 * R) / B = q at *
      generalize hrr : (x + 10000 * R) % B = r at *
      have hl1 := len_one hq
      have hl2 := len_mul B q
      rw [gd_pos (by simp; try omega), gd_pos (by simp; try omega), f190_eq (by omega) (by omega), ob_some, s_mul (by omega) (by omega), ob_some, s_sub (by omega) (by omega) (by omega), ob_some, W_id (x := (k : Int) - 1) (by omega) (by omega), show x + 10000 * R - B * q = r by omega]
      refine div176 hB hA hBl hL hn k m (10000 * Q + q) r _ (by omega) (by omega) hqm (by simpa using h4) (h5.set _ (by omega)) (fun i hi => ?_) ?_ ?_
      · rw [List.getD_eq_getElem?_getD, List.getElem?_set_ne (by omega), ← List.getD_eq_getElem?_getD]
        exact h6 i (by omega)
      · rw [vl_set _ (by omega), h7, h6 k (by omega), pw_succ, nc10a]
        generalize (10000 : Int) ^ k = P
        grind
      · rw [hRx]
        have : (B : Int) * q + r = x + 10000 * R := by
          rw [← nc10b, ← hqr, Int.natCast_add, Int.natCast_mul]
        rw [nc10a]
        grind

theorem s_div {n L A B : Nat} (hB : 0 < B) (hA : (dg A).length ≤ L) (hBl : (dg B).length ≤ L) (hL : L ≤ 1099511627000) (hn : L + 10040 ≤ n) : f176 n (dg A) (dg B) = some (dg (A / B), dg (A % B)) := by
  unfold f176
  rw [gd_pos (by simp; try omega), W_id (x := ((dg A).length : Int) - 1) (by omega) (by omega)]
  simp only [Int.toNat_natCast]
  obtain ⟨o, h1, h2, h3, h4⟩ := div176 (n := n) hB hA hBl hL hn (k0 := fun z_12 z_13 => (
        ob (f185 n z_13) fun r_14 =>
        some (r_14, z_12))) (dg A).length n 0 0 (List.replicate (dg A).length 0) (by omega) (Nat.le_refl _) hB (by simp) (Lm.rep _) (fun i hi => by simp [List.getD_eq_getElem?_getD, List.getElem?_replicate, hi]) (by rw [vl_rep]; simp) (by simp [vl])
  rw [dg_zero] at h4
  rw [h4, f185_eq h1 (by omega) (by omega), ob_some, h3]
  rfl

theorem gcd_half {a b : Nat} (hb : 0 < b) (hr : 0 < a % b) {j : Nat} (h : b < 2 ^ (j + 1)) : b % (a % b) < 2 ^ j := by
  have h1 := Nat.mod_lt a hb
  have h2 := Nat.mod_lt b hr
  have h3 := Nat.div_add_mod b (a % b)
  generalize a % b = r at *
  have h4 : 1 ≤ b / r := by rw [Nat.le_div_iff_mul_le hr]; omega
  have h5 : r * 1 ≤ r * (b / r) := Nat.mul_le_mul_left r h4
  rw [Nat.pow_succ] at h
  omega

theorem gcd128 {α : Type} {n L : Nat} (hL : L ≤ 1099511627000) (hn : L + 10040 ≤ n) {k0 : List Int → Option α} :
    ∀ (j m a b : Nat), b < 2 ^ j → 2 * j + 1 ≤ m → (dg a).length ≤ L → (dg b).length ≤ L → f128_L1 n m (dg a) (dg b) k0 = k0 (dg (Nat.gcd b a)) := by
  have stop : ∀ (m a : Nat), 0 < m → f128_L1 n m (dg a) (dg 0) k0 = k0 (dg (Nat.gcd 0 a)) := fun m a hm => by
    obtain ⟨m, rfl⟩ : ∃ m', m = m' + 1 := ⟨m - 1, by omega⟩
    rw [f128_L1_s, Nat.gcd_zero_left, dg_zero]; rfl
  have step : ∀ (m a b : Nat), 0 < b → (dg a).length ≤ L → (dg b).length ≤ L → f128_L1 n (m + 1) (dg a) (dg b) k0 = f128_L1 n m (dg b) (dg (a % b)) k0 := fun m a b hb ha hbl => by
    rw [f128_L1_s]
    unfold f128_L1B
    have : 0 < (dg b).length := by rw [dg_pos (by omega)]; simp
    rw [Bool.cond_decide, if_pos (by omega), s_div hb ha hbl hL hn, ob_some]
  intro j
  induction j with
  | zero =>
    intro m a b h1 h2 h3 h4
    obtain rfl : b = 0 := by simpa using h1
    exact stop m a (by omega)
  | succ j ih =>
    intro m a b h1 h2 h3 h4
    rcases Nat.eq_zero_or_pos b with rfl | hb
    · exact stop m a (by omega)
    obtain ⟨m, rfl⟩ : ∃ m', m = m' + 2 := ⟨m - 2, by omega⟩
    have h5 : (dg (a % b)).length ≤ L := Nat.le_trans (len_mono (Nat.le_of_lt (Nat.mod_lt a hb))) h4
    rw [step _ _ _ hb h3 h4, Nat.gcd_rec b a]
    rcases Nat.eq_zero_or_pos (a % b) with hr | hr
    · rw [hr]; exact stop _ _ (by omega)
    have h6 : (dg (b % (a % b))).length ≤ L := Nat.le_trans (len_mono (Nat.le_of_lt (Nat.mod_lt b hr))) h5
    rw [step _ _ _ hr h4 h5, Nat.gcd_rec (a % b) b]
    exact ih m _ _ (gcd_half hb hr h1) (by omega) h5 h6

theorem pow_two {b L : Nat} (h : b < 10000 ^ L) : b < 2 ^ (14 * L) := by
  rw [Nat.pow_mul]
  exact Nat.lt_of_lt_of_le h (Nat.pow_le_pow_left (by decide) L)

theorem s_gcd {n L a b : Nat} (hL : L ≤ 1099511627000) (hn : 28 * L + 10040 ≤ n) (ha : (dg a).length ≤ L) (hb : (dg b).length ≤ L) : f128 n (dg a) (dg b) = some (dg (Nat.gcd a b)) := by
  unfold f128
  have h1 : (dg (Nat.gcd b a)).length ≤ L := by
    rcases Nat.eq_zero_or_pos b with rfl | h
    · rw [Nat.gcd_zero_left]; exact ha
    · exact Nat.le_trans (len_mono (Nat.gcd_le_left a h)) hb
  rw [gcd128 hL (by omega) (14 * L) n a b (pow_two (lt_len' hb)) (by omega) ha hb, gd_pos (by simp; try omega), Nat.gcd_comm]

theorem mid_get {pre w post : List Int} {i : Nat} (h : i < w.length) : (pre ++ w ++ post).getD (pre.length + i) 0 = w.getD i 0 := by
  rw [List.append_assoc, List.getD_eq_getElem?_getD, List.getElem?_append_right (by omega), Nat.add_sub_cancel_left, List.getElem?_append_left h, ← List.getD_eq_getElem?_getD]

theorem mid_set {pre w post : List Int} {i : Nat} (h : i < w.length) (x : Int) : (pre ++ w ++ post).set (pre.length + i) x = pre ++ w.set i x ++ post := by
  rw [List.append_assoc, List.set_append_right _ _ (by omega), Nat.add_sub_cancel_left, List.set_append_left _ _ h, List.append_assoc]

theorem carry_neg {y : Int} (h : y < 0) (h' : -1099511627776 < y) : W (Int.tdiv (W (W (y - 10000) + 1)) 10000) = y / 10000 := by
  rw [W_id (x := y - 10000) (by omega) (by omega), W_id (x := y - 10000 + 1) (by omega) (by omega)]
  have : Int.tdiv (y - 10000 + 1) 10000 = y / 10000 := by
    rw [show y - 10000 + 1 = -(9999 - y) by omega, Int.neg_tdiv, Int.tdiv_eq_ediv_of_nonneg (by omega)]
    omega
  rw [this, W_id (by omega) (by omega)]

/-- one step of a subtraction of a multiple -/
theorem sub_step {o P q c wi bi v' T y d r : Int} (h : o + P * (c - q * (bi + 10000 * v')) = T) (hy : y = wi + c - q * bi) (hd : y = 10000 * d + r) : o + P * (r - wi) + 10000 * P * (d - q * v') = T := by
  grind

/-- one step of an addition -/
theorem plus_step {o P c wi bi v' T y d r : Int} (h : o + P * (c + (bi + 10000 * v')) = T) (hy : y = wi + c + bi) (hd : y = 10000 * d + r) : o + P * (r - wi) + 10000 * P * (d + v') = T := by
  grind

theorem vl_drop' {l : List Int} (k : Nat) : vl (l.drop k) = l.getD k 0 + 10000 * vl (l.drop (k + 1)) := by
  rcases Nat.lt_or_ge k l.length with h | h
  · exact vl_drop h
  · rw [List.drop_of_length_le h, List.drop_of_length_le (by omega), getD_out h]; rfl

theorem sub197 {α : Type} {n N : Nat} {b pre post : List Int} (hb : Lm b) (hbN : b.length = N) (hN : pre.length + N + 1 + post.length ≤ 1099511627776) {q : Int} (hq : 0 ≤ q ∧ q < 10000) {T : Int} {k0 : Nat → Nat → List Int → Int → Int → Int → List Int → Option α} :
    ∀ (m i : Nat) (c : Int) (w : List Int), Lm w → w.length = N + 1 → -9999 ≤ c → c ≤ 0 → i ≤ N + 1 → vl w + 10000 ^ i * (c - q * vl (b.drop i)) = T → N + 2 ≤ i + m →
    ∃ w' c', Lm w' ∧ w'.length = N + 1 ∧ c' ≤ 0 ∧ vl w' + 10000 ^ (N + 1) * c' = T ∧ f197B_L6 n m pre.length (N + 1) b (b.length : Int) q c ((N + 1 : Nat) : Int) (i : Int) (pre ++ w ++ post) k0 = k0 pre.length (N + 1) b (b.length : Int) q c' (pre ++ w' ++ post)
  | 0, i, c, w, h1, h2, h3, h4, h5, h6, h7 => by omega
  | m + 1, i, c, w, h1, h2, h3, h4, h5, h6, h7 => by
    rw [f197B_L6_s]
    unfold f197B_L6B
    dsimp only
    by_cases hi : i < N + 1
    · rw [Bool.cond_decide, if_pos (by omega)]
      simp only [Int.toNat_natCast]
      rw [gd_pos (by simp; try omega), gd_pos (by simp; try omega)]
      simp only [mid_get (pre := pre) (post := post) (w := w) (i := i) (by omega)]
      have g1 := h1.get i
      have g2 := hb.get i
      have g3 := limb_mul hq g2
      have go : ∀ y : Int, y = w.getD i 0 + c - q * b.getD i 0 →
          ∃ w' c', Lm w' ∧ w'.length = N + 1 ∧ c' ≤ 0 ∧ vl w' + 10000 ^ (N + 1) * c' = T ∧ 
          (bif (decide (y < 0)) then (gd (decide (0 ≤ (i : Int)) && decide ((i : Int) < ((N + 1 : Nat) : Int))) (
              gd (decide ((pre.length + i) < (pre ++ w ++ post).length)) (
                f197B_L6 n m pre.length (N + 1) b (b.length : Int) q (W (Int.tdiv (W ((W (y - 10000)) + 1)) 10000)) ((N + 1 : Nat) : Int) (W ((i : Int) + 1)) ((pre ++ w ++ post).set (pre.length + i) (W (y - (W ((W (Int.tdiv (W ((W (y - 10000)) + 1)) 10000)) * 10000))))) k0)))
            else (gd (decide (0 ≤ (i : Int)) && decide ((i : Int) < ((N + 1 : Nat) : Int))) (
              gd (decide ((pre.length + i) < (pre ++ w ++ post).length)) (
                f197B_L6 n m pre.length (N + 1) b (b.length : Int) q 0 ((N + 1 : Nat) : Int) (W ((i : Int) + 1)) ((pre ++ w ++ post).set (pre.length + i) (W (y - (W (0 * 10000))))) k0)))) = k0 pre.length (N + 1) b (b.length : Int) q c' (pre ++ w' ++ post) := by
        intro y hy
        have hd : y = 10000 * (y / 10000) + y % 10000 := by omega
        have go2 : ∀ d : Int, d = y / 10000 → ∃ w' c', Lm w' ∧ w'.length = N + 1 ∧ c' ≤ 0 ∧ vl w' + 10000 ^ (N + 1) * c' = T ∧ (gd (decide (0 ≤ (i : Int)) && decide ((i : Int) < ((N + 1 : Nat) : Int))) (
              gd (decide ((pre.length + i) < (pre ++ w ++ post).length)) (
                f197B_L6 n m pre.length (N + 1) b (b.length : Int) q d ((N + 1 : Nat) : Int) (W ((i : Int) + 1)) ((pre ++ w ++ post).set (pre.length + i) (W (y - (W (d * 10000))))) k0))) = k0 pre.length (N + 1) b (b.length : Int) q c' (pre ++ w' ++ post) := by
          intro d hdd
          rw [gd_pos (by simp; try omega), gd_pos (by simp; try omega), mid_set (by omega), W_id (x := d * 10000) (by omega) (by omega), W_id (x := y - d * 10000) (by omega) (by omega), W_id (x := (i : Int) + 1) (by omega) (by omega)]
          refine sub197 (n := n) hb hbN hN hq m (i + 1) d _ (h1.set _ (by omega)) (by simpa using h2) (by omega) (by omega) (by omega) ?_ (by omega)
          rw [vl_set _ (by omega), pw_succ]
          refine sub_step (bi := b.getD i 0) ?_ hy (by omega)
          rw [← vl_drop']; exact h6
        rw [Bool.cond_decide]
        by_cases hneg : y < 0
        · rw [if_pos hneg]
          simp only [carry_neg hneg (by omega)]
          exact go2 _ rfl
        · rw [if_neg hneg]
          exact go2 0 (by omega)
      by_cases hB : i < b.length
      · have dB : decide ((i : Int) < (b.length : Int)) = true := by rw [decide_eq_true_eq]; omega
        simp only [dB, cond_true]
        rw [gd_pos (by simp; try omega)]
        simp only [W_id (x := q * b.getD i 0) (by omega) (by omega), W_id (x := w.getD i 0 + c) (by omega) (by omega), W_id (x := w.getD i 0 + c - q * b.getD i 0) (by omega) (by omega)]
        exact go _ rfl
      · have dB : decide ((i : Int) < (b.length : Int)) = false := by rw [decide_eq_false_iff_not]; omega
        simp only [dB, cond_false]
        simp only [W_id (x := w.getD i 0 + c) (by omega) (by omega)]
        exact go _ (by rw [getD_out (l := b) (by omega)]; omega)
    · rw [Bool.cond_decide, if_neg (by omega)]
      obtain rfl : i = N + 1 := by omega
      rw [List.drop_of_length_le (by omega)] at h6
      exact ⟨w, c, h1, h2, h4, by simpa [vl] using h6, rfl⟩

theorem plus197 {α : Type} {n N : Nat} {b pre post : List Int} (hb : Lm b) (hbN : b.length = N) (hN : pre.length + N + 1 + post.length ≤ 1099511627776) {q z : Int} {T : Int} {k0 : Nat → Nat → List Int → Int → Int → Int → Int → List Int → Option α} :
    ∀ (m i : Nat) (c : Int) (w : List Int), Lm w → w.length = N + 1 → 0 ≤ c → c ≤ 1 → i ≤ N + 1 → vl w + 10000 ^ i * (c + vl (b.drop i)) = T → N + 2 ≤ i + m →
    ∃ w' c', Lm w' ∧ w'.length = N + 1 ∧ 0 ≤ c' ∧ c' ≤ 1 ∧ vl w' + 10000 ^ (N + 1) * c' = T ∧ f197B_L20 n m pre.length (N + 1) b (b.length : Int) q z c ((N + 1 : Nat) : Int) (i : Int) (pre ++ w ++ post) k0 = k0 pre.length (N + 1) b (b.length : Int) q z c' (pre ++ w' ++ post)
  | 0, i, c, w, h1, h2, h3, h4, h5, h6, h7 => by omega
  | m + 1, i, c, w, h1, h2, h3, h4, h5, h6, h7 => by
    rw [f197B_L20_s]
    unfold f197B_L20B
    dsimp only
    by_cases hi : i < N + 1
    · rw [Bool.cond_decide, if_pos (by omega)]
      simp only [Int.toNat_natCast]
      rw [gd_pos (by simp; try omega), gd_pos (by simp; try omega), mid_get (by omega)]
      have g1 := h1.get i
      have g2 := hb.get i
      have go : ∀ y : Int, y = w.getD i 0 + c + b.getD i 0 → ∃ w' c', Lm w' ∧ w'.length = N + 1 ∧ 0 ≤ c' ∧ c' ≤ 1 ∧ vl w' + 10000 ^ (N + 1) * c' = T ∧ (gd (decide (0 ≤ (i : Int)) && decide ((i : Int) < ((N + 1 : Nat) : Int))) (
              gd (decide ((pre.length + i) < (pre ++ w ++ post).length)) (
                f197B_L20 n m pre.length (N + 1) b (b.length : Int) q z (W (Int.tdiv y 10000)) ((N + 1 : Nat) : Int) (W ((i : Int) + 1)) ((pre ++ w ++ post).set (pre.length + i) (Int.tmod y 10000)) k0))) = k0 pre.length (N + 1) b (b.length : Int) q z c' (pre ++ w' ++ post) := by
        intro y hy
        have hd : y = 10000 * (y / 10000) + y % 10000 := by omega
        rw [gd_pos (by simp; try omega), gd_pos (by simp; try omega), mid_set (by omega), tdv (by omega), tmd (by omega), W_id (x := y / 10000) (by omega) (by omega), W_id (x := (i : Int) + 1) (by omega) (by omega)]
        refine plus197 (n := n) hb hbN hN m (i + 1) _ _ (h1.set _ (by omega)) (by simpa using h2) (by omega) (by omega) (by omega) ?_ (by omega)
        rw [vl_set _ (by omega), pw_succ]
        refine plus_step (bi := b.getD i 0) ?_ hy hd
        rw [← vl_drop']; exact h6
      by_cases hB : i < b.length
      · have dB : decide ((i : Int) < (b.length : Int)) = true := by rw [decide_eq_true_eq]; omega
        simp only [dB, cond_true]
        rw [gd_pos (by simp; try omega)]
        simp only [W_id (x := w.getD i 0 + c) (by omega) (by omega), W_id (x := w.getD i 0 + c + b.getD i 0) (by omega) (by omega)]
        exact go _ rfl
      · have dB : decide ((i : Int) < (b.length : Int)) = false := by rw [decide_eq_false_iff_not]; omega
        simp only [dB, cond_false]
        simp only [W_id (x := w.getD i 0 + c) (by omega) (by omega)]
        exact go _ (by rw [getD_out (l := b) (by omega)]; omega)
    · rw [Bool.cond_decide, if_neg (by omega)]
      obtain rfl : i = N + 1 := by omega
      rw [List.drop_of_length_le (by omega)] at h6
      exact ⟨w, c, h1, h2, h3, h4, by simpa [vl] using h6, rfl⟩

theorem back_neg {P v c R qB : Int} (h1 : v < P) (hP : 0 < P) (h : v + P * c = R - qB) (hc : c < 0) : R - qB < 0 := by
  have : P * c ≤ P * (-1) := Int.mul_le_mul_of_nonneg_left (by omega) (by omega)
  omega

theorem back_low {P v c R q B : Int} (h0 : v < P) (h : v + P * c = R - q * B) (hB : 0 ≤ B) (hBP : B < P) (hR : 0 ≤ R) (hq : q < 10000) (hq0 : 0 ≤ q) : -10000 ≤ c := by
  have h9 : q * B ≤ 10000 * B := Int.mul_le_mul_of_nonneg_right (by omega) (by omega)
  rcases Int.lt_or_le c (-10000) with h1 | h1
  · have h8 : P * c ≤ P * (-10001) := Int.mul_le_mul_of_nonneg_left (by omega) (by omega)
    exfalso
    omega
  · exact h1

theorem back_new {v v' x x' R qB B : Int} (h : v + x = R - qB) (h' : v' + x' = v + B) : v' + (x + x') = R - (qB - B) := by omega

theorem back197 {α : Type} {n N R B : Nat} {pre post : List Int} (hB : 0 < B) (hbN : (dg B).length = N) (hN : pre.length + N + 1 + post.length ≤ 1099511627776) (hn : N + 2 ≤ n) {k0 : Int → List Int → Option α} :
    ∀ (m q : Nat) (c : Int) (w : List Int), Lm w → w.length = N + 1 → c ≤ 0 → vl w + 10000 ^ (N + 1) * c = (R : Int) - q * B → R / B ≤ q → q < 10000 → q < m →
    ∃ w', Lm w' ∧ w'.length = N + 1 ∧ vl w' = ((R % B : Nat) : Int) ∧ f197B_L16 n m pre.length (N + 1) (dg B) ((dg B).length : Int) (q : Int) c (pre ++ w ++ post) k0 = k0 ((R / B : Nat) : Int) (pre ++ w' ++ post)
  | 0, q, c, w, h1, h2, h3, h4, h5, h6, h7 => by omega
  | m + 1, q, c, w, h1, h2, h3, h4, h5, h6, h7 => by
    rw [f197B_L16_s]
    unfold f197B_L16B
    dsimp only
    have hw := vl_lt h1
    have hw0 := vl_nonneg h1
    rw [h2] at hw
    rw [Bool.cond_decide]
    have hP := pw_pos (N + 1)
    have hBP := lt_len B
    rw [hbN] at hBP
    have hdm := Nat.div_add_mod R B
    have hml := Nat.mod_lt R hB
    by_cases hc : c < 0
    · rw [if_pos hc]
      have hneg := back_neg hw hP h4 hc
      have hlt : R / B < q := by
        rw [Nat.div_lt_iff_lt_mul hB]
        have : ((q * B : Nat) : Int) = (q : Int) * B := Int.natCast_mul q B
        omega
      have hq0 : 0 < q := Nat.lt_of_le_of_lt (Nat.zero_le _) hlt
      have hBi : (B : Int) < 10000 ^ N := by rw [← pwc]; omega
      have hBP' : (B : Int) < 10000 ^ (N + 1) := by
        have := pw_le (show N ≤ N + 1 by omega)
        omega
      have hcm := back_low (q := (q : Int)) hw h4 (by omega) hBP' (by omega) (by omega) (by omega)
      rw [W_id (x := (q : Int) - 1) (by omega) (by omega), show (q : Int) - 1 = ((q - 1 : Nat) : Int) by omega]
      obtain ⟨w', c', q1, q2, q3, q4, q5, q6⟩ := plus197 (n := n) (Lm_dg B) hbN hN (q := ((q - 1 : Nat) : Int)) (z := c) (T := vl w + B) (k0 := fun z_12 z_13 z_14 z_15 z_16 z_17 z_18 z_19 => (
        f197B_L16 n m z_12 z_13 z_14 z_15 z_16 (W (z_17 + z_18)) z_19 k0)) n 0 0 w h1 h2 (by omega) (by omega) (by omega) (by rw [List.drop_zero, vl_dg, Int.pow_zero, Int.one_mul, Int.zero_add]) (by omega)
      have q6 : f197B_L20 n n pre.length (N + 1) (dg B) ((dg B).length : Int) ((q - 1 : Nat) : Int) c 0 ((N + 1 : Nat) : Int) 0 (pre ++ w ++ post) _ = _ := q6
      rw [q6]
      have hq1 : ((q - 1 : Nat) : Int) * B = q * B - B := by
        rw [show ((q - 1 : Nat) : Int) = (q : Int) - 1 by omega, Int.sub_mul, Int.one_mul]
      have hnew : vl w' + 10000 ^ (N + 1) * (c + c') = (R : Int) - ((q - 1 : Nat) : Int) * B := by
        rw [Int.mul_add, hq1]
        exact back_new h4 q5
      rw [W_id (x := c + c') (by omega) (by omega)]
      exact back197 hB hbN hN hn m (q - 1) (c + c') w' q1 q2 (by omega) hnew (by omega) (by omega) (by omega)
    · rw [if_neg hc]
      obtain rfl : c = 0 := by omega
      rw [Int.mul_zero, Int.add_zero] at h4
      have e : R / B = q := by
        refine Nat.le_antisymm h5 ?_
        rw [Nat.le_div_iff_mul_le hB]
        have : ((q * B : Nat) : Int) = (q : Int) * B := Int.natCast_mul q B
        omega
      refine ⟨w, h1, h2, ?_, by rw [e]⟩
      have : ((B * q : Nat) : Int) = (q : Int) * B := by rw [Int.natCast_mul, Int.mul_comm]
      rw [e] at hdm
      omega

/-- the guess is not too small -/
theorem guess {P lowR lowB high top t R B : Int} (hR : R = lowR + P * high) (hB : B = lowB + P * top) (h1 : lowR < P) (h2 : 0 ≤ lowB) (hP : 0 < P) (ht : 0 ≤ t) (hle : t * B ≤ R) : t * top ≤ high := by
  have h3 : t * (P * top) ≤ t * B := Int.mul_le_mul_of_nonneg_left (by omega) ht
  have h4 : P * (t * top) < P * (high + 1) := by
    rw [Int.mul_add, Int.mul_one, show P * (t * top) = t * (P * top) by grind]; omega
  have := Int.lt_of_mul_lt_mul_left h4 (by omega)
  omega

theorem f197B_eq {n M R B : Nat} {pre w post : List Int} (hbN : (dg B).length = M + 2) (hN : pre.length + (M + 2) + 1 + post.length ≤ 1099511627776) (hn : M + 10010 ≤ n) (hw : Lm w) (hwl : w.length = M + 3) (hv : vl w = (R : Int)) (hR : R < 10000 * B) :
    ∃ w', Lm w' ∧ w'.length = M + 3 ∧ vl w' = ((R % B : Nat) : Int) ∧ f197B n (pre ++ w ++ post, pre.length, M + 3) (dg B) = some (((R / B : Nat) : Int), pre ++ w' ++ post) := by
  have hB : 0 < B := by omega
  unfold f197B
  dsimp only
  rw [hbN]
  rw [W_id (x := ((M + 2 : Nat) : Int) - 1) (by omega) (by omega), W_id (x := ((M + 2 : Nat) : Int) - 2) (by omega) (by omega), show ((M + 2 : Nat) : Int) - 1 = ((M + 1 : Nat) : Int) by omega, show ((M + 2 : Nat) : Int) - 2 = (M : Int) by omega]
  simp only [Int.toNat_natCast]
  have hb := Lm_dg B
  have g0 := hw.get (M + 2)
  have g1 := hw.get (M + 1)
  have g2 := hw.get M
  have b1 := hb.get (M + 1)
  have b2 := hb.get M
  have bt : (dg B).getD (M + 1) 0 ≠ 0 := by
    have := (Cn_dg B).2 (List.length_pos_iff.1 (by omega))
    rw [hbN] at this
    exact this
  rw [gd_pos (by simp; try omega), gd_pos (by simp; try omega), gd_pos (by simp; try omega), gd_pos (by simp; try omega), gd_pos (by simp; try omega), gd_pos (by simp; try omega), gd_pos (by simp; try omega), gd_pos (by simp; try omega)]
  simp only [mid_get (pre := pre) (post := post) (w := w) (i := M + 2) (by omega), mid_get (pre := pre) (post := post) (w := w) (i := M + 1) (by omega), mid_get (pre := pre) (post := post) (w := w) (i := M) (by omega)]
  simp only [W_id (x := (dg B).getD (M + 1) 0 * 10000) (by omega) (by omega), W_id (x := (dg B).getD (M + 1) 0 * 10000 + (dg B).getD M 0) (by omega) (by omega), W_id (x := w.getD (M + 2) 0 * 10000) (by omega) (by omega), W_id (x := w.getD (M + 2) 0 * 10000 + w.getD (M + 1) 0) (by omega) (by omega), W_id (x := (w.getD (M + 2) 0 * 10000 + w.getD (M + 1) 0) * 10000) (by omega) (by omega), W_id (x := (w.getD (M + 2) 0 * 10000 + w.getD (M + 1) 0) * 10000 + w.getD M 0) (by omega) (by omega)]
  rw [gd_pos (by simp only [decide_eq_true_eq]; omega)]
  have vw : (R : Int) = vl (w.take M) + 10000 ^ M * ((w.getD (M + 2) 0 * 10000 + w.getD (M + 1) 0) * 10000 + w.getD M 0) := by
    have t1 := vl_take_suc w (M + 2)
    have t2 := vl_take_suc w (M + 1)
    have t3 := vl_take_suc w M
    rw [take_le w (by omega), hv] at t1
    rw [t1, t2, t3, pw_succ, pw_succ]
    grind
  have vb : (B : Int) = vl ((dg B).take M) + 10000 ^ M * ((dg B).getD (M + 1) 0 * 10000 + (dg B).getD M 0) := by
    have t2 := vl_take_suc (dg B) (M + 1)
    have t3 := vl_take_suc (dg B) M
    rw [take_le (dg B) (by omega), vl_dg] at t2
    rw [t2, t3, pw_succ]
    grind
  have lw := vl_lt (hw.take M)
  rw [List.length_take, Nat.min_eq_left (by omega)] at lw
  have lb := vl_nonneg (hb.take M)
  generalize hhigh : (w.getD (M + 2) 0 * 10000 + w.getD (M + 1) 0) * 10000 + w.getD M 0 = high at *
  generalize htop : (dg B).getD (M + 1) 0 * 10000 + (dg B).getD M 0 = top at *
  have htop0 : 0 < top := by omega
  have hh0 : 0 ≤ high ∧ high < 1000000000000 := by omega
  rw [Int.tdiv_eq_ediv_of_nonneg (by omega)]
  have hd0 : 0 ≤ high / top := Int.ediv_nonneg (by omega) (by omega)
  have hd1 : high / top ≤ high := Int.ediv_le_self _ (by omega)
  rw [W_id (x := high / top) (by omega) (by omega)]
  obtain ⟨q, hq⟩ : ∃ q : Nat, min (high / top) 9999 = (q : Int) := ⟨(min (high / top) 9999).toNat, by omega⟩
  have hql : q < 10000 := by omega
  have hqr : R / B ≤ q := by
    have h1 : (((R / B : Nat) : Int)) * top ≤ high := by
      refine guess vw vb lw lb (pw_pos M) (Int.natCast_nonneg _) ?_
      have := Nat.div_mul_le_self R B
      rw [← Int.natCast_mul]; omega
    have h2 : ((R / B : Nat) : Int) ≤ high / top := by rw [Int.le_ediv_iff_mul_le htop0]; exact h1
    have h3 : R / B < 10000 := by rw [Nat.div_lt_iff_lt_mul hB]; omega
    omega
  rw [hq]
  obtain ⟨w1, c1, r1, r2, r3, r4, r5⟩ := sub197 (n := n) (N := M + 2) (b := dg B) (pre := pre) (post := post) hb hbN hN (q := (q : Int)) (by omega) (T := (R : Int) - q * B) (k0 := fun z_5 z_6 z_7 z_8 z_9 z_10 z_11 => (
                        f197B_L16 n n z_5 z_6 z_7 z_8 z_9 z_10 z_11
                          (fun z_20 z_21 => (
                            some (z_20, z_21))))) n 0 0 w hw hwl (by omega) (by omega) (by omega) (by rw [List.drop_zero, vl_dg, hv, Int.pow_zero, Int.one_mul, Int.zero_sub, Int.sub_eq_add_neg]) (by omega)
  obtain ⟨w2, s1, s2, s3, s4⟩ := back197 (n := n) (N := M + 2) (R := R) (B := B) (pre := pre) (post := post) hB hbN hN (by omega) (k0 := fun z_20 z_21 => (some (z_20, z_21))) n q c1 w1 r1 r2 r3 r4 hqr hql (by omega)
  refine ⟨w2, s1, s2, s3, ?_⟩
  rw [hbN] at r5 s4
  have r5 : f197B_L6 n n pre.length (M + 3) (dg B) ((M + 2 : Nat) : Int) (q : Int) 0 ((M + 3 : Nat) : Int) 0 (pre ++ w ++ post) _ = _ := r5
  rw [r5]
  exact s4

theorem tdivN (y b : Nat) : Int.tdiv (y : Int) (b : Int) = ((y / b : Nat) : Int) := by
  rw [Int.tdiv_eq_ediv_of_nonneg (by omega), Int.natCast_ediv]

theorem tmodN (y b : Nat) : Int.tmod (y : Int) (b : Int) = ((y % b : Nat) : Int) := by
  rw [Int.tmod_eq_emod_of_nonneg (by omega), Int.natCast_emod]

theorem set_low {o : List Int} {k i : Nat} {x : Int} (h : ∀ i, i < k + 1 → o.getD i 0 = 0) (hi : i < k) : (o.set k x).getD i 0 = 0 := by
  rw [List.getD_eq_getElem?_getD, List.getElem?_set_ne (by omega), ← List.getD_eq_getElem?_getD]
  exact h i (by omega)

theorem step_quo {Q B R x q r y : Nat} (hy : x + 10000 * R = y) (hqr : B * q + r = y) {V : Int} (hV : (Q : Int) * B + R = V) : ((10000 * Q + q : Nat) : Int) * B + r = x + 10000 * V := by
  have : (B : Int) * q + r = x + 10000 * R := by
    rw [← nc10b, hy, ← hqr, Int.natCast_add, Int.natCast_mul]
  rw [nc10a, ← hV]
  grind

theorem one182 {α : Type} {n A B : Nat} (hB : 0 < B) (hB1 : B < 10000) (hlA : (dg A).length ≤ 1099511627000) {k0 : Int → List Int → Option α} :
    ∀ (k Q R : Nat) (o : List Int), k ≤ (dg A).length → R < B → o.length = (dg A).length → Lm o → (∀ i, i < k → o.getD i 0 = 0) → vl o = 10000 ^ k * (Q : Int) → (Q : Int) * B + R = vl ((dg A).drop k) →
    ∃ o', Lm o' ∧ o'.length = (dg A).length ∧ vl o' = ((A / B : Nat) : Int) ∧ f182_L7R n (dg A) k (dg A) [(B : Int)] (R : Int) o k0 = k0 ((A % B : Nat) : Int) o'
  | 0, Q, R, o, h2, h3, h4, h5, h6, h7, h8 => by
    rw [f182_L7_0]
    rw [List.drop_zero, vl_dg] at h8
    have h8 : Q * B + R = A := by
      have : ((Q * B + R : Nat) : Int) = A := by rw [Int.natCast_add, Int.natCast_mul]; exact h8
      omega
    have h9 : A / B = Q := by rw [← h8, Nat.add_comm, Nat.add_mul_div_right _ _ hB, Nat.div_eq_of_lt h3, Nat.zero_add]
    have h10 : A % B = R := by rw [← h8, Nat.mul_add_mod_self_right, Nat.mod_eq_of_lt h3]
    exact ⟨o, h5, h4, by rw [h7, h9]; simp, by rw [h10]⟩
  | k + 1, Q, R, o, h2, h3, h4, h5, h6, h7, h8 => by
    rw [f182_L7_s]
    unfold f182_L7B
    dsimp only
    have hg := (Lm_dg A).get k
    obtain ⟨x, hx⟩ : ∃ x : Nat, (dg A).getD k 0 = (x : Int) := ⟨((dg A).getD k 0).toNat, by omega⟩
    have hRx : vl ((dg A).drop k) = (x : Int) + 10000 * vl ((dg A).drop (k + 1)) := by
      rw [vl_drop (by omega), hx]
    simp only [Int.toNat_natCast]
    rw [gd_pos (by simp; try omega), gd_pos (by simp; omega), gd_pos (by simp; try omega), gd_pos (by simp; omega), gd_pos (by simp; try omega), gd_pos (by simp; try omega), gd_pos (by simp), hx]
    rw [W_id (x := (R : Int) * 10000) (by omega) (by omega), W_id (x := (R : Int) * 10000 + (x : Int)) (by omega) (by omega), show (R : Int) * 10000 + (x : Int) = ((x + 10000 * R : Nat) : Int) by omega]
    have e0 : ([(B : Int)]).getD 0 0 = (B : Int) := rfl
    rw [e0, tdivN, tmodN]
    have hq : (x + 10000 * R) / B < 10000 := by
      rw [Nat.div_lt_iff_lt_mul hB]; omega
    have hqr := Nat.div_add_mod (x + 10000 * R) B
    have hqm := Nat.mod_lt (x + 10000 * R) hB
    generalize (x + 10000 * R) / B = q at *
    generalize (x + 10000 * R) % B = r at *
    rw [W_id (x := (q : Int)) (by omega) (by omega)]
    refine one182 hB hB1 hlA k (10000 * Q + q) r _ (by omega) hqm (by simpa using h4) (h5.set _ (by omega)) (fun i hi => set_low h6 hi) ?_ ?_
    · rw [vl_set _ (by omega), h7, h6 k (by omega), pw_succ, nc10a]
      generalize (10000 : Int) ^ k = P
      grind
    · rw [hRx, ← h8]
      exact step_quo rfl hqr rfl

theorem many182 {α : Type} {n A B M : Nat} (hM : (dg B).length = M + 2) (hla : (dg B).length ≤ (dg A).length) (hlA : (dg A).length ≤ 1099511627000) (hn : (dg A).length + 10040 ≤ n) {k0 : List Int → List Int → Option α} :
    ∀ (k m Q R : Nat) (o u : List Int), k < m → k ≤ (dg A).length - (M + 1) → R < B → o.length = (dg A).length - (M + 1) → Lm o → (∀ i, i < k → o.getD i 0 = 0) → vl o = 10000 ^ k * (Q : Int) →
    Lm u → u.length + k = (dg A).length + 1 → vl u = (R : Int) → (Q : Int) * B + R = vl ((dg A).drop k) →
    ∃ o' u', Lm o' ∧ o'.length = (dg A).length - (M + 1) ∧ vl o' = ((A / B : Nat) : Int) ∧ Lm u' ∧ u'.length = (dg A).length + 1 ∧ vl u' = ((A % B : Nat) : Int) ∧
      f182_L14 n m ((dg B).length : Int) ((k : Int) - 1) (dg B) o ((dg A).take k ++ u) k0 = k0 o' u'
  | _, 0, _, _, _, _, h1, _, _, _, _, _, _, _, _, _, _ => by omega
  | 0, m + 1, Q, R, o, u, h1, h2, h3, h4, h5, h6, h7, u1, u2, u3, h8 => by
    rw [f182_L14_s]
    unfold f182_L14B
    dsimp only
    rw [Bool.cond_decide, if_neg (by omega)]
    rw [List.drop_zero, vl_dg] at h8
    have h8 : Q * B + R = A := by
      have : ((Q * B + R : Nat) : Int) = A := by rw [Int.natCast_add, Int.natCast_mul]; exact h8
      omega
    have hB : 0 < B := by omega
    have h9 : A / B = Q := by rw [← h8, Nat.add_comm, Nat.add_mul_div_right _ _ hB, Nat.div_eq_of_lt h3, Nat.zero_add]
    have h10 : A % B = R := by rw [← h8, Nat.mul_add_mod_self_right, Nat.mod_eq_of_lt h3]
    exact ⟨o, u, h5, h4, by rw [h7, h9]; simp, u1, by omega, by rw [u3, h10], by simp⟩
  | k + 1, m + 1, Q, R, o, u, h1, h2, h3, h4, h5, h6, h7, u1, u2, u3, h8 => by
    rw [f182_L14_s]
    unfold f182_L14B
    dsimp only
    have hB : 0 < B := by omega
    rw [Bool.cond_decide, if_pos (by omega)]
    rw [show (((k + 1 : Nat) : Int) - 1) = (k : Int) by omega]
    have hg := (Lm_dg A).get k
    obtain ⟨x, hx⟩ : ∃ x : Nat, (dg A).getD k 0 = (x : Int) := ⟨((dg A).getD k 0).toNat, by omega⟩
    have hRx : vl ((dg A).drop k) = (x : Int) + 10000 * vl ((dg A).drop (k + 1)) := by
      rw [vl_drop (by omega), hx]
    have htk : (dg A).take (k + 1) ++ u = (dg A).take k ++ ((x : Int) :: u) := by
      rw [List.take_succ_eq_append_getElem (by omega), List.append_assoc]
      congr 1
      rw [← hx, List.getD_eq_getElem?_getD, List.getElem?_eq_getElem (by omega)]
      rfl
    have hL : Lm ((x : Int) :: u) := Lm.cons (by omega) u1
    have hv : vl ((x : Int) :: u) = ((x + 10000 * R : Nat) : Int) := by rw [vl, u3, nc10b]
    have hlt : x + 10000 * R < 10000 * B := by omega
    obtain ⟨w, post, hwp, hw, hp, hwl⟩ : ∃ w post, (x : Int) :: u = w ++ post ∧ Lm w ∧ Lm post ∧ w.length = M + 3 :=
      ⟨((x : Int) :: u).take (M + 3), ((x : Int) :: u).drop (M + 3), (List.take_append_drop _ _).symm, hL.take _, hL.drop _, by rw [List.length_take, List.length_cons]; omega⟩
    have hlp : w.length + post.length = u.length + 1 := by
      have := congrArg List.length hwp
      simpa using this.symm
    have hvp : vl post = 0 := by
      have e := hv
      rw [hwp, vl_app, hwl] at e
      have h10 : B < 10000 ^ (M + 2) := lt_len' (by omega)
      have h11 : ((x + 10000 * R : Nat) : Int) < 10000 ^ (M + 3) := by
        rw [pw_succ, ← pwc]; omega
      have h12 := vl_nonneg hw
      have h13 := vl_nonneg hp
      rcases Int.lt_or_eq_of_le h13 with h | h
      · exfalso
        have h14 : (10000 : Int) ^ (M + 3) * 1 ≤ 10000 ^ (M + 3) * vl post := Int.mul_le_mul_of_nonneg_left (by omega) (by have := pw_pos (M + 3); omega)
        generalize (10000 : Int) ^ (M + 3) * vl post = z at *
        generalize (10000 : Int) ^ (M + 3) = P at *
        omega
      · exact h.symm
    have hvw : vl w = ((x + 10000 * R : Nat) : Int) := by
      rw [← hv, hwp, vl_app, hvp]; simp
    rw [htk, hwp, ← List.append_assoc]
    have hpl : ((dg A).take k).length = k := by rw [List.length_take]; omega
    obtain ⟨w', q1, q2, q3, q4⟩ := f197B_eq (n := n) (pre := (dg A).take k) (post := post) hM (by omega) (by omega) hw hwl hvw hlt
    rw [hpl] at q4
    rw [W_id (x := (k : Int) + ((dg B).length : Int)) (by omega) (by omega), W_id (x := (k : Int) + ((dg B).length : Int) + 1) (by omega) (by omega)]
    rw [gd_pos (by simp only [Bool.and_eq_true, decide_eq_true_eq, List.length_append, hpl]; omega)]
    rw [show ((k : Int) + ((dg B).length : Int) + 1).toNat - (k : Int).toNat = M + 3 by omega]
    simp only [Int.toNat_natCast]
    rw [q4, ob_some]
    dsimp only
    have hqm := Nat.mod_lt (x + 10000 * R) hB
    have hqr := Nat.div_add_mod (x + 10000 * R) B
    have hq : (x + 10000 * R) / B < 10000 := by
      rw [Nat.div_lt_iff_lt_mul hB]; omega
    generalize (x + 10000 * R) / B = q at *
    generalize (x + 10000 * R) % B = r at *
    rw [gd_pos (by simp [hwl, q2]), gd_pos (by simp; try omega), gd_pos (by simp; try omega), W_id (x := (k : Int) - 1) (by omega) (by omega), List.append_assoc]
    refine many182 hM hla hlA hn k m (10000 * Q + q) r _ _ (by omega) (by omega) hqm (by simpa using h4) (h5.set _ (by omega)) (fun i hi => set_low h6 hi) ?_ (q1.app hp) ?_ ?_ ?_
    · rw [vl_set _ (by omega), h7, h6 k (by omega), pw_succ, nc10a]
      generalize (10000 : Int) ^ k = P
      grind
    · rw [List.length_append]; omega
    · rw [vl_app, hvp, q3]; simp
    · rw [hRx, ← h8]
      exact step_quo rfl hqr rfl

theorem f132_eq (n : Nat) {l : List Int} (h : l.length ≤ 17592186044416) : f132 n l = some l := by
  unfold f132
  cases l with
  | nil => rfl
  | cons x r =>
    unfold f132G
    rw [Bool.cond_eq_ite, if_neg (by simp), gd_pos (by rfl), gd_pos (by simp only [decide_eq_true_eq]; simp only [List.length_cons] at *; omega)]

theorem f132B_eq (n : Nat) {l : List Int} (h : l.length ≤ 17592186044416) (h0 : l ≠ []) : f132B n l = some l := by
  unfold f132B
  cases l with
  | nil => exact absurd rfl h0
  | cons x r => rw [gd_pos (by rfl), gd_pos (by simp only [decide_eq_true_eq]; simp only [List.length_cons] at *; omega)]

theorem i_div {n L A B : Nat} (hB : 0 < B) (hA : (dg A).length ≤ L) (hBl : (dg B).length ≤ L) (hL : L ≤ 1099511627000) (hn : L + 10040 ≤ n) : f182 n (dg A) (dg B) = some (dg (A / B), dg (A % B)) := by
  unfold f182
  rw [i_cmp (by omega), ob_some, Bool.cond_decide]
  by_cases hlt : A < B
  · rw [if_pos (by rw [cm_lt (by omega)]; omega), f132_eq n (by omega), ob_some, Nat.div_eq_of_lt hlt, Nat.mod_eq_of_lt hlt, dg_zero]
  · rw [if_neg (by
      rcases Nat.lt_or_eq_of_le (Nat.le_of_not_lt hlt) with h | h
      · rw [cm_gt (by omega)]; omega
      · rw [cm_eq (by omega)]; omega)]
    have hmn : (dg B).length ≤ (dg A).length := len_mono (by omega)
    have hb0 : 0 < (dg B).length := by rw [dg_pos (by omega)]; simp
    rw [Bool.cond_eq_ite]
    by_cases h1 : (dg B).length = 1
    · rw [if_pos (by simp [h1])]
      have hB1 : B < 10000 := by have := lt_len' (n := B) (k := 1) (by omega); simpa using this
      have hBd : dg B = [(B : Int)] := by
        rw [dg_pos (by omega), Nat.mod_eq_of_lt hB1, Nat.div_eq_of_lt hB1, dg_zero]
      rw [gd_pos (by simp; try omega), show f181 n (dg A) = some (dg A) from rfl, ob_some, f182_L7_e, gd_pos (by simp; try omega), hBd]
      simp only [Int.toNat_natCast]
      obtain ⟨o, q1, q2, q3, q4⟩ := one182 (n := n) (A := A) hB hB1 (by omega) (k0 := fun z_4 z_5 => (
            ob (f186 n z_5) fun r_6 =>
            ob (f163 n z_4) fun r_7 =>
            some (r_6, r_7))) (dg A).length 0 0 (List.replicate (dg A).length 0) (Nat.le_refl _) hB (by simp) (Lm.rep _) (fun i hi => by simp [List.getD_eq_getElem?_getD, List.getElem?_replicate, hi]) (by rw [vl_rep]; simp) (by simp [vl])
      have q4 : f182_L7R n (dg A) (dg A).length (dg A) [(B : Int)] 0 _ _ = _ := q4
      have hm := Nat.mod_lt A hB
      rw [q4, f186_eq q1 (by omega) (by omega), ob_some, f163_eq (by omega) (by omega), ob_some, q3]
      rfl
    · rw [if_neg (by simp; omega)]
      obtain ⟨M, hM⟩ : ∃ M, (dg B).length = M + 2 := ⟨(dg B).length - 2, by omega⟩
      rw [f132B_eq n (by omega) (List.length_pos_iff.1 (by omega)), ob_some, gd_pos (by simp; try omega)]
      rw [W_id (x := ((dg A).length : Int) - ((dg B).length : Int)) (by omega) (by omega), W_id (x := ((dg A).length : Int) - ((dg B).length : Int) + 1) (by omega) (by omega), gd_pos (by simp; try omega)]
      rw [show (((dg A).length : Int) - ((dg B).length : Int) + 1).toNat = (dg A).length - (M + 1) by omega]
      have hR0 := vl_nonneg ((Lm_dg A).drop ((dg A).length - (M + 1)))
      obtain ⟨R, hR⟩ : ∃ R : Nat, vl ((dg A).drop ((dg A).length - (M + 1))) = (R : Int) := ⟨_, (Int.toNat_of_nonneg hR0).symm⟩
      have hRB : R < B := by
        have := vl_lt ((Lm_dg A).drop ((dg A).length - (M + 1)))
        rw [List.length_drop, show (dg A).length - ((dg A).length - (M + 1)) = M + 1 by omega, hR] at this
        have h2 := (Cn_dg B).ge (List.length_pos_iff.1 (by omega))
        rw [hM, vl_dg] at h2
        have h2 : (10000 : Int) ^ (M + 1) ≤ B := h2
        generalize (10000 : Int) ^ (M + 1) = P at *
        omega
      obtain ⟨o, u, q1, q2, q3, q4, q5, q6, q7⟩ := many182 (n := n) (A := A) (B := B) hM hmn (by omega) (by omega) (k0 := fun z_10 z_11 => (
              ob (f186 n z_10) fun r_12 =>
              ob (f186 n z_11) fun r_13 =>
              some (r_12, r_13))) ((dg A).length - (M + 1)) n 0 R (List.replicate ((dg A).length - (M + 1)) 0) ((dg A).drop ((dg A).length - (M + 1)) ++ [0]) (by omega) (Nat.le_refl _) hRB (by simp) (Lm.rep _) (fun i hi => by simp [List.getD_eq_getElem?_getD, List.getElem?_replicate, hi]) (by rw [vl_rep]; simp) (((Lm_dg A).drop _).app (Lm.cons (by omega) Lm.nil)) (by simp; omega) (by rw [vl_snoc, hR]; simp) (by rw [hR]; simp)
      rw [← List.append_assoc, List.take_append_drop] at q7
      rw [show ((dg A).length : Int) - ((dg B).length : Int) = (((dg A).length - (M + 1) : Nat) : Int) - 1 by omega, q7, f186_eq q1 (by omega) (by omega), ob_some, f186_eq q4 (by omega) (by omega), ob_some, q3, q6]
      rfl

theorem gcd137 {α : Type} {n L : Nat} (hL : L ≤ 1099511627000) (hn : L + 10040 ≤ n) {k0 : List Int → Option α} :
    ∀ (j m a b : Nat), b < 2 ^ j → 2 * j + 1 ≤ m → (dg a).length ≤ L → (dg b).length ≤ L → f137_L1 n m (dg a) (dg b) k0 = k0 (dg (Nat.gcd b a)) := by
  have stop : ∀ (m a : Nat), 0 < m → f137_L1 n m (dg a) (dg 0) k0 = k0 (dg (Nat.gcd 0 a)) := fun m a hm => by
    obtain ⟨m, rfl⟩ : ∃ m', m = m' + 1 := ⟨m - 1, by omega⟩
    rw [f137_L1_s, Nat.gcd_zero_left, dg_zero]; rfl
  have step : ∀ (m a b : Nat), 0 < b → (dg a).length ≤ L → (dg b).length ≤ L → f137_L1 n (m + 1) (dg a) (dg b) k0 = f137_L1 n m (dg b) (dg (a % b)) k0 := fun m a b hb ha hbl => by
    rw [f137_L1_s]
    unfold f137_L1B
    have : 0 < (dg b).length := by rw [dg_pos (by omega)]; simp
    rw [Bool.cond_decide, if_pos (by omega), i_div hb ha hbl hL hn, ob_some]
  intro j
  induction j with
  | zero =>
    intro m a b h1 h2 h3 h4
    obtain rfl : b = 0 := by simpa using h1
    exact stop m a (by omega)
  | succ j ih =>
    intro m a b h1 h2 h3 h4
    rcases Nat.eq_zero_or_pos b with rfl | hb
    · exact stop m a (by omega)
    obtain ⟨m, rfl⟩ : ∃ m', m = m' + 2 := ⟨m - 2, by omega⟩
    have h5 : (dg (a % b)).length ≤ L := Nat.le_trans (len_mono (Nat.le_of_lt (Nat.mod_lt a hb))) h4
    rw [step _ _ _ hb h3 h4, Nat.gcd_rec b a]
    rcases Nat.eq_zero_or_pos (a % b) with hr | hr
    · rw [hr]; exact stop _ _ (by omega)
    have h6 : (dg (b % (a % b))).length ≤ L := Nat.le_trans (len_mono (Nat.le_of_lt (Nat.mod_lt b hr))) h5
    rw [step _ _ _ hr h4 h5, Nat.gcd_rec (a % b) b]
    exact ih m _ _ (gcd_half hb hr h1) (by omega) h5 h6

theorem i_gcd {n L a b : Nat} (hL : L ≤ 1099511627000) (hn : 28 * L + 10040 ≤ n) (ha : (dg a).length ≤ L) (hb : (dg b).length ≤ L) : f137 n (dg a) (dg b) = some (dg (Nat.gcd a b)) := by
  unfold f137
  rw [gcd137 hL (by omega) (14 * L) n a b (pow_two (lt_len' hb)) (by omega) ha hb, Nat.gcd_comm]

abbrev Rt := Bool × List Int × List Int

abbrev rt0 : Rt := (false, [], [])

def Sm (x : Rt) : Prop := x.2.1.length ≤ 1048576 ∧ x.2.2.length ≤ 1048576

theorem Sm.get {l : List Rt} (h : ∀ x ∈ l, Sm x) (i : Nat) : Sm (l.getD i rt0) := by
  rw [List.getD_eq_getElem?_getD]
  cases e : l[i]? with
  | none => exact ⟨by simp, by simp⟩
  | some x => exact h x (List.mem_of_getElem? e)

def limb (x : Int) : Bool := decide (0 ≤ x ∧ x ≤ 9999)

def nok (l : List Int) : Bool := decide (l.length ≤ 40) && l.all limb && (l.isEmpty || decide (0 < l.getD (l.length - 1) 0))

theorem nok_Cn {l : List Int} (h : nok l = true) : Cn l ∧ l.length ≤ 40 := by
  unfold nok at h
  simp only [Bool.and_eq_true, decide_eq_true_eq, Bool.or_eq_true, List.all_eq_true, List.isEmpty_iff] at h
  obtain ⟨⟨h1, h2⟩, h3⟩ := h
  refine ⟨⟨fun x hx => ?_, fun hn => ?_⟩, h1⟩
  · have := h2 x hx
    unfold limb at this
    rw [decide_eq_true_eq] at this
    omega
  · rcases h3 with h3 | h3
    · exact absurd h3 hn
    · omega

theorem alldrop {α : Type} {l : List α} {p : α → Bool} {i : Nat} (h : i < l.length) (d : α) : (l.drop i).all p = (p (l.getD i d) && (l.drop (i + 1)).all p) := by
  rw [List.drop_eq_getElem_cons h, List.all_cons, List.getD_eq_getElem?_getD, List.getElem?_eq_getElem h]; rfl

theorem f65_eq {n : Nat} {a lo hi : Int} : f65 n a lo hi = some (decide (lo ≤ a ∧ a ≤ hi)) := by
  unfold f65; by_cases h : lo ≤ a <;> simp [h]

theorem f126_loop {α : Type} {n : Nat} {l : List Int} (hl : l.length ≤ 1048576) {k0 : Bool → Option α} {k1 : List Int → Option α} : ∀ (m i : Nat), i ≤ l.length → l.length < i + m → f126_L4 n m l (i : Int) k0 k1 = if (l.drop i).all limb = true then k1 l else k0 false
  | 0, i, hi, hm => by omega
  | m + 1, i, hi, hm => by
    rw [f126_L4_s]
    unfold f126_L4B
    dsimp only
    rw [Bool.cond_decide]
    by_cases h : i < l.length
    · rw [if_pos (by omega), gd_pos (by simp; try omega)]
      simp only [Int.toNat_natCast]
      rw [f65_eq, ob_some, alldrop h 0]
      cases hp : limb (l.getD i 0) with
      | true =>
        unfold limb at hp
        rw [hp, W_id (x := (i : Int) + 1) (by omega) (by omega)]
        simp only [Bool.not_true, cond_false, Bool.true_and]
        exact f126_loop hl m (i + 1) (by omega) (by omega)
      | false =>
        unfold limb at hp
        rw [hp]
        simp
    · rw [if_neg (by omega), List.drop_of_length_le (by omega)]
      rfl

theorem f126_eq {n : Nat} {l : List Int} (hn : 1048577 ≤ n) : f126 n l = some (nok l) := by
  unfold f126 nok
  rw [Bool.cond_decide]
  by_cases h : l.length ≤ 4096
  · rw [if_neg (by omega)]
    have := f126_loop (n := n) (l := l) (by omega) (k0 := fun z_2 => some z_2) (k1 := fun z_3 => (
        bif (decide ((z_3.length : Int) ≤ 40)) then
          bif ((z_3.length : Int) == 0) then
            some true
          else
            gd (decide (0 ≤ (W ((z_3.length : Int) - 1))) && decide ((W ((z_3.length : Int) - 1)) < (z_3.length : Int))) (
              some (decide ((z_3.getD ((W ((z_3.length : Int) - 1)).toNat) 0) > 0)))
        else
          some false)) n 0 (by omega) (by omega)
    have this : f126_L4 n n l 0 _ _ = _ := this
    rw [this, List.drop_zero]
    cases l.all limb with
    | false => simp
    | true =>
      rw [if_pos rfl, Bool.cond_decide]
      by_cases h40 : l.length ≤ 40
      · rw [if_pos (by omega)]
        cases l with
        | nil => rfl
        | cons x r =>
          rw [Bool.cond_eq_ite, if_neg (by simp; omega), W_id (x := ((x :: r).length : Int) - 1) (by omega) (by omega), gd_pos (by simp; omega), show (((x :: r).length : Int) - 1).toNat = (x :: r).length - 1 by omega]
          have h41 : r.length ≤ 39 := by simpa using h40
          simp [h41]
      · rw [if_neg (by omega)]
        simp [h40]
  · rw [if_pos (by omega), decide_eq_false (by omega)]
    rfl

theorem f195_loop {n : Nat} {l : List Int} (hl : l.length ≤ 1048576) : ∀ (m i : Nat), i ≤ l.length → l.length < i + m → ∃ r, f195_L2 n m l (l.length : Int) (i : Int) (fun z => some z) (fun (_ : Unit) => some (-1)) = some r ∧ decide (r ≥ 0) = !(l.drop i).all limb
  | 0, i, hi, hm => by omega
  | m + 1, i, hi, hm => by
    rw [f195_L2_s]
    unfold f195_L2B
    dsimp only
    rw [Bool.cond_decide]
    by_cases h : i < l.length
    · rw [if_pos (by omega), gd_pos (by simp; try omega)]
      simp only [Int.toNat_natCast]
      have e : f180 n (l.getD i 0) = some (!limb (l.getD i 0)) := by
        unfold f180 limb
        rw [Bool.cond_decide]
        generalize l.getD i 0 = x
        by_cases h1 : x < 0
        · rw [if_pos h1, decide_eq_false (by omega)]; rfl
        · rw [if_neg h1]
          by_cases h2 : x ≤ 9999
          · rw [decide_eq_false (by omega), decide_eq_true (by omega)]; rfl
          · rw [decide_eq_true (by omega), decide_eq_false (by omega)]; rfl
      rw [e, ob_some, alldrop h 0]
      cases hp : limb (l.getD i 0) with
      | true =>
        rw [W_id (x := (i : Int) + 1) (by omega) (by omega)]
        simp only [Bool.not_true, cond_false, Bool.true_and]
        exact f195_loop hl m (i + 1) (by omega) (by omega)
      | false =>
        exact ⟨i, rfl, by simp⟩
    · rw [if_neg (by omega), List.drop_of_length_le (by omega)]
      exact ⟨-1, rfl, rfl⟩

theorem f179_eq {n : Nat} {l : List Int} (hl : l.length ≤ 1048576) (hn : 1048577 ≤ n) : f179 n l () = some (!l.all limb) := by
  unfold f179 f195
  obtain ⟨r, h1, h2⟩ := f195_loop (n := n) hl n 0 (by omega) (by omega)
  have h1 : f195_L2 n n l (l.length : Int) 0 _ _ = _ := h1
  rw [h1, ob_some, h2, List.drop_zero]

theorem f134_eq {n : Nat} {l : List Int} (hn : 1048577 ≤ n) : f134 n l = some (nok l) := by
  unfold f134 nok
  rw [Bool.cond_decide]
  by_cases h : l.length ≤ 40
  · rw [if_neg (by omega), decide_eq_true h, Bool.true_and, Bool.cond_decide]
    cases l with
    | nil => rw [if_neg (by simp), f179_eq (by omega) hn]; rfl
    | cons x r =>
      rw [if_pos (by simp), W_id (x := ((x :: r).length : Int) - 1) (by omega) (by omega), gd_pos (by simp; omega), show (((x :: r).length : Int) - 1).toNat = (x :: r).length - 1 by omega]
      rw [f179_eq (by omega) hn, ob_some, Bool.not_not, Bool.cond_eq_ite]
      by_cases hz : (x :: r).getD ((x :: r).length - 1) 0 = 0
      · rw [if_pos (by rw [hz]; rfl), hz]; simp
      · rw [if_neg (by rw [beq_iff_eq]; exact hz)]
        cases ha : (x :: r).all limb with
        | false => rfl
        | true =>
          have : limb ((x :: r).getD ((x :: r).length - 1) 0) = true := by
            rw [List.all_eq_true] at ha
            apply ha
            rw [List.getD_eq_getElem?_getD, List.getElem?_eq_getElem (by simp)]
            simp only [Option.getD_some]
            exact List.getElem_mem _
          unfold limb at this
          rw [decide_eq_true_eq] at this
          rw [decide_eq_true (by omega)]
          simp
  · rw [if_pos (by omega), decide_eq_false h]; rfl

theorem len0 {α : Type} (l : List α) : ((l.length : Int) == 0) = l.isEmpty := by
  cases l with
  | nil => rfl
  | cons x r => rw [beq_eq_false_iff_ne.2 (by simp; omega)]; rfl

/-- a rational that is well formed -/
def rok (x : Rt) : Bool := nok x.2.1 && nok x.2.2 && !x.2.2.isEmpty && !(x.2.1.isEmpty && x.1) && decide (Nat.gcd (vl x.2.1).toNat (vl x.2.2).toNat = 1)

theorem dg_one : dg 1 = [1] := by rw [dg_pos (by omega), show 1 / 10000 = 0 from rfl, dg_zero]; rfl

theorem cm_one {g : Nat} : (cm (g : Int) ((1 : Nat) : Int) == 0) = decide (g = 1) := by
  unfold cm
  by_cases h : g = 1
  · subst h; rfl
  · rw [decide_eq_false h]
    by_cases h2 : (g : Int) < (1 : Nat)
    · rw [if_pos h2]; rfl
    · rw [if_neg h2, if_neg (by omega)]; rfl

theorem gcd_len {a b : Nat} (ha : (dg a).length ≤ 40) (hb : (dg b).length ≤ 40) : (dg (Nat.gcd a b)).length ≤ 40 := by
  rcases Nat.eq_zero_or_pos a with rfl | h
  · rw [Nat.gcd_zero_left]; exact hb
  · exact Nat.le_trans (len_mono (Nat.gcd_le_left b h)) ha

theorem f66_eq {n : Nat} {x : Rt} (hn : 1048577 ≤ n) : f66 n x = some (rok x) := by
  obtain ⟨s, a, b⟩ := x
  unfold f66 rok
  dsimp only
  simp only [len0]
  rw [f126_eq hn, ob_some, f126_eq hn, ob_some]
  cases ha : nok a with
  | false => rfl
  | true =>
    cases hb : nok b with
    | false => rfl
    | true =>
      obtain ⟨ca, la⟩ := nok_Cn ha
      obtain ⟨cb, lb⟩ := nok_Cn hb
      have ea := dg_vl ca
      have eb := dg_vl cb
      have hg : f128 n a b = some (dg (Nat.gcd (vl a).toNat (vl b).toNat)) := by
        conv => lhs; rw [← ea, ← eb]
        exact s_gcd (L := 40) (by omega) (by omega) (by rw [ea]; exact la) (by rw [eb]; exact lb)
      have hgl := gcd_len (a := (vl a).toNat) (b := (vl b).toNat) (by rw [ea]; exact la) (by rw [eb]; exact lb)
      rw [hg, ob_some, ← dg_one, s_cmp (by omega) (by omega), ob_some, cm_one]
      cases b <;> cases a <;> cases s <;> simp

theorem f78_eq {n : Nat} {x : Rt} (hn : 1048577 ≤ n) : f78 n x = some (rok x) := by
  obtain ⟨s, a, b⟩ := x
  unfold f78 rok
  dsimp only
  rw [f134_eq hn, ob_some, f134_eq hn, ob_some]
  cases ha : nok a with
  | false => rfl
  | true =>
    cases hb : nok b with
    | false => rfl
    | true =>
      obtain ⟨ca, la⟩ := nok_Cn ha
      obtain ⟨cb, lb⟩ := nok_Cn hb
      have ea := dg_vl ca
      have eb := dg_vl cb
      have hg : f137 n a b = some (dg (Nat.gcd (vl a).toNat (vl b).toNat)) := by
        conv => lhs; rw [← ea, ← eb]
        exact i_gcd (L := 40) (by omega) (by omega) (by rw [ea]; exact la) (by rw [eb]; exact lb)
      have hgl := gcd_len (a := (vl a).toNat) (b := (vl b).toNat) (by rw [ea]; exact la) (by rw [eb]; exact lb)
      rw [hg, ob_some, show f138 n = some [1] from rfl, ob_some, ← dg_one, i_cmp (by omega), ob_some, cm_one, show f135 n (s, a, b) = some ((a.length : Int) == 0) from rfl, ob_some, len0, len0]
      cases b <;> cases a <;> cases s <;> simp

theorem f177_loop {n : Nat} {l : List Rt} (hl : l.length ≤ 1048576) (hn : 1048577 ≤ n) : ∀ (m i : Nat), i ≤ l.length → l.length < i + m → ∃ r, f177_L2 n m l (l.length : Int) (i : Int) (fun z => some z) (fun (_ : Unit) => some (-1)) = some r ∧ decide (r ≥ 0) = !(l.drop i).all rok
  | 0, i, hi, hm => by omega
  | m + 1, i, hi, hm => by
    rw [f177_L2_s]
    unfold f177_L2B
    dsimp only
    rw [Bool.cond_decide]
    by_cases h : i < l.length
    · rw [if_pos (by omega), gd_pos (by simp; try omega)]
      simp only [Int.toNat_natCast]
      have e : f131 n (l.getD i rt0) = some (!rok (l.getD i rt0)) := by
        unfold f131
        rw [f78_eq hn, ob_some]
      rw [e, ob_some, alldrop h rt0]
      cases hp : rok (l.getD i rt0) with
      | true =>
        rw [W_id (x := (i : Int) + 1) (by omega) (by omega)]
        simp only [Bool.not_true, cond_false, Bool.true_and]
        exact f177_loop hl hn m (i + 1) (by omega) (by omega)
      | false => exact ⟨i, rfl, by simp⟩
    · rw [if_neg (by omega), List.drop_of_length_le (by omega)]
      exact ⟨-1, rfl, rfl⟩

theorem f130_eq {n : Nat} {l : List Rt} (hl : l.length ≤ 1048576) (hn : 1048577 ≤ n) : f130 n l () = some (!l.all rok) := by
  unfold f130 f177
  obtain ⟨r, h1, h2⟩ := f177_loop (n := n) hl hn n 0 (by omega) (by omega)
  have h1 : f177_L2 n n l (l.length : Int) 0 _ _ = _ := h1
  rw [h1, ob_some, h2, List.drop_zero]

theorem f68_eq {n : Nat} {l : List Rt} (hl : l.length ≤ 1048576) (hn : 1048577 ≤ n) : f68 n l = some (if l.all rok = true then 0 else 1) := by
  unfold f68
  rw [f130_eq hl hn, ob_some]
  cases l.all rok <;> rfl

def vok (l : List Rt) : Bool := decide (1 ≤ l.length ∧ l.length ≤ 4) && l.all rok

theorem f76_loop {α : Type} {n : Nat} {l : List Rt} (hl : l.length ≤ 1048576) (hn : 1048577 ≤ n) {k0 : Bool → Option α} {k1 : List Rt → Option α} : ∀ (m i : Nat), i ≤ l.length → l.length < i + m → f76_L4 n m l (i : Int) k0 k1 = if (l.drop i).all rok = true then k1 l else k0 false
  | 0, i, hi, hm => by omega
  | m + 1, i, hi, hm => by
    rw [f76_L4_s]
    unfold f76_L4B
    dsimp only
    rw [Bool.cond_decide]
    by_cases h : i < l.length
    · rw [if_pos (by omega), gd_pos (by simp; try omega)]
      simp only [Int.toNat_natCast]
      rw [f66_eq hn, ob_some, alldrop h rt0]
      cases hp : rok (l.getD i rt0) with
      | true =>
        rw [W_id (x := (i : Int) + 1) (by omega) (by omega)]
        simp only [Bool.not_true, cond_false, Bool.true_and]
        exact f76_loop hl hn m (i + 1) (by omega) (by omega)
      | false => simp
    · rw [if_neg (by omega), List.drop_of_length_le (by omega)]
      rfl

theorem f76_eq {n : Nat} {l : List Rt} (hn : 1048577 ≤ n) : f76 n l = some (vok l) := by
  unfold f76 vok
  rw [Bool.cond_decide]
  by_cases h : l.length ≤ 4096
  · rw [if_neg (by omega)]
    have h1 := f76_loop (n := n) (l := l) (by omega) hn (k0 := fun z_3 => some z_3) (k1 := fun z_4 => (
        ob (f65 n (z_4.length : Int) 1 4) fun r_5 =>
        some r_5)) n 0 (by omega) (by omega)
    have h1 : f76_L4 n n l 0 _ _ = _ := h1
    rw [h1, List.drop_zero, f65_eq, ob_some]
    have e : decide ((1 : Int) ≤ (l.length : Int) ∧ (l.length : Int) ≤ 4) = decide (1 ≤ l.length ∧ l.length ≤ 4) := by
      apply decide_eq_decide.2; omega
    rw [e]
    cases l.all rok <;> simp
  · rw [if_pos (by omega), decide_eq_false (by omega)]; rfl

theorem f110_eq {n : Nat} {l : List Rt} (hn : 1048577 ≤ n) : f110 n l = some (vok l) := by
  unfold f110 vok
  rw [Bool.cond_decide, Bool.cond_decide]
  by_cases h : 1 ≤ l.length ∧ l.length ≤ 4
  · rw [if_pos (by omega), if_pos (by omega), f68_eq (by omega) hn, decide_eq_true h, ob_some]
    cases l.all rok <;> rfl
  · rw [decide_eq_false h]
    split
    · rw [if_neg (by omega)]; rfl
    · rfl

theorem f178_loop {n : Nat} {l : List Int} (hl : l.length ≤ 1048576) : ∀ (m i : Nat), i ≤ l.length → l.length < i + m → ∃ c, f178_L2 n m 4096 l (l.length : Int) (i : Int) (fun z => some z) (fun (_ : Unit) => some 0) = some c ∧ ((c = 0 ∧ ∀ x ∈ l.drop i, x ≤ 4096) ∨ (c = 2 ∧ ∃ x ∈ l, 4096 < x))
  | 0, i, hi, hm => by omega
  | m + 1, i, hi, hm => by
    rw [f178_L2_s]
    unfold f178_L2B
    dsimp only
    rw [Bool.cond_decide]
    by_cases h : i < l.length
    · rw [if_pos (by omega), gd_pos (by simp; try omega)]
      simp only [Int.toNat_natCast]
      rw [Bool.cond_decide]
      by_cases hx : 4096 < l.getD i 0
      · rw [if_pos hx]
        refine ⟨2, rfl, .inr ⟨rfl, l.getD i 0, ?_, hx⟩⟩
        rw [List.getD_eq_getElem?_getD, List.getElem?_eq_getElem h]
        exact List.getElem_mem h
      · rw [if_neg hx, W_id (x := (i : Int) + 1) (by omega) (by omega)]
        obtain ⟨c, h1, h2⟩ := f178_loop (n := n) hl m (i + 1) (by omega) (by omega)
        refine ⟨c, h1, h2.imp (fun ⟨e, h3⟩ => ⟨e, fun x hx' => ?_⟩) (fun h => h)⟩
        rw [List.drop_eq_getElem_cons h] at hx'
        rcases List.mem_cons.1 hx' with rfl | hx'
        · rw [List.getD_eq_getElem?_getD, List.getElem?_eq_getElem h] at hx
          exact Int.not_lt.1 hx
        · exact h3 x hx'
    · rw [if_neg (by omega)]
      refine ⟨0, rfl, .inl ⟨rfl, fun x hx => ?_⟩⟩
      rw [List.drop_of_length_le (by omega)] at hx
      cases hx

theorem f133_loop {α : Type} {n : Nat} {L : List (List Rt)} (hl : L.length ≤ 1048576) {k0 : List Int → Option α} : ∀ (m i : Nat) (o : List Int), o.length ≤ i → i ≤ L.length → L.length < i + m → f133_L3 n m L (L.length : Int) (i : Int) o k0 = k0 (o ++ (L.drop i).map fun v => (v.length : Int))
  | 0, i, o, ho, hi, hm => by omega
  | m + 1, i, o, ho, hi, hm => by
    rw [f133_L3_s]
    unfold f133_L3B
    dsimp only
    rw [Bool.cond_decide]
    by_cases h : i < L.length
    · rw [if_pos (by omega), gd_pos (by simp; try omega), gd_pos (by simp only [decide_eq_true_eq]; omega)]
      simp only [Int.toNat_natCast]
      rw [W_id (x := (i : Int) + 1) (by omega) (by omega), show (i : Int) + 1 = ((i + 1 : Nat) : Int) from rfl, f133_loop hl m (i + 1) _ (by simp; omega) (by omega) (by omega), List.drop_eq_getElem_cons h, List.getD_eq_getElem?_getD, List.getElem?_eq_getElem h, List.append_assoc]
      rfl
    · rw [if_neg (by omega), List.drop_of_length_le (by omega)]
      simp

theorem f133_eq {n : Nat} {L : List (List Rt)} (hl : L.length ≤ 1048576) (hn : 1048577 ≤ n) : ∃ c, f133 n L = some c ∧ ((c = 0 ∧ ∀ v ∈ L, v.length ≤ 4096) ∨ (c = 2 ∧ ∃ v ∈ L, 4096 < v.length)) := by
  unfold f133
  have h1 := f133_loop (n := n) (L := L) hl (k0 := fun z_1 => (
      ob (f178 n 4096 z_1) fun r_2 =>
      some r_2)) n 0 [] (by simp) (by omega) (by omega)
  have h1 : f133_L3 n n L (L.length : Int) 0 [] _ = _ := h1
  rw [h1, List.drop_zero, List.nil_append]
  unfold f178
  obtain ⟨c, h2, h3⟩ := f178_loop (n := n) (l := L.map fun v => (v.length : Int)) (by simpa using hl) n 0 (by omega) (by simp; omega)
  have h2 : f178_L2 n n 4096 _ _ 0 _ _ = _ := h2
  refine ⟨c, by rw [h2, ob_some], h3.imp (fun ⟨e, h⟩ => ⟨e, fun v hv => by have := h _ (by rw [List.drop_zero]; exact List.mem_map.2 ⟨v, hv, rfl⟩); omega⟩) fun ⟨e, x, hx, hx'⟩ => ⟨e, ?_⟩⟩
  obtain ⟨v, hv, rfl⟩ := List.mem_map.1 hx
  exact ⟨v, hv, by omega⟩

theorem f77_loop5 {α : Type} {n : Nat} {L : List (List Rt)} (hl : L.length ≤ 1048576) (hn : 1048577 ≤ n) {k0 : Int → Option α} {k1 : List (List Rt) → Option α} : ∀ (m i : Nat), i ≤ L.length → L.length < i + m → f77_L5 n m L L (L.length : Int) (i : Int) k0 k1 = if (L.drop i).all vok = true then k1 L else k0 1
  | 0, i, hi, hm => by omega
  | m + 1, i, hi, hm => by
    rw [f77_L5_s]
    unfold f77_L5B
    dsimp only
    rw [Bool.cond_decide]
    by_cases h : i < L.length
    · rw [if_pos (by omega), gd_pos (by simp; try omega)]
      simp only [Int.toNat_natCast]
      rw [f110_eq hn, ob_some, alldrop h []]
      cases hp : vok (L.getD i []) with
      | true =>
        rw [W_id (x := (i : Int) + 1) (by omega) (by omega)]
        simp only [Bool.not_true, cond_false, Bool.true_and]
        exact f77_loop5 hl hn m (i + 1) (by omega) (by omega)
      | false => simp
    · rw [if_neg (by omega), List.drop_of_length_le (by omega)]
      rfl

theorem f77_loop11 {α : Type} {n : Nat} {L : List (List Rt)} (hl : L.length ≤ 1048576) {k0 : Int → Option α} {k1 : Unit → Option α} : ∀ (m i : Nat), i ≤ L.length → L.length < i + m → f77_L11 n m L L (L.length : Int) (i : Int) k0 k1 = if ((L.drop i).all fun v => v.length == (L.getD 0 []).length) = true then k1 () else k0 8
  | 0, i, hi, hm => by omega
  | m + 1, i, hi, hm => by
    rw [f77_L11_s]
    unfold f77_L11B
    dsimp only
    rw [Bool.cond_decide]
    by_cases h : i < L.length
    · rw [if_pos (by omega), gd_pos (by simp; try omega), gd_pos (by simp only [decide_eq_true_eq]; omega)]
      simp only [Int.toNat_natCast]
      rw [alldrop h []]
      by_cases hp : (L.getD i []).length = (L.getD 0 []).length
      · rw [hp, W_id (x := (i : Int) + 1) (by omega) (by omega), bne_self_eq_false, cond_false, BEq.rfl, Bool.true_and]
        exact f77_loop11 hl m (i + 1) (by omega) (by omega)
      · rw [show (((L.getD i []).length : Int) != ((L.getD 0 []).length : Int)) = true by rw [bne_iff_ne]; omega, show ((L.getD i []).length == (L.getD 0 []).length) = false by rw [beq_eq_false_iff_ne]; exact hp]
        simp
    · rw [if_neg (by omega), List.drop_of_length_le (by omega)]
      rfl

theorem f77_eq {n : Nat} {L : List (List Rt)} (hl : L.length ≤ 1048576) (hn : 1048577 ≤ n) : ∃ c, f77 n L = some c ∧ (c == 0) = (L.all vok && L.all fun v => v.length == (L.getD 0 []).length) := by
  unfold f77
  obtain ⟨c, h1, h2⟩ := f133_eq hl hn
  rw [h1, ob_some]
  rcases h2 with ⟨rfl, _⟩ | ⟨rfl, v, hv, hlv⟩
  · rw [bne_self_eq_false, cond_false]
    have h5 := f77_loop5 (n := n) (L := L) hl hn (k0 := fun z_3 => some z_3) (k1 := fun z_4 => (
        f77_L11 n n z_4 z_4 (z_4.length : Int) 0
          (fun z_5 => (
            some z_5))
          (fun (_ : Unit) => (
            some 0)))) n 0 (by omega) (by omega)
    have h5 : f77_L5 n n L L (L.length : Int) 0 _ _ = _ := h5
    rw [h5, List.drop_zero]
    cases L.all vok with
    | false => exact ⟨1, rfl, rfl⟩
    | true =>
      have h6 := f77_loop11 (n := n) (L := L) hl (k0 := fun z_5 => some z_5) (k1 := fun (_ : Unit) => some 0) n 0 (by omega) (by omega)
      have h6 : f77_L11 n n L L (L.length : Int) 0 _ _ = _ := h6
      rw [if_pos rfl, h6, List.drop_zero]
      cases L.all fun v => v.length == (L.getD 0 []).length with
      | false => exact ⟨8, rfl, rfl⟩
      | true => exact ⟨0, rfl, rfl⟩
  · refine ⟨2, rfl, ?_⟩
    have : L.all vok = false := by
      rw [List.all_eq_false]
      refine ⟨v, hv, ?_⟩
      unfold vok
      rw [decide_eq_false (by omega)]
      simp
    rw [this]; rfl

/-- a rational well formed, in numbers -/
theorem rok_nat {x : Rt} (h : rok x = true) : ∃ (s : Bool) (N D : Nat), x = (s, dg N, dg D) ∧ (dg N).length ≤ 40 ∧ (dg D).length ≤ 40 ∧ 0 < D ∧ (s = true → 0 < N) := by
  obtain ⟨s, a, b⟩ := x
  unfold rok at h
  simp only [Bool.and_eq_true, Bool.not_eq_true', decide_eq_true_eq] at h
  obtain ⟨⟨⟨⟨ha, hb⟩, hb0⟩, hs⟩, _⟩ := h
  obtain ⟨ca, la⟩ := nok_Cn ha
  obtain ⟨cb, lb⟩ := nok_Cn hb
  have hb0 : b ≠ [] := by rintro rfl; cases hb0
  refine ⟨s, (vl a).toNat, (vl b).toNat, by rw [dg_vl ca, dg_vl cb], by rw [dg_vl ca]; exact la, by rw [dg_vl cb]; exact lb, ?_, fun e => ?_⟩
  · have := cb.pos hb0; omega
  · have ha0 : a ≠ [] := by rintro rfl; rw [e] at hs; cases hs
    have := ca.pos ha0; omega

theorem dglen0 {m : Nat} : (((dg m).length : Int) == 0) = decide (m = 0) := by
  rw [len0]
  by_cases h : m = 0
  · subst h; rw [dg_zero]; rfl
  · rw [decide_eq_false h, dg_pos h]; rfl

theorem dglenp {m : Nat} : decide (((dg m).length : Int) > 0) = decide (m ≠ 0) := by
  by_cases h : m = 0
  · subst h; rw [dg_zero]; rfl
  · rw [dg_pos h]; simp [h]

/-- the one is greater than the other: by products across -/
def gtP (sa : Bool) (p : Nat) (sb : Bool) (q : Nat) : Bool := decide ((if sb = true then -(q : Int) else q) < (if sa = true then -(p : Int) else p))

def gtR (a b : Rt) : Bool := gtP a.1 ((vl a.2.1).toNat * (vl b.2.2).toNat) b.1 ((vl b.2.1).toNat * (vl a.2.2).toNat)

theorem make146 {n x d : Nat} {s : Bool} (hd : 0 < d) (hx : (dg x).length ≤ 100) (hdl : (dg d).length ≤ 100) (hn : 1048577 ≤ n) : ∃ y, f146 n s (dg x) (dg d) = some y ∧ f120 n y = some (if x = 0 then 0 else if s = true then -1 else 1) := by
  have hg : 0 < Nat.gcd x d := Nat.gcd_pos_of_pos_right x hd
  have hgl : (dg (Nat.gcd x d)).length ≤ 100 := Nat.le_trans (len_mono (Nat.gcd_le_right x hd)) hdl
  have hz : (x / Nat.gcd x d = 0) ↔ x = 0 := by
    constructor
    · intro h
      have := Nat.div_mul_cancel (Nat.gcd_dvd_left x d)
      rw [h, Nat.zero_mul] at this
      exact this.symm
    · intro h; rw [h, Nat.zero_div]
  unfold f146
  rw [s_gcd (L := 100) (by omega) (by omega) hx hdl, ob_some, s_div (L := 100) hg hx hgl (by omega) (by omega), ob_some, s_div (L := 100) hg hdl hgl (by omega) (by omega), ob_some]
  dsimp only
  rw [dglenp]
  generalize hq : x / Nat.gcd x d = q at *
  cases s with
  | true =>
    refine ⟨_, rfl, ?_⟩
    unfold f120 f170
    rw [ob_some]
    dsimp only
    rw [dglen0]
    by_cases h : x = 0
    · rw [decide_eq_true (hz.2 h), if_pos h]; rfl
    · rw [decide_eq_false (fun e => h (hz.1 e)), if_neg h, decide_eq_true (show q ≠ 0 from fun e => h (hz.1 e))]; rfl
  | false =>
    refine ⟨_, rfl, ?_⟩
    unfold f120 f170
    rw [ob_some]
    dsimp only
    rw [dglen0]
    by_cases h : x = 0
    · rw [decide_eq_true (hz.2 h), if_pos h]; rfl
    · rw [decide_eq_false (fun e => h (hz.1 e)), if_neg h]; rfl

theorem gt_same {sa sb sb' : Bool} {p q : Nat} (hp : sa = true → 0 < p) (hq : sb = true → 0 < q) (hs : sb' = (!sb && decide (q ≠ 0))) (he : sa = sb') :
    ((if p + q = 0 then (0 : Int) else if sa = true then -1 else 1) > 0 ↔ (if sb = true then -(q : Int) else q) < (if sa = true then -(p : Int) else p)) ∧ ((if p + q = 0 then (0 : Int) else if sa = true then -1 else 1) < 0 ↔ (if sa = true then -(p : Int) else p) < (if sb = true then -(q : Int) else q)) := by
  refine ⟨?_, ?_⟩
  · cases sa <;> cases sb <;> by_cases hz : q = 0 <;> grind
  · cases sa <;> cases sb <;> by_cases hz : q = 0 <;> grind

theorem gt_ge {sa sb sb' : Bool} {p q : Nat} (hp : sa = true → 0 < p) (hq : sb = true → 0 < q) (hs : sb' = (!sb && decide (q ≠ 0))) (he : sa ≠ sb') (hle : q ≤ p) :
    ((if p - q = 0 then (0 : Int) else if sa = true then -1 else 1) > 0 ↔ (if sb = true then -(q : Int) else q) < (if sa = true then -(p : Int) else p)) ∧ ((if p - q = 0 then (0 : Int) else if sa = true then -1 else 1) < 0 ↔ (if sa = true then -(p : Int) else p) < (if sb = true then -(q : Int) else q)) := by
  refine ⟨?_, ?_⟩
  · by_cases h : p - q = 0
    · rw [if_pos h]
      cases sa <;> cases sb <;> by_cases hz : q = 0 <;> grind
    · rw [if_neg h]
      cases sa <;> cases sb <;> by_cases hz : q = 0 <;> grind
  · by_cases h : p - q = 0
    · rw [if_pos h]
      cases sa <;> cases sb <;> by_cases hz : q = 0 <;> grind
    · rw [if_neg h]
      cases sa <;> cases sb <;> by_cases hz : q = 0 <;> grind

theorem gt_lt {sa sb sb' : Bool} {p q : Nat} (hp : sa = true → 0 < p) (hq : sb = true → 0 < q) (hs : sb' = (!sb && decide (q ≠ 0))) (he : sa ≠ sb') (hle : ¬ q ≤ p) :
    ((if q - p = 0 then (0 : Int) else if sb' = true then -1 else 1) > 0 ↔ (if sb = true then -(q : Int) else q) < (if sa = true then -(p : Int) else p)) ∧ ((if q - p = 0 then (0 : Int) else if sb' = true then -1 else 1) < 0 ↔ (if sa = true then -(p : Int) else p) < (if sb = true then -(q : Int) else q)) := by
  refine ⟨?_, ?_⟩
  · rw [if_neg (by omega)]
    cases sa <;> cases sb <;> by_cases hz : q = 0 <;> grind
  · rw [if_neg (by omega)]
    cases sa <;> cases sb <;> by_cases hz : q = 0 <;> grind

theorem f88_nat {n Na Da Nb Db : Nat} {sa sb : Bool} (a1 : (dg Na).length ≤ 40) (a2 : (dg Da).length ≤ 40) (a3 : 0 < Da) (a4 : sa = true → 0 < Na) (b1 : (dg Nb).length ≤ 40) (b2 : (dg Db).length ≤ 40) (b3 : 0 < Db) (b4 : sb = true → 0 < Nb) (hn : 1048577 ≤ n) :
    ∃ r, f88 n (sa, dg Na, dg Da) (sb, dg Nb, dg Db) = some r ∧ decide (r > 0) = gtP sa (Na * Db) sb (Nb * Da) ∧ decide (r < 0) = gtP sb (Nb * Da) sa (Na * Db) := by
  have l1 := len_mul Na Db
  have l2 := len_mul Nb Da
  have l3 := len_mul Da Db
  have l4 := len_add (Na * Db) (Nb * Da)
  have hd : 0 < Da * Db := Nat.mul_pos a3 b3
  have hp : sa = true → 0 < Na * Db := fun h => Nat.mul_pos (a4 h) b3
  have hq : sb = true → 0 < Nb * Da := fun h => Nat.mul_pos (b4 h) a3
  have hq0 : Nb ≠ 0 ↔ Nb * Da ≠ 0 := by
    constructor
    · intro h; have := Nat.mul_pos (Nat.pos_of_ne_zero h) a3; omega
    · rintro h rfl; rw [Nat.zero_mul] at h; exact h rfl
  have key : ∀ sb' : Bool, sb' = (!sb && decide (Nb ≠ 0)) → ∃ r, (ob (ob (f157 n (sa, dg Na, dg Da) (sb', dg Nb, dg Db)) fun r_2 => some r_2) fun r_1 => ob (f120 n r_1) fun r_2 => some r_2) = some r ∧ decide (r > 0) = gtP sa (Na * Db) sb (Nb * Da) ∧ decide (r < 0) = gtP sb (Nb * Da) sa (Na * Db) := by
    intro sb' hs
    have hsb : sb' = (!sb && decide (Nb * Da ≠ 0)) := by
      rw [hs]; congr 1; exact decide_eq_decide.2 hq0
    unfold f157
    dsimp only
    rw [s_mul (by omega) (by omega), ob_some, s_mul (by omega) (by omega), ob_some, s_mul (by omega) (by omega), ob_some]
    generalize hpe : Na * Db = p at *
    generalize hqe : Nb * Da = q at *
    generalize Da * Db = d at *
    have lp : (dg (p - q)).length ≤ 100 := Nat.le_trans (len_mono (Nat.sub_le p q)) (by omega)
    have lq : (dg (q - p)).length ≤ 100 := Nat.le_trans (len_mono (Nat.sub_le q p)) (by omega)
    unfold gtP
    rw [Bool.cond_eq_ite]
    by_cases he : sa = sb'
    · rw [if_pos (by rw [he]; simp), s_add (by omega) (by omega) (by omega), ob_some]
      obtain ⟨y, e1, e2⟩ := make146 (n := n) (x := p + q) (d := d) (s := sa) hd (by omega) (by omega) hn
      rw [e1, ob_some, ob_some, ob_some, e2, ob_some]
      exact ⟨_, rfl, decide_eq_decide.2 (gt_same hp hq hsb he).1, decide_eq_decide.2 (gt_same hp hq hsb he).2⟩
    · rw [if_neg (by simpa using he), s_cmp (by omega) (by omega), ob_some, Bool.cond_decide]
      by_cases hle : q ≤ p
      · rw [if_pos (by
          rcases Nat.lt_or_eq_of_le hle with h | h
          · rw [cm_gt (by omega)]; omega
          · rw [cm_eq (by omega)]; omega), s_sub (by omega) (by omega) hle, ob_some]
        obtain ⟨y, e1, e2⟩ := make146 (n := n) (x := p - q) (d := d) (s := sa) hd lp (by omega) hn
        rw [e1, ob_some, ob_some, ob_some, e2, ob_some]
        exact ⟨_, rfl, decide_eq_decide.2 (gt_ge hp hq hsb he hle).1, decide_eq_decide.2 (gt_ge hp hq hsb he hle).2⟩
      · rw [if_neg (by rw [cm_lt (by omega)]; omega), s_sub (by omega) (by omega) (by omega), ob_some]
        obtain ⟨y, e1, e2⟩ := make146 (n := n) (x := q - p) (d := d) (s := sb') hd lq (by omega) hn
        rw [e1, ob_some, ob_some, ob_some, e2, ob_some]
        exact ⟨_, rfl, decide_eq_decide.2 (gt_lt hp hq hsb he hle).1, decide_eq_decide.2 (gt_lt hp hq hsb he hle).2⟩
  unfold f88 f150 f187
  dsimp only
  rw [dglenp]
  cases sb with
  | true =>
    have := key false rfl
    simp only [Bool.not_true, cond_false, ob_some]
    exact this
  | false =>
    have := key (decide (Nb ≠ 0)) (by simp)
    simp only [Bool.not_false, cond_true, ob_some]
    exact this

theorem sign148 {n N : Nat} {D : List Int} {s : Bool} : f148 n (s, dg N, D) = some (if N = 0 then 0 else if s = true then -1 else 1) := by
  unfold f148
  rw [show f135 n (s, dg N, D) = some (((dg N).length : Int) == 0) from rfl, ob_some, dglen0]
  by_cases h : N = 0
  · rw [decide_eq_true h, if_pos h]; rfl
  · rw [decide_eq_false h, if_neg h]
    cases s <;> rfl

theorem cmp86_sign {sa sb : Bool} {Na Nb p q : Nat} (hp : Na = 0 ↔ p = 0) (hq : Nb = 0 ↔ q = 0) (ha : sa = true → 0 < p) (hb : sb = true → 0 < q)
    (he : (if Na = 0 then (0 : Int) else if sa = true then -1 else 1) ≠ (if Nb = 0 then (0 : Int) else if sb = true then -1 else 1)) :
    (((if Na = 0 then (0 : Int) else if sa = true then -1 else 1) - (if Nb = 0 then (0 : Int) else if sb = true then -1 else 1)) > 0 ↔ (if sb = true then -(q : Int) else q) < (if sa = true then -(p : Int) else p)) ∧ (((if Na = 0 then (0 : Int) else if sa = true then -1 else 1) - (if Nb = 0 then (0 : Int) else if sb = true then -1 else 1)) < 0 ↔ (if sa = true then -(p : Int) else p) < (if sb = true then -(q : Int) else q)) := by
  refine ⟨?_, ?_⟩
  · by_cases h1 : Na = 0 <;> by_cases h2 : Nb = 0 <;> cases sa <;> cases sb <;> grind
  · by_cases h1 : Na = 0 <;> by_cases h2 : Nb = 0 <;> cases sa <;> cases sb <;> grind

theorem cmp86_cm {sa sb : Bool} {Na Nb p q : Nat} (hp : Na = 0 ↔ p = 0) (hq : Nb = 0 ↔ q = 0) (ha : sa = true → 0 < p) (hb : sb = true → 0 < q)
    (he : (if Na = 0 then (0 : Int) else if sa = true then -1 else 1) = (if Nb = 0 then (0 : Int) else if sb = true then -1 else 1)) :
    ((if sa = true then 0 - cm (p : Int) (q : Int) else cm (p : Int) (q : Int)) > 0 ↔ (if sb = true then -(q : Int) else q) < (if sa = true then -(p : Int) else p)) ∧ ((if sa = true then 0 - cm (p : Int) (q : Int) else cm (p : Int) (q : Int)) < 0 ↔ (if sa = true then -(p : Int) else p) < (if sb = true then -(q : Int) else q)) := by
  refine ⟨?_, ?_⟩
  · rcases Int.lt_trichotomy (p : Int) (q : Int) with h | h | h
    · rw [cm_lt h]
      by_cases h1 : Na = 0 <;> by_cases h2 : Nb = 0 <;> cases sa <;> cases sb <;> grind
    · rw [cm_eq h]
      by_cases h1 : Na = 0 <;> by_cases h2 : Nb = 0 <;> cases sa <;> cases sb <;> grind
    · rw [cm_gt h]
      by_cases h1 : Na = 0 <;> by_cases h2 : Nb = 0 <;> cases sa <;> cases sb <;> grind
  · rcases Int.lt_trichotomy (p : Int) (q : Int) with h | h | h
    · rw [cm_lt h]
      by_cases h1 : Na = 0 <;> by_cases h2 : Nb = 0 <;> cases sa <;> cases sb <;> grind
    · rw [cm_eq h]
      by_cases h1 : Na = 0 <;> by_cases h2 : Nb = 0 <;> cases sa <;> cases sb <;> grind
    · rw [cm_gt h]
      by_cases h1 : Na = 0 <;> by_cases h2 : Nb = 0 <;> cases sa <;> cases sb <;> grind

theorem cm_rng (x y : Int) : -1 ≤ cm x y ∧ cm x y ≤ 1 := by
  unfold cm
  split
  · omega
  · split <;> omega

theorem f86_nat {n Na Da Nb Db : Nat} {sa sb : Bool} (a1 : (dg Na).length ≤ 40) (a2 : (dg Da).length ≤ 40) (a3 : 0 < Da) (a4 : sa = true → 0 < Na) (b1 : (dg Nb).length ≤ 40) (b2 : (dg Db).length ≤ 40) (b3 : 0 < Db) (b4 : sb = true → 0 < Nb) (hn : 1048577 ≤ n) :
    ∃ r, f86 n (sa, dg Na, dg Da) (sb, dg Nb, dg Db) = some r ∧ decide (r > 0) = gtP sa (Na * Db) sb (Nb * Da) ∧ decide (r < 0) = gtP sb (Nb * Da) sa (Na * Db) := by
  have l1 := len_mul Na Db
  have l2 := len_mul Nb Da
  have hp : sa = true → 0 < Na * Db := fun h => Nat.mul_pos (a4 h) b3
  have hq : sb = true → 0 < Nb * Da := fun h => Nat.mul_pos (b4 h) a3
  have hp0 : Na = 0 ↔ Na * Db = 0 := by
    constructor
    · rintro rfl; rw [Nat.zero_mul]
    · intro h
      rcases Nat.mul_eq_zero.1 h with h | h
      · exact h
      · omega
  have hq0 : Nb = 0 ↔ Nb * Da = 0 := by
    constructor
    · rintro rfl; rw [Nat.zero_mul]
    · intro h
      rcases Nat.mul_eq_zero.1 h with h | h
      · exact h
      · omega
  unfold f86
  rw [sign148, ob_some, sign148, ob_some]
  dsimp only
  rw [Bool.cond_eq_ite]
  by_cases he : (if Na = 0 then (0 : Int) else if sa = true then -1 else 1) = (if Nb = 0 then (0 : Int) else if sb = true then -1 else 1)
  · rw [if_neg (by rw [he]; simp), i_mul (by omega) (by omega), ob_some, i_mul (by omega) (by omega), ob_some, i_cmp (by omega), ob_some]
    have hr := cm_rng ((Na * Db : Nat) : Int) ((Nb * Da : Nat) : Int)
    rw [W_id (x := 0 - cm ((Na * Db : Nat) : Int) ((Nb * Da : Nat) : Int)) (by omega) (by omega)]
    refine ⟨if sa = true then 0 - cm ((Na * Db : Nat) : Int) ((Nb * Da : Nat) : Int) else cm ((Na * Db : Nat) : Int) ((Nb * Da : Nat) : Int), by cases sa <;> rfl, ?_⟩
    exact ⟨decide_eq_decide.2 (cmp86_cm hp0 hq0 hp hq he).1, decide_eq_decide.2 (cmp86_cm hp0 hq0 hp hq he).2⟩
  · rw [if_pos (by rw [bne_iff_ne]; exact he), ob_some, ob_some]
    have h1 : -1 ≤ (if Na = 0 then (0 : Int) else if sa = true then -1 else 1) ∧ (if Na = 0 then (0 : Int) else if sa = true then -1 else 1) ≤ 1 := by
      split
      · omega
      · split <;> omega
    have h2 : -1 ≤ (if Nb = 0 then (0 : Int) else if sb = true then -1 else 1) ∧ (if Nb = 0 then (0 : Int) else if sb = true then -1 else 1) ≤ 1 := by
      split
      · omega
      · split <;> omega
    rw [W_id (by omega) (by omega)]
    exact ⟨_, rfl, decide_eq_decide.2 (cmp86_sign hp0 hq0 hp hq he).1, decide_eq_decide.2 (cmp86_sign hp0 hq0 hp hq he).2⟩

theorem gtR_nat {sa sb : Bool} {Na Da Nb Db : Nat} : gtR (sa, dg Na, dg Da) (sb, dg Nb, dg Db) = gtP sa (Na * Db) sb (Nb * Da) := by
  unfold gtR
  dsimp only
  rw [vl_dg, vl_dg, vl_dg, vl_dg]
  rfl

theorem f88_eq {n : Nat} {a b : Rt} (ha : rok a = true) (hb : rok b = true) (hn : 1048577 ≤ n) : ∃ r, f88 n a b = some r ∧ decide (r > 0) = gtR a b ∧ decide (r < 0) = gtR b a := by
  obtain ⟨sa, Na, Da, rfl, a1, a2, a3, a4⟩ := rok_nat ha
  obtain ⟨sb, Nb, Db, rfl, b1, b2, b3, b4⟩ := rok_nat hb
  rw [gtR_nat, gtR_nat]
  exact f88_nat a1 a2 a3 a4 b1 b2 b3 b4 hn

theorem f86_eq {n : Nat} {a b : Rt} (ha : rok a = true) (hb : rok b = true) (hn : 1048577 ≤ n) : ∃ r, f86 n a b = some r ∧ decide (r > 0) = gtR a b ∧ decide (r < 0) = gtR b a := by
  obtain ⟨sa, Na, Da, rfl, a1, a2, a3, a4⟩ := rok_nat ha
  obtain ⟨sb, Nb, Db, rfl, b1, b2, b3, b4⟩ := rok_nat hb
  rw [gtR_nat, gtR_nat]
  exact f86_nat a1 a2 a3 a4 b1 b2 b3 b4 hn

theorem rok_get {l : List Rt} (h : vok l = true) {i : Nat} (hi : i < l.length) : rok (l.getD i rt0) = true := by
  unfold vok at h
  rw [Bool.and_eq_true, List.all_eq_true] at h
  refine h.2 _ ?_
  rw [List.getD_eq_getElem?_getD, List.getElem?_eq_getElem hi]
  exact List.getElem_mem hi

theorem vok_len {l : List Rt} (h : vok l = true) : l.length ≤ 4 := by
  unfold vok at h
  rw [Bool.and_eq_true, decide_eq_true_eq] at h
  exact h.1.2

theorem f114_loop {n : Nat} {a b : List Rt} (ha : vok a = true) (hb : vok b = true) (hab : a.length = b.length) (hn : 1048577 ≤ n) : ∀ (m i : Nat), i ≤ a.length → a.length < i + m →
    ∃ r, f114_L2 n m b a (a.length : Int) (i : Int) (fun z => some z) (fun (_ : Unit) => some true) = some r ∧ (r = true ↔ ∀ j, i ≤ j → j < a.length → gtR (a.getD j rt0) (b.getD j rt0) = false)
  | 0, i, hi, hm => by omega
  | m + 1, i, hi, hm => by
    rw [f114_L2_s]
    unfold f114_L2B
    dsimp only
    have hla := vok_len ha
    rw [Bool.cond_decide]
    by_cases h : i < a.length
    · rw [if_pos (by omega), gd_pos (by simp; try omega), gd_pos (by simp; try omega)]
      simp only [Int.toNat_natCast]
      obtain ⟨r, h1, h2, _⟩ := f86_eq (n := n) (rok_get ha h) (rok_get hb (i := i) (by omega)) hn
      rw [h1, ob_some, h2]
      cases hg : gtR (a.getD i rt0) (b.getD i rt0) with
      | true =>
        refine ⟨false, rfl, ?_⟩
        constructor
        · intro e; cases e
        · intro e; rw [e i (Nat.le_refl _) h] at hg; cases hg
      | false =>
        rw [W_id (x := (i : Int) + 1) (by omega) (by omega)]
        obtain ⟨r', q1, q2⟩ := f114_loop ha hb hab hn m (i + 1) (by omega) (by omega)
        refine ⟨r', q1, q2.trans ⟨fun e j hj hj' => ?_, fun e j hj hj' => e j (by omega) hj'⟩⟩
        rcases Nat.eq_or_lt_of_le hj with rfl | hj
        · exact hg
        · exact e j hj hj'
    · rw [if_neg (by omega)]
      exact ⟨true, rfl, fun _ j hj hj' => by omega, fun _ => rfl⟩

theorem f114_eq {n : Nat} {a b : List Rt} (ha : vok a = true) (hb : vok b = true) (hab : a.length = b.length) (hn : 1048577 ≤ n) :
    ∃ r, f114 n a b = some r ∧ (r = true ↔ ∀ j, j < a.length → gtR (a.getD j rt0) (b.getD j rt0) = false) := by
  unfold f114
  have hla := vok_len ha
  obtain ⟨r, h1, h2⟩ := f114_loop ha hb hab hn n 0 (by omega) (by omega)
  exact ⟨r, h1, h2.trans ⟨fun e j hj => e j (Nat.zero_le _) hj, fun e j _ hj => e j hj⟩⟩

theorem add118 {α : Type} {n : Nat} {a b : List Int} (ha : Cn a) (hb : Cn b) (hN : a.length ≤ 1099511627776) (hNb : b.length ≤ 1099511627776) {k0 : List Int → Option α} : ∀ (m i : Nat) (c : Int) (o : List Int), o.length = i → Lm o → 0 ≤ c → c ≤ 1 →
    vl o + 10000 ^ i * c = vl (a.take i) + vl (b.take i) → (i ≤ max a.length b.length ∨ (i = max a.length b.length + 1 ∧ c = 0 ∧ o.getD (i - 1) 0 ≠ 0)) → max a.length b.length + 2 ≤ i + m →
    f152_L3 n m a b c (i : Int) o k0 = k0 (dg (vl a + vl b).toNat)
  | 0, i, c, o, ho, hlo, hc0, hc1, hv, hq, hm => by omega
  | m + 1, i, c, o, ho, hlo, hc0, hc1, hv, hq, hm => by
    rw [f152_L3_s]
    unfold f152_L3B
    dsimp only
    have fin : a.length ≤ i → b.length ≤ i → c = 0 → o = dg (vl a + vl b).toNat := fun h1 h2 h3 => by
      rw [take_le a h1, take_le b h2, h3] at hv
      have hv' : vl o = vl a + vl b := by simpa using hv
      have : Cn o := Cn.of_ge hlo fun hn => by
        have hl : 0 < o.length := List.length_pos_iff.2 hn
        rcases hq with hq | ⟨hq1, _, hq3⟩
        · have hmx : i = max a.length b.length := by omega
          rw [ho, hv']
          rcases Nat.le_total a.length b.length with hab | hab
          · have h4 := hb.ge (List.length_pos_iff.1 (by omega))
            have h5 := vl_nonneg ha.1
            rw [show i - 1 = b.length - 1 by omega]; omega
          · have h4 := ha.ge (List.length_pos_iff.1 (by omega))
            have h5 := vl_nonneg hb.1
            rw [show i - 1 = a.length - 1 by omega]; omega
        · have h1 := vl_take_suc o (o.length - 1)
          rw [show o.length - 1 + 1 = o.length by omega, List.take_length] at h1
          have h2 := vl_nonneg (hlo.take (o.length - 1))
          have h3 := hlo.get (o.length - 1)
          rw [← ho] at hq3
          have h4 := pw_pos (o.length - 1)
          have h5 : (10000 : Int) ^ (o.length - 1) * 1 ≤ 10000 ^ (o.length - 1) * o.getD (o.length - 1) 0 := Int.mul_le_mul_of_nonneg_left (by omega) (by omega)
          omega
      rw [← hv', dg_vl this]
    have go : ∀ (y : Int), y = c + a.getD i 0 + b.getD i 0 → (i < max a.length b.length ∨ (i = max a.length b.length ∧ 0 < c)) → f152_L3 n m a b (W (Int.tdiv y 10000)) (W ((i : Int) + 1)) (o ++ [Int.tmod y 10000]) k0 = k0 (dg (vl a + vl b).toNat) := by
      intro y hy hi
      have h1 := ha.1.get i
      have h2 := hb.1.get i
      rw [tdv (by omega), tmd (by omega), W_id (by omega) (by omega), W_id (by omega) (by omega)]
      have ta := vl_take_suc a i
      have tb := vl_take_suc b i
      have hyy : y = 10000 * (y / 10000) + y % 10000 := by omega
      refine add118 (n := n) ha hb hN hNb m (i + 1) _ _ (by simp [ho]) (hlo.app (Lm.cons (by omega) Lm.nil)) (by omega) (by omega) ?_ ?_ (by omega)
      · rw [vl_snoc, ho, ta, tb, pw_succ]
        generalize y / 10000 = q at *
        generalize y % 10000 = r at *
        generalize (10000 : Int) ^ i = P at *
        grind
      · rcases hi with hi | ⟨hi, hc⟩
        · exact .inl (by omega)
        · right
          have e1 : a.getD i 0 = 0 := getD_out (by omega)
          have e2 : b.getD i 0 = 0 := getD_out (by omega)
          have e3 : y = 1 := by omega
          subst e3
          refine ⟨by omega, by rfl, ?_⟩
          rw [Nat.add_sub_cancel, ← ho, List.getD_eq_getElem?_getD]
          simp
    have hcases : (i < a.length ∨ i < b.length ∨ 0 < c) → (i < max a.length b.length ∨ (i = max a.length b.length ∧ 0 < c)) := fun h => by
      rcases h with h | h | h
      · exact .inl (by omega)
      · exact .inl (by omega)
      · rcases hq with hq | ⟨_, h0, _⟩
        · omega
        · omega
    have ho2 : (decide ((o.length + 1) * 8 ≤ 140737488355328)) = true := by
      rw [decide_eq_true_eq]
      rcases hq with hq | ⟨hq, _⟩ <;> omega
    have h1 := ha.1.get i
    have h2 := hb.1.get i
    by_cases hA : i < a.length
    · have dA : decide ((i : Int) < (a.length : Int)) = true := by rw [decide_eq_true_eq]; omega
      have dM : decide ((i : Int) < max (a.length : Int) (b.length : Int)) = true := by rw [decide_eq_true_eq]; omega
      simp only [dM, dA, cond_true, Int.toNat_natCast]
      rw [gd_pos (by simp; try omega), W_id (x := c + a.getD i 0) (by omega) (by omega)]
      by_cases hB : i < b.length
      · have dB : decide ((i : Int) < (b.length : Int)) = true := by rw [decide_eq_true_eq]; omega
        simp only [dB, cond_true]
        rw [gd_pos (by simp; try omega), gd_pos ho2, W_id (x := c + a.getD i 0 + b.getD i 0) (by omega) (by omega)]
        exact go _ rfl (hcases (.inl hA))
      · have dB : decide ((i : Int) < (b.length : Int)) = false := by rw [decide_eq_false_iff_not]; omega
        simp only [dB, cond_false]
        rw [gd_pos ho2]
        exact go _ (by rw [getD_out (l := b) (by omega)]; omega) (hcases (.inl hA))
    · have dA : decide ((i : Int) < (a.length : Int)) = false := by rw [decide_eq_false_iff_not]; omega
      by_cases hB : i < b.length
      · have dB : decide ((i : Int) < (b.length : Int)) = true := by rw [decide_eq_true_eq]; omega
        have dM : decide ((i : Int) < max (a.length : Int) (b.length : Int)) = true := by rw [decide_eq_true_eq]; omega
        simp only [dM, dA, dB, cond_true, cond_false, Int.toNat_natCast]
        rw [gd_pos (by simp; try omega), gd_pos ho2, W_id (x := c + b.getD i 0) (by omega) (by omega)]
        exact go _ (by rw [getD_out (l := a) (by omega)]; omega) (hcases (.inr (.inl hB)))
      · have dB : decide ((i : Int) < (b.length : Int)) = false := by rw [decide_eq_false_iff_not]; omega
        have dM : decide ((i : Int) < max (a.length : Int) (b.length : Int)) = false := by rw [decide_eq_false_iff_not]; omega
        simp only [dM, dA, dB, cond_false]
        rw [Bool.cond_decide]
        by_cases hc : 0 < c
        · rw [if_pos (by omega), gd_pos ho2]
          exact go _ (by rw [getD_out (l := a) (by omega), getD_out (l := b) (by omega)]; omega) (hcases (.inr (.inr hc)))
        · rw [if_neg (by omega), fin (by omega) (by omega) (by omega)]

theorem i_add {n a b : Nat} (h : (dg a).length ≤ 1099511627776) (h' : (dg b).length ≤ 1099511627776) (hn : max (dg a).length (dg b).length + 2 ≤ n) : f152 n (dg a) (dg b) = some (dg (a + b)) := by
  unfold f152
  have := add118 (n := n) (Cn_dg a) (Cn_dg b) h h' (k0 := fun z_6 => some z_6) n 0 0 [] rfl Lm.nil (by omega) (by omega) (by simp [vl]) (.inl (by omega)) (by omega)
  have this : f152_L3 n n (dg a) (dg b) 0 0 [] _ = _ := this
  rw [this, vl_dg, vl_dg]
  congr 1

theorem less_step {o P c wi bi v' T y d r : Int} (h : o - P * (c + (bi + 10000 * v')) = T) (hy : y = wi - c - bi) (hd : y = r - 10000 * d) : o + P * (r - wi) - 10000 * P * (d + v') = T := by
  grind

theorem sub120 {α : Type} {n : Nat} {b : List Int} (hb : Lm b) {N : Nat} (hN : N ≤ 1099511627776) {T : Int} {k0 : List Int → Option α} : ∀ (m i : Nat) (c : Int) (o : List Int), o.length = N → Lm o → 0 ≤ c → c ≤ 1 → i ≤ N →
    vl o - 10000 ^ i * (c + vl (b.drop i)) = T → N + 1 ≤ i + m →
    ∃ o' c', f153_L3 n m b c (N : Int) (i : Int) o k0 = k0 o' ∧ o'.length = N ∧ Lm o' ∧ 0 ≤ c' ∧ c' ≤ 1 ∧ vl o' - 10000 ^ N * (c' + vl (b.drop N)) = T
  | 0, i, c, o, ho, hlo, hc0, hc1, hi, hv, hm => by omega
  | m + 1, i, c, o, ho, hlo, hc0, hc1, hi, hv, hm => by
    rw [f153_L3_s]
    unfold f153_L3B
    dsimp only
    by_cases hA : i < N
    · rw [Bool.cond_decide, if_pos (by omega), gd_pos (by simp; try omega), gd_pos (by simp; try omega)]
      have h1 := hlo.get i
      have h2 := hb.get i
      simp only [Int.toNat_natCast]
      have go : ∀ (d r : Int), d = (if o.getD i 0 - c - b.getD i 0 < 0 then 1 else 0) → r = o.getD i 0 - c - b.getD i 0 + 10000 * d → ∃ o' c', f153_L3 n m b d (N : Int) (W ((i : Int) + 1)) (o.set i r) k0 = k0 o' ∧ o'.length = N ∧ Lm o' ∧ 0 ≤ c' ∧ c' ≤ 1 ∧ vl o' - 10000 ^ N * (c' + vl (b.drop N)) = T := by
        intro d r hd hr
        have hd1 : 0 ≤ d ∧ d ≤ 1 ∧ 0 ≤ r ∧ r < 10000 := by
          rw [hr, hd]
          split <;> omega
        rw [W_id (x := (i : Int) + 1) (by omega) (by omega)]
        refine sub120 (n := n) hb hN m (i + 1) d _ (by simpa using ho) (hlo.set _ (by omega)) (by omega) (by omega) (by omega) ?_ (by omega)
        rw [vl_set _ (by omega), pw_succ]
        refine less_step (bi := b.getD i 0) (y := o.getD i 0 - c - b.getD i 0) ?_ rfl (by omega)
        rw [← vl_drop']; exact hv
      have go2 : ∀ y : Int, y = o.getD i 0 - c - b.getD i 0 → ∃ o' c', (bif (decide (y < 0)) then
            gd (decide (0 ≤ (i : Int)) && decide ((i : Int) < (o.length : Int))) (
              gd (decide (i < o.length)) (
                f153_L3 n m b 1 (N : Int) (W ((i : Int) + 1)) (o.set i (W (y + 10000))) k0))
          else
            gd (decide (0 ≤ (i : Int)) && decide ((i : Int) < (o.length : Int))) (
              gd (decide (i < o.length)) (
                f153_L3 n m b 0 (N : Int) (W ((i : Int) + 1)) (o.set i y) k0))) = k0 o' ∧ o'.length = N ∧ Lm o' ∧ 0 ≤ c' ∧ c' ≤ 1 ∧ vl o' - 10000 ^ N * (c' + vl (b.drop N)) = T := by
        intro y hy
        rw [Bool.cond_decide]
        by_cases hneg : y < 0
        · rw [if_pos hneg, gd_pos (by simp; try omega), gd_pos (by simp; try omega), W_id (x := y + 10000) (by omega) (by omega)]
          exact go 1 _ (by rw [if_pos (by omega)]) (by omega)
        · rw [if_neg hneg, gd_pos (by simp; try omega), gd_pos (by simp; try omega)]
          exact go 0 _ (by rw [if_neg (by omega)]) (by omega)
      by_cases hB : i < b.length
      · have dB : decide ((i : Int) < (b.length : Int)) = true := by rw [decide_eq_true_eq]; omega
        simp only [dB, cond_true]
        rw [gd_pos (by simp; try omega)]
        simp only [W_id (x := o.getD i 0 - c) (by omega) (by omega), W_id (x := o.getD i 0 - c - b.getD i 0) (by omega) (by omega)]
        exact go2 _ rfl
      · have dB : decide ((i : Int) < (b.length : Int)) = false := by rw [decide_eq_false_iff_not]; omega
        simp only [dB, cond_false]
        simp only [W_id (x := o.getD i 0 - c) (by omega) (by omega)]
        exact go2 _ (by rw [getD_out (l := b) (by omega)]; omega)
    · rw [Bool.cond_decide, if_neg (by omega)]
      obtain rfl : i = N := by omega
      exact ⟨o, c, rfl, ho, hlo, hc0, hc1, hv⟩

theorem i_sub {n a b : Nat} (h : (dg a).length ≤ 1099511627000) (hn : (dg a).length + 1 ≤ n) (hab : b ≤ a) (ha : 0 < a) : f153 n (dg a) (dg b) = some (dg (a - b)) := by
  have hlab := len_mono hab
  unfold f153
  rw [f132B_eq n (by omega) (fun e => by have := dg_nil.1 e; omega), ob_some]
  obtain ⟨o, c, h1, h2, h3, h4, h5, h6⟩ := sub120 (n := n) (Lm_dg b) (N := (dg a).length) (by omega) (T := (a : Int) - b) (k0 := fun z_4 => (
      ob (f186 n z_4) fun r_5 =>
      some r_5)) n 0 0 (dg a) rfl (Lm_dg a) (by omega) (by omega) (by omega) (by rw [List.drop_zero, vl_dg, vl_dg, Int.pow_zero, Int.one_mul, Int.zero_add]) (by omega)
  have h1 : f153_L3 n n (dg b) 0 ((dg a).length : Int) 0 (dg a) _ = _ := h1
  rw [List.drop_of_length_le (by omega)] at h6
  have h7 := vl_lt h3
  rw [h2] at h7
  have h8 := vl_nonneg h3
  have : c = 0 := by
    rcases Int.lt_or_eq_of_le h4 with h | h
    · have : c = 1 := by omega
      rw [this] at h6
      simp only [vl, Int.add_zero, Int.mul_one] at h6
      generalize (10000 : Int) ^ (dg a).length = P at *
      omega
    · exact h.symm
  rw [this] at h6
  simp only [vl, Int.add_zero, Int.mul_zero, Int.sub_zero] at h6
  rw [h1, f186_eq h3 (by omega) (by omega), ob_some, h6, show ((a : Int) - (b : Int)).toNat = a - b by omega]

def rq (x : Rat) : Rt := (decide (x.num < 0), dg x.num.natAbs, dg x.den)

def mq (s : Bool) (a d : Nat) : Rat := mkRat (if s = true then -(a : Int) else a) d

def Sz (x : Rat) (L : Nat) : Prop := (dg x.num.natAbs).length ≤ L ∧ (dg x.den).length ≤ L

theorem natAbs_sg (s : Bool) (a : Nat) : (if s = true then -(a : Int) else a).natAbs = a := by cases s <;> simp

theorem mq_num {s : Bool} {a d : Nat} (hd : 0 < d) : (mq s a d).num = if s = true then -((a / Nat.gcd a d : Nat) : Int) else ((a / Nat.gcd a d : Nat) : Int) := by
  unfold mq
  rw [Rat.num_mkRat, if_neg (by omega), natAbs_sg, Nat.gcd_comm d a]
  cases s with
  | false => simp
  | true =>
    simp only [if_true]
    rw [Int.neg_ediv_of_dvd (by exact_mod_cast Nat.gcd_dvd_left a d)]
    simp

theorem mq_den {s : Bool} {a d : Nat} (hd : 0 < d) : (mq s a d).den = d / Nat.gcd a d := by
  unfold mq
  rw [Rat.den_mkRat, if_neg (by omega), natAbs_sg, Nat.gcd_comm d a]

theorem rq_mq {s : Bool} {a d : Nat} (hd : 0 < d) : rq (mq s a d) = (s && decide (a / Nat.gcd a d ≠ 0), dg (a / Nat.gcd a d), dg (d / Nat.gcd a d)) := by
  unfold rq
  rw [mq_num hd, mq_den hd]
  generalize a / Nat.gcd a d = q
  cases s with
  | false => simp
  | true =>
    simp only [if_true, Bool.true_and, Int.natAbs_neg, Int.natAbs_natCast]
    congr 1
    apply decide_eq_decide.2
    omega

theorem Sz_mq {s : Bool} {a d L : Nat} (hd : 0 < d) (h1 : (dg a).length ≤ L) (h2 : (dg d).length ≤ L) : Sz (mq s a d) L := by
  unfold Sz
  rw [mq_num hd, mq_den hd, natAbs_sg]
  exact ⟨Nat.le_trans (len_mono (Nat.div_le_self _ _)) h1, Nat.le_trans (len_mono (Nat.div_le_self _ _)) h2⟩

/-- the reference's lowest terms -/
theorem s_make {n L x d : Nat} {s : Bool} (hd : 0 < d) (hx : (dg x).length ≤ L) (hdl : (dg d).length ≤ L) (hL : L ≤ 1099511627000) (hn : 28 * L + 10040 ≤ n) : f146 n s (dg x) (dg d) = some (rq (mq s x d)) := by
  have hg : 0 < Nat.gcd x d := Nat.gcd_pos_of_pos_right x hd
  have hgl : (dg (Nat.gcd x d)).length ≤ L := Nat.le_trans (len_mono (Nat.gcd_le_right x hd)) hdl
  rw [rq_mq hd]
  unfold f146
  rw [s_gcd hL hn hx hdl, ob_some, s_div hg hx hgl hL (by omega), ob_some, s_div hg hdl hgl hL (by omega), ob_some]
  dsimp only
  rw [dglenp]
  cases s <;> rfl

/-- the subject's lowest terms -/
theorem i_make {n L x d : Nat} {s : Bool} (hd : 0 < d) (hx : (dg x).length ≤ L) (hdl : (dg d).length ≤ L) (hL : L ≤ 1099511627000) (hn : 28 * L + 10040 ≤ n) : f151 n s (dg x) (dg d) = some (rq (mq s x d)) := by
  have hg : 0 < Nat.gcd x d := Nat.gcd_pos_of_pos_right x hd
  have hgl : (dg (Nat.gcd x d)).length ≤ L := Nat.le_trans (len_mono (Nat.gcd_le_right x hd)) hdl
  have hq1 : (dg (x / Nat.gcd x d)).length ≤ L := Nat.le_trans (len_mono (Nat.div_le_self _ _)) hx
  have hq2 : (dg (d / Nat.gcd x d)).length ≤ L := Nat.le_trans (len_mono (Nat.div_le_self _ _)) hdl
  rw [rq_mq hd]
  unfold f151
  dsimp only
  rw [i_gcd hL hn hx hdl, ob_some, show f138 n = some [1] from rfl, ob_some, ← dg_one, i_cmp (by omega), ob_some]
  have fin : ∀ y z : List Int, y = dg (x / Nat.gcd x d) → z = dg (d / Nat.gcd x d) → (bif s then
      ob (f132 n y) fun r_8 =>
      ob (f132 n z) fun r_9 =>
      some ((decide ((y.length : Int) > 0)), r_8, r_9)
    else
      ob (f132 n y) fun r_10 =>
      ob (f132 n z) fun r_11 =>
      some (false, r_10, r_11)) = some (s && decide (x / Nat.gcd x d ≠ 0), dg (x / Nat.gcd x d), dg (d / Nat.gcd x d)) := by
    rintro y z rfl rfl
    rw [f132_eq n (by omega), ob_some, f132_eq n (by omega), ob_some, dglenp]
    cases s <;> rfl
  by_cases h1 : Nat.gcd x d = 1
  · have e : (cm ((Nat.gcd x d : Nat) : Int) ((1 : Nat) : Int) != 0) = false := by rw [h1, cm_eq rfl]; rfl
    rw [e, cond_false]
    exact fin _ _ (by rw [h1, Nat.div_one]) (by rw [h1, Nat.div_one])
  · have e : (cm ((Nat.gcd x d : Nat) : Int) ((1 : Nat) : Int) != 0) = true := by
      rw [bne, cm_one, decide_eq_false h1]; rfl
    rw [e, cond_true, i_div hg hx hgl hL (by omega), ob_some, i_div hg hdl hgl hL (by omega), ob_some]
    exact fin _ _ rfl rfl

theorem num_sg (x : Rat) : x.num = if decide (x.num < 0) = true then -(x.num.natAbs : Int) else x.num.natAbs := by
  by_cases h : x.num < 0
  · rw [decide_eq_true h, if_pos rfl]; omega
  · rw [decide_eq_false h, if_neg (by decide)]; omega

theorem add_same {x y : Rat} (h : decide (x.num < 0) = decide (y.num < 0)) : x + y = mq (decide (x.num < 0)) (x.num.natAbs * y.den + y.num.natAbs * x.den) (x.den * y.den) := by
  rw [Rat.add_def']
  unfold mq
  congr 1
  have hx := num_sg x
  have hy := num_sg y
  rw [← h] at hy
  generalize decide (x.num < 0) = s at *
  generalize x.num.natAbs = p at *
  generalize y.num.natAbs = q at *
  rw [hx, hy]
  cases s with
  | true => simp only [if_true, Int.natCast_add, Int.natCast_mul]; grind
  | false => simp

theorem add_ge {x y : Rat} (h : decide (x.num < 0) ≠ decide (y.num < 0)) (hle : y.num.natAbs * x.den ≤ x.num.natAbs * y.den) : x + y = mq (decide (x.num < 0)) (x.num.natAbs * y.den - y.num.natAbs * x.den) (x.den * y.den) := by
  rw [Rat.add_def']
  unfold mq
  congr 1
  have hx := num_sg x
  have hy := num_sg y
  have h' : decide (y.num < 0) = !decide (x.num < 0) := by
    generalize decide (x.num < 0) = s at h
    generalize decide (y.num < 0) = t at h
    cases s <;> cases t <;> first | rfl | exact absurd rfl h
  rw [h'] at hy
  generalize decide (x.num < 0) = s at *
  generalize x.num.natAbs = p at *
  generalize y.num.natAbs = q at *
  rw [hx, hy, Int.natCast_sub hle]
  cases s with
  | true => simp only [if_true, Int.natCast_mul, Bool.not_true]; simp; grind
  | false => simp only [Int.natCast_mul, Bool.not_false, if_true]; simp; grind

/-- the reference's sum -/
theorem s_plus {n L : Nat} {x y : Rat} (hx : Sz x L) (hy : Sz y L) (hL : 2 * L + 1 ≤ 1099511627000) (hn : 28 * (2 * L + 1) + 10040 ≤ n) : f157 n (rq x) (rq y) = some (rq (x + y)) := by
  obtain ⟨x1, x2⟩ := hx
  obtain ⟨y1, y2⟩ := hy
  have l1 := len_mul x.num.natAbs y.den
  have l2 := len_mul y.num.natAbs x.den
  have l3 := len_mul x.den y.den
  have l4 := len_add (x.num.natAbs * y.den) (y.num.natAbs * x.den)
  have hd : 0 < x.den * y.den := Nat.mul_pos (Nat.pos_of_ne_zero x.den_nz) (Nat.pos_of_ne_zero y.den_nz)
  unfold f157 rq
  dsimp only
  rw [s_mul (by omega) (by omega), ob_some, s_mul (by omega) (by omega), ob_some, s_mul (by omega) (by omega), ob_some, Bool.cond_eq_ite]
  by_cases hs : decide (x.num < 0) = decide (y.num < 0)
  · rw [if_pos (by rw [hs]; simp), s_add (by omega) (by omega) (by omega), ob_some, s_make hd (L := 2 * L + 1) (by omega) (by omega) hL hn, ob_some, add_same hs]; rfl
  · rw [if_neg (by simpa using hs), s_cmp (by omega) (by omega), ob_some, Bool.cond_decide]
    by_cases hle : y.num.natAbs * x.den ≤ x.num.natAbs * y.den
    · have l5 := len_mono (Nat.sub_le (x.num.natAbs * y.den) (y.num.natAbs * x.den))
      rw [if_pos (by
        rcases Nat.lt_or_eq_of_le hle with h | h
        · rw [cm_gt (by omega)]; omega
        · rw [cm_eq (by omega)]; omega), s_sub (by omega) (by omega) hle, ob_some, s_make hd (L := 2 * L + 1) (by omega) (by omega) hL hn, ob_some, add_ge hs hle]; rfl
    · have l5 := len_mono (Nat.sub_le (y.num.natAbs * x.den) (x.num.natAbs * y.den))
      rw [if_neg (by rw [cm_lt (by omega)]; omega), s_sub (by omega) (by omega) (by omega), ob_some, s_make hd (L := 2 * L + 1) (by omega) (by omega) hL hn, ob_some, Rat.add_comm, add_ge (fun e => hs e.symm) (by omega), Nat.mul_comm y.den x.den]; rfl

/-- the subject's sum -/
theorem i_plus {n L : Nat} {x y : Rat} (hx : Sz x L) (hy : Sz y L) (hL : 2 * L + 1 ≤ 1099511627000) (hn : 28 * (2 * L + 1) + 10040 ≤ n) : f90 n (rq x) (rq y) = some (rq (x + y)) := by
  obtain ⟨x1, x2⟩ := hx
  obtain ⟨y1, y2⟩ := hy
  have l1 := len_mul x.num.natAbs y.den
  have l2 := len_mul y.num.natAbs x.den
  have l3 := len_mul x.den y.den
  have l4 := len_add (x.num.natAbs * y.den) (y.num.natAbs * x.den)
  have hd : 0 < x.den * y.den := Nat.mul_pos (Nat.pos_of_ne_zero x.den_nz) (Nat.pos_of_ne_zero y.den_nz)
  unfold f90 rq
  dsimp only
  rw [i_mul (by omega) (by omega), ob_some, i_mul (by omega) (by omega), ob_some, i_mul (by omega) (by omega), ob_some, Bool.cond_eq_ite]
  by_cases hs : decide (x.num < 0) = decide (y.num < 0)
  · rw [if_pos (by rw [hs]; simp), i_add (by omega) (by omega) (by omega), ob_some, i_make hd (L := 2 * L + 1) (by omega) (by omega) hL hn, ob_some, add_same hs]; rfl
  · rw [if_neg (by simpa using hs), i_cmp (by omega), ob_some, Bool.cond_decide]
    by_cases hle : y.num.natAbs * x.den ≤ x.num.natAbs * y.den
    · have l5 := len_mono (Nat.sub_le (x.num.natAbs * y.den) (y.num.natAbs * x.den))
      have hp : 0 < x.num.natAbs * y.den := by
        rcases Nat.eq_zero_or_pos (x.num.natAbs * y.den) with h | h
        · exfalso
          have hyd := y.den_nz
          have hxd := x.den_nz
          have h2 : y.num.natAbs * x.den = 0 := by omega
          have e1 : x.num = 0 := by rcases Nat.mul_eq_zero.1 h with h | h <;> omega
          have e2 : y.num = 0 := by rcases Nat.mul_eq_zero.1 h2 with h | h <;> omega
          exact hs (by rw [e1, e2])
        · exact h
      rw [if_pos (by
        rcases Nat.lt_or_eq_of_le hle with h | h
        · rw [cm_gt (by omega)]; omega
        · rw [cm_eq (by omega)]; omega), i_sub (by omega) (by omega) hle hp, ob_some, i_make hd (L := 2 * L + 1) (by omega) (by omega) hL hn, ob_some, add_ge hs hle]; rfl
    · have l5 := len_mono (Nat.sub_le (y.num.natAbs * x.den) (x.num.natAbs * y.den))
      rw [if_neg (by rw [cm_lt (by omega)]; omega), i_sub (by omega) (by omega) (by omega) (by omega), ob_some, i_make hd (L := 2 * L + 1) (by omega) (by omega) hL hn, ob_some, Rat.add_comm, add_ge (fun e => hs e.symm) (by omega), Nat.mul_comm y.den x.den]; rfl

theorem mul_mq (x y : Rat) : x * y = mq (!(decide (x.num < 0) == decide (y.num < 0))) (x.num.natAbs * y.num.natAbs) (x.den * y.den) := by
  rw [Rat.mul_def']
  unfold mq
  congr 1
  have hx := num_sg x
  have hy := num_sg y
  generalize decide (x.num < 0) = s at *
  generalize decide (y.num < 0) = t at *
  generalize x.num.natAbs = p at *
  generalize y.num.natAbs = q at *
  rw [hx, hy]
  cases s <;> cases t <;> simp [Int.neg_mul, Int.mul_neg]

theorem s_times {n L : Nat} {x y : Rat} (hx : Sz x L) (hy : Sz y L) (hL : 2 * L + 1 ≤ 1099511627000) (hn : 28 * (2 * L + 1) + 10040 ≤ n) : f94 n (rq x) (rq y) = some (rq (x * y)) := by
  obtain ⟨x1, x2⟩ := hx
  obtain ⟨y1, y2⟩ := hy
  have l1 := len_mul x.num.natAbs y.num.natAbs
  have l3 := len_mul x.den y.den
  have hd : 0 < x.den * y.den := Nat.mul_pos (Nat.pos_of_ne_zero x.den_nz) (Nat.pos_of_ne_zero y.den_nz)
  unfold f94 rq
  dsimp only
  rw [s_mul (by omega) (by omega), ob_some, s_mul (by omega) (by omega), ob_some, s_make hd (L := 2 * L + 1) (by omega) (by omega) hL hn, ob_some, mul_mq]; rfl

theorem i_times {n L : Nat} {x y : Rat} (hx : Sz x L) (hy : Sz y L) (hL : 2 * L + 1 ≤ 1099511627000) (hn : 28 * (2 * L + 1) + 10040 ≤ n) : f91 n (rq x) (rq y) = some (rq (x * y)) := by
  obtain ⟨x1, x2⟩ := hx
  obtain ⟨y1, y2⟩ := hy
  have l1 := len_mul x.num.natAbs y.num.natAbs
  have l3 := len_mul x.den y.den
  have hd : 0 < x.den * y.den := Nat.mul_pos (Nat.pos_of_ne_zero x.den_nz) (Nat.pos_of_ne_zero y.den_nz)
  unfold f91 rq
  dsimp only
  rw [i_mul (by omega) (by omega), ob_some, i_mul (by omega) (by omega), ob_some, i_make hd (L := 2 * L + 1) (by omega) (by omega) hL hn, ob_some, mul_mq]; rfl

theorem div_mq {x y : Rat} (hy : y ≠ 0) : x / y = mq (!(decide (x.num < 0) == decide (y.num < 0))) (x.num.natAbs * y.den) (x.den * y.num.natAbs) := by
  have hyn : y.num ≠ 0 := fun e => hy (Rat.num_eq_zero.1 e)
  have key : mq (!(decide (x.num < 0) == decide (y.num < 0))) (x.num.natAbs * y.den) (x.den * y.num.natAbs) * y = x := by
    conv => lhs; rhs; rw [← Rat.mkRat_self y]
    conv => rhs; rw [← Rat.mkRat_self x]
    unfold mq
    rw [Rat.mkRat_mul_mkRat, Rat.mkRat_eq_iff (Nat.mul_ne_zero (Nat.mul_ne_zero x.den_nz (by omega)) y.den_nz) x.den_nz]
    have hx := num_sg x
    have hy := num_sg y
    generalize decide (x.num < 0) = s at *
    generalize decide (y.num < 0) = t at *
    generalize x.num.natAbs = p at *
    generalize y.num.natAbs = q at *
    rw [hx, hy]
    simp only [Int.natCast_mul]
    cases s <;> cases t <;> simp <;> grind
  conv => lhs; rw [← key]
  exact Rat.mul_div_cancel hy

theorem i_over {n L : Nat} {x y : Rat} (hx : Sz x L) (hy : Sz y L) (hy0 : y ≠ 0) (hL : 2 * L + 1 ≤ 1099511627000) (hn : 28 * (2 * L + 1) + 10040 ≤ n) : f113 n (rq x) (rq y) = some (rq (x / y)) := by
  obtain ⟨x1, x2⟩ := hx
  obtain ⟨y1, y2⟩ := hy
  have l1 := len_mul x.num.natAbs y.den
  have l3 := len_mul x.den y.num.natAbs
  have hyn : y.num ≠ 0 := fun e => hy0 (Rat.num_eq_zero.1 e)
  have hd : 0 < x.den * y.num.natAbs := Nat.mul_pos (Nat.pos_of_ne_zero x.den_nz) (by omega)
  unfold f113 rq
  dsimp only
  rw [i_mul (by omega) (by omega), ob_some, i_mul (by omega) (by omega), ob_some, i_make hd (L := 2 * L + 1) (by omega) (by omega) hL hn, ob_some, div_mq hy0]; rfl

theorem Sz.mono {x : Rat} {L M : Nat} (h : Sz x L) (hLM : L ≤ M) : Sz x M := ⟨Nat.le_trans h.1 hLM, Nat.le_trans h.2 hLM⟩

theorem Sz_add {x y : Rat} {L : Nat} (hx : Sz x L) (hy : Sz y L) : Sz (x + y) (2 * L + 1) := by
  obtain ⟨x1, x2⟩ := hx
  obtain ⟨y1, y2⟩ := hy
  have l1 := len_mul x.num.natAbs y.den
  have l2 := len_mul y.num.natAbs x.den
  have l3 := len_mul x.den y.den
  have l4 := len_add (x.num.natAbs * y.den) (y.num.natAbs * x.den)
  have hd : 0 < x.den * y.den := Nat.mul_pos (Nat.pos_of_ne_zero x.den_nz) (Nat.pos_of_ne_zero y.den_nz)
  by_cases hs : decide (x.num < 0) = decide (y.num < 0)
  · rw [add_same hs]; exact Sz_mq hd (by omega) (by omega)
  · by_cases hle : y.num.natAbs * x.den ≤ x.num.natAbs * y.den
    · have l5 := len_mono (Nat.sub_le (x.num.natAbs * y.den) (y.num.natAbs * x.den))
      rw [add_ge hs hle]; exact Sz_mq hd (by omega) (by omega)
    · have l5 := len_mono (Nat.sub_le (y.num.natAbs * x.den) (x.num.natAbs * y.den))
      rw [Rat.add_comm, add_ge (fun e => hs e.symm) (by omega), Nat.mul_comm y.den x.den]; exact Sz_mq hd (by omega) (by omega)

theorem Sz_mul {x y : Rat} {L : Nat} (hx : Sz x L) (hy : Sz y L) : Sz (x * y) (2 * L + 1) := by
  obtain ⟨x1, x2⟩ := hx
  obtain ⟨y1, y2⟩ := hy
  have l1 := len_mul x.num.natAbs y.num.natAbs
  have l3 := len_mul x.den y.den
  rw [mul_mq]
  exact Sz_mq (Nat.mul_pos (Nat.pos_of_ne_zero x.den_nz) (Nat.pos_of_ne_zero y.den_nz)) (by omega) (by omega)

theorem rq_inj {x y : Rat} (h : rq x = rq y) : x = y := by
  unfold rq at h
  simp only [Prod.mk.injEq] at h
  obtain ⟨h1, h2, h3⟩ := h
  have e2 := dg_inj h2
  have e3 := dg_inj h3
  refine Rat.ext ?_ e3
  rw [num_sg x, num_sg y, h1, e2]

abbrev Src := List Int × Int × Int

def SrcOK (P : Int) (s : Src) : Prop := (∀ x ∈ s.1, 0 ≤ x ∧ x ≤ 255) ∧ s.1.length ≤ 1048576 ∧ (0 ≤ s.2.1 ∧ s.2.1 ≤ P) ∧ 0 ≤ s.2.2 ∧ s.2.2 < 2147483648

theorem byte_get {l : List Int} (h : ∀ x ∈ l, 0 ≤ x ∧ x ≤ 255) (k : Nat) : 0 ≤ l.getD k 0 ∧ l.getD k 0 ≤ 255 := by
  rw [List.getD_eq_getElem?_getD]
  cases e : l[k]? with
  | none => simp
  | some x => exact h x (List.mem_of_getElem? e)

theorem tmodB {x m : Int} (h : 0 ≤ x) : Int.tmod x m = x % m := Int.tmod_eq_emod_of_nonneg h

theorem f184_eq {n : Nat} {P : Int} {s : Src} (h : SrcOK P s) (hP : P ≤ 1099511627776) : ∃ b s', f184B n s = some (b, s') ∧ (0 ≤ b ∧ b ≤ 255) ∧ SrcOK (P + 1) s' := by
  obtain ⟨l, p, d⟩ := s
  obtain ⟨h1, h2, ⟨h3, h4⟩, h5, h6⟩ := h
  dsimp only at h1 h2 h3 h4 h5 h6
  unfold f184B
  dsimp only
  rw [W_id (x := p + 1) (by omega) (by omega), W_id (x := p + 1 - 1) (by omega) (by omega), Bool.cond_decide]
  have hb := byte_get h1 (p + 1 - 1).toNat
  by_cases hc : p + 1 ≤ (l.length : Int)
  · rw [if_pos hc, gd_pos (by simp; omega), gd_pos (by simp; omega)]
    generalize l.getD (p + 1 - 1).toNat 0 = b at *
    rw [W_id (x := b) (by omega) (by omega), W_id (x := d * 31) (by omega) (by omega), W_id (x := d * 31 + b) (by omega) (by omega), W_id (x := d * 31 + b + 7) (by omega) (by omega), tmodB (by omega)]
    exact ⟨_, _, rfl, by omega, h1, h2, by dsimp only; omega, by dsimp only; omega, by dsimp only; omega⟩
  · rw [if_neg hc, Bool.cond_decide]
    by_cases hc2 : p + 1 > 3000
    · rw [if_pos hc2]
      exact ⟨_, _, rfl, by omega, h1, h2, by dsimp only; omega, h5, h6⟩
    · rw [if_neg hc2, W_id (x := d * 1103515245) (by omega) (by omega), W_id (x := d * 1103515245 + 12345) (by omega) (by omega), tmodB (x := d * 1103515245 + 12345) (by omega)]
      generalize hz : (d * 1103515245 + 12345) % 2147483648 = z
      have hz2 : 0 ≤ z ∧ z < 2147483648 := by omega
      rw [Int.tdiv_eq_ediv_of_nonneg (a := z) (by omega), W_id (x := z / 65536) (by omega) (by omega), tmodB (x := z / 65536) (by omega)]
      exact ⟨_, _, rfl, by omega, h1, h2, by dsimp only; omega, by dsimp only; omega, by dsimp only; omega⟩

theorem f144_eq {n : Nat} {P k : Int} {s : Src} (h : SrcOK P s) (hP : P ≤ 1099511627000) (hk : 1 < k) (hk' : k ≤ 1048576) : ∃ v s', f144B n s k = some (v, s') ∧ (0 ≤ v ∧ v < k) ∧ SrcOK (P + 3) s' := by
  unfold f144B
  rw [Bool.cond_decide, if_neg (by omega), Bool.cond_decide]
  obtain ⟨b1, s1, e1, r1, o1⟩ := f184_eq (n := n) h (by omega)
  rw [e1]
  by_cases hc : k ≤ 256
  · rw [if_pos hc, ob_some, gd_pos (by simp; omega), tmodB r1.1]
    have := Int.emod_nonneg b1 (show k ≠ 0 by omega)
    have := Int.emod_lt_of_pos b1 (show 0 < k by omega)
    exact ⟨_, _, rfl, by omega, o1.1, o1.2.1, ⟨o1.2.2.1.1, by have := o1.2.2.1.2; show s1.2.1 ≤ P + 3; omega⟩, o1.2.2.2⟩
  · rw [if_neg hc, ob_some]
    obtain ⟨b2, s2, e2, r2, o2⟩ := f184_eq (n := n) o1 (by omega)
    rw [e2, ob_some]
    obtain ⟨b3, s3, e3, r3, o3⟩ := f184_eq (n := n) o2 (by omega)
    rw [e3, ob_some]
    dsimp only
    rw [gd_pos (by simp; omega), W_id (x := b1 * 65536) (by omega) (by omega), W_id (x := b2 * 256) (by omega) (by omega), W_id (x := b1 * 65536 + b2 * 256) (by omega) (by omega), W_id (x := b1 * 65536 + b2 * 256 + b3) (by omega) (by omega), tmodB (by omega)]
    have := Int.emod_nonneg (b1 * 65536 + b2 * 256 + b3) (show k ≠ 0 by omega)
    have := Int.emod_lt_of_pos (b1 * 65536 + b2 * 256 + b3) (show 0 < k by omega)
    exact ⟨_, _, rfl, by omega, o3.1, o3.2.1, ⟨o3.2.2.1.1, by have := o3.2.2.1.2; show s3.2.1 ≤ P + 3; omega⟩, o3.2.2.2⟩

theorem f159_eq {n : Nat} {a : Int} (h : -1000000000 ≤ a ∧ a ≤ 1000000000) (hn : 1048577 ≤ n) : f159 n a = some (decide (a < 0), dg a.natAbs, dg 1) := by
  unfold f159
  rw [Bool.cond_decide, dg_one]
  by_cases hc : a < 0
  · rw [if_pos hc, W_id (x := 0 - a) (by omega) (by omega), show 0 - a = (a.natAbs : Int) by omega, f190_eq (by omega) (by omega), ob_some, decide_eq_true hc]
  · rw [if_neg hc]
    conv => lhs; rw [show a = (a.natAbs : Int) by omega]
    rw [f190_eq (by omega) (by omega), ob_some, decide_eq_false hc]

theorem nok_dg {N : Nat} (h : (dg N).length ≤ 40) : nok (dg N) = true := by
  unfold nok
  have hc := Cn_dg N
  rw [decide_eq_true h, Bool.true_and, Bool.and_eq_true, List.all_eq_true]
  refine ⟨fun x hx => ?_, ?_⟩
  · have := hc.1 x hx
    unfold limb
    rw [decide_eq_true_eq]; omega
  · by_cases hn : dg N = []
    · rw [hn]; rfl
    · have h1 := hc.2 hn
      have h2 := hc.1.get ((dg N).length - 1)
      rw [Bool.or_eq_true]
      right
      rw [decide_eq_true_eq]; omega

theorem rq_rok {x : Rat} (h : Sz x 40) : rok (rq x) = true := by
  obtain ⟨h1, h2⟩ := h
  unfold rok rq
  dsimp only
  have hd : (dg x.den).isEmpty = false := by
    rw [dg_pos x.den_nz]; rfl
  rw [nok_dg h1, nok_dg h2, hd, vl_dg, vl_dg]
  have hg : Nat.gcd (x.num.natAbs : Int).toNat (x.den : Int).toNat = 1 := by
    rw [Int.toNat_natCast, Int.toNat_natCast]; exact x.reduced
  rw [decide_eq_true hg]
  by_cases hz : x.num.natAbs = 0
  · rw [hz, dg_zero, decide_eq_false (by omega)]; rfl
  · rw [dg_pos hz]; rfl

theorem gtR_rq {x y : Rat} : gtR (rq x) (rq y) = decide (y < x) := by
  unfold rq
  rw [gtR_nat]
  unfold gtP
  apply decide_eq_decide.2
  rw [Rat.lt_iff]
  have hx := num_sg x
  have hy := num_sg y
  have e1 : (if decide (y.num < 0) = true then -((y.num.natAbs * x.den : Nat) : Int) else ((y.num.natAbs * x.den : Nat) : Int)) = y.num * x.den := by
    conv => rhs; rw [hy]
    split <;> simp [Int.neg_mul]
  have e2 : (if decide (x.num < 0) = true then -((x.num.natAbs * y.den : Nat) : Int) else ((x.num.natAbs * y.den : Nat) : Int)) = x.num * y.den := by
    conv => rhs; rw [hx]
    split <;> simp [Int.neg_mul]
  rw [e1, e2]

/-- how two rationals lie -/
def sgc (x y : Rat) : Int := if y < x then 1 else if x < y then -1 else 0

theorem sg_of {r : Int} {x y : Rat} (h1 : decide (r > 0) = decide (y < x)) (h2 : decide (r < 0) = decide (x < y)) : min (max r (-1)) 1 = sgc x y := by
  unfold sgc
  have h1 := decide_eq_decide.1 h1
  have h2 := decide_eq_decide.1 h2
  by_cases a : y < x
  · rw [if_pos a]
    have := h1.2 a
    omega
  · rw [if_neg a]
    have b1 : ¬ r > 0 := fun h => a (h1.1 h)
    by_cases b : x < y
    · rw [if_pos b]
      have := h2.2 b
      omega
    · rw [if_neg b]
      have b2 : ¬ r < 0 := fun h => b (h2.1 h)
      omega

theorem f38_eq {n : Nat} {x y : Rat} (hx : Sz x 40) (hy : Sz y 40) (hn : 1048577 ≤ n) : f38 n (rq x) (rq y) = some (sgc x y, 0) := by
  unfold f38
  rw [f68_eq (by simp) hn, ob_some]
  have e : [rq x, rq y].all rok = true := by simp [rq_rok hx, rq_rok hy]
  rw [if_pos e]
  obtain ⟨r, h1, h2, h3⟩ := f86_eq (n := n) (rq_rok hx) (rq_rok hy) hn
  rw [gtR_rq] at h2 h3
  rw [bne_self_eq_false, cond_false, h1, ob_some, sg_of h2 h3]

theorem f40_eq {n : Nat} {x y : Rat} (hx : Sz x 40) (hy : Sz y 40) (hs : Sz (x + y) 40) (hn : 1048577 ≤ n) : f40 n (rq x) (rq y) = some (rq (x + y), 0) := by
  unfold f40; first | unfold f89 | unfold f89b
  rw [f68_eq (by simp) hn, ob_some]
  have e : [rq x, rq y].all rok = true := by simp [rq_rok hx, rq_rok hy]
  rw [if_pos e, bne_self_eq_false, cond_false, i_plus hx hy (by omega) (by omega), ob_some]
  obtain ⟨s1, s2⟩ := hs
  unfold f109 f156 rq
  dsimp only
  rw [decide_eq_true (by omega), decide_eq_true (by omega)]
  rfl

theorem f41_eq {n : Nat} {x y : Rat} (hx : Sz x 40) (hy : Sz y 40) (hs : Sz (x * y) 40) (hn : 1048577 ≤ n) : f41 n (rq x) (rq y) = some (rq (x * y), 0) := by
  unfold f41; first | unfold f89b | unfold f89
  rw [f68_eq (by simp) hn, ob_some]
  have e : [rq x, rq y].all rok = true := by simp [rq_rok hx, rq_rok hy]
  rw [if_pos e, bne_self_eq_false, cond_false, i_times hx hy (by omega) (by omega), ob_some]
  obtain ⟨s1, s2⟩ := hs
  unfold f109 f156 rq
  dsimp only
  rw [decide_eq_true (by omega), decide_eq_true (by omega)]
  rfl

theorem f92_loop {α : Type} {n : Nat} {a b : List Int} (hab : a.length = b.length) (hl : a.length ≤ 1048576) {k0 : Bool → Option α} {k1 : Unit → Option α} : ∀ (m i : Nat), i ≤ a.length → a.length < i + m → f92_L4 n m a b (i : Int) k0 k1 = if a.drop i = b.drop i then k1 () else k0 false
  | 0, i, hi, hm => by omega
  | m + 1, i, hi, hm => by
    rw [f92_L4_s]
    unfold f92_L4B
    rw [Bool.cond_decide]
    by_cases h : i < a.length
    · rw [if_pos (by omega), gd_pos (by simp; omega), gd_pos (by simp; omega)]
      simp only [Int.toNat_natCast]
      have da : a.drop i = a.getD i 0 :: a.drop (i + 1) := by
        rw [List.drop_eq_getElem_cons h, List.getD_eq_getElem?_getD, List.getElem?_eq_getElem h]; rfl
      have db : b.drop i = b.getD i 0 :: b.drop (i + 1) := by
        rw [List.drop_eq_getElem_cons (by omega), List.getD_eq_getElem?_getD, List.getElem?_eq_getElem (by omega)]; rfl
      rw [da, db]
      by_cases hz : a.getD i 0 = b.getD i 0
      · rw [hz, bne_self_eq_false, cond_false, W_id (x := (i : Int) + 1) (by omega) (by omega), show (i : Int) + 1 = ((i + 1 : Nat) : Int) from rfl, f92_loop hab hl m (i + 1) (by omega) (by omega)]
        simp
      · rw [show (a.getD i 0 != b.getD i 0) = true by rw [bne_iff_ne]; exact hz, cond_true, if_neg (fun e => hz (List.cons.inj e).1)]
    · rw [if_neg (by omega), List.drop_of_length_le (by omega), List.drop_of_length_le (by omega), if_pos rfl]

theorem f92_eq {n : Nat} {a b : List Int} (hl : a.length ≤ 1048576) (hn : 1048577 ≤ n) : f92 n a b = some (decide (a = b)) := by
  unfold f92
  rw [Bool.cond_eq_ite]
  by_cases h : a.length = b.length
  · rw [if_neg (by simp [h])]
    have h1 := f92_loop (n := n) h hl (k0 := fun z_1 => some z_1) (k1 := fun (_ : Unit) => some true) n 0 (by omega) (by omega)
    have h1 : f92_L4 n n a b 0 _ _ = _ := h1
    rw [h1, List.drop_zero, List.drop_zero]
    by_cases e : a = b
    · rw [if_pos e, decide_eq_true e]
    · rw [if_neg e, decide_eq_false e]
  · rw [if_pos (by rw [bne_iff_ne]; omega), decide_eq_false (fun e => h (by rw [e]))]

theorem f42_eq {n : Nat} {x y : Rat} (hx : Sz x 1000) (hn : 1048577 ≤ n) : f42 n (rq x) (rq y) = some (decide (x = y)) := by
  obtain ⟨h1, h2⟩ := hx
  unfold f42
  have key : (rq x).1 = (rq y).1 → (rq x).2.1 = (rq y).2.1 → (rq x).2.2 = (rq y).2.2 → x = y := fun a b c => rq_inj (by
    rw [show rq x = ((rq x).1, (rq x).2.1, (rq x).2.2) from rfl, a, b, c])
  rw [Bool.cond_eq_ite]
  by_cases e1 : (rq x).1 = (rq y).1
  · rw [if_pos (by rw [e1]; simp), f92_eq (by show (dg x.num.natAbs).length ≤ _; omega) hn, ob_some, Bool.cond_decide]
    by_cases e2 : (rq x).2.1 = (rq y).2.1
    · rw [if_pos e2, f92_eq (by show (dg x.den).length ≤ _; omega) hn, ob_some]
      by_cases e3 : (rq x).2.2 = (rq y).2.2
      · rw [decide_eq_true e3, decide_eq_true (key e1 e2 e3)]
      · rw [decide_eq_false e3, decide_eq_false (fun e => e3 (by rw [e]))]
    · rw [if_neg e2, decide_eq_false (fun e => e2 (by rw [e]))]
  · rw [if_neg (by simpa using e1), decide_eq_false (fun e => e1 (by rw [e]))]

def vq (x : List Rat) : List Rt := x.map rq

def Sv (x : List Rat) (L : Nat) : Prop := ∀ a ∈ x, Sz a L

def axp (A : Rat) (x y : List Rat) : List Rat := List.zipWith (fun a b => A * a + b) x y

def dotF (acc : Rat) : List Rat → List Rat → Rat
  | a :: x, b :: y => dotF (acc + a * b) x y
  | _, _ => acc

def fitR (x : Rat) : Bool := decide ((dg x.num.natAbs).length ≤ 40) && decide ((dg x.den).length ≤ 40)

theorem fitR_iff {x : Rat} : fitR x = true ↔ Sz x 40 := by unfold fitR Sz; simp

@[simp] theorem vq_len (x : List Rat) : (vq x).length = x.length := by simp [vq]

theorem vq_get {x : List Rat} {i : Nat} (h : i < x.length) : (vq x).getD i (false, [], []) = rq (x.getD i 0) := by
  unfold vq
  rw [List.getD_eq_getElem?_getD, List.getElem?_map, List.getD_eq_getElem?_getD, List.getElem?_eq_getElem h]; rfl

theorem rdrop {x : List Rat} {i : Nat} (h : i < x.length) : x.drop i = x.getD i 0 :: x.drop (i + 1) := by
  rw [List.drop_eq_getElem_cons h, List.getD_eq_getElem?_getD, List.getElem?_eq_getElem h]; rfl

theorem Sv.get {x : List Rat} {L i : Nat} (hs : Sv x L) (h : i < x.length) : Sz (x.getD i 0) L := by
  refine hs _ ?_
  rw [List.getD_eq_getElem?_getD, List.getElem?_eq_getElem h]; exact List.getElem_mem h

theorem Sv.mono {x : List Rat} {L M : Nat} (h : Sv x L) (hLM : L ≤ M) : Sv x M := fun a ha => (h a ha).mono hLM

theorem vok_vq {x : List Rat} (h : Sv x 40) (h1 : 1 ≤ x.length) (h4 : x.length ≤ 4) : vok (vq x) = true := by
  unfold vok
  rw [decide_eq_true (by rw [vq_len]; omega), Bool.true_and, List.all_eq_true]
  intro r hr
  obtain ⟨a, ha, rfl⟩ := List.mem_map.1 hr
  exact rq_rok (h a ha)

theorem f72_rq {n : Nat} {x : Rat} (h : Sz x 1000) : f72 n (rq x) = some (rq x) := by
  obtain ⟨h1, h2⟩ := h
  unfold f72 rq
  dsimp only
  rw [f132_eq n (by omega), ob_some, f132_eq n (by omega), ob_some]

theorem f97_loop {α : Type} {n : Nat} {A : Rat} {x y : List Rat} (hA : Sz A 40) (hx : Sv x 40) (hy : Sv y 40) (hl : x.length = y.length) (h4 : x.length ≤ 4096) (hn : 1048577 ≤ n) {k0 : List Rt → Option α} : ∀ (m i : Nat) (o : List Rt), o.length ≤ i → i ≤ x.length → x.length < i + m →
    f97_L3 n m (rq A, vq x, vq y) (x.length : Int) (i : Int) o k0 = k0 (o ++ vq (axp A (x.drop i) (y.drop i)))
  | 0, i, o, ho, hi, hm => by omega
  | m + 1, i, o, ho, hi, hm => by
    rw [f97_L3_s]
    unfold f97_L3B
    dsimp only
    rw [Bool.cond_decide]
    by_cases h : i < x.length
    · rw [if_pos (by omega)]
      unfold f158
      rw [gd_pos (by simp; omega)]
      dsimp only
      have h1 : Sz (A * x.getD i 0) 81 := Sz_mul hA (hx.get h)
      have hy' := hy.get (i := i) (by omega)
      have h2 : Sz (A * x.getD i 0 + y.getD i 0) 163 := Sz_add h1 (hy'.mono (by omega))
      rw [Int.toNat_natCast, vq_get h, i_times hA (hx.get h) (by omega) (by omega), ob_some, gd_pos (by simp; omega)]
      rw [vq_get (by omega), i_plus h1 (hy'.mono (by omega)) (by omega) (by omega), ob_some, ob_some, f72_rq (h2.mono (by omega)), ob_some, gd_pos (by simp; omega), W_id (x := (i : Int) + 1) (by omega) (by omega)]
      have := f97_loop hA hx hy hl h4 hn (k0 := k0) m (i + 1) (o ++ [rq (A * x.getD i 0 + y.getD i 0)]) (by simp; omega) (by omega) (by omega)
      rw [rdrop h, rdrop (x := y) (by omega)]
      rw [show (i : Int) + 1 = ((i + 1 : Nat) : Int) from rfl, this, List.append_assoc]
      rfl
    · rw [if_neg (by omega), List.drop_of_length_le (by omega), List.drop_of_length_le (by omega)]
      simp [axp, vq]

theorem i_axpy {n : Nat} {A : Rat} {x y : List Rat} (hA : Sz A 40) (hx : Sv x 40) (hy : Sv y 40) (hl : x.length = y.length) (h4 : x.length ≤ 4096) (hn : 1048577 ≤ n) : f100 n (rq A) (vq x) (vq y) = some (vq (axp A x y)) := by
  unfold f100 f97
  have h1 := f97_loop (n := n) hA hx hy hl h4 hn (k0 := fun z_3 => some z_3) n 0 [] (by simp) (by omega) (by omega)
  have h1 : f97_L3 n n (rq A, vq x, vq y) (x.length : Int) 0 [] _ = _ := h1
  rw [vq_len, h1, ob_some]
  simp

theorem f99_loop {α : Type} {n : Nat} {A : Rat} {x y : List Rat} (hA : Sz A 40) (hx : Sv x 40) (hy : Sv y 40) (hl : x.length = y.length) (h4 : x.length ≤ 4096) (hn : 1048577 ≤ n) {k0 : List Rt → Option α} : ∀ (m i : Nat) (o : List Rt), o.length ≤ i → i ≤ x.length → x.length < i + m →
    f99_L3 n m (vq x) (vq y) (i : Int) (rq A).1 (rq A).2.1 (rq A).2.2 o k0 = k0 (o ++ vq (axp A (x.drop i) (y.drop i)))
  | 0, i, o, ho, hi, hm => by omega
  | m + 1, i, o, ho, hi, hm => by
    rw [f99_L3_s]
    unfold f99_L3B
    dsimp only
    rw [Bool.cond_decide, vq_len]
    by_cases h : i < x.length
    · rw [if_pos (by omega), gd_pos (by simp; omega)]
      have h1 : Sz (A * x.getD i 0) 81 := Sz_mul hA (hx.get h)
      have hy' := hy.get (i := i) (by omega)
      have e1 := s_times (n := n) hA (hx.get h) (by omega) (by omega)
      have e1 : f94 n ((rq A).1, (rq A).2.1, (rq A).2.2) (rq (x.getD i 0)) = _ := e1
      rw [Int.toNat_natCast, vq_get h, e1, ob_some, gd_pos (by simp; omega)]
      rw [vq_get (by omega), s_plus h1 (hy'.mono (by omega)) (by omega) (by omega), ob_some, gd_pos (by simp; omega), W_id (x := (i : Int) + 1) (by omega) (by omega)]
      have := f99_loop hA hx hy hl h4 hn (k0 := k0) m (i + 1) (o ++ [rq (A * x.getD i 0 + y.getD i 0)]) (by simp; omega) (by omega) (by omega)
      rw [rdrop h, rdrop (x := y) (by omega)]
      rw [show (i : Int) + 1 = ((i + 1 : Nat) : Int) from rfl, this, List.append_assoc]
      rfl
    · rw [if_neg (by omega), List.drop_of_length_le (by omega), List.drop_of_length_le (by omega)]
      simp [axp, vq]

theorem s_axpy {n : Nat} {A : Rat} {x y : List Rat} (hA : Sz A 40) (hx : Sv x 40) (hy : Sv y 40) (hl : x.length = y.length) (h4 : x.length ≤ 4096) (hn : 1048577 ≤ n) : f99 n (rq A) (vq x) (vq y) = some (vq (axp A x y)) := by
  unfold f99
  have h1 := f99_loop (n := n) hA hx hy hl h4 hn (k0 := fun z_3 => some z_3) n 0 [] (by simp) (by omega) (by omega)
  have h1 : f99_L3 n n (vq x) (vq y) 0 _ _ _ [] _ = _ := h1
  rw [h1]
  simp

theorem f97b_loop {α : Type} {n : Nat} {A : Rat} {x : List Rat} (hA : Sz A 40) (hx : Sv x 40) (h4 : x.length ≤ 4096) (hn : 1048577 ≤ n) {k0 : List Rt → Option α} : ∀ (m i : Nat) (o : List Rt), o.length ≤ i → i ≤ x.length → x.length < i + m →
    f97b_L3 n m (rq A, vq x) (x.length : Int) (i : Int) o k0 = k0 (o ++ vq ((x.drop i).map (A * ·)))
  | 0, i, o, ho, hi, hm => by omega
  | m + 1, i, o, ho, hi, hm => by
    rw [f97b_L3_s]
    unfold f97b_L3B
    dsimp only
    rw [Bool.cond_decide]
    by_cases h : i < x.length
    · rw [if_pos (by omega)]
      unfold f98
      rw [gd_pos (by simp; omega)]
      dsimp only
      have h1 : Sz (A * x.getD i 0) 81 := Sz_mul hA (hx.get h)
      rw [Int.toNat_natCast, vq_get h, i_times hA (hx.get h) (by omega) (by omega), ob_some, ob_some, f72_rq (h1.mono (by omega)), ob_some, gd_pos (by simp; omega), W_id (x := (i : Int) + 1) (by omega) (by omega)]
      have := f97b_loop hA hx h4 hn (k0 := k0) m (i + 1) (o ++ [rq (A * x.getD i 0)]) (by simp; omega) (by omega) (by omega)
      rw [rdrop h]
      rw [show (i : Int) + 1 = ((i + 1 : Nat) : Int) from rfl, this, List.append_assoc]
      rfl
    · rw [if_neg (by omega), List.drop_of_length_le (by omega)]
      simp [vq]

theorem f103_loop {α : Type} {n : Nat} {x y : List Rat} (hx : Sv x 40) (hy : Sv y 40) (hl : x.length = y.length) (h4 : x.length ≤ 4) (hn : 1048577 ≤ n) {f : Bool} {k0 : Bool → Bool → List Int → List Int → Option α} : ∀ (m i : Nat) (acc : Rat), Sz acc (82 * 2 ^ i - 1) → i ≤ x.length → x.length < i + m →
    f103_L3 n m (vq y) (vq x) (x.length : Int) (i : Int) f (rq acc).1 (rq acc).2.1 (rq acc).2.2 k0 = k0 f (rq (dotF acc (x.drop i) (y.drop i))).1 (rq (dotF acc (x.drop i) (y.drop i))).2.1 (rq (dotF acc (x.drop i) (y.drop i))).2.2
  | 0, i, acc, ho, hi, hm => by omega
  | m + 1, i, acc, ho, hi, hm => by
    rw [f103_L3_s]
    unfold f103_L3B
    dsimp only
    rw [Bool.cond_decide]
    by_cases h : i < x.length
    · rw [if_pos (by omega), gd_pos (by simp; omega), gd_pos (by simp; omega)]
      have hp : 2 ^ i ≤ 2 ^ 3 := Nat.pow_le_pow_right (by omega) (by omega)
      have hp1 : 1 ≤ 2 ^ i := Nat.one_le_two_pow
      rw [show (2 : Nat) ^ 3 = 8 from rfl] at hp
      have h1 : Sz (x.getD i 0 * y.getD i 0) 81 := Sz_mul (hx.get h) (hy.get (by omega))
      have h2 : Sz (acc + x.getD i 0 * y.getD i 0) (82 * 2 ^ (i + 1) - 1) := (Sz_add ho (h1.mono (by omega))).mono (by rw [Nat.pow_succ]; omega)
      have e2 := i_plus (n := n) ho (h1.mono (show 81 ≤ 82 * 2 ^ i - 1 by omega)) (by omega) (by omega)
      have e2 : f90 n ((rq acc).1, (rq acc).2.1, (rq acc).2.2) _ = _ := e2
      rw [Int.toNat_natCast, vq_get h, vq_get (by omega), i_times (hx.get h) (hy.get (by omega)) (by omega) (by omega), ob_some, e2, ob_some, W_id (x := (i : Int) + 1) (by omega) (by omega)]
      have := f103_loop hx hy hl h4 hn (f := f) (k0 := k0) m (i + 1) _ h2 (by omega) (by omega)
      rw [rdrop h, rdrop (x := y) (by omega)]
      rw [show (i : Int) + 1 = ((i + 1 : Nat) : Int) from rfl, this]
      rfl
    · rw [if_neg (by omega), List.drop_of_length_le (by omega), List.drop_of_length_le (by omega)]
      rfl

theorem rq_zero : rq 0 = (false, [], dg 1) := by
  unfold rq
  rw [show (0 : Rat).num = 0 from rfl, show (0 : Rat).den = 1 from rfl, show (0 : Int).natAbs = 0 from rfl, dg_zero]; rfl

theorem Sz_zero : Sz 0 1 := by
  refine ⟨?_, ?_⟩
  · rw [show (0 : Rat).num = 0 from rfl, show (0 : Int).natAbs = 0 from rfl, dg_zero]; simp
  · rw [show (0 : Rat).den = 1 from rfl, dg_one]; simp

theorem i_scale {n : Nat} {A : Rat} {x : List Rat} (hA : Sz A 40) (hx : Sv x 40) (h4 : x.length ≤ 4096) (hn : 1048577 ≤ n) : f97b n (x.length : Int) (rq A, vq x) = some (vq (x.map (A * ·))) := by
  unfold f97b
  have h1 := f97b_loop (n := n) hA hx h4 hn (k0 := fun z_3 => some z_3) n 0 [] (by simp) (by omega) (by omega)
  have h1 : f97b_L3 n n (rq A, vq x) (x.length : Int) 0 [] _ = _ := h1
  rw [h1]
  simp

theorem i_dot {n : Nat} {x y : List Rat} (hx : Sv x 40) (hy : Sv y 40) (hl : x.length = y.length) (h4 : x.length ≤ 4) (hn : 1048577 ≤ n) : f103 n (vq x) (vq y) = some (rq (dotF 0 x y)) := by
  unfold f103
  have e0 : f112 n 0 = some (rq 0) := by
    unfold f112
    rw [decide_eq_false (by omega), cond_false, show (0 : Int) = ((0 : Nat) : Int) from rfl, f163_eq (by omega) (by omega), ob_some, rq_zero, dg_zero, dg_one]
    rfl
  rw [e0, ob_some]
  have h1 := f103_loop (n := n) hx hy hl h4 hn (f := false) (k0 := fun z_6 z_7 z_8 z_9 => some (z_7, z_8, z_9)) n 0 0 (Sz_zero.mono (by simp)) (by omega) (by omega)
  have h1 : f103_L3 n n (vq y) (vq x) (x.length : Int) 0 _ _ _ _ _ = _ := h1
  rw [vq_len, h1, List.drop_zero, List.drop_zero]

theorem f177b_loop {n : Nat} {x : List Rat} (hl : x.length ≤ 1048576) : ∀ (m i : Nat), i ≤ x.length → x.length < i + m →
    ∃ r, f177b_L2 n m (vq x) (x.length : Int) (i : Int) (fun z_3 => some z_3) (fun (_ : Unit) => some (-1)) = some r ∧ decide (r ≥ 0) = !(x.drop i).all fitR
  | 0, i, hi, hm => by omega
  | m + 1, i, hi, hm => by
    rw [f177b_L2_s]
    unfold f177b_L2B
    dsimp only
    rw [Bool.cond_decide]
    by_cases h : i < x.length
    · rw [if_pos (by omega), gd_pos (by simp; omega), Int.toNat_natCast, vq_get h, rdrop h, List.all_cons]
      have e : f155 n (rq (x.getD i 0)) = some (!fitR (x.getD i 0)) := by
        unfold f155 f156 rq fitR
        dsimp only
        generalize (dg (x.getD i 0).num.natAbs).length = p
        generalize (dg (x.getD i 0).den).length = q
        rw [Bool.cond_decide]
        by_cases c : p ≤ 40
        · rw [if_pos (by omega), ob_some, decide_eq_true c, Bool.true_and]; congr 2; exact decide_eq_decide.2 (by omega)
        · rw [if_neg (by omega), ob_some, decide_eq_false c, Bool.false_and]
      rw [e, ob_some]
      cases hf : fitR (x.getD i 0) with
      | false => exact ⟨(i : Int), by simp, by simp⟩
      | true =>
        rw [Bool.not_true, cond_false, W_id (x := (i : Int) + 1) (by omega) (by omega), Bool.true_and]
        exact f177b_loop hl m (i + 1) (by omega) (by omega)
    · rw [if_neg (by omega), List.drop_of_length_le (by omega)]
      exact ⟨-1, rfl, rfl⟩

theorem i_full {n : Nat} {x : List Rat} (hl : x.length ≤ 1048576) (hn : 1048577 ≤ n) : f96 n (vq x) = some (if x.all fitR = true then (vq x, 0) else ([], 7)) := by
  unfold f96 f130b f177b
  obtain ⟨r, h1, h2⟩ := f177b_loop (n := n) hl n 0 (by omega) (by omega)
  have h1 : f177b_L2 n n (vq x) (x.length : Int) 0 _ _ = _ := h1
  rw [vq_len, h1, ob_some, ob_some, h2, List.drop_zero]
  cases x.all fitR <;> rfl

theorem f79_loop {n : Nat} {x : List Rat} (hl : x.length ≤ 4096) (hs : Sv x 100000) {k1 : List Rt → Option (List Rt × Int)} : ∀ (m i : Nat) (o : List Rt), o.length ≤ i → i ≤ x.length → x.length < i + m →
    f79_L3 n m (vq x) (i : Int) o (fun z_5 z_6 => some (z_6, z_5)) k1 = if (x.drop i).all fitR = true then k1 (o ++ vq (x.drop i)) else some ([], 7)
  | 0, i, o, ho, hi, hm => by omega
  | m + 1, i, o, ho, hi, hm => by
    rw [f79_L3_s]
    unfold f79_L3B
    dsimp only
    rw [Bool.cond_decide, vq_len]
    by_cases h : i < x.length
    · rw [if_pos (by omega), gd_pos (by simp; omega), Int.toNat_natCast, vq_get h, rdrop h, List.all_cons]
      have hz := hs.get h
      have e : f139 n (rq (x.getD i 0)) = some (fitR (x.getD i 0)) := by
        unfold f139 rq fitR
        dsimp only
        generalize (dg (x.getD i 0).num.natAbs).length = p
        generalize (dg (x.getD i 0).den).length = q
        rw [Bool.cond_decide]
        by_cases c : p ≤ 40
        · rw [if_pos (by omega), decide_eq_true c, Bool.true_and]; congr 1; exact decide_eq_decide.2 (by omega)
        · rw [if_neg (by omega), decide_eq_false c, Bool.false_and]
      have e2 : f70 n (rq (x.getD i 0)) = some (rq (x.getD i 0)) := by
        obtain ⟨z1, z2⟩ := hz
        unfold f70
        rw [gd_pos (by simp only [decide_eq_true_eq]; show (0 + (dg (x.getD i 0).num.natAbs).length) * 8 ≤ _; omega), gd_pos (by simp only [decide_eq_true_eq]; show (0 + (dg (x.getD i 0).den).length) * 8 ≤ _; omega)]
      rw [e, ob_some]
      cases hf : fitR (x.getD i 0) with
      | false => simp
      | true =>
        rw [Bool.not_true, cond_false, gd_pos (by simp; omega), e2, ob_some, gd_pos (by simp; omega), W_id (x := (i : Int) + 1) (by omega) (by omega), Bool.true_and]
        have := f79_loop hl hs (n := n) (k1 := k1) m (i + 1) (o ++ [rq (x.getD i 0)]) (by simp; omega) (by omega) (by omega)
        rw [show (i : Int) + 1 = ((i + 1 : Nat) : Int) from rfl, this, List.append_assoc]
        rfl
    · rw [if_neg (by omega), List.drop_of_length_le (by omega)]
      simp [vq]

theorem s_full {n : Nat} {x : List Rat} (hl : x.length ≤ 4096) (hs : Sv x 100000) (hn : 1048577 ≤ n) : f79 n (vq x) = some (if x.all fitR = true then (vq x, 0) else ([], 7)) := by
  unfold f79
  have h1 := f79_loop (n := n) hl hs (k1 := fun z_7 => some (z_7, 0)) n 0 [] (by simp) (by omega) (by omega)
  have h1 : f79_L3 n n (vq x) 0 [] _ _ = _ := h1
  rw [h1, List.drop_zero]
  split <;> rfl

theorem f55_loop {α : Type} {n : Nat} {x y : List Rat} (hl : x.length = y.length) (h4 : x.length ≤ 4096) (hs : Sv x 1000) (hn : 1048577 ≤ n) {k0 : Bool → Option α} {k1 : Unit → Option α} : ∀ (m i : Nat), i ≤ x.length → x.length < i + m →
    f55_L4 n m (vq x) (vq y) (i : Int) k0 k1 = if x.drop i = y.drop i then k1 () else k0 false
  | 0, i, hi, hm => by omega
  | m + 1, i, hi, hm => by
    rw [f55_L4_s]
    unfold f55_L4B
    dsimp only
    rw [Bool.cond_decide, vq_len]
    by_cases h : i < x.length
    · rw [if_pos (by omega), gd_pos (by simp; omega), gd_pos (by simp; omega), Int.toNat_natCast, vq_get h, vq_get (by omega), f42_eq (hs.get h) hn, ob_some, rdrop h, rdrop (x := y) (by omega)]
      by_cases e : x.getD i 0 = y.getD i 0
      · rw [decide_eq_true e, Bool.not_true, cond_false, W_id (x := (i : Int) + 1) (by omega) (by omega), e]
        rw [show (i : Int) + 1 = ((i + 1 : Nat) : Int) from rfl, f55_loop hl h4 hs hn m (i + 1) (by omega) (by omega)]
        simp
      · rw [decide_eq_false e, Bool.not_false, cond_true, if_neg (fun q => e (List.cons.inj q).1)]
    · rw [if_neg (by omega), List.drop_of_length_le (by omega), List.drop_of_length_le (by omega), if_pos rfl]

theorem l_same {n : Nat} {x y : List Rat} (hl : x.length = y.length) (h4 : x.length ≤ 4096) (hs : Sv x 1000) (hn : 1048577 ≤ n) : f55 n (vq x) (vq y) = some (decide (x = y)) := by
  unfold f55
  have h1 := f55_loop (n := n) hl h4 hs hn (k0 := fun z_4 => some z_4) (k1 := fun (_ : Unit) => some true) n 0 (by omega) (by omega)
  have h1 : f55_L4 n n (vq x) (vq y) 0 _ _ = _ := h1
  rw [vq_len, vq_len, hl, bne_self_eq_false, cond_false, h1, List.drop_zero, List.drop_zero]
  by_cases e : x = y
  · rw [if_pos e, decide_eq_true e]
  · rw [if_neg e, decide_eq_false e]

theorem cmp_eq {r : Int} {x y : Rat} (h1 : decide (r > 0) = decide (y < x)) (h2 : decide (r < 0) = decide (x < y)) : (r == 0) = decide (x = y) := by
  have h1 := decide_eq_decide.1 h1
  have h2 := decide_eq_decide.1 h2
  by_cases e : x = y
  · subst e
    have a1 : ¬ r > 0 := fun h => by have := h1.1 h; grind
    have a2 : ¬ r < 0 := fun h => by have := h2.1 h; grind
    rw [decide_eq_true rfl, beq_iff_eq]; omega
  · rw [decide_eq_false e, beq_eq_false_iff_ne]
    intro h
    have a1 : ¬ y < x := fun h' => by have := h1.2 h'; omega
    have a2 : ¬ x < y := fun h' => by have := h2.2 h'; omega
    grind

theorem f161_loop {α : Type} {n : Nat} {x y : List Rat} (hl : x.length = y.length) (h4 : x.length ≤ 4096) (hs : Sv x 40) (hy : Sv y 40) (hn : 1048577 ≤ n) {k0 : Bool → Option α} {k1 : Unit → Option α} : ∀ (m i : Nat), i ≤ x.length → x.length < i + m →
    f161_L4 n m (vq y) (vq x) (x.length : Int) (i : Int) k0 k1 = if x.drop i = y.drop i then k1 () else k0 false
  | 0, i, hi, hm => by omega
  | m + 1, i, hi, hm => by
    rw [f161_L4_s]
    unfold f161_L4B
    dsimp only
    rw [Bool.cond_decide]
    by_cases h : i < x.length
    · rw [if_pos (by omega), gd_pos (by simp; omega), gd_pos (by simp; omega), Int.toNat_natCast, vq_get h, vq_get (by omega), rdrop h, rdrop (x := y) (by omega)]
      obtain ⟨r, e1, e2, e3⟩ := f86_eq (n := n) (rq_rok (hs.get h)) (rq_rok (hy.get (i := i) (by omega))) hn
      rw [gtR_rq] at e2 e3
      unfold f162
      rw [e1, ob_some, ob_some, cmp_eq e2 e3]
      by_cases e : x.getD i 0 = y.getD i 0
      · rw [decide_eq_true e, Bool.not_true, cond_false, W_id (x := (i : Int) + 1) (by omega) (by omega), e]
        rw [show (i : Int) + 1 = ((i + 1 : Nat) : Int) from rfl, f161_loop hl h4 hs hy hn m (i + 1) (by omega) (by omega)]
        simp
      · rw [decide_eq_false e, Bool.not_false, cond_true, if_neg (fun q => e (List.cons.inj q).1)]
    · rw [if_neg (by omega), List.drop_of_length_le (by omega), List.drop_of_length_le (by omega), if_pos rfl]

theorem i_same {n : Nat} {x y : List Rat} (hx : Sv x 40) (hy : Sv y 40) (h1 : 1 ≤ x.length) (h4 : x.length ≤ 4) (hl : x.length = y.length) (hn : 1048577 ≤ n) : f56 n (vq x) (vq y) = some (decide (x = y)) := by
  unfold f56 f111 f161
  rw [f110_eq hn, ob_some, vok_vq hx h1 h4, cond_true, f110_eq hn, ob_some, vok_vq hy (by omega) (by omega), cond_true]
  have h1 := f161_loop (n := n) hl (by omega) hx hy hn (k0 := fun z_4 => some z_4) (k1 := fun (_ : Unit) => some true) n 0 (by omega) (by omega)
  have h1 : f161_L4 n n (vq y) (vq x) (x.length : Int) 0 _ _ = _ := h1
  rw [vq_len, vq_len, ← hl, bne_self_eq_false, cond_false, h1, List.drop_zero, List.drop_zero]
  by_cases e : x = y
  · rw [if_pos e, decide_eq_true e]; rfl
  · rw [if_neg e, decide_eq_false e]; rfl

theorem vecs2 {n : Nat} {x y : List Rat} (hx : Sv x 40) (hy : Sv y 40) (h1 : 1 ≤ x.length) (h4 : x.length ≤ 4) (hl : x.length = y.length) (hn : 1048577 ≤ n) : f77 n [vq x, vq y] = some 0 := by
  obtain ⟨c, e1, e2⟩ := f77_eq (n := n) (L := [vq x, vq y]) (by simp) hn
  rw [e1]
  have : (c == 0) = true := by
    rw [e2]
    simp [vok_vq hx h1 h4, vok_vq hy (by omega) (by omega), hl]
  rw [beq_iff_eq] at this
  rw [this]

theorem vecs1 {n : Nat} {x : List Rat} (hx : Sv x 40) (h1 : 1 ≤ x.length) (h4 : x.length ≤ 4) (hn : 1048577 ≤ n) : f77 n [vq x] = some 0 := by
  obtain ⟨c, e1, e2⟩ := f77_eq (n := n) (L := [vq x]) (by simp) hn
  rw [e1]
  have : (c == 0) = true := by
    rw [e2]
    simp [vok_vq hx h1 h4]
  rw [beq_iff_eq] at this
  rw [this]

theorem rats1 {n : Nat} {A : Rat} (hA : Sz A 40) (hn : 1048577 ≤ n) : f68 n [rq A] = some 0 := by
  rw [f68_eq (by simp) hn, if_pos (by simp [rq_rok hA])]

theorem first00 {n : Nat} (hn : 1048577 ≤ n) : f95 n [0, 0] = some 0 := by
  unfold f95
  obtain ⟨k, rfl⟩ : ∃ k, n = k + 3 := ⟨n - 3, by omega⟩
  simp only [f95_L2_s, f95_L2B]
  simp
  rfl

theorem allfit {x : List Rat} (h : Sv x 40) : x.all fitR = true := List.all_eq_true.2 fun a ha => fitR_iff.2 (h a ha)

theorem f46_eq {n : Nat} {A : Rat} {x y : List Rat} (hA : Sz A 40) (hx : Sv x 40) (hy : Sv y 40) (h1 : 1 ≤ x.length) (h4 : x.length ≤ 4) (hl : x.length = y.length) (hz : Sv (axp A x y) 40) (hn : 1048577 ≤ n) : f46 n (rq A) (vq x) (vq y) = some (vq (axp A x y), 0) := by
  unfold f46
  rw [vecs2 hx hy h1 h4 hl hn, ob_some, rats1 hA hn, ob_some, first00 hn, ob_some, bne_self_eq_false, cond_false, i_axpy hA hx hy hl (by omega) hn, ob_some, i_full (by simp [axp]; omega) hn, ob_some, if_pos (allfit hz)]

theorem ask0 {n : Nat} {x y : List Rat} (hx : Sv x 40) (hy : Sv y 40) (h1 : 1 ≤ x.length) (h4 : x.length ≤ 4) (hl : x.length = y.length) (hn : 1048577 ≤ n) : f93 n (vq x) (vq y) = some 0 := by
  unfold f93
  dsimp only
  rw [vq_len, vq_len, decide_eq_false (by omega), decide_eq_false (by omega), cond_false, cond_false, f76_eq hn, ob_some, vok_vq hx h1 h4, Bool.not_true, cond_false, f76_eq hn, ob_some, vok_vq hy (by omega) (by omega), Bool.not_true, cond_false, hl, bne_self_eq_false, cond_false]

theorem f45_eq {n : Nat} {A : Rat} {x y : List Rat} (hA : Sz A 40) (hx : Sv x 40) (hy : Sv y 40) (h1 : 1 ≤ x.length) (h4 : x.length ≤ 4) (hl : x.length = y.length) (hz : Sv (axp A x y) 40) (hn : 1048577 ≤ n) : f45 n (rq A) (vq x) (vq y) = some (vq (axp A x y), 0) := by
  unfold f45
  rw [vq_len, vq_len, decide_eq_false (by omega), decide_eq_false (by omega), cond_false, cond_false, ask0 hx hy h1 h4 hl hn, ob_some, bne_self_eq_false, cond_false, f66_eq hn, ob_some, rq_rok hA, Bool.not_true, cond_false, s_axpy hA hx hy hl (by omega) hn, ob_some, s_full (by simp [axp]; omega) (hz.mono (by omega)) hn, ob_some, if_pos (allfit hz)]

theorem f44_eq {n : Nat} {A : Rat} {x : List Rat} (hA : Sz A 40) (hx : Sv x 40) (h1 : 1 ≤ x.length) (h4 : x.length ≤ 4) (hz : Sv (x.map (A * ·)) 40) (hn : 1048577 ≤ n) : f44 n (rq A) (vq x) = some (vq (x.map (A * ·)), 0) := by
  unfold f44
  rw [vecs1 hx h1 h4 hn, ob_some, rats1 hA hn, ob_some, first00 hn, ob_some, bne_self_eq_false, cond_false, vq_len, i_scale hA hx (by omega) hn, ob_some, i_full (by simp; omega) hn, ob_some, if_pos (allfit hz)]

theorem f53_eq {n : Nat} {x y : List Rat} (hx : Sv x 40) (hy : Sv y 40) (h1 : 1 ≤ x.length) (h4 : x.length ≤ 4) (hl : x.length = y.length) (hz : Sz (dotF 0 x y) 40) (hn : 1048577 ≤ n) : f53 n (vq x) (vq y) = some (rq (dotF 0 x y), 0) := by
  unfold f53
  rw [vecs2 hx hy h1 h4 hl hn, ob_some, bne_self_eq_false, cond_false, i_dot hx hy hl h4 hn, ob_some]
  obtain ⟨s1, s2⟩ := hz
  unfold f109 f156 rq
  dsimp only
  rw [decide_eq_true (by omega), decide_eq_true (by omega)]
  rfl

/-- bounds for both parts -/
def Bq (x : Rat) (N D : Nat) : Prop := x.num.natAbs ≤ N ∧ x.den ≤ D

def Bv (x : List Rat) (N D : Nat) : Prop := ∀ a ∈ x, Bq a N D

theorem Bq.sz {x : Rat} {N D : Nat} (h : Bq x N D) {L : Nat} (h1 : N < 10000 ^ L) (h2 : D < 10000 ^ L) : Sz x L := ⟨len_of (by have := h.1; omega), len_of (by have := h.2; omega)⟩

theorem Bv.sz {x : List Rat} {N D : Nat} (h : Bv x N D) {L : Nat} (h1 : N < 10000 ^ L) (h2 : D < 10000 ^ L) : Sv x L := fun a ha => (h a ha).sz h1 h2

theorem Bq.mono {x : Rat} {N D N' D' : Nat} (h : Bq x N D) (h1 : N ≤ N') (h2 : D ≤ D') : Bq x N' D' := ⟨Nat.le_trans h.1 h1, Nat.le_trans h.2 h2⟩

theorem Bq_mq {s : Bool} {a d N D : Nat} (hd : 0 < d) (h1 : a ≤ N) (h2 : d ≤ D) : Bq (mq s a d) N D := by
  unfold Bq
  rw [mq_num hd, mq_den hd]
  have e1 : a / Nat.gcd a d ≤ a := Nat.div_le_self _ _
  have e2 : d / Nat.gcd a d ≤ d := Nat.div_le_self _ _
  generalize a / Nat.gcd a d = q at *
  refine ⟨?_, by omega⟩
  cases s <;> simp <;> omega

theorem Bq_mul {x y : Rat} {N D N' D' : Nat} (hx : Bq x N D) (hy : Bq y N' D') : Bq (x * y) (N * N') (D * D') := by
  rw [mul_mq]
  exact Bq_mq (Nat.mul_pos (Nat.pos_of_ne_zero x.den_nz) (Nat.pos_of_ne_zero y.den_nz)) (Nat.mul_le_mul hx.1 hy.1) (Nat.mul_le_mul hx.2 hy.2)

theorem Bq_add {x y : Rat} {N D N' D' : Nat} (hx : Bq x N D) (hy : Bq y N' D') : Bq (x + y) (N * D' + N' * D) (D * D') := by
  have hd : 0 < x.den * y.den := Nat.mul_pos (Nat.pos_of_ne_zero x.den_nz) (Nat.pos_of_ne_zero y.den_nz)
  have l1 := Nat.mul_le_mul hx.1 hy.2
  have l2 := Nat.mul_le_mul hy.1 hx.2
  have l3 := Nat.mul_le_mul hx.2 hy.2
  by_cases hs : decide (x.num < 0) = decide (y.num < 0)
  · rw [add_same hs]; exact Bq_mq hd (by omega) l3
  · by_cases hle : y.num.natAbs * x.den ≤ x.num.natAbs * y.den
    · rw [add_ge hs hle]; exact Bq_mq hd (by omega) l3
    · rw [Rat.add_comm, add_ge (fun e => hs e.symm) (by omega)]; exact Bq_mq (by rw [Nat.mul_comm]; exact hd) (by omega) (by rw [Nat.mul_comm]; exact l3)

theorem Bv.get {x : List Rat} {N D i : Nat} (hs : Bv x N D) (h : i < x.length) : Bq (x.getD i 0) N D := by
  refine hs _ ?_
  rw [List.getD_eq_getElem?_getD, List.getElem?_eq_getElem h]; exact List.getElem_mem h

theorem Bv_axp {A : Rat} {a b N D N' D' : Nat} (hA : Bq A a b) : ∀ {x y : List Rat}, Bv x N D → Bv y N' D' → Bv (axp A x y) (a * N * D' + N' * (b * D)) (b * D * D')
  | [], _, _, _ => by intro z hz; simp [axp] at hz
  | _ :: _, [], _, _ => by intro z hz; simp [axp] at hz
  | p :: x, q :: y, hx, hy => by
    intro z hz
    rcases List.mem_cons.1 (show z ∈ (A * p + q) :: axp A x y from hz) with rfl | hz
    · exact Bq_add (Bq_mul hA (hx p (by simp))) (hy q (by simp))
    · exact Bv_axp hA (fun c hc => hx c (by simp [hc])) (fun c hc => hy c (by simp [hc])) z hz

theorem Bv_map {A : Rat} {a b N D : Nat} (hA : Bq A a b) {x : List Rat} (hx : Bv x N D) : Bv (x.map (A * ·)) (a * N) (b * D) := by
  intro z hz
  obtain ⟨c, hc, rfl⟩ := List.mem_map.1 hz
  exact Bq_mul hA (hx c hc)

theorem Bq_dot {N D N' D' : Nat} : ∀ {x y : List Rat} {acc : Rat} {c E : Nat}, Bv x N D → Bv y N' D' → 1 ≤ D * D' → Bq acc (c * E) E → Bq (dotF acc x y) ((c + x.length * (N * N')) * (E * (D * D') ^ x.length)) (E * (D * D') ^ x.length)
  | [], _, acc, c, E, _, _, _, h => by simpa [dotF] using h
  | p :: x, [], acc, c, E, _, _, hD, h => by
    refine h.mono ?_ ?_
    · refine Nat.mul_le_mul (by omega) ?_
      exact Nat.le_mul_of_pos_right E (Nat.pow_pos hD)
    · exact Nat.le_mul_of_pos_right E (Nat.pow_pos hD)
  | p :: x, q :: y, acc, c, E, hx, hy, hD, h => by
    have h1 := Bq_mul (hx p (by simp)) (hy q (by simp))
    have h2 := Bq_add h h1
    have h3 : Bq (acc + p * q) ((c + N * N') * (E * (D * D'))) (E * (D * D')) := by
      refine h2.mono ?_ (Nat.le_refl _)
      rw [Nat.add_mul]
      have e1 : c * E * (D * D') = c * (E * (D * D')) := Nat.mul_assoc _ _ _
      have e2 : N * N' * E ≤ N * N' * (E * (D * D')) := Nat.mul_le_mul_left _ (Nat.le_mul_of_pos_right E hD)
      omega
    have := Bq_dot (x := x) (y := y) (acc := acc + p * q) (fun c hc => hx c (by simp [hc])) (fun c hc => hy c (by simp [hc])) hD h3
    show Bq (dotF (acc + p * q) x y) _ _
    rw [List.length_cons]
    have ee : E * (D * D') ^ (x.length + 1) = E * (D * D') * (D * D') ^ x.length := by rw [Nat.pow_succ, Nat.mul_comm ((D * D') ^ x.length), ← Nat.mul_assoc E]
    refine this.mono ?_ ?_
    · rw [ee]
      refine Nat.mul_le_mul_right _ ?_
      rw [Nat.add_mul]; omega
    · rw [ee]; exact Nat.le_refl _

theorem Bq_dot4 {N D N' D' : Nat} {x y : List Rat} (hx : Bv x N D) (hy : Bv y N' D') (hD : 1 ≤ D * D') (h4 : x.length ≤ 4) : Bq (dotF 0 x y) (4 * (N * N') * (D * D') ^ 4) ((D * D') ^ 4) := by
  have := Bq_dot (acc := 0) (c := 0) (E := 1) hx hy hD ⟨by simp, by simp⟩
  have hp : (D * D') ^ x.length ≤ (D * D') ^ 4 := Nat.pow_le_pow_right hD h4
  rw [Nat.one_mul, Nat.zero_add] at this
  exact this.mono (Nat.mul_le_mul (Nat.mul_le_mul_right _ h4) hp) hp

theorem f143_bq {n : Nat} {a b : Int} (ha : -10 ≤ a ∧ a ≤ 10) (hb : 1 ≤ b ∧ b ≤ 9) (hn : 1048577 ≤ n) : ∃ x : Rat, f143 n a b = some (rq x, 0) ∧ Bq x 10 9 := by
  unfold f143
  have la : (dg a.natAbs).length ≤ 4 := len_of (by omega)
  have lb : (dg b.natAbs).length ≤ 4 := len_of (by omega)
  rw [f65_eq, ob_some, decide_eq_true (by omega), f65_eq, ob_some, decide_eq_true (by omega), show (b == 0) = false by rw [beq_eq_false_iff_ne]; omega, f159_eq (by omega) hn, ob_some, f159_eq (by omega) hn, ob_some]
  dsimp only
  rw [s_make (L := 4) (show 0 < b.natAbs by omega) la lb (by omega) (by omega), ob_some]
  exact ⟨_, rfl, Bq_mq (by omega) (by omega) (by omega)⟩

theorem f84_eq {n : Nat} {P : Int} {s : Src} (h : SrcOK P s) (hP : P ≤ 1099511620000) (hn : 1048577 ≤ n) : ∃ (x : Rat) (s' : Src), f84B n s = some (rq x, s') ∧ Bq x 10 9 ∧ SrcOK (P + 6) s' := by
  unfold f84B
  obtain ⟨a, s1, e1, r1, o1⟩ := f144_eq (n := n) (k := 21) h (by omega) (by omega) (by omega)
  rw [e1, ob_some]
  obtain ⟨b, s2, e2, r2, o2⟩ := f144_eq (n := n) (k := 6) o1 (by omega) (by omega) (by omega)
  rw [e2, ob_some]
  dsimp only
  rw [W_id (x := a - 10) (by omega) (by omega), W_id (x := 1 + b) (by omega) (by omega)]
  obtain ⟨x, e3, z⟩ := f143_bq (n := n) (a := a - 10) (b := 1 + b) (by omega) (by omega) hn
  rw [e3, ob_some]
  exact ⟨x, s2, rfl, z, o2.1, o2.2.1, ⟨o2.2.2.1.1, by have := o2.2.2.1.2; show s2.2.1 ≤ P + 6; omega⟩, o2.2.2.2⟩

theorem src0 {l : List Int} (h : ∀ x ∈ l, 0 ≤ x ∧ x ≤ 255) (hl : l.length ≤ 1048576) : SrcOK 0 (l, 0, Int.tmod (l.length : Int) 1000) :=
  ⟨h, hl, ⟨Int.le_refl _, Int.le_refl _⟩, by rw [tmodB (by omega)]; dsimp only; omega, by rw [tmodB (by omega)]; dsimp only; omega⟩

theorem f36_bq {n : Nat} {l : List Int} (h : ∀ x ∈ l, 0 ≤ x ∧ x ≤ 255) (hl : l.length ≤ 1048576) (hn : 1048577 ≤ n) : ∃ x : Rat, f36 n l = some (rq x) ∧ Bq x 10 9 := by
  unfold f36 f83B
  rw [ob_some]
  obtain ⟨x, s', e, z, _⟩ := f84_eq (n := n) (src0 h hl) (by omega) hn
  rw [e, ob_some]
  exact ⟨x, rfl, z⟩

theorem f108_loop {α : Type} {n k : Nat} (hk : k ≤ 1000) (hn : 1048577 ≤ n) {k0 : List Rt → List Int → Int → Int → Option α} : ∀ (m i : Nat) (P : Int) (o : List Rat) (s : Src), SrcOK P s → P + 6 * (k - i : Nat) ≤ 1099511620000 → o.length = i → i ≤ k → k < i + m → Bv o 10 9 →
    ∃ (x : List Rat) (s' : Src), x.length = k ∧ Bv x 10 9 ∧ SrcOK (P + 6 * (k - i : Nat)) s' ∧ f108B_L3 n m (k : Int) (i : Int) (vq o) s.1 s.2.1 s.2.2 k0 = k0 (vq x) s'.1 s'.2.1 s'.2.2
  | 0, i, P, o, s, h1, h2, h3, h4, h5, h6 => by omega
  | m + 1, i, P, o, s, h1, h2, h3, h4, h5, h6 => by
    rw [f108B_L3_s]
    unfold f108B_L3B
    rw [Bool.cond_decide]
    by_cases h : i < k
    · rw [if_pos (by omega)]
      obtain ⟨a, s1, e1, r1, o1⟩ := f84_eq (n := n) h1 (by omega) hn
      have e1 : f84B n (s.1, s.2.1, s.2.2) = _ := e1
      rw [e1, ob_some, gd_pos (by simp; omega), W_id (x := (i : Int) + 1) (by omega) (by omega)]
      dsimp only
      obtain ⟨x, s', q1, q2, q3, q4⟩ := f108_loop hk hn (k0 := k0) m (i + 1) (P + 6) (o ++ [a]) s1 o1 (by omega) (by simp; omega) (by omega) (by omega) (fun c hc => by
        rcases List.mem_append.1 hc with hc | hc
        · exact h6 c hc
        · rw [List.mem_singleton.1 hc]; exact r1)
      refine ⟨x, s', q1, q2, ?_, ?_⟩
      · rw [show P + 6 * ((k - i : Nat) : Int) = P + 6 + 6 * ((k - (i + 1) : Nat) : Int) by omega]; exact q3
      · rw [← q4]; simp [vq]
    · rw [if_neg (by omega)]
      exact ⟨o, s, by omega, h6, by rw [show ((k - i : Nat) : Int) = 0 by omega]; simpa using h1, rfl⟩

theorem f52_eq {n k : Nat} {l : List Int} (h : ∀ x ∈ l, 0 ≤ x ∧ x ≤ 255) (hl : l.length ≤ 1048576) (hk : k ≤ 1000) (hn : 1048577 ≤ n) : ∃ x : List Rat, f52 n l (k : Int) = some (vq x) ∧ x.length = k ∧ Bv x 10 9 := by
  unfold f52 f83B
  rw [ob_some]
  unfold f108B
  obtain ⟨x, s', q1, q2, _, q4⟩ := f108_loop (k := k) hk hn (k0 := fun z_2 z_3 z_4 z_5 => some (z_2, (z_3, z_4, z_5))) n 0 0 [] _ (src0 h hl) (by omega) rfl (by omega) (by omega) (fun c hc => by simp at hc)
  have q4 : f108B_L3 n n (k : Int) 0 [] _ _ _ _ = _ := q4
  rw [q4, ob_some]
  exact ⟨x, rfl, q1, q2⟩

theorem f51_eq {n : Nat} {l : List Int} (h : ∀ x ∈ l, 0 ≤ x ∧ x ≤ 255) (hl : l.length ≤ 1048576) {c : Int} (hc : 2 ≤ c ∧ c ≤ 100) : ∃ v : Nat, f51 n l 0 c = some (v : Int) ∧ (v : Int) < c := by
  unfold f51
  rw [decide_eq_false (by omega), cond_false]
  by_cases e : l.length = 0
  · rw [e, show ((((0 : Nat) : Int)) == 0) = true from rfl, cond_true, gd_pos (by simp; omega)]
    refine ⟨0, ?_, by omega⟩
    rw [W_id (x := 0 * 7) (by omega) (by omega), show Int.tmod (0 * 7) c = 0 from Int.zero_tmod _]; rfl
  · rw [show ((l.length : Int) == 0) = false by rw [beq_eq_false_iff_ne]; omega, cond_false]
    have hm := Int.emod_lt_of_pos (W (0 + 1)) (show (0 : Int) < l.length by omega)
    have hm2 := Int.emod_nonneg (W (0 + 1)) (show (l.length : Int) ≠ 0 by omega)
    have w1 : W (0 + 1) = 1 := W_id (by omega) (by omega)
    rw [w1] at hm hm2
    have z1 : Int.tmod 0 (l.length : Int) = 0 := Int.zero_tmod _
    have hg : (decide (0 ≤ 1 % (l.length : Int)) && decide (1 % (l.length : Int) < (l.length : Int))) = true := by rw [decide_eq_true hm2, decide_eq_true hm]; rfl
    rw [z1, w1, tmodB (x := 1) (by omega), gd_pos (by simp only [Bool.and_eq_true, decide_eq_true_eq]; omega), gd_pos (by simp only [Bool.and_eq_true, decide_eq_true_eq]; omega), gd_pos (by simp only [Bool.and_eq_true, decide_eq_true_eq]; omega), gd_pos hg, gd_pos (by simp only [Bool.and_eq_true, decide_eq_true_eq]; omega), gd_pos (by simp only [Bool.and_eq_true, decide_eq_true_eq]; omega)]
    have b1 := byte_get h (Int.toNat 0)
    have b2 := byte_get h (Int.toNat (1 % (l.length : Int)))
    generalize l.getD (Int.toNat 0) 0 = p at *
    generalize l.getD (Int.toNat (1 % (l.length : Int))) 0 = q at *
    rw [show Int.tdiv 0 (l.length : Int) = 0 from Int.zero_tdiv _, W_id (x := p) (by omega) (by omega), W_id (x := q) (by omega) (by omega), W_id (x := 0) (by omega) (by omega), W_id (x := p * 31) (by omega) (by omega), W_id (x := p * 31 + q) (by omega) (by omega), W_id (x := p * 31 + q + 0) (by omega) (by omega), tmodB (by omega)]
    have := Int.emod_nonneg (p * 31 + q + 0) (show c ≠ 0 by omega)
    have := Int.emod_lt_of_pos (p * 31 + q + 0) (show 0 < c by omega)
    exact ⟨((p * 31 + q + 0) % c).toNat, by rw [Int.toNat_of_nonneg (by omega)], by omega⟩

theorem axp_len {A : Rat} {x y : List Rat} (h : x.length = y.length) : (axp A x y).length = x.length := by simp [axp]; omega

theorem dot_lin {A : Rat} : ∀ {x y w : List Rat} {a b c : Rat}, x.length = y.length → x.length = w.length → a = A * b + c → dotF a (axp A x y) w = A * dotF b x w + dotF c y w
  | [], [], _, a, b, c, _, _, h => by simpa [axp, dotF] using h
  | p :: x, q :: y, r :: w, a, b, c, h1, h2, h => by
    show dotF (a + (A * p + q) * r) (axp A x y) w = A * dotF (b + p * r) x w + dotF (c + q * r) y w
    exact dot_lin (by simpa using h1) (by simpa using h2) (by rw [h]; grind)
  | [], _ :: _, _, _, _, _, h1, _, _ => by simp at h1
  | _ :: _, [], _, _, _, _, h1, _, _ => by simp at h1
  | _ :: _, _ :: _, [], _, _, _, _, h2, _ => by simp at h2

theorem dot_comm : ∀ {x y : List Rat} {a : Rat}, dotF a x y = dotF a y x
  | [], [], _ => rfl
  | [], _ :: _, _ => rfl
  | _ :: _, [], _ => rfl
  | p :: x, q :: y, a => by
    show dotF (a + p * q) x y = dotF (a + q * p) y x
    rw [dot_comm, Rat.mul_comm]

theorem axp_map {A : Rat} : ∀ (x : List Rat), axp A x (x.map (A * ·)) = x.map ((A + A) * ·)
  | [] => rfl
  | p :: x => by
    show (A * p + A * p) :: axp A x (x.map (A * ·)) = ((A + A) * p) :: x.map ((A + A) * ·)
    rw [axp_map x, Rat.add_mul]

theorem sq_nonneg (p : Rat) : 0 ≤ p * p := by
  by_cases h : 0 ≤ p
  · exact Rat.mul_nonneg h h
  · have h2 : 0 ≤ -p := by grind
    have := Rat.mul_nonneg h2 h2
    grind

theorem sq_zero {p : Rat} : p * p = 0 ↔ p = 0 := by
  constructor
  · intro h
    rcases Rat.mul_eq_zero.1 h with h | h <;> exact h
  · rintro rfl; exact Rat.zero_mul 0

theorem dot_sq : ∀ {x : List Rat} {a : Rat}, 0 ≤ a → 0 ≤ dotF a x x ∧ (dotF a x x = 0 ↔ a = 0 ∧ ∀ p ∈ x, p = 0)
  | [], a, h => by simp [dotF, h]
  | p :: x, a, h => by
    have h0 := sq_nonneg p
    obtain ⟨h1, h2⟩ := dot_sq (x := x) (a := a + p * p) (by grind)
    refine ⟨h1, ?_⟩
    show dotF (a + p * p) x x = 0 ↔ _
    rw [h2]
    constructor
    · rintro ⟨e1, e2⟩
      have e3 : a = 0 := by grind
      have e4 : p * p = 0 := by grind
      exact ⟨e3, fun q hq => by rcases List.mem_cons.1 hq with rfl | hq; exact sq_zero.1 e4; exact e2 q hq⟩
    · rintro ⟨e1, e2⟩
      have e3 := e2 p (by simp)
      exact ⟨by rw [e1, e3]; grind, fun q hq => e2 q (by simp [hq])⟩

theorem num_len0 {x : Rat} : (((rq x).2.1.length : Int) == 0) = decide (x = 0) := by
  unfold rq
  dsimp only
  rw [dglen0]
  exact decide_eq_decide.2 ⟨fun h => Rat.num_eq_zero.1 (by omega), fun h => by rw [h]; rfl⟩

/-- are all of them 0 -/
def allz (x : List Rat) : Bool := x.all fun p => decide (p = 0)

theorem f12_loop {α : Type} {n : Nat} {x : List Rat} (h4 : x.length ≤ 4) {s9 : List Rt} {s10 : Int} {s11 : List Rt} {s14 : Int} {s16 : Int} {s18 : Int} {s20 : Int} {s22 : Int} {s24 : Int} {s26 : Int} {s27 : List Rt} {s28 : Int} {s30 : Int} {s31 : List Rt} {s32 : Int} {c13_0 : Bool} {c13_1 : List Int} {c13_2 : List Int} {c15_0 : Bool} {c15_1 : List Int} {c15_2 : List Int} {c21_0 : Bool} {c21_1 : List Int} {c21_2 : List Int} {c23_0 : Bool} {c23_1 : List Int} {c23_2 : List Int} {k0 : List Rt → Int → List Rt → Int → Int → Int → Int → Int → Int → Int → List Rt → Int → Int → List Rt → Int → Bool → Bool → List Int → List Int → Bool → List Int → List Int → Bool → List Int → List Int → Bool → List Int → List Int → Option α} : ∀ (m i : Nat) (z : Bool), i ≤ x.length → x.length < i + m →
    f12_L21 n m (x.length : Int) (vq x) s9 s10 s11 s14 s16 s18 s20 s22 s24 s26 s27 s28 s30 s31 s32 z (i : Int) c13_0 c13_1 c13_2 c15_0 c15_1 c15_2 c21_0 c21_1 c21_2 c23_0 c23_1 c23_2 k0 = k0 s9 s10 s11 s14 s16 s18 s20 s22 s24 s26 s27 s28 s30 s31 s32 (z && allz (x.drop i)) c13_0 c13_1 c13_2 c15_0 c15_1 c15_2 c21_0 c21_1 c21_2 c23_0 c23_1 c23_2
  | 0, i, z, hi, hm => by omega
  | m + 1, i, z, hi, hm => by
    rw [f12_L21_s]
    unfold f12_L21B
    rw [Bool.cond_decide]
    by_cases h : i < x.length
    · rw [if_pos (by omega), rdrop h]
      have ez : allz (x.getD i 0 :: x.drop (i + 1)) = (decide (x.getD i 0 = 0) && allz (x.drop (i + 1))) := rfl
      rw [ez, W_id (x := (i : Int) + 1) (by omega) (by omega)]
      cases z with
      | false =>
        rw [cond_false]
        dsimp only
        rw [show (i : Int) + 1 = ((i + 1 : Nat) : Int) from rfl, f12_loop h4 m (i + 1) false (by omega) (by omega)]
        simp
      | true =>
        rw [cond_true, gd_pos (by simp; omega), Int.toNat_natCast, vq_get h]
        dsimp only
        rw [num_len0, show (i : Int) + 1 = ((i + 1 : Nat) : Int) from rfl, f12_loop h4 m (i + 1) _ (by omega) (by omega)]
        simp
    · rw [if_neg (by omega), List.drop_of_length_le (by omega)]
      simp [allz]

/-- the law FnVec -/
theorem f12_eq {n : Nat} {a b : List Int} (ha : ∀ x ∈ a, 0 ≤ x ∧ x ≤ 255) (hb : ∀ x ∈ b, 0 ≤ x ∧ x ≤ 255) (hn : 1048577 ≤ n) : f12 n a b = some true := by
  unfold f12
  rw [Bool.cond_decide]
  by_cases la : a.length ≤ 1048576
  · rw [if_neg (by omega), Bool.cond_decide]
    by_cases lb : b.length ≤ 1048576
    · rw [if_neg (by omega)]
      obtain ⟨v, ev, hv⟩ := f51_eq (n := n) ha la (c := 4) (by omega)
      rw [ev, ob_some, W_id (x := 1 + (v : Int)) (by omega) (by omega), show (1 : Int) + (v : Int) = ((1 + v : Nat) : Int) by omega]
      obtain ⟨x, ex, lx, bx⟩ := f52_eq (n := n) (k := 1 + v) ha la (by omega) hn
      obtain ⟨y, ey, ly, bY⟩ := f52_eq (n := n) (k := 1 + v) hb lb (by omega) hn
      obtain ⟨A, eA, bA⟩ := f36_bq (n := n) hb lb hn
      rw [ex, ob_some, ey, ob_some, eA, ob_some]
      have h1 : 1 ≤ x.length := by omega
      have h4 : x.length ≤ 4 := by omega
      have hl : x.length = y.length := by omega
      have sA : Sz A 40 := bA.sz (by decide) (by decide)
      have sx : Sv x 40 := bx.sz (by decide) (by decide)
      have sy : Sv y 40 := bY.sz (by decide) (by decide)
      have bz := Bv_axp bA bx bY
      have sz : Sv (axp A x y) 40 := bz.sz (by decide) (by decide)
      have bzx := Bq_dot4 bz bx (by decide) (by rw [axp_len hl]; exact h4)
      have bxx := Bq_dot4 bx bx (by decide) h4
      have bxy := Bq_dot4 bx bY (by decide) h4
      have szx : Sz (dotF 0 (axp A x y) x) 40 := bzx.sz (by decide) (by decide)
      have sxx : Sz (dotF 0 x x) 40 := bxx.sz (by decide) (by decide)
      have sxy : Sz (dotF 0 x y) 40 := bxy.sz (by decide) (by decide)
      have bs := Bq_mul bA bxx
      have ss : Sz (A * dotF 0 x x) 40 := bs.sz (by decide) (by decide)
      have bt := Bq_add bs bxy
      have st : Sz (A * dotF 0 x x + dotF 0 x y) 40 := bt.sz (by decide) (by decide)
      have bv := Bv_map bA bx
      have sv : Sv (x.map (A * ·)) 40 := bv.sz (by decide) (by decide)
      have bw := Bv_axp bA bx bv
      have sw : Sv (axp A x (x.map (A * ·))) 40 := bw.sz (by decide) (by decide)
      have bo := Bq_add bA bA
      have so : Sz (A + A) 40 := bo.sz (by decide) (by decide)
      have sl : Sv (x.map ((A + A) * ·)) 40 := (Bv_map bo bx).sz (by decide) (by decide)
      have lz := axp_len (A := A) hl
      have lw : (axp A x (x.map (A * ·))).length = x.length := axp_len (by simp)
      unfold f54
      rw [f46_eq sA sx sy h1 h4 hl sz hn, ob_some, f45_eq sA sx sy h1 h4 hl sz hn, ob_some]
      dsimp only
      rw [f53_eq sz sx (by omega) (by omega) lz szx hn, ob_some, f53_eq sx sx h1 h4 rfl sxx hn, ob_some, f53_eq sx sy h1 h4 hl sxy hn, ob_some]
      dsimp only
      rw [f41_eq sA sxx ss hn, ob_some]
      dsimp only
      rw [f40_eq ss sxy st hn, ob_some, f44_eq sA sx h1 h4 sv hn]
      dsimp only
      rw [ob_some, ob_some]
      dsimp only
      rw [ob_some]
      dsimp only
      rw [f46_eq sA sx sv h1 h4 (by simp) sw hn, ob_some, f40_eq sA sA so hn, ob_some]
      dsimp only
      rw [f44_eq so sx h1 h4 sl hn, ob_some]
      dsimp only
      rw [show ((1 + v : Nat) : Int) = (x.length : Int) by omega]
      refine (f12_loop (n := n) (x := x) h4 n 0 true (by omega) (by omega)).trans ?_
      have e1 : dotF 0 (axp A x y) x = A * dotF 0 x x + dotF 0 x y := by
        rw [dot_lin (b := 0) (c := 0) hl rfl (by grind), dot_comm (x := y)]
      obtain ⟨q1, q2⟩ := dot_sq (x := x) (a := 0) (by grind)
      have q3 : decide (dotF 0 x x = 0) = allz x := by
        unfold allz
        by_cases c : dotF 0 x x = 0
        · rw [decide_eq_true c]
          symm
          rw [List.all_eq_true]
          exact fun p hp => decide_eq_true ((q2.1 c).2 p hp)
        · rw [decide_eq_false c]
          symm
          rw [Bool.eq_false_iff, ne_eq, List.all_eq_true]
          exact fun h => c (q2.2 ⟨rfl, fun p hp => of_decide_eq_true (h p hp)⟩)
      have q4 : (rq (dotF 0 x x)).1 = false := by
        unfold rq
        dsimp only
        rw [decide_eq_false]
        have := Rat.num_nonneg.2 q1
        omega
      have e5 : ∀ (z : Rat), ((rq z).1, (rq z).2.1, (rq z).2.2) = rq z := fun z => rfl
      rw [e5, e5, e5, BEq.rfl, cond_true, l_same rfl (by omega) (sz.mono (by omega)) hn, ob_some, decide_eq_true rfl, cond_true]
      simp only [BEq.rfl, cond_true]
      rw [f42_eq (szx.mono (by omega)) hn, ob_some, decide_eq_true e1, cond_true, f42_eq (sxx.mono (by omega)) hn, ob_some, decide_eq_true rfl, cond_true, num_len0, q3, Bool.true_and, List.drop_zero, BEq.rfl, cond_true, q4, Bool.not_false, cond_true, axp_map, l_same rfl (by simp; omega) (sl.mono (by omega)) hn, ob_some, decide_eq_true rfl, cond_true, i_same sl sl (by simp; omega) (by simp; omega) rfl hn, ob_some, decide_eq_true rfl]
    · rw [if_pos (by omega)]
  · rw [if_pos (by omega)]

def clampR (x l h : Rat) : Rat := if x < l then l else if h < x then h else x

def clv : List Rat → List Rat → List Rat → List Rat
  | a :: x, l :: lo, h :: hi => clampR a l h :: clv x lo hi
  | _, _, _ => []

theorem clv_len : ∀ {x lo hi : List Rat}, x.length = lo.length → x.length = hi.length → (clv x lo hi).length = x.length
  | [], [], [], _, _ => rfl
  | a :: x, l :: lo, h :: hi, h1, h2 => by
    show (clv x lo hi).length + 1 = x.length + 1
    rw [clv_len (by simpa using h1) (by simpa using h2)]
  | [], _ :: _, _, h1, _ => by simp at h1
  | _ :: _, [], _, h1, _ => by simp at h1
  | [], [], _ :: _, _, h2 => by simp at h2
  | _ :: _, _ :: _, [], _, h2 => by simp at h2

theorem clv_get : ∀ {x lo hi : List Rat}, x.length = lo.length → x.length = hi.length → ∀ {i : Nat}, i < x.length → (clv x lo hi).getD i 0 = clampR (x.getD i 0) (lo.getD i 0) (hi.getD i 0)
  | a :: x, l :: lo, h :: hi, h1, h2, 0, _ => rfl
  | a :: x, l :: lo, h :: hi, h1, h2, i + 1, hi' => by
    show (clv x lo hi).getD i 0 = clampR (x.getD i 0) (lo.getD i 0) (hi.getD i 0)
    exact clv_get (by simpa using h1) (by simpa using h2) (by simpa using hi')
  | [], _, _, _, _, i, hi' => by simp at hi'
  | _ :: _, [], _, h1, _, _, _ => by simp at h1
  | _ :: _, _ :: _, [], _, h2, _, _ => by simp at h2

theorem clv_mem {P : Rat → Prop} : ∀ {x lo hi : List Rat}, (∀ a ∈ x, P a) → (∀ a ∈ lo, P a) → (∀ a ∈ hi, P a) → ∀ a ∈ clv x lo hi, P a
  | a :: x, l :: lo, h :: hi, hx, hl, hh => by
    intro c hc
    rcases List.mem_cons.1 (show c ∈ clampR a l h :: clv x lo hi from hc) with rfl | hc
    · unfold clampR
      split
      · exact hl l (by simp)
      · split
        · exact hh h (by simp)
        · exact hx a (by simp)
    · exact clv_mem (fun b hb => hx b (by simp [hb])) (fun b hb => hl b (by simp [hb])) (fun b hb => hh b (by simp [hb])) c hc
  | [], _, _, _, _, _ => by intro c hc; simp [clv] at hc
  | _ :: _, [], _, _, _, _ => by intro c hc; simp [clv] at hc
  | _ :: _, _ :: _, [], _, _, _ => by intro c hc; simp [clv] at hc

theorem rok_rqm {x : List Rat} (h : Sv x 40) {i : Nat} (hi : i < x.length) : rok (rq (x.getD i 0)) = true := rq_rok (h.get hi)

theorem f164_eq {n : Nat} {x lo hi : List Rat} (hx : Sv x 40) (hlo : Sv lo 40) (hhi : Sv hi 40) (h1 : x.length = lo.length) (h2 : x.length = hi.length) (hn : 1048577 ≤ n) {i : Nat} (h : i < x.length) :
    f164 n (i : Int) (vq x) (vq lo) (vq hi) = some (rq (clampR (x.getD i 0) (lo.getD i 0) (hi.getD i 0))) := by
  unfold f164
  dsimp only
  have g1 : (decide (0 ≤ (i : Int)) && decide ((i : Int) < ((vq x).length : Int))) = true := by simp; omega
  have g2 : (decide (0 ≤ (i : Int)) && decide ((i : Int) < ((vq lo).length : Int))) = true := by simp; omega
  have g3 : (decide (0 ≤ (i : Int)) && decide ((i : Int) < ((vq hi).length : Int))) = true := by simp; omega
  rw [gd_pos g1, gd_pos g2, Int.toNat_natCast, vq_get h, vq_get (x := lo) (by omega), vq_get (x := hi) (by omega)]
  obtain ⟨r, e1, e2, e3⟩ := f86_eq (n := n) (rok_rqm hx h) (rok_rqm hlo (i := i) (by omega)) hn
  obtain ⟨r', e4, e5, e6⟩ := f86_eq (n := n) (rok_rqm hx h) (rok_rqm hhi (i := i) (by omega)) hn
  rw [gtR_rq] at e3 e5
  rw [e1, ob_some, e3, Bool.cond_decide]
  unfold clampR
  by_cases c : x.getD i 0 < lo.getD i 0
  · rw [if_pos c, if_pos c, gd_pos g2]
  · rw [if_neg c, if_neg c, gd_pos g1, gd_pos g3, e4, ob_some, e5, Bool.cond_decide]
    by_cases c' : hi.getD i 0 < x.getD i 0
    · rw [if_pos c', if_pos c', gd_pos g3]
    · rw [if_neg c', if_neg c', gd_pos g1]

theorem f97c_loop {α : Type} {n : Nat} {x lo hi : List Rat} (hx : Sv x 40) (hlo : Sv lo 40) (hhi : Sv hi 40) (h1 : x.length = lo.length) (h2 : x.length = hi.length) (h4 : x.length ≤ 4096) (hn : 1048577 ≤ n) {k0 : List Rt → Option α} : ∀ (m i : Nat) (o : List Rt), o.length ≤ i → i ≤ x.length → x.length < i + m →
    f97c_L3 n m (vq x, vq lo, vq hi) (x.length : Int) (i : Int) o k0 = k0 (o ++ vq ((clv x lo hi).drop i))
  | 0, i, o, ho, hi, hm => by omega
  | m + 1, i, o, ho, hi', hm => by
    rw [f97c_L3_s]
    unfold f97c_L3B
    dsimp only
    rw [Bool.cond_decide]
    by_cases h : i < x.length
    · rw [if_pos (by omega), f164_eq hx hlo hhi h1 h2 hn h, ob_some]
      have hz : Sv (clv x lo hi) 40 := clv_mem hx hlo hhi
      have hl := clv_len h1 h2
      rw [← clv_get h1 h2 h]
      rw [f72_rq ((hz.get (by omega)).mono (by omega)), ob_some, gd_pos (by simp; omega), W_id (x := (i : Int) + 1) (by omega) (by omega)]
      have := f97c_loop hx hlo hhi h1 h2 h4 hn (k0 := k0) m (i + 1) (o ++ [rq ((clv x lo hi).getD i 0)]) (by simp; omega) (by omega) (by omega)
      rw [show (i : Int) + 1 = ((i + 1 : Nat) : Int) from rfl, this, List.append_assoc, rdrop (x := clv x lo hi) (i := i) (by omega)]
      rfl
    · have hl := clv_len h1 h2
      rw [if_neg (by omega), List.drop_of_length_le (by omega)]
      simp [vq]

theorem inord {n : Nat} {lo hi : List Rat} (hlo : Sv lo 40) (hhi : Sv hi 40) (h1 : 1 ≤ lo.length) (h4 : lo.length ≤ 4) (h2 : lo.length = hi.length) (ho : ∀ i, i < lo.length → ¬ hi.getD i 0 < lo.getD i 0) (hn : 1048577 ≤ n) : f114 n (vq lo) (vq hi) = some true := by
  obtain ⟨r, e1, e2⟩ := f114_eq (n := n) (vok_vq hlo h1 h4) (vok_vq hhi (by omega) (by omega)) (by simpa using h2) hn
  rw [e1, e2.2 fun j hj => ?_]
  rw [vq_len] at hj
  have a1 : (vq lo).getD j rt0 = rq (lo.getD j 0) := vq_get hj
  have a2 : (vq hi).getD j rt0 = rq (hi.getD j 0) := vq_get (by omega)
  rw [a1, a2, gtR_rq, decide_eq_false (ho j hj)]

theorem f58_eq {n : Nat} {x lo hi : List Rat} (hx : Sv x 40) (hlo : Sv lo 40) (hhi : Sv hi 40) (l1 : 1 ≤ x.length) (l4 : x.length ≤ 4) (h1 : x.length = lo.length) (h2 : x.length = hi.length) (ho : ∀ i, i < lo.length → ¬ hi.getD i 0 < lo.getD i 0) (hn : 1048577 ≤ n) :
    f58 n (vq x) (vq lo) (vq hi) = some (vq (clv x lo hi), 0) := by
  unfold f58 f115 f97c
  have q := f97c_loop (n := n) hx hlo hhi h1 h2 (by omega) hn (k0 := fun z_3 => some z_3) n 0 [] (by simp) (by omega) (by omega)
  have q : f97c_L3 n n (vq x, vq lo, vq hi) (x.length : Int) 0 [] _ = _ := q
  rw [vecs2 hx hlo l1 l4 h1 hn, ob_some, bne_self_eq_false, cond_false, vecs2 hx hhi l1 l4 h2 hn, ob_some, bne_self_eq_false, cond_false, inord hlo hhi (by omega) (by omega) (by omega) ho hn, ob_some, Bool.not_true, cond_false, vq_len, q, ob_some, ob_some]
  simp

theorem f116_loop {α : Type} {n : Nat} {x lo hi : List Rat} (hx : Sv x 40) (hlo : Sv lo 40) (hhi : Sv hi 40) (h1 : x.length = lo.length) (h2 : x.length = hi.length) (h4 : x.length ≤ 4096) (hn : 1048577 ≤ n) {k0 : List Rt → Option α} : ∀ (m i : Nat) (o : List Rt), o.length ≤ i → i ≤ x.length → x.length < i + m →
    f116_L3 n m (vq x) (vq lo) (vq hi) (i : Int) o k0 = k0 (o ++ vq ((clv x lo hi).drop i))
  | 0, i, o, ho, hi, hm => by omega
  | m + 1, i, o, ho, hi', hm => by
    rw [f116_L3_s]
    unfold f116_L3B
    dsimp only
    have hl := clv_len h1 h2
    rw [Bool.cond_decide]
    by_cases h : i < x.length
    · rw [if_pos (by simp; omega)]
      have g1 : (decide (0 ≤ (i : Int)) && decide ((i : Int) < ((vq x).length : Int))) = true := by simp; omega
      have g2 : (decide (0 ≤ (i : Int)) && decide ((i : Int) < ((vq lo).length : Int))) = true := by simp; omega
      have g3 : (decide (0 ≤ (i : Int)) && decide ((i : Int) < ((vq hi).length : Int))) = true := by simp; omega
      have g4 : decide ((o.length + 1) * 56 ≤ 140737488355328) = true := by simp; omega
      rw [gd_pos g1, gd_pos g2, Int.toNat_natCast, vq_get h, vq_get (x := lo) (by omega), vq_get (x := hi) (by omega)]
      obtain ⟨r, e1, e2, e3⟩ := f88_eq (n := n) (rok_rqm hx h) (rok_rqm hlo (i := i) (by omega)) hn
      obtain ⟨r', e4, e5, e6⟩ := f88_eq (n := n) (rok_rqm hx h) (rok_rqm hhi (i := i) (by omega)) hn
      rw [gtR_rq] at e3 e5
      have key : f116_L3 n m (vq x) (vq lo) (vq hi) (W ((i : Int) + 1)) (o ++ [rq (clampR (x.getD i 0) (lo.getD i 0) (hi.getD i 0))]) k0 = k0 (o ++ vq ((clv x lo hi).drop i)) := by
        have := f116_loop hx hlo hhi h1 h2 h4 hn (k0 := k0) m (i + 1) (o ++ [rq ((clv x lo hi).getD i 0)]) (by simp; omega) (by omega) (by omega)
        rw [W_id (x := (i : Int) + 1) (by omega) (by omega), ← clv_get h1 h2 h]
        rw [show (i : Int) + 1 = ((i + 1 : Nat) : Int) from rfl, this, List.append_assoc, rdrop (x := clv x lo hi) (i := i) (by omega)]
        rfl
      rw [e1, ob_some, e3, Bool.cond_decide]
      unfold clampR at key
      by_cases c : x.getD i 0 < lo.getD i 0
      · rw [if_pos c] at key
        rw [if_pos c, gd_pos g2, gd_pos g4]
        exact key
      · rw [if_neg c] at key
        rw [if_neg c, gd_pos g1, gd_pos g3, e4, ob_some, e5, Bool.cond_decide]
        by_cases c' : hi.getD i 0 < x.getD i 0
        · rw [if_pos c'] at key
          rw [if_pos c', gd_pos g3, gd_pos g4]
          exact key
        · rw [if_neg c'] at key
          rw [if_neg c', gd_pos g1, gd_pos g4]
          exact key
    · rw [if_neg (by simp; omega), List.drop_of_length_le (by omega)]
      simp [vq]

theorem f59_loop {α : Type} {n : Nat} {x lo hi : List Rat} (hlo : Sv lo 40) (hhi : Sv hi 40) (h1 : x.length = lo.length) (h2 : x.length = hi.length) (h4 : x.length ≤ 4096) (ho : ∀ i, i < lo.length → ¬ hi.getD i 0 < lo.getD i 0) (hn : 1048577 ≤ n) {k0 : Int → List Rt → Option α} {k1 : List Rt → List Rt → List Rt → Option α} : ∀ (m i : Nat), i ≤ x.length → x.length < i + m →
    f59_L10 n m (vq x) (vq lo) (vq hi) (i : Int) k0 k1 = k1 (vq x) (vq lo) (vq hi)
  | 0, i, hi, hm => by omega
  | m + 1, i, hi', hm => by
    rw [f59_L10_s]
    unfold f59_L10B
    dsimp only
    rw [Bool.cond_decide]
    by_cases h : i < x.length
    · rw [if_pos (by simp; omega), gd_pos (by simp; omega), gd_pos (by simp; omega), Int.toNat_natCast, vq_get (x := lo) (by omega), vq_get (x := hi) (by omega)]
      obtain ⟨r, e1, e2, e3⟩ := f88_eq (n := n) (rok_rqm hlo (i := i) (by omega)) (rok_rqm hhi (i := i) (by omega)) hn
      rw [gtR_rq] at e2
      rw [e1, ob_some, e2, decide_eq_false (ho i (by omega)), cond_false, W_id (x := (i : Int) + 1) (by omega) (by omega)]
      exact f59_loop hlo hhi h1 h2 h4 ho hn m (i + 1) (by omega) (by omega)
    · rw [if_neg (by simp; omega)]

theorem f59_eq {n : Nat} {x lo hi : List Rat} (hx : Sv x 40) (hlo : Sv lo 40) (hhi : Sv hi 40) (l1 : 1 ≤ x.length) (l4 : x.length ≤ 4) (h1 : x.length = lo.length) (h2 : x.length = hi.length) (ho : ∀ i, i < lo.length → ¬ hi.getD i 0 < lo.getD i 0) (hn : 1048577 ≤ n) :
    f59 n (vq x) (vq lo) (vq hi) = some (vq (clv x lo hi), 0) := by
  unfold f59
  have hz : Sv (clv x lo hi) 40 := clv_mem hx hlo hhi
  have hl := clv_len h1 h2
  rw [vq_len, vq_len, vq_len, decide_eq_false (by omega), decide_eq_false (by omega), decide_eq_false (by omega), cond_false, cond_false, cond_false, ask0 hx hlo l1 l4 h1 hn, ob_some, bne_self_eq_false, cond_false, ask0 hx hhi l1 l4 h2 hn, ob_some, bne_self_eq_false, cond_false]
  refine (f59_loop (n := n) (x := x) hlo hhi h1 h2 (by omega) ho hn n 0 (by omega) (by omega)).trans ?_
  unfold f116
  have q := f116_loop (n := n) hx hlo hhi h1 h2 (by omega) hn (k0 := fun z_10 => some z_10) n 0 [] (by simp) (by omega) (by omega)
  have q : f116_L3 n n (vq x) (vq lo) (vq hi) 0 [] _ = _ := q
  rw [q, ob_some, List.nil_append, List.drop_zero, s_full (by omega) (hz.mono (by omega)) hn, ob_some, if_pos (allfit hz)]

theorem rq_nat (c : Nat) : rq (c : Rat) = (false, dg c, dg 1) := by
  unfold rq
  rw [Rat.num_natCast, Rat.den_natCast, Int.natAbs_natCast, decide_eq_false (by omega)]

theorem f112_eq {n c : Nat} (hc : c ≤ 100) (hn : 1048577 ≤ n) : f112 n (c : Int) = some (rq (c : Rat)) := by
  unfold f112
  rw [decide_eq_false (by omega), cond_false, f163_eq (by omega) (by omega), ob_some, rq_nat, dg_one]
  rfl

theorem Sz_nat {c : Nat} (hc : c ≤ 100) : Sz (c : Rat) 1 := by
  unfold Sz
  rw [Rat.num_natCast, Rat.den_natCast, Int.natAbs_natCast]
  exact ⟨len_of (by omega), len_of (by omega)⟩

theorem f57_eq {n c : Nat} (hc : c ≤ 100) (hn : 1048577 ≤ n) : f57 n (c : Int) 1 = some (rq (c : Rat), 0) := by
  unfold f57
  rw [decide_eq_false (by omega), decide_eq_false (by omega), decide_eq_false (by omega), decide_eq_false (by omega), cond_false, cond_false, cond_false, cond_false, show ((1 : Int) == 0) = false from rfl, cond_false, f112_eq hc hn, ob_some]
  have e1 := f112_eq (n := n) (c := 1) (by omega) hn
  have e1 : f112 n 1 = some (rq ((1 : Nat) : Rat)) := e1
  rw [e1, ob_some, i_over (L := 1) (Sz_nat hc) (Sz_nat (by omega)) (by decide) (by omega) (by omega), ob_some]
  have : (c : Rat) / ((1 : Nat) : Rat) = c := by
    have h1 : ((1 : Nat) : Rat) = 1 := rfl
    rw [h1]; grind
  rw [this]

theorem f13_loop9 {α : Type} {n : Nat} {x lo : List Rat} {c : Nat} (hc : c ≤ 8) (hlo : Bv lo 10 9) (h4 : lo.length ≤ 4) (hn : 1048577 ≤ n) {z : Int} {k0 : Bool → Option α} {k1 : Int → List Rt → List Rt → Int → List Rt → Option α} : ∀ (m i : Nat) (o : List Rat), o.length = i → i ≤ lo.length → lo.length < i + m →
    f13_L9 n m (lo.length : Int) (vq x) (vq lo) z (i : Int) (rq (c : Rat)).1 (rq (c : Rat)).2.1 (rq (c : Rat)).2.2 (vq o) k0 k1 = k1 (lo.length : Int) (vq x) (vq lo) z (vq (o ++ (lo.drop i).map (· + (c : Rat))))
  | 0, i, o, ho, hi, hm => by omega
  | m + 1, i, o, ho, hi, hm => by
    rw [f13_L9_s]
    unfold f13_L9B
    dsimp only
    rw [Bool.cond_decide]
    by_cases h : i < lo.length
    · rw [if_pos (by omega), gd_pos (by simp; omega), Int.toNat_natCast, vq_get h]
      have b1 : Bq (c : Rat) 8 1 := by unfold Bq; rw [Rat.num_natCast, Rat.den_natCast]; omega
      have b2 := hlo.get h
      have b3 := Bq_add b2 b1
      have e := f40_eq (n := n) (b2.sz (L := 40) (by decide) (by decide)) (b1.sz (L := 40) (by decide) (by decide)) (b3.sz (L := 40) (by decide) (by decide)) hn
      have e : f40 n (rq (lo.getD i 0)) ((rq (c : Rat)).1, (rq (c : Rat)).2.1, (rq (c : Rat)).2.2) = _ := e
      rw [e, ob_some, bne_self_eq_false, cond_false, gd_pos (by simp; omega), W_id (x := (i : Int) + 1) (by omega) (by omega)]
      have := f13_loop9 (x := x) hc hlo h4 hn (z := z) (k0 := k0) (k1 := k1) m (i + 1) (o ++ [lo.getD i 0 + (c : Rat)]) (by simp; omega) (by omega) (by omega)
      rw [show vq o ++ [(rq (lo.getD i 0 + (c : Rat)), (0 : Int)).1] = vq (o ++ [lo.getD i 0 + (c : Rat)]) by simp [vq]]
      rw [show (i : Int) + 1 = ((i + 1 : Nat) : Int) from rfl, this, List.append_assoc, rdrop h]
      rfl
    · rw [if_neg (by omega), List.drop_of_length_le (by omega)]
      simp

theorem f13_loop21 {α : Type} {n : Nat} {lo y hi : List Rat} (hlo : Sv lo 40) (hy : Sv y 40) (hhi : Sv hi 40) (h1 : lo.length = y.length) (h2 : lo.length = hi.length) (h4 : lo.length ≤ 4) (ho : ∀ i, i < lo.length → ¬ y.getD i 0 < lo.getD i 0 ∧ ¬ hi.getD i 0 < y.getD i 0) (hn : 1048577 ≤ n) {k0 : Bool → Option α} {k1 : Unit → Option α} : ∀ (m i : Nat), i ≤ lo.length → lo.length < i + m →
    f13_L21 n m (lo.length : Int) (vq lo) (vq y) (i : Int) (vq hi) k0 k1 = k1 ()
  | 0, i, hi, hm => by omega
  | m + 1, i, hi', hm => by
    rw [f13_L21_s]
    unfold f13_L21B
    dsimp only
    rw [Bool.cond_decide]
    by_cases h : i < lo.length
    · rw [if_pos (by omega), gd_pos (by simp; omega), gd_pos (by simp; omega), Int.toNat_natCast, vq_get h, vq_get (x := y) (by omega), vq_get (x := hi) (by omega)]
      obtain ⟨o1, o2⟩ := ho i h
      rw [f38_eq (hlo.get h) (hy.get (by omega)) hn, ob_some, gd_pos (by simp; omega), gd_pos (by simp; omega), gd_pos (by simp; omega), f38_eq (hy.get (by omega)) (hhi.get (by omega)) hn, ob_some]
      have s1 : ¬ sgc (lo.getD i 0) (y.getD i 0) > 0 := by unfold sgc; rw [if_neg o1]; split <;> omega
      have s2 : ¬ sgc (y.getD i 0) (hi.getD i 0) > 0 := by unfold sgc; rw [if_neg o2]; split <;> omega
      rw [bne_self_eq_false, cond_false, cond_false, decide_eq_false s1, cond_false, decide_eq_false s2, cond_false, W_id (x := (i : Int) + 1) (by omega) (by omega)]
      exact f13_loop21 hlo hy hhi h1 h2 h4 ho hn m (i + 1) (by omega) (by omega)
    · rw [if_neg (by omega)]

theorem clv_twice : ∀ {x lo hi : List Rat}, x.length = lo.length → x.length = hi.length → (∀ i, i < lo.length → ¬ hi.getD i 0 < lo.getD i 0) → clv (clv x lo hi) lo hi = clv x lo hi
  | [], [], [], _, _, _ => rfl
  | a :: x, l :: lo, h :: hi, h1, h2, ho => by
    show clampR (clampR a l h) l h :: clv (clv x lo hi) lo hi = clampR a l h :: clv x lo hi
    rw [clv_twice (by simpa using h1) (by simpa using h2) (fun i hi' => by simpa using ho (i + 1) (by simpa using hi'))]
    have h0 : ¬ h < l := by simpa using ho 0 (by simp)
    congr 1
    unfold clampR
    grind
  | [], _ :: _, _, h1, _, _ => by simp at h1
  | _ :: _, [], _, h1, _, _ => by simp at h1
  | [], [], _ :: _, _, h2, _ => by simp at h2
  | _ :: _, _ :: _, [], _, h2, _ => by simp at h2

/-- the law FnClamp -/
theorem f13_eq {n : Nat} {a b : List Int} (ha : ∀ x ∈ a, 0 ≤ x ∧ x ≤ 255) (hb : ∀ x ∈ b, 0 ≤ x ∧ x ≤ 255) (hn : 1048577 ≤ n) : f13 n a b = some true := by
  unfold f13
  rw [Bool.cond_decide]
  by_cases la : a.length ≤ 1048576
  · rw [if_neg (by omega), Bool.cond_decide]
    by_cases lb : b.length ≤ 1048576
    · rw [if_neg (by omega)]
      obtain ⟨v, ev, hv⟩ := f51_eq (n := n) ha la (c := 4) (by omega)
      rw [ev, ob_some, W_id (x := 1 + (v : Int)) (by omega) (by omega), show (1 : Int) + (v : Int) = ((1 + v : Nat) : Int) by omega]
      obtain ⟨x, ex, lx, bx⟩ := f52_eq (n := n) (k := 1 + v) ha la (by omega) hn
      obtain ⟨lo, ey, ly, bL⟩ := f52_eq (n := n) (k := 1 + v) hb lb (by omega) hn
      obtain ⟨c, ec, hc⟩ := f51_eq (n := n) hb lb (c := 9) (by omega)
      rw [ex, ob_some, ey, ob_some, ec, ob_some, f57_eq (by omega) hn, ob_some]
      dsimp only
      rw [show ((1 + v : Nat) : Int) = (lo.length : Int) by omega]
      refine (f13_loop9 (n := n) (x := x) (lo := lo) (c := c) (by omega) bL (by omega) hn n 0 [] rfl (by omega) (by omega)).trans ?_
      rw [List.nil_append, List.drop_zero]
      generalize hh : lo.map (· + (c : Rat)) = hi
      have lh : hi.length = lo.length := by rw [← hh]; simp
      have b1 : Bq (c : Rat) 8 1 := by unfold Bq; rw [Rat.num_natCast, Rat.den_natCast]; omega
      have bh : Bv hi (10 * 1 + 8 * 9) (9 * 1) := by
        intro p hp
        rw [← hh] at hp
        obtain ⟨q, hq, rfl⟩ := List.mem_map.1 hp
        exact Bq_add (bL q hq) b1
      have hg : ∀ i, i < lo.length → hi.getD i 0 = lo.getD i 0 + (c : Rat) := by
        intro i hi'
        rw [← hh, List.getD_eq_getElem?_getD, List.getElem?_map, List.getD_eq_getElem?_getD, List.getElem?_eq_getElem hi']; rfl
      have c0 : (0 : Rat) ≤ (c : Rat) := Rat.num_nonneg.1 (by rw [Rat.num_natCast]; omega)
      have ho : ∀ i, i < lo.length → ¬ hi.getD i 0 < lo.getD i 0 := by
        intro i hi'
        rw [hg i hi']
        grind
      have sx : Sv x 40 := bx.sz (by decide) (by decide)
      have sl : Sv lo 40 := bL.sz (by decide) (by decide)
      have sh : Sv hi 40 := bh.sz (by decide) (by decide)
      have sy : Sv (clv x lo hi) 40 := clv_mem sx sl sh
      have e1 : x.length = lo.length := by omega
      have e2 : x.length = hi.length := by omega
      have e3 := clv_len e1 e2
      rw [f58_eq sx sl sh (by omega) (by omega) e1 e2 ho hn, ob_some, f59_eq sx sl sh (by omega) (by omega) e1 e2 ho hn, ob_some]
      dsimp only
      rw [f58_eq sy sl sh (by omega) (by omega) (by omega) (by omega) ho hn, ob_some, clv_twice e1 e2 ho]
      simp only [bne_self_eq_false, cond_false]
      rw [l_same rfl (by omega) (sy.mono (by omega)) hn, ob_some, decide_eq_true rfl, Bool.not_true, cond_false, vq_len, e3, e1, bne_self_eq_false, cond_false]
      simp only [ob_some, Bool.not_true, cond_false, decide_true]
      refine f13_loop21 (n := n) sl sy sh (by omega) (by omega) (by omega) (fun i hi' => ?_) hn n 0 (by omega) (by omega)
      rw [clv_get e1 e2 (by omega)]
      have := ho i hi'
      unfold clampR
      grind
    · rw [if_pos (by omega)]
  · rw [if_pos (by omega)]

end Go.Ev
