/- DERIVED. The plain laws: what the models compute. -/
import Derived.Test.YtcpdoafoahaagaaGreatGb

set_option linter.all false
set_option linter.unusedVariables false
set_option linter.unusedSimpArgs false

namespace Go.Ev
open Go

theorem W_id {x : Int} (h : -9223372036854775808 ≤ x) (h' : x < 9223372036854775808) : W x = x := wrap64_id h h'

@[simp] theorem ob_some {α β : Type} (r : β) (k : β → Option α) : ob (some r) k = k r := rfl

@[simp] theorem ob_none {α β : Type} (k : β → Option α) : ob (none : Option β) k = none := rfl

@[simp] theorem gd_true {α : Type} (x : Option α) : gd true x = x := rfl

@[simp] theorem gd_false {α : Type} (x : Option α) : gd false x = none := rfl

theorem gd_pos {α : Type} {g : Bool} (h : g = true) (x : Option α) : gd g x = x := by rw [h]; rfl

theorem foldl_max_le (l : List Int) (a b : Int) : l.foldl max a ≤ b ↔ a ≤ b ∧ ∀ x ∈ l, x ≤ b := by
  induction l generalizing a with
  | nil => simp
  | cons y r ih =>
    simp only [List.foldl_cons, ih, List.mem_cons, forall_eq_or_imp]
    constructor
    · rintro ⟨h, h'⟩; exact ⟨by omega, by omega, h'⟩
    · rintro ⟨h, h', h''⟩; exact ⟨by omega, h''⟩

theorem getD_append_left {α : Type} {l m : List α} {i : Nat} {d : α} (h : i < l.length) : (l ++ m).getD i d = l.getD i d := by
  simp [List.getD_eq_getElem?_getD, List.getElem?_append_left h]

theorem getD_append_last {α : Type} {l : List α} {x d : α} : (l ++ [x]).getD l.length d = x := by
  simp [List.getD_eq_getElem?_getD]

theorem getD_drop_cons {α : Type} {l r : List α} {x d : α} {k : Nat} (h : l.drop k = x :: r) : l.getD k d = x ∧ k < l.length ∧ l.drop (k + 1) = r := by
  have hk : k < l.length := by
    rcases Nat.lt_or_ge k l.length with h' | h'
    · exact h'
    · rw [List.drop_of_length_le h'] at h; cases h
  have := List.drop_eq_getElem_cons hk
  rw [h] at this
  injection this with h1 h2
  exact ⟨by simp [List.getD_eq_getElem?_getD, hk, h1], hk, h2.symm⟩

/-- the number that limbs are -/
def vl : List Int → Int
  | [] => 0
  | x :: r => x + 10000 * vl r

def Lm (l : List Int) : Prop := ∀ x ∈ l, 0 ≤ x ∧ x < 10000

/-- the limbs of a number -/
def dg (n : Nat) : List Int := if n = 0 then [] else ((n % 10000 : Nat) : Int) :: dg (n / 10000)
termination_by n
decreasing_by omega

theorem dg_zero : dg 0 = [] := by rw [dg]; rfl

theorem dg_pos {n : Nat} (h : n ≠ 0) : dg n = ((n % 10000 : Nat) : Int) :: dg (n / 10000) := by rw [dg, if_neg h]

theorem Lm.nil : Lm [] := fun _ h => by cases h

theorem Lm.cons {x : Int} {l : List Int} (hx : 0 ≤ x ∧ x < 10000) (hl : Lm l) : Lm (x :: l) := fun y hy => by
  rcases List.mem_cons.1 hy with rfl | hy
  · exact hx
  · exact hl y hy

theorem Lm.head {x : Int} {l : List Int} (h : Lm (x :: l)) : 0 ≤ x ∧ x < 10000 := h x (by simp)

theorem Lm.tail {x : Int} {l : List Int} (h : Lm (x :: l)) : Lm l := fun y hy => h y (by simp [hy])

theorem Lm.app {l m : List Int} (h : Lm l) (h' : Lm m) : Lm (l ++ m) := fun y hy => (List.mem_append.1 hy).elim (h y) (h' y)

theorem Lm.take {l : List Int} (h : Lm l) (k : Nat) : Lm (l.take k) := fun y hy => h y (List.mem_of_mem_take hy)

theorem Lm.drop {l : List Int} (h : Lm l) (k : Nat) : Lm (l.drop k) := fun y hy => h y (List.mem_of_mem_drop hy)

theorem Lm.set {l : List Int} (h : Lm l) (k : Nat) {x : Int} (hx : 0 ≤ x ∧ x < 10000) : Lm (l.set k x) := fun y hy => by
  rcases List.mem_or_eq_of_mem_set hy with hy | rfl
  · exact h y hy
  · exact hx

theorem Lm.get {l : List Int} (h : Lm l) (k : Nat) : 0 ≤ l.getD k 0 ∧ l.getD k 0 < 10000 := by
  rw [List.getD_eq_getElem?_getD]
  cases e : l[k]? with
  | none => simp
  | some x => exact h x (List.mem_of_getElem? e)

theorem Lm.rep (n : Nat) : Lm (List.replicate n 0) := fun y hy => by
  obtain rfl := (List.mem_replicate.1 hy).2
  omega

theorem Lm_dg (n : Nat) : Lm (dg n) := by
  induction n using Nat.strongRecOn with
  | _ n ih =>
    by_cases h : n = 0
    · subst h; rw [dg_zero]; exact Lm.nil
    · rw [dg_pos h]
      exact Lm.cons (by omega) (ih _ (by omega))

theorem vl_dg (n : Nat) : vl (dg n) = n := by
  induction n using Nat.strongRecOn with
  | _ n ih =>
    by_cases h : n = 0
    · subst h; rw [dg_zero]; rfl
    · rw [dg_pos h, vl, ih _ (by omega)]
      omega

theorem vl_nonneg {l : List Int} (h : Lm l) : 0 ≤ vl l := by
  induction l with
  | nil => exact Int.le_refl _
  | cons x r ih =>
    have := h.head
    have := ih h.tail
    simp only [vl]; omega

theorem pw_pos (k : Nat) : (0 : Int) < 10000 ^ k := Int.pow_pos (by omega)

theorem pw_succ (k : Nat) : (10000 : Int) ^ (k + 1) = 10000 * 10000 ^ k := by rw [Int.pow_succ, Int.mul_comm]

theorem pw_le {i j : Nat} (h : i ≤ j) : (10000 : Int) ^ i ≤ 10000 ^ j := by
  induction j with
  | zero => obtain rfl : i = 0 := by omega
            exact Int.le_refl _
  | succ j ih =>
    by_cases e : i = j + 1
    · subst e; exact Int.le_refl _
    · have := ih (by omega)
      have := pw_pos j
      rw [pw_succ]; omega

theorem pw_lt {i j : Nat} (h : (10000 : Int) ^ i < 10000 ^ j) : i < j := by
  rcases Nat.lt_or_ge i j with h' | h'
  · exact h'
  · have := pw_le h'; omega

theorem vl_lt {l : List Int} (h : Lm l) : vl l < 10000 ^ l.length := by
  induction l with
  | nil => simp [vl]
  | cons x r ih =>
    have := h.head
    have := ih h.tail
    simp only [vl, List.length_cons, pw_succ]; omega

theorem vl_app (l m : List Int) : vl (l ++ m) = vl l + 10000 ^ l.length * vl m := by
  induction l with
  | nil => simp [vl]
  | cons x r ih => simp only [List.cons_append, vl, ih, List.length_cons, pw_succ]; grind

theorem vl_snoc (l : List Int) (x : Int) : vl (l ++ [x]) = vl l + 10000 ^ l.length * x := by rw [vl_app]; simp [vl]

theorem vl_rep (n : Nat) : vl (List.replicate n 0) = 0 := by
  induction n with
  | zero => rfl
  | succ n ih => simp [List.replicate_succ, vl, ih]

theorem vl_take_succ {l : List Int} {k : Nat} (h : k < l.length) : vl (l.take (k + 1)) = vl (l.take k) + 10000 ^ k * l.getD k 0 := by
  rw [List.take_succ_eq_append_getElem h, vl_snoc, List.length_take, Nat.min_eq_left (by omega), List.getD_eq_getElem?_getD, List.getElem?_eq_getElem h]
  rfl

theorem vl_set {l : List Int} {k : Nat} (x : Int) (h : k < l.length) : vl (l.set k x) = vl l + 10000 ^ k * (x - l.getD k 0) := by
  induction l generalizing k with
  | nil => simp at h
  | cons y r ih =>
    cases k with
    | zero => simp [vl]; omega
    | succ k =>
      have := ih (k := k) (by simpa using h)
      simp only [List.set_cons_succ, vl, this, List.getD_cons_succ, pw_succ]
      grind

/-- limbs without noughts at their end -/
def Cn (l : List Int) : Prop := Lm l ∧ (l ≠ [] → l.getD (l.length - 1) 0 ≠ 0)

theorem Cn_dg (n : Nat) : Cn (dg n) := by
  refine ⟨Lm_dg n, ?_⟩
  induction n using Nat.strongRecOn with
  | _ n ih =>
    by_cases h : n = 0
    · subst h; rw [dg_zero]; exact fun h => absurd rfl h
    · rw [dg_pos h]
      intro _
      by_cases e : dg (n / 10000) = []
      · rw [e]
        have h0 : n / 10000 = 0 := by
          have := vl_dg (n / 10000)
          rw [e] at this
          simp only [vl] at this
          omega
        simp
        omega
      · have := ih (n / 10000) (by omega) e
        have hl : 0 < (dg (n / 10000)).length := List.length_pos_iff.2 e
        simp only [List.length_cons, Nat.add_sub_cancel]
        rw [show (dg (n / 10000)).length = ((dg (n / 10000)).length - 1) + 1 by omega, List.getD_cons_succ]
        exact this

theorem Cn.tail {x : Int} {l : List Int} (h : Cn (x :: l)) : Cn l := by
  refine ⟨h.1.tail, fun hn => ?_⟩
  have := h.2 (by simp)
  have hl : 0 < l.length := List.length_pos_iff.2 hn
  simp only [List.length_cons, Nat.add_sub_cancel] at this
  rw [show l.length = (l.length - 1) + 1 by omega, List.getD_cons_succ] at this
  exact this

theorem Cn.pos {l : List Int} (h : Cn l) (hn : l ≠ []) : 0 < vl l := by
  induction l with
  | nil => exact absurd rfl hn
  | cons x r ih =>
    have hx := h.1.head
    have hr := vl_nonneg h.1.tail
    by_cases e : r = []
    · subst e
      have := h.2 (by simp)
      simp at this
      simp only [vl]; omega
    · have := ih h.tail e
      simp only [vl]; omega

theorem dg_vl {l : List Int} (h : Cn l) : dg (vl l).toNat = l := by
  induction l with
  | nil => exact dg_zero
  | cons x r ih =>
    have hx := h.1.head
    have hr := vl_nonneg h.1.tail
    have hp := h.pos (by simp)
    have ih := ih h.tail
    simp only [vl] at hp ⊢
    rw [dg_pos (by omega)]
    congr 1
    · omega
    · rw [← ih]
      congr 1
      rw [ih]
      omega

theorem Cn.ge {l : List Int} (h : Cn l) (hn : l ≠ []) : (10000 : Int) ^ (l.length - 1) ≤ vl l := by
  have hl : 0 < l.length := List.length_pos_iff.2 hn
  have h1 := vl_take_succ (l := l) (k := l.length - 1) (by omega)
  rw [show l.length - 1 + 1 = l.length by omega, List.take_length] at h1
  have h2 := h.2 hn
  have h3 := h.1.get (l.length - 1)
  have h4 := vl_nonneg (h.1.take (l.length - 1))
  have h5 := pw_pos (l.length - 1)
  have h6 : (10000 : Int) ^ (l.length - 1) * 1 ≤ 10000 ^ (l.length - 1) * l.getD (l.length - 1) 0 := Int.mul_le_mul_of_nonneg_left (by omega) (by omega)
  omega

theorem dg_len {n k : Nat} : (dg n).length ≤ k ↔ (n : Int) < 10000 ^ k := by
  constructor
  · intro h
    have := vl_lt (Lm_dg n)
    rw [vl_dg] at this
    exact Int.lt_of_lt_of_le this (pw_le h)
  · intro h
    by_cases e : dg n = []
    · rw [e]; simp
    · have := (Cn_dg n).ge e
      rw [vl_dg] at this
      have := pw_lt (Int.lt_of_le_of_lt this h)
      have hl : 0 < (dg n).length := List.length_pos_iff.2 e
      omega

theorem len_mono {a b : Nat} (h : a ≤ b) : (dg a).length ≤ (dg b).length := by
  refine dg_len.2 ?_
  have := vl_lt (Lm_dg b)
  rw [vl_dg] at this
  omega

/-- -1, 0, 1 -/
def cm (x y : Int) : Int := if x < y then -1 else if x = y then 0 else 1

theorem cmp_take {a b : List Int} (ha : Lm a) (hb : Lm b) {k : Nat} (h1 : k < a.length) (h2 : k < b.length) (h : a.getD k 0 < b.getD k 0) : vl (a.take (k + 1)) < vl (b.take (k + 1)) := by
  rw [vl_take_succ h1, vl_take_succ h2]
  have q1 := vl_lt (ha.take k)
  rw [List.length_take, Nat.min_eq_left (by omega)] at q1
  have q2 := vl_nonneg (hb.take k)
  have q3 : (10000 : Int) ^ k * (a.getD k 0 + 1) ≤ 10000 ^ k * b.getD k 0 := Int.mul_le_mul_of_nonneg_left (by omega) (by have := pw_pos k; omega)
  rw [Int.mul_add, Int.mul_one] at q3
  omega

theorem Cn.lt_of_len {a b : List Int} (ha : Cn a) (hb : Cn b) (h : a.length < b.length) : vl a < vl b := by
  have h1 := vl_lt ha.1
  have h2 := hb.ge (by intro e; subst e; simp at h)
  have h3 : (10000 : Int) ^ a.length ≤ 10000 ^ (b.length - 1) := pw_le (by omega)
  omega

/-- the front part, of which what is behind is nought -/
theorem Cn.of_take {l : List Int} (h : Lm l) {t : Nat} (ht : t ≤ l.length) (hl : t = 0 ∨ l.getD (t - 1) 0 ≠ 0) : Cn (l.take t) := by
  refine ⟨h.take t, fun hn => ?_⟩
  have hlen : (l.take t).length = t := by simp; omega
  rcases hl with rfl | hl
  · simp at hn
  · have ht0 : t ≠ 0 := by rintro rfl; simp at hn
    rw [hlen, List.getD_eq_getElem?_getD, List.getElem?_take, if_pos (by omega), ← List.getD_eq_getElem?_getD]
    exact hl

theorem tdv {x : Int} (h : 0 ≤ x) : Int.tdiv x 10000 = x / 10000 := Int.tdiv_eq_ediv_of_nonneg h

theorem tmd {x : Int} (h : 0 ≤ x) : Int.tmod x 10000 = x % 10000 := Int.tmod_eq_emod_of_nonneg h

theorem trim185 {α : Type} {n : Nat} {l : List Int} (hN : l.length ≤ 1099511627776) {k0 : List Int → Int → Option α} : ∀ (m k : Nat), k < m → k ≤ l.length →
    ∃ t, t ≤ k ∧ f203_L2 n m l (k : Int) k0 = k0 l (t : Int) ∧ vl (l.take t) = vl (l.take k) ∧ (t = 0 ∨ l.getD (t - 1) 0 ≠ 0)
  | 0, k, h, _ => by omega
  | m + 1, k, h, hk => by
    rw [f203_L2_s]
    unfold f203_L2B
    dsimp only
    by_cases h0 : k = 0
    · subst h0; exact ⟨0, Nat.le_refl _, rfl, rfl, .inl rfl⟩
    · rw [Bool.cond_decide, if_pos (by omega), W_id (by omega) (by omega), gd_pos (by simp; omega)]
      have e : ((k : Int) - 1).toNat = k - 1 := by omega
      rw [e, Bool.cond_eq_ite]
      by_cases hz : l.getD (k - 1) 0 = 0
      · rw [if_pos (by rw [hz]; rfl)]
        obtain ⟨t, h1, h2, h3, h4⟩ := trim185 (n := n) hN (k0 := k0) m (k - 1) (by omega) (by omega)
        refine ⟨t, by omega, ?_, ?_, h4⟩
        · rw [show (k : Int) - 1 = ((k - 1 : Nat) : Int) by omega]; exact h2
        · rw [h3]
          have := vl_take_succ (l := l) (k := k - 1) (by omega)
          rw [show k - 1 + 1 = k by omega, hz] at this
          rw [this]; simp
      · rw [if_neg (by simpa using hz)]
        exact ⟨k, Nat.le_refl _, rfl, rfl, .inr hz⟩

theorem f203_eq {n : Nat} {l : List Int} (hl : Lm l) (hN : l.length ≤ 1099511627776) (hn : l.length < n) : f203 n l = some (dg (vl l).toNat) := by
  unfold f203
  obtain ⟨t, h1, h2, h3, h4⟩ := trim185 (n := n) hN (k0 := fun z_1 z_2 => gd (decide (0 ≤ z_2) && decide (z_2 ≤ (z_1.length : Int))) (gd (decide ((0 + ((z_1.drop 0).take (z_2.toNat - 0)).length) * 8 ≤ 140737488355328)) (some ((z_1.drop 0).take (z_2.toNat - 0))))) n l.length hn (Nat.le_refl _)
  rw [h2, gd_pos (by simp; omega), gd_pos (by simp; omega)]
  simp only [List.drop_zero, Int.toNat_natCast, Nat.sub_zero]
  rw [List.take_length] at h3
  rw [← h3, dg_vl (Cn.of_take hl (by omega) h4)]

theorem trim186 {α : Type} {n : Nat} {l : List Int} (hN : l.length ≤ 1099511627776) {k0 : List Int → Int → Option α} : ∀ (m k : Nat), k < m → k ≤ l.length →
    ∃ t, t ≤ k ∧ f185_L2 n m l (k : Int) k0 = k0 l (t : Int) ∧ vl (l.take t) = vl (l.take k) ∧ (t = 0 ∨ l.getD (t - 1) 0 ≠ 0)
  | 0, k, h, _ => by omega
  | m + 1, k, h, hk => by
    rw [f185_L2_s]
    unfold f185_L2B
    dsimp only
    by_cases h0 : k = 0
    · subst h0; exact ⟨0, Nat.le_refl _, rfl, rfl, .inl rfl⟩
    · rw [Bool.cond_decide, if_pos (by omega), W_id (by omega) (by omega), gd_pos (by simp; omega)]
      have e : ((k : Int) - 1).toNat = k - 1 := by omega
      rw [e, Bool.cond_eq_ite]
      by_cases hz : l.getD (k - 1) 0 = 0
      · rw [if_pos (by rw [hz]; rfl)]
        obtain ⟨t, h1, h2, h3, h4⟩ := trim186 (n := n) hN (k0 := k0) m (k - 1) (by omega) (by omega)
        refine ⟨t, by omega, ?_, ?_, h4⟩
        · rw [show (k : Int) - 1 = ((k - 1 : Nat) : Int) by omega]; exact h2
        · rw [h3]
          have := vl_take_succ (l := l) (k := k - 1) (by omega)
          rw [show k - 1 + 1 = k by omega, hz] at this
          rw [this]; simp
      · rw [if_neg (by simpa using hz)]
        exact ⟨k, Nat.le_refl _, rfl, rfl, .inr hz⟩

theorem f185_eq {n : Nat} {l : List Int} (hl : Lm l) (hN : l.length ≤ 1099511627776) (hn : l.length < n) : f185 n l = some (dg (vl l).toNat) := by
  unfold f185
  obtain ⟨t, h1, h2, h3, h4⟩ := trim186 (n := n) hN (k0 := fun z_1 z_2 => gd (decide (0 ≤ z_2) && decide (z_2 ≤ (z_1.length : Int))) (some ((z_1.drop 0).take (z_2.toNat - 0)))) n l.length hn (Nat.le_refl _)
  rw [h2, gd_pos (by simp; omega)]
  simp only [List.drop_zero, Int.toNat_natCast, Nat.sub_zero]
  rw [List.take_length] at h3
  rw [← h3, dg_vl (Cn.of_take hl (by omega) h4)]

theorem small190 {α : Type} {n : Nat} {k0 : List Int → Option α} : ∀ (m x : Nat) (o : List Int), (x : Int) ≤ 9223372036854775807 → (dg x).length < m → o.length + (dg x).length ≤ 1099511627776 → f172_L2 n m (x : Int) o k0 = k0 (o ++ dg x)
  | 0, x, o, _, h, _ => by omega
  | m + 1, x, o, hx, h, hN => by
    rw [f172_L2_s]
    unfold f172_L2B
    dsimp only
    by_cases h0 : x = 0
    · subst h0; rw [dg_zero]; simp
    · rw [dg_pos h0] at h hN ⊢
      simp only [List.length_cons] at h hN
      rw [Bool.cond_decide, if_pos (by omega), gd_pos (by simp; omega), tdv (by omega), tmd (by omega), W_id (by omega) (by omega), show (x : Int) / 10000 = ((x / 10000 : Nat) : Int) by omega, show (x : Int) % 10000 = ((x % 10000 : Nat) : Int) by omega]
      rw [small190 (n := n) m (x / 10000) _ (by omega) (by omega) (by simp; omega)]
      simp

theorem f172_eq {n : Nat} {x : Nat} (hx : (x : Int) ≤ 9223372036854775807) (hn : 10 < n) : f172 n (x : Int) = some (dg x) := by
  have hl : (dg x).length ≤ 5 := dg_len.2 (by rw [show (10000 : Int) ^ 5 = 100000000000000000000 from rfl]; omega)
  unfold f172
  rw [small190 (n := n) n x [] hx (by omega) (by simp; omega)]
  simp

theorem small163 {α : Type} {n : Nat} {k0 : List Int → Option α} : ∀ (m x : Nat) (o : List Int), (x : Int) ≤ 9223372036854775807 → (dg x).length < m → o.length + (dg x).length ≤ 1099511627776 → f160_L2 n m (x : Int) o k0 = k0 (o ++ dg x)
  | 0, x, o, _, h, _ => by omega
  | m + 1, x, o, hx, h, hN => by
    rw [f160_L2_s]
    unfold f160_L2B
    dsimp only
    by_cases h0 : x = 0
    · subst h0; rw [dg_zero]; simp
    · rw [dg_pos h0] at h hN ⊢
      simp only [List.length_cons] at h hN
      rw [Bool.cond_decide, if_pos (by omega), gd_pos (by simp; omega), tdv (by omega), tmd (by omega), W_id (by omega) (by omega), show (x : Int) / 10000 = ((x / 10000 : Nat) : Int) by omega, show (x : Int) % 10000 = ((x % 10000 : Nat) : Int) by omega]
      rw [small163 (n := n) m (x / 10000) _ (by omega) (by omega) (by simp; omega)]
      simp

theorem f160_eq {n : Nat} {x : Nat} (hx : (x : Int) ≤ 9223372036854775807) (hn : 10 < n) : f160 n (x : Int) = some (dg x) := by
  have hl : (dg x).length ≤ 5 := dg_len.2 (by rw [show (10000 : Int) ^ 5 = 100000000000000000000 from rfl]; omega)
  unfold f160
  rw [small163 (n := n) n x [] hx (by omega) (by simp; omega)]
  simp

theorem f147_eq {n : Nat} {b : Bool} : f147 n b = some (if b = true then 1 else 0) := by cases b <;> rfl

theorem cm_lt {x y : Int} (h : x < y) : cm x y = -1 := by unfold cm; rw [if_pos h]

theorem cm_gt {x y : Int} (h : y < x) : cm x y = 1 := by unfold cm; rw [if_neg (by omega), if_neg (by omega)]

theorem cm_eq {x y : Int} (h : x = y) : cm x y = 0 := by unfold cm; rw [if_neg (by omega), if_pos h]

theorem cm_add (x y z : Int) : cm (x + z) (y + z) = cm x y := by
  rcases Int.lt_trichotomy x y with h | h | h
  · rw [cm_lt h, cm_lt (by omega)]
  · rw [cm_eq h, cm_eq (by omega)]
  · rw [cm_gt h, cm_gt (by omega)]

theorem cmp127 {α : Type} {n : Nat} {a b : List Int} (ha : Lm a) (hb : Lm b) (hab : a.length = b.length) (hN : a.length ≤ 1099511627776) {k0 : Int → Option α} {k1 : Unit → Option α} : ∀ (m k : Nat), k < m → k ≤ a.length →
    f187_L4 n m a b ((k : Int) - 1) k0 k1 = if vl (a.take k) = vl (b.take k) then k1 () else k0 (cm (vl (a.take k)) (vl (b.take k)))
  | 0, k, h, _ => by omega
  | m + 1, k, h, hk => by
    rw [f187_L4_s]
    unfold f187_L4B
    dsimp only
    by_cases h0 : k = 0
    · subst h0
      simp
    · rw [Bool.cond_decide, if_pos (by omega), gd_pos (by simp; omega), gd_pos (by simp; omega)]
      have e : ((k : Int) - 1).toNat = k - 1 := by omega
      rw [e, Bool.cond_eq_ite]
      have ta := vl_take_succ (l := a) (k := k - 1) (by omega)
      have tb := vl_take_succ (l := b) (k := k - 1) (by omega)
      rw [show k - 1 + 1 = k by omega] at ta tb
      by_cases hz : a.getD (k - 1) 0 = b.getD (k - 1) 0
      · rw [if_neg (by simpa using hz), W_id (by omega) (by omega)]
        rw [show (k : Int) - 1 - 1 = ((k - 1 : Nat) : Int) - 1 by omega, cmp127 (n := n) ha hb hab hN m (k - 1) (by omega) (by omega)]
        rw [ta, tb, hz]
        by_cases h1 : vl (a.take (k - 1)) = vl (b.take (k - 1))
        · rw [if_pos h1, if_pos (by omega)]
        · rw [if_neg h1, if_neg (by omega)]
          rw [cm_add]
      · rw [if_pos (by simpa using hz), gd_pos (by simp; omega), gd_pos (by simp; omega), f147_eq, ob_some]
        rcases Int.lt_or_gt_of_ne hz with h1 | h1
        · have := cmp_take ha hb (k := k - 1) (by omega) (by omega) h1
          rw [show k - 1 + 1 = k by omega] at this
          rw [show (if vl (a.take k) = vl (b.take k) then k1 () else k0 (cm (vl (a.take k)) (vl (b.take k)))) = k0 (-1) by rw [if_neg (by omega), cm_lt this], if_neg (by rw [decide_eq_true_eq]; omega)]
          rfl
        · have := cmp_take hb ha (k := k - 1) (by omega) (by omega) h1
          rw [show k - 1 + 1 = k by omega] at this
          rw [show (if vl (a.take k) = vl (b.take k) then k1 () else k0 (cm (vl (a.take k)) (vl (b.take k)))) = k0 1 by rw [if_neg (by omega), cm_gt this], if_pos (by rw [decide_eq_true_eq]; omega)]
          rfl

theorem f187_eq {n : Nat} {a b : List Int} (ha : Cn a) (hb : Cn b) (hN : a.length ≤ 1099511627776) (hn : a.length < n) : f187 n a b = some (cm (vl a) (vl b)) := by
  unfold f187
  rw [Bool.cond_eq_ite]
  by_cases h : a.length = b.length
  · rw [if_neg (by simp [h]), W_id (by omega) (by omega), cmp127 (n := n) ha.1 hb.1 h hN n a.length hn (Nat.le_refl _)]
    rw [List.take_length, h, List.take_length]
    by_cases h1 : vl a = vl b
    · rw [if_pos h1, cm_eq h1]
    · rw [if_neg h1]
  · rw [if_pos (by simp; omega), f147_eq, ob_some]
    rcases Nat.lt_or_gt_of_ne h with h1 | h1
    · rw [cm_lt (ha.lt_of_len hb h1), if_neg (by simp; omega)]; rfl
    · rw [cm_gt (hb.lt_of_len ha h1), if_pos (by simp; omega)]; rfl

theorem cmp136 {α : Type} {n : Nat} {a b : List Int} (ha : Lm a) (hb : Lm b) (hab : a.length = b.length) {k0 k1 : Int → Option α} : ∀ (k : Nat), k ≤ a.length →
    f170_L6R n a k a b 0 k0 k1 = if vl (a.take k) = vl (b.take k) then k0 0 else k1 (cm (vl (a.take k)) (vl (b.take k)))
  | 0, _ => by rw [f170_L6_0]; simp
  | k + 1, hk => by
    rw [f170_L6_s]
    unfold f170_L6B
    dsimp only
    rw [gd_pos (by simp; omega), Bool.cond_eq_ite]
    have ta := vl_take_succ (l := a) (k := k) (by omega)
    have tb := vl_take_succ (l := b) (k := k) (by omega)
    simp only [Int.toNat_natCast]
    by_cases hz : a.getD k 0 = b.getD k 0
    · rw [if_neg (by simpa using hz), gd_pos (by simp), cmp136 ha hb hab k (by omega)]
      rw [ta, tb, hz]
      by_cases h1 : vl (a.take k) = vl (b.take k)
      · rw [if_pos h1, if_pos (by omega)]
      · rw [if_neg h1, if_neg (by omega)]
        rw [cm_add]
    · rw [if_pos (by simpa using hz), gd_pos (by simp; omega), Bool.cond_decide]
      rcases Int.lt_or_gt_of_ne hz with h1 | h1
      · have := cmp_take ha hb (k := k) (by omega) (by omega) h1
        rw [show (if vl (a.take (k + 1)) = vl (b.take (k + 1)) then k0 0 else k1 (cm (vl (a.take (k + 1))) (vl (b.take (k + 1))))) = k1 (-1) by rw [if_neg (by omega), cm_lt this], if_pos h1]
      · have := cmp_take hb ha (k := k) (by omega) (by omega) h1
        rw [show (if vl (a.take (k + 1)) = vl (b.take (k + 1)) then k0 0 else k1 (cm (vl (a.take (k + 1))) (vl (b.take (k + 1))))) = k1 1 by rw [if_neg (by omega), cm_gt this], if_neg (by omega)]

theorem f170_eq {n : Nat} {a b : List Int} (ha : Cn a) (hb : Cn b) (hN : a.length ≤ 1099511627776) : f170 n a b = some (cm (vl a) (vl b)) := by
  unfold f170
  rw [Bool.cond_eq_ite]
  by_cases h : a.length = b.length
  · rw [if_neg (by simp [h])]
    rw [show f201 n a = some a from rfl, ob_some, f170_L6_e, gd_pos (by simp; omega), cmp136 ha.1 hb.1 h a.length (Nat.le_refl _)]
    rw [List.take_length, h, List.take_length]
    by_cases h1 : vl a = vl b
    · rw [if_pos h1, cm_eq h1]
    · rw [if_neg h1]
  · rw [if_pos (by simp; omega), Bool.cond_decide]
    rcases Nat.lt_or_gt_of_ne h with h1 | h1
    · rw [cm_lt (ha.lt_of_len hb h1), if_pos (by omega)]
    · rw [cm_gt (hb.lt_of_len ha h1), if_neg (by omega)]

theorem vl_take_suc (l : List Int) (k : Nat) : vl (l.take (k + 1)) = vl (l.take k) + 10000 ^ k * l.getD k 0 := by
  rcases Nat.lt_or_ge k l.length with h | h
  · exact vl_take_succ h
  · rw [List.take_of_length_le (by omega), List.take_of_length_le (by omega), List.getD_eq_getElem?_getD, List.getElem?_eq_none h]
    simp

theorem getD_out {l : List Int} {k : Nat} (h : l.length ≤ k) : l.getD k 0 = 0 := by
  rw [List.getD_eq_getElem?_getD, List.getElem?_eq_none h]; rfl

theorem Cn.of_ge {l : List Int} (h : Lm l) (hg : l ≠ [] → (10000 : Int) ^ (l.length - 1) ≤ vl l) : Cn l := by
  refine ⟨h, fun hn e => ?_⟩
  have hl : 0 < l.length := List.length_pos_iff.2 hn
  have h1 := vl_take_suc l (l.length - 1)
  rw [show l.length - 1 + 1 = l.length by omega, List.take_length, e] at h1
  have h2 := vl_lt (h.take (l.length - 1))
  rw [List.length_take, Nat.min_eq_left (by omega)] at h2
  have := hg hn
  omega

theorem take_le (l : List Int) {k : Nat} (h : l.length ≤ k) : l.take k = l := List.take_of_length_le h


theorem add188 {α : Type} {n : Nat} {a b : List Int} (ha : Cn a) (hb : Cn b) (hN : a.length ≤ 1099511627776) (hNb : b.length ≤ 1099511627776) {k0 : List Int → Option α} : ∀ (m i : Nat) (c : Int) (o : List Int), o.length = i → Lm o → 0 ≤ c → c ≤ 1 →
    vl o + 10000 ^ i * c = vl (a.take i) + vl (b.take i) → (i ≤ max a.length b.length ∨ (i = max a.length b.length + 1 ∧ c = 0 ∧ o.getD (i - 1) 0 ≠ 0)) → max a.length b.length + 2 ≤ i + m →
    f186_L4 n m a b c (i : Int) o k0 = k0 (dg (vl a + vl b).toNat)
  | 0, i, c, o, ho, hlo, hc0, hc1, hv, hq, hm => by omega
  | m + 1, i, c, o, ho, hlo, hc0, hc1, hv, hq, hm => by
    rw [f186_L4_s]
    unfold f186_L4B
    dsimp only
    have fin : a.length ≤ i → b.length ≤ i → c = 0 → o = dg (vl a + vl b).toNat := fun h1 h2 h3 => by
      rw [take_le a h1, take_le b h2, h3] at hv
      have hv' : vl o = vl a + vl b := by simpa using hv
      have : Cn o := Cn.of_ge hlo fun hn => by
        have hl : 0 < o.length := List.length_pos_iff.2 hn
        rcases hq with hq | ⟨hq1, _, hq3⟩
        · have hmx : i = max a.length b.length := by omega
          rw [ho, hv']
          rcases Nat.le_total a.length b.length with hab | hab
          · have h4 := hb.ge (List.length_pos_iff.1 (by omega))
            have h5 := vl_nonneg ha.1
            rw [show i - 1 = b.length - 1 by omega]; omega
          · have h4 := ha.ge (List.length_pos_iff.1 (by omega))
            have h5 := vl_nonneg hb.1
            rw [show i - 1 = a.length - 1 by omega]; omega
        · have h1 := vl_take_suc o (o.length - 1)
          rw [show o.length - 1 + 1 = o.length by omega, List.take_length] at h1
          have h2 := vl_nonneg (hlo.take (o.length - 1))
          have h3 := hlo.get (o.length - 1)
          rw [← ho] at hq3
          have h4 := pw_pos (o.length - 1)
          have h5 : (10000 : Int) ^ (o.length - 1) * 1 ≤ 10000 ^ (o.length - 1) * o.getD (o.length - 1) 0 := Int.mul_le_mul_of_nonneg_left (by omega) (by omega)
          omega
      rw [← hv', dg_vl this]
    have go : ∀ (y : Int), y = c + a.getD i 0 + b.getD i 0 → (i < max a.length b.length ∨ (i = max a.length b.length ∧ 0 < c)) → f186_L4 n m a b (W (Int.tdiv y 10000)) (W ((i : Int) + 1)) (o ++ [Int.tmod y 10000]) k0 = k0 (dg (vl a + vl b).toNat) := by
      intro y hy hi
      have h1 := ha.1.get i
      have h2 := hb.1.get i
      rw [tdv (by omega), tmd (by omega), W_id (by omega) (by omega), W_id (by omega) (by omega)]
      have ta := vl_take_suc a i
      have tb := vl_take_suc b i
      have hyy : y = 10000 * (y / 10000) + y % 10000 := by omega
      refine add188 (n := n) ha hb hN hNb m (i + 1) _ _ (by simp [ho]) (hlo.app (Lm.cons (by omega) Lm.nil)) (by omega) (by omega) ?_ ?_ (by omega)
      · rw [vl_snoc, ho, ta, tb, pw_succ]
        generalize y / 10000 = q at *
        generalize y % 10000 = r at *
        generalize (10000 : Int) ^ i = P at *
        grind
      · rcases hi with hi | ⟨hi, hc⟩
        · exact .inl (by omega)
        · right
          have e1 : a.getD i 0 = 0 := getD_out (by omega)
          have e2 : b.getD i 0 = 0 := getD_out (by omega)
          have e3 : y = 1 := by omega
          subst e3
          refine ⟨by omega, by rfl, ?_⟩
          rw [Nat.add_sub_cancel, ← ho, List.getD_eq_getElem?_getD]
          simp
    have hcases : (i < a.length ∨ i < b.length ∨ 0 < c) → (i < max a.length b.length ∨ (i = max a.length b.length ∧ 0 < c)) := fun h => by
      rcases h with h | h | h
      · exact .inl (by omega)
      · exact .inl (by omega)
      · rcases hq with hq | ⟨_, h0, _⟩
        · omega
        · omega
    have ho2 : (decide ((o.length + 1) * 8 ≤ 140737488355328)) = true := by
      rw [decide_eq_true_eq]
      rcases hq with hq | ⟨hq, _⟩ <;> omega
    have h1 := ha.1.get i
    have h2 := hb.1.get i
    by_cases hA : i < a.length
    · have dA : decide ((i : Int) < (a.length : Int)) = true := by rw [decide_eq_true_eq]; omega
      simp only [dA, cond_true, Int.toNat_natCast]
      rw [gd_pos (by simp; try omega), W_id (x := c + a.getD i 0) (by omega) (by omega)]
      by_cases hB : i < b.length
      · have dB : decide ((i : Int) < (b.length : Int)) = true := by rw [decide_eq_true_eq]; omega
        simp only [dB, cond_true]
        rw [gd_pos (by simp; try omega), gd_pos ho2, W_id (x := c + a.getD i 0 + b.getD i 0) (by omega) (by omega)]
        exact go _ rfl (hcases (.inl hA))
      · have dB : decide ((i : Int) < (b.length : Int)) = false := by rw [decide_eq_false_iff_not]; omega
        simp only [dB, cond_false]
        rw [gd_pos ho2]
        exact go _ (by rw [getD_out (l := b) (by omega)]; omega) (hcases (.inl hA))
    · have dA : decide ((i : Int) < (a.length : Int)) = false := by rw [decide_eq_false_iff_not]; omega
      simp only [dA, cond_false, Int.toNat_natCast]
      by_cases hB : i < b.length
      · have dB : decide ((i : Int) < (b.length : Int)) = true := by rw [decide_eq_true_eq]; omega
        simp only [dB, cond_true]
        rw [gd_pos (by simp; try omega), gd_pos ho2, W_id (x := c + b.getD i 0) (by omega) (by omega)]
        exact go _ (by rw [getD_out (l := a) (by omega)]; omega) (hcases (.inr (.inl hB)))
      · have dB : decide ((i : Int) < (b.length : Int)) = false := by rw [decide_eq_false_iff_not]; omega
        simp only [dB, cond_false]
        rw [Bool.cond_decide]
        by_cases hc : 0 < c
        · rw [if_pos (by omega), gd_pos ho2]
          exact go _ (by rw [getD_out (l := a) (by omega), getD_out (l := b) (by omega)]; omega) (hcases (.inr (.inr hc)))
        · rw [if_neg (by omega), fin (by omega) (by omega) (by omega)]

theorem f186_eq {n : Nat} {a b : List Int} (ha : Cn a) (hb : Cn b) (hN : a.length ≤ 1099511627776) (hNb : b.length ≤ 1099511627776) (hn : max a.length b.length + 2 ≤ n) : f186 n a b = some (dg (vl a + vl b).toNat) := by
  unfold f186
  have := add188 (n := n) ha hb hN hNb (k0 := fun z_6 => some z_6) n 0 0 [] rfl Lm.nil (by omega) (by omega) (by simp [vl]) (.inl (by omega)) (by omega)
  exact this

theorem sub189 {α : Type} {n : Nat} {a b : List Int} (ha : Lm a) (hb : Lm b) (hN : a.length ≤ 1099511627776) {k0 : List Int → Option α} : ∀ (m i : Nat) (c : Int) (o : List Int), o.length = i → Lm o → 0 ≤ c → c ≤ 1 → i ≤ a.length →
    vl o - 10000 ^ i * c = vl (a.take i) - vl (b.take i) → a.length + 1 ≤ i + m →
    ∃ o' c', f188_L4 n m a b c (i : Int) o k0 = k0 o' ∧ o'.length = a.length ∧ Lm o' ∧ 0 ≤ c' ∧ c' ≤ 1 ∧ vl o' - 10000 ^ a.length * c' = vl a - vl (b.take a.length)
  | 0, i, c, o, ho, hlo, hc0, hc1, hi, hv, hm => by omega
  | m + 1, i, c, o, ho, hlo, hc0, hc1, hi, hv, hm => by
    rw [f188_L4_s]
    unfold f188_L4B
    dsimp only
    by_cases hA : i < a.length
    · rw [Bool.cond_decide, if_pos (by omega), gd_pos (by simp; try omega)]
      have h1 := ha.get i
      have h2 := hb.get i
      have ta := vl_take_suc a i
      have tb := vl_take_suc b i
      have ho2 : (decide ((o.length + 1) * 8 ≤ 140737488355328)) = true := by
        rw [decide_eq_true_eq]; omega
      have go : ∀ y : Int, y = a.getD i 0 - c - b.getD i 0 → ∃ o' c', f188_L4 n m a b (if y < 0 then 1 else 0) (W ((i : Int) + 1)) (o ++ [W (y + W ((if y < 0 then 1 else 0) * 10000))]) k0 = k0 o' ∧ o'.length = a.length ∧ Lm o' ∧ 0 ≤ c' ∧ c' ≤ 1 ∧ vl o' - 10000 ^ a.length * c' = vl a - vl (b.take a.length) := by
        intro y hy
        obtain ⟨d, hd⟩ : ∃ d : Int, d = if y < 0 then 1 else 0 := ⟨_, rfl⟩
        have hd1 : 0 ≤ d ∧ d ≤ 1 ∧ 0 ≤ y + d * 10000 ∧ y + d * 10000 < 10000 := by
          rw [hd]
          split <;> omega
        rw [← hd, W_id (x := d * 10000) (by omega) (by omega), W_id (x := y + d * 10000) (by omega) (by omega), W_id (x := (i : Int) + 1) (by omega) (by omega)]
        refine sub189 (n := n) ha hb hN m (i + 1) d _ (by simp [ho]) (hlo.app (Lm.cons (by omega) Lm.nil)) (by omega) (by omega) (by omega) ?_ (by omega)
        rw [vl_snoc, ho, ta, tb, pw_succ]
        generalize (10000 : Int) ^ i = P at *
        grind
      simp only [Int.toNat_natCast]
      by_cases hB : i < b.length
      · have dB : decide ((i : Int) < (b.length : Int)) = true := by rw [decide_eq_true_eq]; omega
        simp only [dB, cond_true]
        rw [gd_pos (by simp; try omega)]
        simp only [W_id (x := a.getD i 0 - c) (by omega) (by omega), W_id (x := a.getD i 0 - c - b.getD i 0) (by omega) (by omega)]
        rw [f147_eq, ob_some, gd_pos ho2]
        simp only [decide_eq_true_eq]
        exact go _ rfl
      · have dB : decide ((i : Int) < (b.length : Int)) = false := by rw [decide_eq_false_iff_not]; omega
        simp only [dB, cond_false]
        simp only [W_id (x := a.getD i 0 - c) (by omega) (by omega)]
        rw [f147_eq, ob_some, gd_pos ho2]
        simp only [decide_eq_true_eq]
        exact go _ (by rw [getD_out (l := b) (by omega)]; omega)
    · rw [Bool.cond_decide, if_neg (by omega)]
      obtain rfl : i = a.length := by omega
      rw [List.take_length] at hv
      exact ⟨o, c, rfl, ho, hlo, hc0, hc1, hv⟩

theorem f188_eq {n : Nat} {a b : List Int} (ha : Cn a) (hb : Cn b) (hN : a.length ≤ 1099511627776) (hn : a.length + 1 ≤ n) (hab : vl b ≤ vl a) : f188 n a b = some (dg (vl a - vl b).toNat) := by
  have hl : b.length ≤ a.length := by
    rcases Nat.lt_or_ge a.length b.length with h | h
    · have := ha.lt_of_len hb h; omega
    · exact h
  unfold f188
  obtain ⟨o, c, h1, h2, h3, h4, h5, h6⟩ := sub189 (n := n) ha.1 hb.1 hN (k0 := fun z_4 => ob (f203 n z_4) fun r_5 => some r_5) n 0 0 [] rfl Lm.nil (by omega) (by omega) (by omega) (by simp [vl]) (by omega)
  have h1 : f188_L4 n n a b 0 0 [] (fun z_4 => ob (f203 n z_4) fun r_5 => some r_5) = _ := h1
  rw [h1, f203_eq h3 (by omega) (by omega), ob_some]
  rw [take_le b hl] at h6
  have h7 := vl_lt h3
  rw [h2] at h7
  have : c = 0 := by
    rcases Int.lt_or_eq_of_le h4 with h | h
    · have : c = 1 := by omega
      rw [this] at h6
      omega
    · exact h.symm
  rw [this] at h6
  rw [show vl o = vl a - vl b by simpa using h6]

theorem vl_drop {l : List Int} {k : Nat} (h : k < l.length) : vl (l.drop k) = l.getD k 0 + 10000 * vl (l.drop (k + 1)) := by
  rw [List.drop_eq_getElem_cons h, vl, List.getD_eq_getElem?_getD, List.getElem?_eq_getElem h]; rfl

/-- one step of a row of a product -/
theorem mul_step {P o ok y q r c ai bk v' T : Int} (h : o + P * (c + ai * (bk + 10000 * v')) = T) (hy : y = ok + c + ai * bk) (hq : y = 10000 * q + r) : o + P * (r - ok) + 10000 * P * (q + ai * v') = T := by
  grind

theorem limb_mul {x y : Int} (hx : 0 ≤ x ∧ x < 10000) (hy : 0 ≤ y ∧ y < 10000) : 0 ≤ x * y ∧ x * y ≤ 99980001 := by
  have h1 := Int.mul_nonneg hx.1 hy.1
  have h2 : x * y ≤ 9999 * y := Int.mul_le_mul_of_nonneg_right (by omega) hy.1
  omega

theorem mul154 {α : Type} {n : Nat} {a b : List Int} (ha : Lm a) (hb : Lm b) (i : Nat) (hi : i < a.length) {S : Nat} (hS : a.length + b.length < S) (hN : S ≤ 1099511627776) {T : Int} (hT : T < 10000 ^ S) {k0 : List Int → List Int → Int → List Int → Option α} :
    ∀ (m k : Nat) (c : Int) (o : List Int), Lm o → o.length = S → 0 ≤ c → c < 10000 → i + k ≤ S → vl o + 10000 ^ (i + k) * (c + a.getD i 0 * vl (b.drop k)) = T → S + 1 ≤ i + k + m →
    ∃ o', Lm o' ∧ o'.length = S ∧ vl o' = T ∧ f178_L7 n m a b (i : Int) c (k : Int) o k0 = k0 a b (i : Int) o'
  | 0, k, c, o, hlo, ho, hc0, hc1, hik, hv, hm => by omega
  | m + 1, k, c, o, hlo, ho, hc0, hc1, hik, hv, hm => by
    rw [f178_L7_s]
    unfold f178_L7B
    dsimp only
    have h1 := ha.get i
    have h2 := hb.get k
    have h3 := hlo.get (i + k)
    have h4 := limb_mul h1 h2
    have hvo := vl_nonneg hlo
    have go : ∀ y : Int, i + k < S → (k < b.length ∨ b.length ≤ k) → y = o.getD (i + k) 0 + c + a.getD i 0 * b.getD k 0 →
        ∃ o', Lm o' ∧ o'.length = S ∧ vl o' = T ∧ f178_L7 n m a b (i : Int) (W (Int.tdiv y 10000)) (W ((k : Int) + 1)) (o.set (i + k) (Int.tmod y 10000)) k0 = k0 a b (i : Int) o' := by
      intro y hlt hk hy
      rw [tdv (by omega), tmd (by omega), W_id (by omega) (by omega), W_id (by omega) (by omega)]
      refine mul154 (n := n) ha hb i hi hS hN hT m (k + 1) _ _ (hlo.set _ (by omega)) (by simpa using ho) (by omega) (by omega) (by omega) ?_ (by omega)
      rw [vl_set _ (by omega), show i + (k + 1) = (i + k) + 1 by omega, pw_succ]
      have hyy : y = 10000 * (y / 10000) + y % 10000 := by omega
      refine mul_step (bk := b.getD k 0) ?_ hy hyy
      rcases hk with hk | hk
      · rw [← vl_drop hk]; exact hv
      · rw [List.drop_of_length_le (by omega)] at hv ⊢
        rw [getD_out hk]
        simpa [vl] using hv
    by_cases hB : k < b.length
    · have dB : decide ((k : Int) < (b.length : Int)) = true := by rw [decide_eq_true_eq]; omega
      simp only [dB, cond_true, Int.toNat_natCast]
      rw [W_id (x := (i : Int) + (k : Int)) (by omega) (by omega)]
      have e : ((i : Int) + (k : Int)).toNat = i + k := by omega
      simp only [e]
      rw [gd_pos (by simp; try omega), gd_pos (by simp; try omega), gd_pos (by simp; try omega), gd_pos (by simp; try omega), W_id (x := a.getD i 0 * b.getD k 0) (by omega) (by omega), W_id (x := o.getD (i + k) 0 + c) (by omega) (by omega), W_id (x := o.getD (i + k) 0 + c + a.getD i 0 * b.getD k 0) (by omega) (by omega), gd_pos (by simp; try omega), gd_pos (by simp; try omega)]
      exact go _ (by omega) (.inl hB) rfl
    · have dB : decide ((k : Int) < (b.length : Int)) = false := by rw [decide_eq_false_iff_not]; omega
      simp only [dB, cond_false]
      rw [Bool.cond_decide]
      rw [List.drop_of_length_le (by omega)] at hv
      by_cases hc : 0 < c
      · have hlt : i + k < S := by
          refine pw_lt ?_
          have h5 : (10000 : Int) ^ (i + k) * 1 ≤ 10000 ^ (i + k) * c := Int.mul_le_mul_of_nonneg_left (by omega) (by have := pw_pos (i + k); omega)
          simp only [vl, Int.mul_zero, Int.add_zero] at hv
          omega
        rw [if_pos (by omega), W_id (x := (i : Int) + (k : Int)) (by omega) (by omega)]
        have e : ((i : Int) + (k : Int)).toNat = i + k := by omega
        simp only [e]
        rw [gd_pos (by simp; try omega), gd_pos (by simp; try omega), gd_pos (by simp; try omega), gd_pos (by simp; try omega), W_id (x := o.getD (i + k) 0 + c) (by omega) (by omega)]
        exact go _ hlt (.inr (by omega)) (by rw [getD_out (l := b) (by omega)]; omega)
      · rw [if_neg (by omega)]
        obtain rfl : c = 0 := by omega
        exact ⟨o, hlo, ho, by simpa [vl] using hv, rfl⟩

theorem mul_lt {a b : List Int} (ha : Lm a) (hb : Lm b) {i S : Nat} (hS : i + b.length ≤ S) : vl (a.take i) * vl b < 10000 ^ S := by
  have h1 := vl_lt (ha.take i)
  have h2 := vl_lt hb
  have h3 := vl_nonneg (ha.take i)
  have h4 := vl_nonneg hb
  have h5 : (10000 : Int) ^ (a.take i).length ≤ 10000 ^ i := pw_le (by simp; omega)
  have h6 := pw_pos i
  have h7 := pw_pos b.length
  have h8 : vl (a.take i) * vl b ≤ vl (a.take i) * 10000 ^ b.length := Int.mul_le_mul_of_nonneg_left (by omega) h3
  have h9 : vl (a.take i) * 10000 ^ b.length < 10000 ^ i * 10000 ^ b.length := Int.mul_lt_mul_of_pos_right (by omega) h7
  rw [← Int.pow_add] at h9
  have h10 : (10000 : Int) ^ (i + b.length) ≤ 10000 ^ S := pw_le hS
  omega

theorem mulo154 {α : Type} {n : Nat} {a b : List Int} (ha : Lm a) (hb : Lm b) {S : Nat} (hS : a.length + b.length < S) (hN : S ≤ 1099511627776) (hn : S + 1 ≤ n) {k0 : List Int → Option α} :
    ∀ (m i : Nat) (o : List Int), Lm o → o.length = S → i ≤ a.length → vl o = vl (a.take i) * vl b → a.length + 1 ≤ i + m →
    ∃ o', Lm o' ∧ o'.length = S ∧ vl o' = vl a * vl b ∧ f178_L3 n m a b (i : Int) o k0 = k0 o'
  | 0, i, o, hlo, ho, hi, hv, hm => by omega
  | m + 1, i, o, hlo, ho, hi, hv, hm => by
    rw [f178_L3_s]
    unfold f178_L3B
    dsimp only
    rw [Bool.cond_decide]
    by_cases hA : i < a.length
    · rw [if_pos (by omega)]
      have hT : vl (a.take (i + 1)) * vl b < 10000 ^ S := mul_lt ha hb (by omega)
      obtain ⟨o', q1, q2, q3, q4⟩ := mul154 (n := n) ha hb i hA hS hN hT (k0 := fun z_1 z_2 z_3 z_4 => f178_L3 n m z_1 z_2 (W (z_3 + 1)) z_4 k0) n 0 0 o hlo ho (by omega) (by omega) (by omega) (by
        rw [hv, vl_take_suc, List.drop_zero, Nat.add_zero]
        generalize (10000 : Int) ^ i = P
        grind) (by omega)
      have q4 : f178_L7 n n a b (i : Int) 0 0 o _ = _ := q4
      rw [q4, W_id (by omega) (by omega)]
      exact mulo154 (n := n) ha hb hS hN hn m (i + 1) o' q1 q2 (by omega) q3 (by omega)
    · rw [if_neg (by omega)]
      obtain rfl : i = a.length := by omega
      rw [List.take_length] at hv
      exact ⟨o, hlo, ho, hv, rfl⟩

theorem f178_eq {n : Nat} {a b : List Int} (ha : Lm a) (hb : Lm b) (hN : a.length + b.length ≤ 1099511627770) (hn : a.length + b.length + 2 ≤ n) : f178 n a b = some (dg (vl a * vl b).toNat) := by
  unfold f178
  rw [W_id (x := (a.length : Int) + (b.length : Int)) (by omega) (by omega), W_id (x := (a.length : Int) + (b.length : Int) + 1) (by omega) (by omega), gd_pos (by simp; try omega)]
  have e : ((a.length : Int) + (b.length : Int) + 1).toNat = a.length + b.length + 1 := by omega
  rw [e]
  obtain ⟨o, q1, q2, q3, q4⟩ := mulo154 (n := n) ha hb (S := a.length + b.length + 1) (by omega) (by omega) (by omega) (k0 := fun z_5 => ob (f203 n z_5) fun r_6 => some r_6) n 0 (List.replicate (a.length + b.length + 1) 0) (Lm.rep _) (by simp) (by omega) (by rw [vl_rep]; simp [vl]) (by omega)
  have q4 : f178_L3 n n a b 0 _ _ = _ := q4
  rw [q4, f203_eq q1 (by omega) (by omega), ob_some, q3]

theorem mul149 {α : Type} {n : Nat} {a b : List Int} (ha : Lm a) (hb : Lm b) (i : Nat) (hi : i < a.length) {S : Nat} (hS : a.length + b.length ≤ S) (hN : S ≤ 1099511627776) {T : Int} (hT : T < 10000 ^ S) (q1 : List Int) (q2 q3 : Int) {k0 : List Int → List Int → Int → Int → List Int → Option α} :
    ∀ (m k : Nat) (c : Int) (o : List Int), Lm o → o.length = S → 0 ≤ c → c < 10000 → i + k ≤ S → vl o + 10000 ^ (i + k) * (c + a.getD i 0 * vl (b.drop k)) = T → S + 1 ≤ i + k + m →
    ∃ o', Lm o' ∧ o'.length = S ∧ vl o' = T ∧ f143_L7 n m b (i : Int) (a.getD i 0) c (k : Int) q1 q2 q3 o k0 = k0 b q1 q2 q3 o'
  | 0, k, c, o, hlo, ho, hc0, hc1, hik, hv, hm => by omega
  | m + 1, k, c, o, hlo, ho, hc0, hc1, hik, hv, hm => by
    rw [f143_L7_s]
    unfold f143_L7B
    dsimp only
    have h1 := ha.get i
    have h2 := hb.get k
    have h3 := hlo.get (i + k)
    have h4 := limb_mul h1 h2
    have hvo := vl_nonneg hlo
    have go : ∀ y : Int, i + k < S → (k < b.length ∨ b.length ≤ k) → y = o.getD (i + k) 0 + c + a.getD i 0 * b.getD k 0 →
        ∃ o', Lm o' ∧ o'.length = S ∧ vl o' = T ∧ f143_L7 n m b (i : Int) (a.getD i 0) (W (Int.tdiv y 10000)) (W ((k : Int) + 1)) q1 q2 q3 (o.set (i + k) (Int.tmod y 10000)) k0 = k0 b q1 q2 q3 o' := by
      intro y hlt hk hy
      rw [tdv (by omega), tmd (by omega), W_id (by omega) (by omega), W_id (by omega) (by omega)]
      refine mul149 (n := n) ha hb i hi hS hN hT q1 q2 q3 m (k + 1) _ _ (hlo.set _ (by omega)) (by simpa using ho) (by omega) (by omega) (by omega) ?_ (by omega)
      rw [vl_set _ (by omega), show i + (k + 1) = (i + k) + 1 by omega, pw_succ]
      have hyy : y = 10000 * (y / 10000) + y % 10000 := by omega
      refine mul_step (bk := b.getD k 0) ?_ hy hyy
      rcases hk with hk | hk
      · rw [← vl_drop hk]; exact hv
      · rw [List.drop_of_length_le (by omega)] at hv ⊢
        rw [getD_out hk]
        simpa [vl] using hv
    by_cases hB : k < b.length
    · have dB : decide ((k : Int) < (b.length : Int)) = true := by rw [decide_eq_true_eq]; omega
      simp only [dB, cond_true, Int.toNat_natCast]
      rw [W_id (x := (i : Int) + (k : Int)) (by omega) (by omega)]
      have e : ((i : Int) + (k : Int)).toNat = i + k := by omega
      simp only [e]
      rw [gd_pos (by simp; try omega), W_id (x := a.getD i 0 * b.getD k 0) (by omega) (by omega), W_id (x := c + a.getD i 0 * b.getD k 0) (by omega) (by omega), gd_pos (by simp; try omega), gd_pos (by simp; try omega), gd_pos (by simp; try omega), gd_pos (by simp; try omega), W_id (x := c + a.getD i 0 * b.getD k 0 + o.getD (i + k) 0) (by omega) (by omega)]
      exact go _ (by omega) (.inl hB) (by omega)
    · have dB : decide ((k : Int) < (b.length : Int)) = false := by rw [decide_eq_false_iff_not]; omega
      simp only [dB, cond_false]
      rw [Bool.cond_decide]
      rw [List.drop_of_length_le (by omega)] at hv
      by_cases hc : 0 < c
      · have hlt : i + k < S := by
          refine pw_lt ?_
          have h5 : (10000 : Int) ^ (i + k) * 1 ≤ 10000 ^ (i + k) * c := Int.mul_le_mul_of_nonneg_left (by omega) (by have := pw_pos (i + k); omega)
          simp only [vl, Int.mul_zero, Int.add_zero] at hv
          omega
        rw [if_pos (by omega), W_id (x := (i : Int) + (k : Int)) (by omega) (by omega)]
        have e : ((i : Int) + (k : Int)).toNat = i + k := by omega
        simp only [e]
        rw [gd_pos (by simp; try omega), gd_pos (by simp; try omega), gd_pos (by simp; try omega), gd_pos (by simp; try omega), W_id (x := c + o.getD (i + k) 0) (by omega) (by omega)]
        exact go _ hlt (.inr (by omega)) (by rw [getD_out (l := b) (by omega)]; omega)
      · rw [if_neg (by omega)]
        obtain rfl : c = 0 := by omega
        exact ⟨o, hlo, ho, by simpa [vl] using hv, rfl⟩

theorem mulo149 {α : Type} {n : Nat} {a b : List Int} (ha : Lm a) (hb : Lm b) {S : Nat} (hS : a.length + b.length ≤ S) (hN : S ≤ 1099511627776) (hn : S + 1 ≤ n) {k0 : List Int → Option α} :
    ∀ (m i : Nat) (o : List Int), Lm o → o.length = S → i ≤ a.length → vl o = vl (a.take i) * vl b → a.length + 1 ≤ i + m →
    ∃ o', Lm o' ∧ o'.length = S ∧ vl o' = vl a * vl b ∧ f143_L3 n m b a (a.length : Int) (i : Int) o k0 = k0 o'
  | 0, i, o, hlo, ho, hi, hv, hm => by omega
  | m + 1, i, o, hlo, ho, hi, hv, hm => by
    rw [f143_L3_s]
    unfold f143_L3B
    dsimp only
    rw [Bool.cond_decide]
    by_cases hA : i < a.length
    · rw [if_pos (by omega), gd_pos (by simp; try omega)]
      simp only [Int.toNat_natCast]
      have hT : vl (a.take (i + 1)) * vl b < 10000 ^ S := mul_lt ha hb (by omega)
      obtain ⟨o', q1, q2, q3, q4⟩ := mul149 (n := n) ha hb i hA hS hN hT a (a.length : Int) (i : Int) (k0 := fun z_1 z_2 z_3 z_4 z_5 => f143_L3 n m z_1 z_2 z_3 (W (z_4 + 1)) z_5 k0) n 0 0 o hlo ho (by omega) (by omega) (by omega) (by
        rw [hv, vl_take_suc, List.drop_zero, Nat.add_zero]
        generalize (10000 : Int) ^ i = P
        grind) (by omega)
      have q4 : f143_L7 n n b (i : Int) (a.getD i 0) 0 0 a (a.length : Int) (i : Int) o _ = _ := q4
      rw [q4, W_id (by omega) (by omega)]
      exact mulo149 (n := n) ha hb hS hN hn m (i + 1) o' q1 q2 (by omega) q3 (by omega)
    · rw [if_neg (by omega)]
      obtain rfl : i = a.length := by omega
      rw [List.take_length] at hv
      exact ⟨o, hlo, ho, hv, rfl⟩

theorem f143_eq {n : Nat} {a b : List Int} (ha : Lm a) (hb : Lm b) (hN : a.length + b.length ≤ 1099511627770) (hn : a.length + b.length + 2 ≤ n) : f143 n a b = some (dg (vl a * vl b).toNat) := by
  unfold f143
  rw [W_id (x := (a.length : Int) + (b.length : Int)) (by omega) (by omega), gd_pos (by simp; try omega)]
  have e : ((a.length : Int) + (b.length : Int)).toNat = a.length + b.length := by omega
  rw [e]
  obtain ⟨o, q1, q2, q3, q4⟩ := mulo149 (n := n) ha hb (S := a.length + b.length) (by omega) (by omega) (by omega) (k0 := fun z_5 => ob (f185 n z_5) fun r_6 => some r_6) n 0 (List.replicate (a.length + b.length) 0) (Lm.rep _) (by simp) (by omega) (by rw [vl_rep]; simp [vl]) (by omega)
  have q4 : f143_L3 n n b a (a.length : Int) 0 _ _ = _ := q4
  rw [q4, f185_eq q1 (by omega) (by omega), ob_some, q3]

theorem pwc (k : Nat) : ((10000 ^ k : Nat) : Int) = (10000 : Int) ^ k := by rw [Int.natCast_pow]; rfl

theorem nc10 (Q : Nat) : ((10000 * Q : Nat) : Int) = 10000 * (Q : Int) := by omega

theorem nc10a (Q q : Nat) : ((10000 * Q + q : Nat) : Int) = 10000 * (Q : Int) + q := by omega

theorem nc10b (Q q : Nat) : ((q + 10000 * Q : Nat) : Int) = q + 10000 * (Q : Int) := by omega

theorem len_of {n k : Nat} (h : n < 10000 ^ k) : (dg n).length ≤ k := dg_len.2 (by rw [← pwc]; omega)

theorem lt_len (n : Nat) : n < 10000 ^ (dg n).length := by
  have := dg_len.1 (Nat.le_refl (dg n).length)
  rw [← pwc] at this
  omega

theorem lt_len' {n k : Nat} (h : (dg n).length ≤ k) : n < 10000 ^ k := by
  have := dg_len.1 h
  rw [← pwc] at this
  omega

theorem len_mul (a b : Nat) : (dg (a * b)).length ≤ (dg a).length + (dg b).length := by
  refine len_of ?_
  rw [Nat.pow_add]
  exact Nat.mul_lt_mul'' (lt_len a) (lt_len b)

theorem len_add (a b : Nat) : (dg (a + b)).length ≤ max (dg a).length (dg b).length + 1 := by
  refine len_of ?_
  have h1 : a < 10000 ^ max (dg a).length (dg b).length := lt_len' (by omega)
  have h2 : b < 10000 ^ max (dg a).length (dg b).length := lt_len' (by omega)
  rw [Nat.pow_succ]
  omega

theorem len_one {a : Nat} (h : a < 10000) : (dg a).length ≤ 1 := len_of (by simpa using h)

theorem len_ten (a : Nat) (x : Nat) (h : x < 10000) : (dg (x + 10000 * a)).length ≤ (dg a).length + 1 := by
  refine len_of ?_
  have := lt_len a
  rw [Nat.pow_succ]
  omega

theorem s_cmp {n a b : Nat} (h : (dg a).length ≤ 1099511627776) (hn : (dg a).length < n) : f187 n (dg a) (dg b) = some (cm a b) := by
  rw [f187_eq (Cn_dg a) (Cn_dg b) h hn, vl_dg, vl_dg]

theorem s_mul {n a b : Nat} (h : (dg a).length + (dg b).length ≤ 1099511627770) (hn : (dg a).length + (dg b).length + 2 ≤ n) : f178 n (dg a) (dg b) = some (dg (a * b)) := by
  rw [f178_eq (Lm_dg a) (Lm_dg b) h hn, vl_dg, vl_dg]; congr 1

theorem s_add {n a b : Nat} (h : (dg a).length ≤ 1099511627776) (h' : (dg b).length ≤ 1099511627776) (hn : max (dg a).length (dg b).length + 2 ≤ n) : f186 n (dg a) (dg b) = some (dg (a + b)) := by
  rw [f186_eq (Cn_dg a) (Cn_dg b) h h' hn, vl_dg, vl_dg]; congr 1

theorem s_sub {n a b : Nat} (h : (dg a).length ≤ 1099511627776) (hn : (dg a).length + 1 ≤ n) (hab : b ≤ a) : f188 n (dg a) (dg b) = some (dg (a - b)) := by
  rw [f188_eq (Cn_dg a) (Cn_dg b) h hn (by rw [vl_dg, vl_dg]; omega), vl_dg, vl_dg]
  congr 2
  omega

theorem i_mul {n a b : Nat} (h : (dg a).length + (dg b).length ≤ 1099511627770) (hn : (dg a).length + (dg b).length + 2 ≤ n) : f143 n (dg a) (dg b) = some (dg (a * b)) := by
  rw [f143_eq (Lm_dg a) (Lm_dg b) h hn, vl_dg, vl_dg]; congr 1

theorem i_cmp {n a b : Nat} (h : (dg a).length ≤ 1099511627776) : f170 n (dg a) (dg b) = some (cm a b) := by
  rw [f170_eq (Cn_dg a) (Cn_dg b) h, vl_dg, vl_dg]

theorem bis176 {α : Type} {n B R : Nat} (hBl : (dg B).length ≤ 1099511627700) (hn : (dg B).length + 20 ≤ n) (s0 : List Int) (s8 : Int) (b14 : List Int) {k0 : List Int → List Int → List Int → Int → Int → List Int → Option α} :
    ∀ (m lo hi : Nat), lo < hi → hi ≤ 10000 → lo * B ≤ R → R < hi * B → hi ≤ lo + m →
    f202_L10 n m s0 (dg B) (dg R) s8 (lo : Int) (hi : Int) b14 k0 = k0 s0 (dg B) (dg R) s8 ((R / B : Nat) : Int) b14
  | 0, lo, hi, h1, h2, h3, h4, h5 => by omega
  | m + 1, lo, hi, h1, h2, h3, h4, h5 => by
    rw [f202_L10_s]
    unfold f202_L10B
    dsimp only
    rw [W_id (x := (hi : Int) - (lo : Int)) (by omega) (by omega), W_id (x := (lo : Int) + (hi : Int)) (by omega) (by omega)]
    have e : Int.tdiv ((lo : Int) + (hi : Int)) 2 = (((lo + hi) / 2 : Nat) : Int) := by
      rw [Int.tdiv_eq_ediv_of_nonneg (by omega)]; omega
    rw [e, W_id (x := (((lo + hi) / 2 : Nat) : Int)) (by omega) (by omega)]
    generalize hmid : (lo + hi) / 2 = mid
    by_cases hc : lo + 1 < hi
    · rw [Bool.cond_decide, if_pos (by omega), f172_eq (by omega) (by omega), ob_some]
      have hl := len_one (a := mid) (by omega)
      have hm := len_mul B mid
      rw [s_mul (by omega) (by omega), ob_some, s_cmp (by omega) (by omega), ob_some, Bool.cond_decide]
      by_cases hle : B * mid ≤ R
      · have : cm ((B * mid : Nat) : Int) (R : Int) ≤ 0 := by
          rcases Nat.lt_or_eq_of_le hle with h | h
          · rw [cm_lt (by omega)]; omega
          · rw [cm_eq (by omega)]; omega
        rw [if_pos this]
        exact bis176 hBl hn s0 s8 b14 m mid hi (by omega) h2 (by rw [Nat.mul_comm]; exact hle) h4 (by omega)
      · have : ¬ cm ((B * mid : Nat) : Int) (R : Int) ≤ 0 := by
          rw [cm_gt (by omega)]; omega
        rw [if_neg this]
        exact bis176 hBl hn s0 s8 b14 m lo mid (by omega) (by omega) h3 (by rw [Nat.mul_comm]; omega) (by omega)
    · rw [Bool.cond_decide, if_neg (by omega)]
      obtain rfl : hi = lo + 1 := by omega
      have : R / B = lo := by
        rw [Nat.div_eq_iff (Nat.pos_of_ne_zero (by rintro rfl; simp at h4))]
        rw [Nat.add_mul] at h4
        omega
      rw [this]

theorem div176 {α : Type} {n L A B : Nat} (hB : 0 < B) (hA : (dg A).length ≤ L) (hBl : (dg B).length ≤ L) (hL : L ≤ 1099511627000) (hn : L + 10040 ≤ n) {k0 : List Int → List Int → Option α} :
    ∀ (k m Q R : Nat) (o : List Int), k < m → k ≤ (dg A).length → R < B → o.length = (dg A).length → Lm o → (∀ i, i < k → o.getD i 0 = 0) → vl o = 10000 ^ k * (Q : Int) → (Q : Int) * B + R = vl ((dg A).drop k) →
    ∃ o', Lm o' ∧ o'.length = (dg A).length ∧ vl o' = ((A / B : Nat) : Int) ∧ f202_L4 n m (dg A) (dg B) (dg R) ((k : Int) - 1) o k0 = k0 (dg (A % B)) o'
  | _, 0, _, _, _, h1, _, _, _, _, _, _, _ => by omega
  | 0, m + 1, Q, R, o, h1, h2, h3, h4, h5, h6, h7, h8 => by
    rw [f202_L4_s]
    unfold f202_L4B
    dsimp only
    rw [Bool.cond_decide, if_neg (by omega)]
    rw [List.drop_zero, vl_dg] at h8
    have h8 : Q * B + R = A := by
      have : ((Q * B + R : Nat) : Int) = A := by rw [Int.natCast_add, Int.natCast_mul]; exact h8
      omega
    have h9 : A / B = Q := by rw [← h8, Nat.add_comm, Nat.add_mul_div_right _ _ hB, Nat.div_eq_of_lt h3, Nat.zero_add]
    have h10 : A % B = R := by rw [← h8, Nat.mul_add_mod_self_right, Nat.mod_eq_of_lt h3]
    exact ⟨o, h5, h4, by rw [h7, h9]; simp, by rw [h10]⟩
  | k + 1, m + 1, Q, R, o, h1, h2, h3, h4, h5, h6, h7, h8 => by
    rw [f202_L4_s]
    unfold f202_L4B
    dsimp only
    rw [Bool.cond_decide, if_pos (by omega)]
    rw [show (((k + 1 : Nat) : Int) - 1) = (k : Int) by omega]
    simp only [Int.toNat_natCast]
    have hg := (Lm_dg A).get k
    obtain ⟨x, hx⟩ : ∃ x : Nat, (dg A).getD k 0 = (x : Int) := ⟨((dg A).getD k 0).toNat, by omega⟩
    have hlR : (dg R).length ≤ L := Nat.le_trans (len_mono (by omega)) hBl
    have hlRx := len_ten R x (by omega)
    have hRx : vl ((dg A).drop k) = (x : Int) + 10000 * ((Q : Int) * B + R) := by
      rw [vl_drop (by omega), hx, ← h8]
    have hR' : x + 10000 * R < 10000 * B := by omega
    rw [hx, gd_pos (by simp; try omega), gd_pos (by simp; try omega), f203_eq (Lm.app (Lm.cons (by omega) Lm.nil) (Lm_dg R)) (by simp; omega) (by simp; omega), ob_some]
    have e1 : (vl ([(x : Int)] ++ dg R)).toNat = x + 10000 * R := by
      rw [List.cons_append, List.nil_append, vl, vl_dg]; omega
    rw [e1, s_cmp (by omega) (by omega), ob_some, W_id (x := (k : Int) - 1) (by omega) (by omega), Bool.cond_decide]
    by_cases hlt : x + 10000 * R < B
    · rw [if_pos (by rw [cm_lt (by omega)]; omega)]
      refine div176 hB hA hBl hL hn k m (10000 * Q) (x + 10000 * R) o (by omega) (by omega) hlt h4 h5 (fun i hi => h6 i (by omega)) ?_ ?_
      · rw [h7, pw_succ, nc10]; grind
      · rw [hRx, nc10, nc10b]; grind
    · rw [if_neg (by
        rcases Nat.lt_or_eq_of_le (Nat.le_of_not_lt hlt) with h | h
        · rw [cm_gt (by omega)]; omega
        · rw [cm_eq (by omega)]; omega)]
      have hbis := bis176 (n := n) (B := B) (R := x + 10000 * R) (by omega) (by omega) (dg A) (k : Int) o (k0 := fun z_3 z_4 z_5 z_6 z_7 z_8 => (
              gd (decide (0 ≤ z_6) && decide (z_6 < (z_8.length : Int))) (
                gd (decide (z_6.toNat < z_8.length)) (
                  ob (f172 n z_7) fun r_9 =>
                  ob (f178 n z_4 r_9) fun r_10 =>
                  ob (f188 n z_5 r_10) fun r_11 =>
                  f202_L4 n m z_3 z_4 r_11 (W (z_6 - 1)) (z_8.set z_6.toNat z_7) k0)))) n 0 10000 (by omega) (by omega) (by omega) hR' (by omega)
      have hbis : f202_L10 n n (dg A) (dg B) (dg (x + 10000 * R)) (k : Int) 0 10000 o _ = _ := hbis
      rw [hbis]
      simp only [Int.toNat_natCast]
      have hq : (x + 10000 * R) / B < 10000 := by
        rw [Nat.div_lt_iff_lt_mul hB]; omega
      have hqr := Nat.div_add_mod (x + 10000 * R) B
      have hqm := Nat.mod_lt (x + 10000 * R) hB
      generalize hqq : (x + 10000 * R) / B = q at *
      generalize hrr : (x + 10000 * R) % B = r at *
      have hl1 := len_one hq
      have hl2 := len_mul B q
      rw [gd_pos (by simp; try omega), gd_pos (by simp; try omega), f172_eq (by omega) (by omega), ob_some, s_mul (by omega) (by omega), ob_some, s_sub (by omega) (by omega) (by omega), ob_some, W_id (x := (k : Int) - 1) (by omega) (by omega), show x + 10000 * R - B * q = r by omega]
      refine div176 hB hA hBl hL hn k m (10000 * Q + q) r _ (by omega) (by omega) hqm (by simpa using h4) (h5.set _ (by omega)) (fun i hi => ?_) ?_ ?_
      · rw [List.getD_eq_getElem?_getD, List.getElem?_set_ne (by omega), ← List.getD_eq_getElem?_getD]
        exact h6 i (by omega)
      · rw [vl_set _ (by omega), h7, h6 k (by omega), pw_succ, nc10a]
        generalize (10000 : Int) ^ k = P
        grind
      · rw [hRx]
        have : (B : Int) * q + r = x + 10000 * R := by
          rw [← nc10b, ← hqr, Int.natCast_add, Int.natCast_mul]
        rw [nc10a]
        grind

theorem s_div {n L A B : Nat} (hB : 0 < B) (hA : (dg A).length ≤ L) (hBl : (dg B).length ≤ L) (hL : L ≤ 1099511627000) (hn : L + 10040 ≤ n) : f202 n (dg A) (dg B) = some (dg (A / B), dg (A % B)) := by
  unfold f202
  rw [gd_pos (by simp; try omega), W_id (x := ((dg A).length : Int) - 1) (by omega) (by omega)]
  simp only [Int.toNat_natCast]
  obtain ⟨o, h1, h2, h3, h4⟩ := div176 (n := n) hB hA hBl hL hn (k0 := fun z_12 z_13 => (
        ob (f203 n z_13) fun r_14 =>
        some (r_14, z_12))) (dg A).length n 0 0 (List.replicate (dg A).length 0) (by omega) (Nat.le_refl _) hB (by simp) (Lm.rep _) (fun i hi => by simp [List.getD_eq_getElem?_getD, List.getElem?_replicate, hi]) (by rw [vl_rep]; simp) (by simp [vl])
  rw [dg_zero] at h4
  rw [h4, f203_eq h1 (by omega) (by omega), ob_some, h3]
  rfl

theorem gcd_half {a b : Nat} (hb : 0 < b) (hr : 0 < a % b) {j : Nat} (h : b < 2 ^ (j + 1)) : b % (a % b) < 2 ^ j := by
  have h1 := Nat.mod_lt a hb
  have h2 := Nat.mod_lt b hr
  have h3 := Nat.div_add_mod b (a % b)
  generalize a % b = r at *
  have h4 : 1 ≤ b / r := by rw [Nat.le_div_iff_mul_le hr]; omega
  have h5 : r * 1 ≤ r * (b / r) := Nat.mul_le_mul_left r h4
  rw [Nat.pow_succ] at h
  omega

theorem gcd128 {α : Type} {n L : Nat} (hL : L ≤ 1099511627000) (hn : L + 10040 ≤ n) {k0 : List Int → Option α} :
    ∀ (j m a b : Nat), b < 2 ^ j → 2 * j + 1 ≤ m → (dg a).length ≤ L → (dg b).length ≤ L → f190_L1 n m (dg a) (dg b) k0 = k0 (dg (Nat.gcd b a)) := by
  have stop : ∀ (m a : Nat), 0 < m → f190_L1 n m (dg a) (dg 0) k0 = k0 (dg (Nat.gcd 0 a)) := fun m a hm => by
    obtain ⟨m, rfl⟩ : ∃ m', m = m' + 1 := ⟨m - 1, by omega⟩
    rw [f190_L1_s, Nat.gcd_zero_left, dg_zero]; rfl
  have step : ∀ (m a b : Nat), 0 < b → (dg a).length ≤ L → (dg b).length ≤ L → f190_L1 n (m + 1) (dg a) (dg b) k0 = f190_L1 n m (dg b) (dg (a % b)) k0 := fun m a b hb ha hbl => by
    rw [f190_L1_s]
    unfold f190_L1B
    have : 0 < (dg b).length := by rw [dg_pos (by omega)]; simp
    rw [Bool.cond_decide, if_pos (by omega), s_div hb ha hbl hL hn, ob_some]
  intro j
  induction j with
  | zero =>
    intro m a b h1 h2 h3 h4
    obtain rfl : b = 0 := by simpa using h1
    exact stop m a (by omega)
  | succ j ih =>
    intro m a b h1 h2 h3 h4
    rcases Nat.eq_zero_or_pos b with rfl | hb
    · exact stop m a (by omega)
    obtain ⟨m, rfl⟩ : ∃ m', m = m' + 2 := ⟨m - 2, by omega⟩
    have h5 : (dg (a % b)).length ≤ L := Nat.le_trans (len_mono (Nat.le_of_lt (Nat.mod_lt a hb))) h4
    rw [step _ _ _ hb h3 h4, Nat.gcd_rec b a]
    rcases Nat.eq_zero_or_pos (a % b) with hr | hr
    · rw [hr]; exact stop _ _ (by omega)
    have h6 : (dg (b % (a % b))).length ≤ L := Nat.le_trans (len_mono (Nat.le_of_lt (Nat.mod_lt b hr))) h5
    rw [step _ _ _ hr h4 h5, Nat.gcd_rec (a % b) b]
    exact ih m _ _ (gcd_half hb hr h1) (by omega) h5 h6

theorem pow_two {b L : Nat} (h : b < 10000 ^ L) : b < 2 ^ (14 * L) := by
  rw [Nat.pow_mul]
  exact Nat.lt_of_lt_of_le h (Nat.pow_le_pow_left (by decide) L)

theorem s_gcd {n L a b : Nat} (hL : L ≤ 1099511627000) (hn : 28 * L + 10040 ≤ n) (ha : (dg a).length ≤ L) (hb : (dg b).length ≤ L) : f190 n (dg a) (dg b) = some (dg (Nat.gcd a b)) := by
  unfold f190
  have h1 : (dg (Nat.gcd b a)).length ≤ L := by
    rcases Nat.eq_zero_or_pos b with rfl | h
    · rw [Nat.gcd_zero_left]; exact ha
    · exact Nat.le_trans (len_mono (Nat.gcd_le_left a h)) hb
  rw [gcd128 hL (by omega) (14 * L) n a b (pow_two (lt_len' hb)) (by omega) ha hb, gd_pos (by simp; try omega), Nat.gcd_comm]

theorem mid_get {pre w post : List Int} {i : Nat} (h : i < w.length) : (pre ++ w ++ post).getD (pre.length + i) 0 = w.getD i 0 := by
  rw [List.append_assoc, List.getD_eq_getElem?_getD, List.getElem?_append_right (by omega), Nat.add_sub_cancel_left, List.getElem?_append_left h, ← List.getD_eq_getElem?_getD]

theorem mid_set {pre w post : List Int} {i : Nat} (h : i < w.length) (x : Int) : (pre ++ w ++ post).set (pre.length + i) x = pre ++ w.set i x ++ post := by
  rw [List.append_assoc, List.set_append_right _ _ (by omega), Nat.add_sub_cancel_left, List.set_append_left _ _ h, List.append_assoc]

theorem carry_neg {y : Int} (h : y < 0) (h' : -1099511627776 < y) : W (Int.tdiv (W (W (y - 10000) + 1)) 10000) = y / 10000 := by
  rw [W_id (x := y - 10000) (by omega) (by omega), W_id (x := y - 10000 + 1) (by omega) (by omega)]
  have : Int.tdiv (y - 10000 + 1) 10000 = y / 10000 := by
    rw [show y - 10000 + 1 = -(9999 - y) by omega, Int.neg_tdiv, Int.tdiv_eq_ediv_of_nonneg (by omega)]
    omega
  rw [this, W_id (by omega) (by omega)]

/-- one step of a subtraction of a multiple -/
theorem sub_step {o P q c wi bi v' T y d r : Int} (h : o + P * (c - q * (bi + 10000 * v')) = T) (hy : y = wi + c - q * bi) (hd : y = 10000 * d + r) : o + P * (r - wi) + 10000 * P * (d - q * v') = T := by
  grind

/-- one step of an addition -/
theorem plus_step {o P c wi bi v' T y d r : Int} (h : o + P * (c + (bi + 10000 * v')) = T) (hy : y = wi + c + bi) (hd : y = 10000 * d + r) : o + P * (r - wi) + 10000 * P * (d + v') = T := by
  grind

theorem vl_drop' {l : List Int} (k : Nat) : vl (l.drop k) = l.getD k 0 + 10000 * vl (l.drop (k + 1)) := by
  rcases Nat.lt_or_ge k l.length with h | h
  · exact vl_drop h
  · rw [List.drop_of_length_le h, List.drop_of_length_le (by omega), getD_out h]; rfl

theorem sub197 {α : Type} {n N : Nat} {b pre post : List Int} (hb : Lm b) (hbN : b.length = N) (hN : pre.length + N + 1 + post.length ≤ 1099511627776) {q : Int} (hq : 0 ≤ q ∧ q < 10000) {T : Int} {k0 : Nat → Nat → List Int → Int → Int → Int → List Int → Option α} :
    ∀ (m i : Nat) (c : Int) (w : List Int), Lm w → w.length = N + 1 → -9999 ≤ c → c ≤ 0 → i ≤ N + 1 → vl w + 10000 ^ i * (c - q * vl (b.drop i)) = T → N + 2 ≤ i + m →
    ∃ w' c', Lm w' ∧ w'.length = N + 1 ∧ c' ≤ 0 ∧ vl w' + 10000 ^ (N + 1) * c' = T ∧ f204B_L6 n m pre.length (N + 1) b (b.length : Int) q c ((N + 1 : Nat) : Int) (i : Int) (pre ++ w ++ post) k0 = k0 pre.length (N + 1) b (b.length : Int) q c' (pre ++ w' ++ post)
  | 0, i, c, w, h1, h2, h3, h4, h5, h6, h7 => by omega
  | m + 1, i, c, w, h1, h2, h3, h4, h5, h6, h7 => by
    rw [f204B_L6_s]
    unfold f204B_L6B
    dsimp only
    by_cases hi : i < N + 1
    · rw [Bool.cond_decide, if_pos (by omega)]
      simp only [Int.toNat_natCast]
      rw [gd_pos (by simp; try omega), gd_pos (by simp; try omega)]
      simp only [mid_get (pre := pre) (post := post) (w := w) (i := i) (by omega)]
      have g1 := h1.get i
      have g2 := hb.get i
      have g3 := limb_mul hq g2
      have go : ∀ y : Int, y = w.getD i 0 + c - q * b.getD i 0 →
          ∃ w' c', Lm w' ∧ w'.length = N + 1 ∧ c' ≤ 0 ∧ vl w' + 10000 ^ (N + 1) * c' = T ∧ 
          (bif (decide (y < 0)) then (gd (decide (0 ≤ (i : Int)) && decide ((i : Int) < ((N + 1 : Nat) : Int))) (
              gd (decide ((pre.length + i) < (pre ++ w ++ post).length)) (
                f204B_L6 n m pre.length (N + 1) b (b.length : Int) q (W (Int.tdiv (W ((W (y - 10000)) + 1)) 10000)) ((N + 1 : Nat) : Int) (W ((i : Int) + 1)) ((pre ++ w ++ post).set (pre.length + i) (W (y - (W ((W (Int.tdiv (W ((W (y - 10000)) + 1)) 10000)) * 10000))))) k0)))
            else (gd (decide (0 ≤ (i : Int)) && decide ((i : Int) < ((N + 1 : Nat) : Int))) (
              gd (decide ((pre.length + i) < (pre ++ w ++ post).length)) (
                f204B_L6 n m pre.length (N + 1) b (b.length : Int) q 0 ((N + 1 : Nat) : Int) (W ((i : Int) + 1)) ((pre ++ w ++ post).set (pre.length + i) (W (y - (W (0 * 10000))))) k0)))) = k0 pre.length (N + 1) b (b.length : Int) q c' (pre ++ w' ++ post) := by
        intro y hy
        have hd : y = 10000 * (y / 10000) + y % 10000 := by omega
        have go2 : ∀ d : Int, d = y / 10000 → ∃ w' c', Lm w' ∧ w'.length = N + 1 ∧ c' ≤ 0 ∧ vl w' + 10000 ^ (N + 1) * c' = T ∧ (gd (decide (0 ≤ (i : Int)) && decide ((i : Int) < ((N + 1 : Nat) : Int))) (
              gd (decide ((pre.length + i) < (pre ++ w ++ post).length)) (
                f204B_L6 n m pre.length (N + 1) b (b.length : Int) q d ((N + 1 : Nat) : Int) (W ((i : Int) + 1)) ((pre ++ w ++ post).set (pre.length + i) (W (y - (W (d * 10000))))) k0))) = k0 pre.length (N + 1) b (b.length : Int) q c' (pre ++ w' ++ post) := by
          intro d hdd
          rw [gd_pos (by simp; try omega), gd_pos (by simp; try omega), mid_set (by omega), W_id (x := d * 10000) (by omega) (by omega), W_id (x := y - d * 10000) (by omega) (by omega), W_id (x := (i : Int) + 1) (by omega) (by omega)]
          refine sub197 (n := n) hb hbN hN hq m (i + 1) d _ (h1.set _ (by omega)) (by simpa using h2) (by omega) (by omega) (by omega) ?_ (by omega)
          rw [vl_set _ (by omega), pw_succ]
          refine sub_step (bi := b.getD i 0) ?_ hy (by omega)
          rw [← vl_drop']; exact h6
        rw [Bool.cond_decide]
        by_cases hneg : y < 0
        · rw [if_pos hneg]
          simp only [carry_neg hneg (by omega)]
          exact go2 _ rfl
        · rw [if_neg hneg]
          exact go2 0 (by omega)
      by_cases hB : i < b.length
      · have dB : decide ((i : Int) < (b.length : Int)) = true := by rw [decide_eq_true_eq]; omega
        simp only [dB, cond_true]
        rw [gd_pos (by simp; try omega)]
        simp only [W_id (x := q * b.getD i 0) (by omega) (by omega), W_id (x := w.getD i 0 + c) (by omega) (by omega), W_id (x := w.getD i 0 + c - q * b.getD i 0) (by omega) (by omega)]
        exact go _ rfl
      · have dB : decide ((i : Int) < (b.length : Int)) = false := by rw [decide_eq_false_iff_not]; omega
        simp only [dB, cond_false]
        simp only [W_id (x := w.getD i 0 + c) (by omega) (by omega)]
        exact go _ (by rw [getD_out (l := b) (by omega)]; omega)
    · rw [Bool.cond_decide, if_neg (by omega)]
      obtain rfl : i = N + 1 := by omega
      rw [List.drop_of_length_le (by omega)] at h6
      exact ⟨w, c, h1, h2, h4, by simpa [vl] using h6, rfl⟩

theorem plus197 {α : Type} {n N : Nat} {b pre post : List Int} (hb : Lm b) (hbN : b.length = N) (hN : pre.length + N + 1 + post.length ≤ 1099511627776) {q z : Int} {T : Int} {k0 : Nat → Nat → List Int → Int → Int → Int → Int → List Int → Option α} :
    ∀ (m i : Nat) (c : Int) (w : List Int), Lm w → w.length = N + 1 → 0 ≤ c → c ≤ 1 → i ≤ N + 1 → vl w + 10000 ^ i * (c + vl (b.drop i)) = T → N + 2 ≤ i + m →
    ∃ w' c', Lm w' ∧ w'.length = N + 1 ∧ 0 ≤ c' ∧ c' ≤ 1 ∧ vl w' + 10000 ^ (N + 1) * c' = T ∧ f204B_L20 n m pre.length (N + 1) b (b.length : Int) q z c ((N + 1 : Nat) : Int) (i : Int) (pre ++ w ++ post) k0 = k0 pre.length (N + 1) b (b.length : Int) q z c' (pre ++ w' ++ post)
  | 0, i, c, w, h1, h2, h3, h4, h5, h6, h7 => by omega
  | m + 1, i, c, w, h1, h2, h3, h4, h5, h6, h7 => by
    rw [f204B_L20_s]
    unfold f204B_L20B
    dsimp only
    by_cases hi : i < N + 1
    · rw [Bool.cond_decide, if_pos (by omega)]
      simp only [Int.toNat_natCast]
      rw [gd_pos (by simp; try omega), gd_pos (by simp; try omega), mid_get (by omega)]
      have g1 := h1.get i
      have g2 := hb.get i
      have go : ∀ y : Int, y = w.getD i 0 + c + b.getD i 0 → ∃ w' c', Lm w' ∧ w'.length = N + 1 ∧ 0 ≤ c' ∧ c' ≤ 1 ∧ vl w' + 10000 ^ (N + 1) * c' = T ∧ (gd (decide (0 ≤ (i : Int)) && decide ((i : Int) < ((N + 1 : Nat) : Int))) (
              gd (decide ((pre.length + i) < (pre ++ w ++ post).length)) (
                f204B_L20 n m pre.length (N + 1) b (b.length : Int) q z (W (Int.tdiv y 10000)) ((N + 1 : Nat) : Int) (W ((i : Int) + 1)) ((pre ++ w ++ post).set (pre.length + i) (Int.tmod y 10000)) k0))) = k0 pre.length (N + 1) b (b.length : Int) q z c' (pre ++ w' ++ post) := by
        intro y hy
        have hd : y = 10000 * (y / 10000) + y % 10000 := by omega
        rw [gd_pos (by simp; try omega), gd_pos (by simp; try omega), mid_set (by omega), tdv (by omega), tmd (by omega), W_id (x := y / 10000) (by omega) (by omega), W_id (x := (i : Int) + 1) (by omega) (by omega)]
        refine plus197 (n := n) hb hbN hN m (i + 1) _ _ (h1.set _ (by omega)) (by simpa using h2) (by omega) (by omega) (by omega) ?_ (by omega)
        rw [vl_set _ (by omega), pw_succ]
        refine plus_step (bi := b.getD i 0) ?_ hy hd
        rw [← vl_drop']; exact h6
      by_cases hB : i < b.length
      · have dB : decide ((i : Int) < (b.length : Int)) = true := by rw [decide_eq_true_eq]; omega
        simp only [dB, cond_true]
        rw [gd_pos (by simp; try omega)]
        simp only [W_id (x := w.getD i 0 + c) (by omega) (by omega), W_id (x := w.getD i 0 + c + b.getD i 0) (by omega) (by omega)]
        exact go _ rfl
      · have dB : decide ((i : Int) < (b.length : Int)) = false := by rw [decide_eq_false_iff_not]; omega
        simp only [dB, cond_false]
        simp only [W_id (x := w.getD i 0 + c) (by omega) (by omega)]
        exact go _ (by rw [getD_out (l := b) (by omega)]; omega)
    · rw [Bool.cond_decide, if_neg (by omega)]
      obtain rfl : i = N + 1 := by omega
      rw [List.drop_of_length_le (by omega)] at h6
      exact ⟨w, c, h1, h2, h3, h4, by simpa [vl] using h6, rfl⟩

theorem back_neg {P v c R qB : Int} (h1 : v < P) (hP : 0 < P) (h : v + P * c = R - qB) (hc : c < 0) : R - qB < 0 := by
  have : P * c ≤ P * (-1) := Int.mul_le_mul_of_nonneg_left (by omega) (by omega)
  omega

theorem back_low {P v c R q B : Int} (h0 : v < P) (h : v + P * c = R - q * B) (hB : 0 ≤ B) (hBP : B < P) (hR : 0 ≤ R) (hq : q < 10000) (hq0 : 0 ≤ q) : -10000 ≤ c := by
  have h9 : q * B ≤ 10000 * B := Int.mul_le_mul_of_nonneg_right (by omega) (by omega)
  rcases Int.lt_or_le c (-10000) with h1 | h1
  · have h8 : P * c ≤ P * (-10001) := Int.mul_le_mul_of_nonneg_left (by omega) (by omega)
    exfalso
    omega
  · exact h1

theorem back_new {v v' x x' R qB B : Int} (h : v + x = R - qB) (h' : v' + x' = v + B) : v' + (x + x') = R - (qB - B) := by omega

theorem back197 {α : Type} {n N R B : Nat} {pre post : List Int} (hB : 0 < B) (hbN : (dg B).length = N) (hN : pre.length + N + 1 + post.length ≤ 1099511627776) (hn : N + 2 ≤ n) {k0 : Int → List Int → Option α} :
    ∀ (m q : Nat) (c : Int) (w : List Int), Lm w → w.length = N + 1 → c ≤ 0 → vl w + 10000 ^ (N + 1) * c = (R : Int) - q * B → R / B ≤ q → q < 10000 → q < m →
    ∃ w', Lm w' ∧ w'.length = N + 1 ∧ vl w' = ((R % B : Nat) : Int) ∧ f204B_L16 n m pre.length (N + 1) (dg B) ((dg B).length : Int) (q : Int) c (pre ++ w ++ post) k0 = k0 ((R / B : Nat) : Int) (pre ++ w' ++ post)
  | 0, q, c, w, h1, h2, h3, h4, h5, h6, h7 => by omega
  | m + 1, q, c, w, h1, h2, h3, h4, h5, h6, h7 => by
    rw [f204B_L16_s]
    unfold f204B_L16B
    dsimp only
    have hw := vl_lt h1
    have hw0 := vl_nonneg h1
    rw [h2] at hw
    rw [Bool.cond_decide]
    have hP := pw_pos (N + 1)
    have hBP := lt_len B
    rw [hbN] at hBP
    have hdm := Nat.div_add_mod R B
    have hml := Nat.mod_lt R hB
    by_cases hc : c < 0
    · rw [if_pos hc]
      have hneg := back_neg hw hP h4 hc
      have hlt : R / B < q := by
        rw [Nat.div_lt_iff_lt_mul hB]
        have : ((q * B : Nat) : Int) = (q : Int) * B := Int.natCast_mul q B
        omega
      have hq0 : 0 < q := Nat.lt_of_le_of_lt (Nat.zero_le _) hlt
      have hBi : (B : Int) < 10000 ^ N := by rw [← pwc]; omega
      have hBP' : (B : Int) < 10000 ^ (N + 1) := by
        have := pw_le (show N ≤ N + 1 by omega)
        omega
      have hcm := back_low (q := (q : Int)) hw h4 (by omega) hBP' (by omega) (by omega) (by omega)
      rw [W_id (x := (q : Int) - 1) (by omega) (by omega), show (q : Int) - 1 = ((q - 1 : Nat) : Int) by omega]
      obtain ⟨w', c', q1, q2, q3, q4, q5, q6⟩ := plus197 (n := n) (Lm_dg B) hbN hN (q := ((q - 1 : Nat) : Int)) (z := c) (T := vl w + B) (k0 := fun z_12 z_13 z_14 z_15 z_16 z_17 z_18 z_19 => (
        f204B_L16 n m z_12 z_13 z_14 z_15 z_16 (W (z_17 + z_18)) z_19 k0)) n 0 0 w h1 h2 (by omega) (by omega) (by omega) (by rw [List.drop_zero, vl_dg, Int.pow_zero, Int.one_mul, Int.zero_add]) (by omega)
      have q6 : f204B_L20 n n pre.length (N + 1) (dg B) ((dg B).length : Int) ((q - 1 : Nat) : Int) c 0 ((N + 1 : Nat) : Int) 0 (pre ++ w ++ post) _ = _ := q6
      rw [q6]
      have hq1 : ((q - 1 : Nat) : Int) * B = q * B - B := by
        rw [show ((q - 1 : Nat) : Int) = (q : Int) - 1 by omega, Int.sub_mul, Int.one_mul]
      have hnew : vl w' + 10000 ^ (N + 1) * (c + c') = (R : Int) - ((q - 1 : Nat) : Int) * B := by
        rw [Int.mul_add, hq1]
        exact back_new h4 q5
      rw [W_id (x := c + c') (by omega) (by omega)]
      exact back197 hB hbN hN hn m (q - 1) (c + c') w' q1 q2 (by omega) hnew (by omega) (by omega) (by omega)
    · rw [if_neg hc]
      obtain rfl : c = 0 := by omega
      rw [Int.mul_zero, Int.add_zero] at h4
      have e : R / B = q := by
        refine Nat.le_antisymm h5 ?_
        rw [Nat.le_div_iff_mul_le hB]
        have : ((q * B : Nat) : Int) = (q : Int) * B := Int.natCast_mul q B
        omega
      refine ⟨w, h1, h2, ?_, by rw [e]⟩
      have : ((B * q : Nat) : Int) = (q : Int) * B := by rw [Int.natCast_mul, Int.mul_comm]
      rw [e] at hdm
      omega

/-- the guess is not too small -/
theorem guess {P lowR lowB high top t R B : Int} (hR : R = lowR + P * high) (hB : B = lowB + P * top) (h1 : lowR < P) (h2 : 0 ≤ lowB) (hP : 0 < P) (ht : 0 ≤ t) (hle : t * B ≤ R) : t * top ≤ high := by
  have h3 : t * (P * top) ≤ t * B := Int.mul_le_mul_of_nonneg_left (by omega) ht
  have h4 : P * (t * top) < P * (high + 1) := by
    rw [Int.mul_add, Int.mul_one, show P * (t * top) = t * (P * top) by grind]; omega
  have := Int.lt_of_mul_lt_mul_left h4 (by omega)
  omega

theorem f204B_eq {n M R B : Nat} {pre w post : List Int} (hbN : (dg B).length = M + 2) (hN : pre.length + (M + 2) + 1 + post.length ≤ 1099511627776) (hn : M + 10010 ≤ n) (hw : Lm w) (hwl : w.length = M + 3) (hv : vl w = (R : Int)) (hR : R < 10000 * B) :
    ∃ w', Lm w' ∧ w'.length = M + 3 ∧ vl w' = ((R % B : Nat) : Int) ∧ f204B n (pre ++ w ++ post, pre.length, M + 3) (dg B) = some (((R / B : Nat) : Int), pre ++ w' ++ post) := by
  have hB : 0 < B := by omega
  unfold f204B
  dsimp only
  rw [hbN]
  rw [W_id (x := ((M + 2 : Nat) : Int) - 1) (by omega) (by omega), W_id (x := ((M + 2 : Nat) : Int) - 2) (by omega) (by omega), show ((M + 2 : Nat) : Int) - 1 = ((M + 1 : Nat) : Int) by omega, show ((M + 2 : Nat) : Int) - 2 = (M : Int) by omega]
  simp only [Int.toNat_natCast]
  have hb := Lm_dg B
  have g0 := hw.get (M + 2)
  have g1 := hw.get (M + 1)
  have g2 := hw.get M
  have b1 := hb.get (M + 1)
  have b2 := hb.get M
  have bt : (dg B).getD (M + 1) 0 ≠ 0 := by
    have := (Cn_dg B).2 (List.length_pos_iff.1 (by omega))
    rw [hbN] at this
    exact this
  rw [gd_pos (by simp; try omega), gd_pos (by simp; try omega), gd_pos (by simp; try omega), gd_pos (by simp; try omega), gd_pos (by simp; try omega), gd_pos (by simp; try omega), gd_pos (by simp; try omega), gd_pos (by simp; try omega)]
  simp only [mid_get (pre := pre) (post := post) (w := w) (i := M + 2) (by omega), mid_get (pre := pre) (post := post) (w := w) (i := M + 1) (by omega), mid_get (pre := pre) (post := post) (w := w) (i := M) (by omega)]
  simp only [W_id (x := (dg B).getD (M + 1) 0 * 10000) (by omega) (by omega), W_id (x := (dg B).getD (M + 1) 0 * 10000 + (dg B).getD M 0) (by omega) (by omega), W_id (x := w.getD (M + 2) 0 * 10000) (by omega) (by omega), W_id (x := w.getD (M + 2) 0 * 10000 + w.getD (M + 1) 0) (by omega) (by omega), W_id (x := (w.getD (M + 2) 0 * 10000 + w.getD (M + 1) 0) * 10000) (by omega) (by omega), W_id (x := (w.getD (M + 2) 0 * 10000 + w.getD (M + 1) 0) * 10000 + w.getD M 0) (by omega) (by omega)]
  rw [gd_pos (by simp only [decide_eq_true_eq]; omega)]
  have vw : (R : Int) = vl (w.take M) + 10000 ^ M * ((w.getD (M + 2) 0 * 10000 + w.getD (M + 1) 0) * 10000 + w.getD M 0) := by
    have t1 := vl_take_suc w (M + 2)
    have t2 := vl_take_suc w (M + 1)
    have t3 := vl_take_suc w M
    rw [take_le w (by omega), hv] at t1
    rw [t1, t2, t3, pw_succ, pw_succ]
    grind
  have vb : (B : Int) = vl ((dg B).take M) + 10000 ^ M * ((dg B).getD (M + 1) 0 * 10000 + (dg B).getD M 0) := by
    have t2 := vl_take_suc (dg B) (M + 1)
    have t3 := vl_take_suc (dg B) M
    rw [take_le (dg B) (by omega), vl_dg] at t2
    rw [t2, t3, pw_succ]
    grind
  have lw := vl_lt (hw.take M)
  rw [List.length_take, Nat.min_eq_left (by omega)] at lw
  have lb := vl_nonneg (hb.take M)
  generalize hhigh : (w.getD (M + 2) 0 * 10000 + w.getD (M + 1) 0) * 10000 + w.getD M 0 = high at *
  generalize htop : (dg B).getD (M + 1) 0 * 10000 + (dg B).getD M 0 = top at *
  have htop0 : 0 < top := by omega
  have hh0 : 0 ≤ high ∧ high < 1000000000000 := by omega
  rw [Int.tdiv_eq_ediv_of_nonneg (by omega)]
  have hd0 : 0 ≤ high / top := Int.ediv_nonneg (by omega) (by omega)
  have hd1 : high / top ≤ high := Int.ediv_le_self _ (by omega)
  rw [W_id (x := high / top) (by omega) (by omega)]
  obtain ⟨q, hq⟩ : ∃ q : Nat, min (high / top) 9999 = (q : Int) := ⟨(min (high / top) 9999).toNat, by omega⟩
  have hql : q < 10000 := by omega
  have hqr : R / B ≤ q := by
    have h1 : (((R / B : Nat) : Int)) * top ≤ high := by
      refine guess vw vb lw lb (pw_pos M) (Int.natCast_nonneg _) ?_
      have := Nat.div_mul_le_self R B
      rw [← Int.natCast_mul]; omega
    have h2 : ((R / B : Nat) : Int) ≤ high / top := by rw [Int.le_ediv_iff_mul_le htop0]; exact h1
    have h3 : R / B < 10000 := by rw [Nat.div_lt_iff_lt_mul hB]; omega
    omega
  rw [hq]
  obtain ⟨w1, c1, r1, r2, r3, r4, r5⟩ := sub197 (n := n) (N := M + 2) (b := dg B) (pre := pre) (post := post) hb hbN hN (q := (q : Int)) (by omega) (T := (R : Int) - q * B) (k0 := fun z_5 z_6 z_7 z_8 z_9 z_10 z_11 => (
                        f204B_L16 n n z_5 z_6 z_7 z_8 z_9 z_10 z_11
                          (fun z_20 z_21 => (
                            some (z_20, z_21))))) n 0 0 w hw hwl (by omega) (by omega) (by omega) (by rw [List.drop_zero, vl_dg, hv, Int.pow_zero, Int.one_mul, Int.zero_sub, Int.sub_eq_add_neg]) (by omega)
  obtain ⟨w2, s1, s2, s3, s4⟩ := back197 (n := n) (N := M + 2) (R := R) (B := B) (pre := pre) (post := post) hB hbN hN (by omega) (k0 := fun z_20 z_21 => (some (z_20, z_21))) n q c1 w1 r1 r2 r3 r4 hqr hql (by omega)
  refine ⟨w2, s1, s2, s3, ?_⟩
  rw [hbN] at r5 s4
  have r5 : f204B_L6 n n pre.length (M + 3) (dg B) ((M + 2 : Nat) : Int) (q : Int) 0 ((M + 3 : Nat) : Int) 0 (pre ++ w ++ post) _ = _ := r5
  rw [r5]
  exact s4

theorem tdivN (y b : Nat) : Int.tdiv (y : Int) (b : Int) = ((y / b : Nat) : Int) := by
  rw [Int.tdiv_eq_ediv_of_nonneg (by omega), Int.natCast_ediv]

theorem tmodN (y b : Nat) : Int.tmod (y : Int) (b : Int) = ((y % b : Nat) : Int) := by
  rw [Int.tmod_eq_emod_of_nonneg (by omega), Int.natCast_emod]

theorem set_low {o : List Int} {k i : Nat} {x : Int} (h : ∀ i, i < k + 1 → o.getD i 0 = 0) (hi : i < k) : (o.set k x).getD i 0 = 0 := by
  rw [List.getD_eq_getElem?_getD, List.getElem?_set_ne (by omega), ← List.getD_eq_getElem?_getD]
  exact h i (by omega)

theorem step_quo {Q B R x q r y : Nat} (hy : x + 10000 * R = y) (hqr : B * q + r = y) {V : Int} (hV : (Q : Int) * B + R = V) : ((10000 * Q + q : Nat) : Int) * B + r = x + 10000 * V := by
  have : (B : Int) * q + r = x + 10000 * R := by
    rw [← nc10b, hy, ← hqr, Int.natCast_add, Int.natCast_mul]
  rw [nc10a, ← hV]
  grind

theorem one182 {α : Type} {n A B : Nat} (hB : 0 < B) (hB1 : B < 10000) (hlA : (dg A).length ≤ 1099511627000) {k0 : Int → List Int → Option α} :
    ∀ (k Q R : Nat) (o : List Int), k ≤ (dg A).length → R < B → o.length = (dg A).length → Lm o → (∀ i, i < k → o.getD i 0 = 0) → vl o = 10000 ^ k * (Q : Int) → (Q : Int) * B + R = vl ((dg A).drop k) →
    ∃ o', Lm o' ∧ o'.length = (dg A).length ∧ vl o' = ((A / B : Nat) : Int) ∧ f184_L7R n (dg A) k (dg A) [(B : Int)] (R : Int) o k0 = k0 ((A % B : Nat) : Int) o'
  | 0, Q, R, o, h2, h3, h4, h5, h6, h7, h8 => by
    rw [f184_L7_0]
    rw [List.drop_zero, vl_dg] at h8
    have h8 : Q * B + R = A := by
      have : ((Q * B + R : Nat) : Int) = A := by rw [Int.natCast_add, Int.natCast_mul]; exact h8
      omega
    have h9 : A / B = Q := by rw [← h8, Nat.add_comm, Nat.add_mul_div_right _ _ hB, Nat.div_eq_of_lt h3, Nat.zero_add]
    have h10 : A % B = R := by rw [← h8, Nat.mul_add_mod_self_right, Nat.mod_eq_of_lt h3]
    exact ⟨o, h5, h4, by rw [h7, h9]; simp, by rw [h10]⟩
  | k + 1, Q, R, o, h2, h3, h4, h5, h6, h7, h8 => by
    rw [f184_L7_s]
    unfold f184_L7B
    dsimp only
    have hg := (Lm_dg A).get k
    obtain ⟨x, hx⟩ : ∃ x : Nat, (dg A).getD k 0 = (x : Int) := ⟨((dg A).getD k 0).toNat, by omega⟩
    have hRx : vl ((dg A).drop k) = (x : Int) + 10000 * vl ((dg A).drop (k + 1)) := by
      rw [vl_drop (by omega), hx]
    simp only [Int.toNat_natCast]
    rw [gd_pos (by simp; try omega), gd_pos (by simp; omega), gd_pos (by simp; try omega), gd_pos (by simp; omega), gd_pos (by simp; try omega), gd_pos (by simp; try omega), gd_pos (by simp), hx]
    rw [W_id (x := (R : Int) * 10000) (by omega) (by omega), W_id (x := (R : Int) * 10000 + (x : Int)) (by omega) (by omega), show (R : Int) * 10000 + (x : Int) = ((x + 10000 * R : Nat) : Int) by omega]
    have e0 : ([(B : Int)]).getD 0 0 = (B : Int) := rfl
    rw [e0, tdivN, tmodN]
    have hq : (x + 10000 * R) / B < 10000 := by
      rw [Nat.div_lt_iff_lt_mul hB]; omega
    have hqr := Nat.div_add_mod (x + 10000 * R) B
    have hqm := Nat.mod_lt (x + 10000 * R) hB
    generalize (x + 10000 * R) / B = q at *
    generalize (x + 10000 * R) % B = r at *
    rw [W_id (x := (q : Int)) (by omega) (by omega)]
    refine one182 hB hB1 hlA k (10000 * Q + q) r _ (by omega) hqm (by simpa using h4) (h5.set _ (by omega)) (fun i hi => set_low h6 hi) ?_ ?_
    · rw [vl_set _ (by omega), h7, h6 k (by omega), pw_succ, nc10a]
      generalize (10000 : Int) ^ k = P
      grind
    · rw [hRx, ← h8]
      exact step_quo rfl hqr rfl

theorem many182 {α : Type} {n A B M : Nat} (hM : (dg B).length = M + 2) (hla : (dg B).length ≤ (dg A).length) (hlA : (dg A).length ≤ 1099511627000) (hn : (dg A).length + 10040 ≤ n) {k0 : List Int → List Int → Option α} :
    ∀ (k m Q R : Nat) (o u : List Int), k < m → k ≤ (dg A).length - (M + 1) → R < B → o.length = (dg A).length - (M + 1) → Lm o → (∀ i, i < k → o.getD i 0 = 0) → vl o = 10000 ^ k * (Q : Int) →
    Lm u → u.length + k = (dg A).length + 1 → vl u = (R : Int) → (Q : Int) * B + R = vl ((dg A).drop k) →
    ∃ o' u', Lm o' ∧ o'.length = (dg A).length - (M + 1) ∧ vl o' = ((A / B : Nat) : Int) ∧ Lm u' ∧ u'.length = (dg A).length + 1 ∧ vl u' = ((A % B : Nat) : Int) ∧
      f184_L14 n m ((dg B).length : Int) ((k : Int) - 1) (dg B) o ((dg A).take k ++ u) k0 = k0 o' u'
  | _, 0, _, _, _, _, h1, _, _, _, _, _, _, _, _, _, _ => by omega
  | 0, m + 1, Q, R, o, u, h1, h2, h3, h4, h5, h6, h7, u1, u2, u3, h8 => by
    rw [f184_L14_s]
    unfold f184_L14B
    dsimp only
    rw [Bool.cond_decide, if_neg (by omega)]
    rw [List.drop_zero, vl_dg] at h8
    have h8 : Q * B + R = A := by
      have : ((Q * B + R : Nat) : Int) = A := by rw [Int.natCast_add, Int.natCast_mul]; exact h8
      omega
    have hB : 0 < B := by omega
    have h9 : A / B = Q := by rw [← h8, Nat.add_comm, Nat.add_mul_div_right _ _ hB, Nat.div_eq_of_lt h3, Nat.zero_add]
    have h10 : A % B = R := by rw [← h8, Nat.mul_add_mod_self_right, Nat.mod_eq_of_lt h3]
    exact ⟨o, u, h5, h4, by rw [h7, h9]; simp, u1, by omega, by rw [u3, h10], by simp⟩
  | k + 1, m + 1, Q, R, o, u, h1, h2, h3, h4, h5, h6, h7, u1, u2, u3, h8 => by
    rw [f184_L14_s]
    unfold f184_L14B
    dsimp only
    have hB : 0 < B := by omega
    rw [Bool.cond_decide, if_pos (by omega)]
    rw [show (((k + 1 : Nat) : Int) - 1) = (k : Int) by omega]
    have hg := (Lm_dg A).get k
    obtain ⟨x, hx⟩ : ∃ x : Nat, (dg A).getD k 0 = (x : Int) := ⟨((dg A).getD k 0).toNat, by omega⟩
    have hRx : vl ((dg A).drop k) = (x : Int) + 10000 * vl ((dg A).drop (k + 1)) := by
      rw [vl_drop (by omega), hx]
    have htk : (dg A).take (k + 1) ++ u = (dg A).take k ++ ((x : Int) :: u) := by
      rw [List.take_succ_eq_append_getElem (by omega), List.append_assoc]
      congr 1
      rw [← hx, List.getD_eq_getElem?_getD, List.getElem?_eq_getElem (by omega)]
      rfl
    have hL : Lm ((x : Int) :: u) := Lm.cons (by omega) u1
    have hv : vl ((x : Int) :: u) = ((x + 10000 * R : Nat) : Int) := by rw [vl, u3, nc10b]
    have hlt : x + 10000 * R < 10000 * B := by omega
    obtain ⟨w, post, hwp, hw, hp, hwl⟩ : ∃ w post, (x : Int) :: u = w ++ post ∧ Lm w ∧ Lm post ∧ w.length = M + 3 :=
      ⟨((x : Int) :: u).take (M + 3), ((x : Int) :: u).drop (M + 3), (List.take_append_drop _ _).symm, hL.take _, hL.drop _, by rw [List.length_take, List.length_cons]; omega⟩
    have hlp : w.length + post.length = u.length + 1 := by
      have := congrArg List.length hwp
      simpa using this.symm
    have hvp : vl post = 0 := by
      have e := hv
      rw [hwp, vl_app, hwl] at e
      have h10 : B < 10000 ^ (M + 2) := lt_len' (by omega)
      have h11 : ((x + 10000 * R : Nat) : Int) < 10000 ^ (M + 3) := by
        rw [pw_succ, ← pwc]; omega
      have h12 := vl_nonneg hw
      have h13 := vl_nonneg hp
      rcases Int.lt_or_eq_of_le h13 with h | h
      · exfalso
        have h14 : (10000 : Int) ^ (M + 3) * 1 ≤ 10000 ^ (M + 3) * vl post := Int.mul_le_mul_of_nonneg_left (by omega) (by have := pw_pos (M + 3); omega)
        generalize (10000 : Int) ^ (M + 3) * vl post = z at *
        generalize (10000 : Int) ^ (M + 3) = P at *
        omega
      · exact h.symm
    have hvw : vl w = ((x + 10000 * R : Nat) : Int) := by
      rw [← hv, hwp, vl_app, hvp]; simp
    rw [htk, hwp, ← List.append_assoc]
    have hpl : ((dg A).take k).length = k := by rw [List.length_take]; omega
    obtain ⟨w', q1, q2, q3, q4⟩ := f204B_eq (n := n) (pre := (dg A).take k) (post := post) hM (by omega) (by omega) hw hwl hvw hlt
    rw [hpl] at q4
    rw [W_id (x := (k : Int) + ((dg B).length : Int)) (by omega) (by omega), W_id (x := (k : Int) + ((dg B).length : Int) + 1) (by omega) (by omega)]
    rw [gd_pos (by simp only [Bool.and_eq_true, decide_eq_true_eq, List.length_append, hpl]; omega)]
    rw [show ((k : Int) + ((dg B).length : Int) + 1).toNat - (k : Int).toNat = M + 3 by omega]
    simp only [Int.toNat_natCast]
    rw [q4, ob_some]
    dsimp only
    have hqm := Nat.mod_lt (x + 10000 * R) hB
    have hqr := Nat.div_add_mod (x + 10000 * R) B
    have hq : (x + 10000 * R) / B < 10000 := by
      rw [Nat.div_lt_iff_lt_mul hB]; omega
    generalize (x + 10000 * R) / B = q at *
    generalize (x + 10000 * R) % B = r at *
    rw [gd_pos (by simp [hwl, q2]), gd_pos (by simp; try omega), gd_pos (by simp; try omega), W_id (x := (k : Int) - 1) (by omega) (by omega), List.append_assoc]
    refine many182 hM hla hlA hn k m (10000 * Q + q) r _ _ (by omega) (by omega) hqm (by simpa using h4) (h5.set _ (by omega)) (fun i hi => set_low h6 hi) ?_ (q1.app hp) ?_ ?_ ?_
    · rw [vl_set _ (by omega), h7, h6 k (by omega), pw_succ, nc10a]
      generalize (10000 : Int) ^ k = P
      grind
    · rw [List.length_append]; omega
    · rw [vl_app, hvp, q3]; simp
    · rw [hRx, ← h8]
      exact step_quo rfl hqr rfl

theorem f145_eq (n : Nat) {l : List Int} (h : l.length ≤ 17592186044416) : f145 n l = some l := by
  unfold f145
  cases l with
  | nil => rfl
  | cons x r =>
    unfold f145G
    rw [Bool.cond_eq_ite, if_neg (by simp), gd_pos (by rfl), gd_pos (by simp only [decide_eq_true_eq]; simp only [List.length_cons] at *; omega)]

theorem f145B_eq (n : Nat) {l : List Int} (h : l.length ≤ 17592186044416) (h0 : l ≠ []) : f145B n l = some l := by
  unfold f145B
  cases l with
  | nil => exact absurd rfl h0
  | cons x r => rw [gd_pos (by rfl), gd_pos (by simp only [decide_eq_true_eq]; simp only [List.length_cons] at *; omega)]

theorem i_div {n L A B : Nat} (hB : 0 < B) (hA : (dg A).length ≤ L) (hBl : (dg B).length ≤ L) (hL : L ≤ 1099511627000) (hn : L + 10040 ≤ n) : f184 n (dg A) (dg B) = some (dg (A / B), dg (A % B)) := by
  unfold f184
  rw [i_cmp (by omega), ob_some, Bool.cond_decide]
  by_cases hlt : A < B
  · rw [if_pos (by rw [cm_lt (by omega)]; omega), f145_eq n (by omega), ob_some, Nat.div_eq_of_lt hlt, Nat.mod_eq_of_lt hlt, dg_zero]
  · rw [if_neg (by
      rcases Nat.lt_or_eq_of_le (Nat.le_of_not_lt hlt) with h | h
      · rw [cm_gt (by omega)]; omega
      · rw [cm_eq (by omega)]; omega)]
    have hmn : (dg B).length ≤ (dg A).length := len_mono (by omega)
    have hb0 : 0 < (dg B).length := by rw [dg_pos (by omega)]; simp
    rw [Bool.cond_eq_ite]
    by_cases h1 : (dg B).length = 1
    · rw [if_pos (by simp [h1])]
      have hB1 : B < 10000 := by have := lt_len' (n := B) (k := 1) (by omega); simpa using this
      have hBd : dg B = [(B : Int)] := by
        rw [dg_pos (by omega), Nat.mod_eq_of_lt hB1, Nat.div_eq_of_lt hB1, dg_zero]
      rw [gd_pos (by simp; try omega), show f201 n (dg A) = some (dg A) from rfl, ob_some, f184_L7_e, gd_pos (by simp; try omega), hBd]
      simp only [Int.toNat_natCast]
      obtain ⟨o, q1, q2, q3, q4⟩ := one182 (n := n) (A := A) hB hB1 (by omega) (k0 := fun z_4 z_5 => (
            ob (f185 n z_5) fun r_6 =>
            ob (f160 n z_4) fun r_7 =>
            some (r_6, r_7))) (dg A).length 0 0 (List.replicate (dg A).length 0) (Nat.le_refl _) hB (by simp) (Lm.rep _) (fun i hi => by simp [List.getD_eq_getElem?_getD, List.getElem?_replicate, hi]) (by rw [vl_rep]; simp) (by simp [vl])
      have q4 : f184_L7R n (dg A) (dg A).length (dg A) [(B : Int)] 0 _ _ = _ := q4
      have hm := Nat.mod_lt A hB
      rw [q4, f185_eq q1 (by omega) (by omega), ob_some, f160_eq (by omega) (by omega), ob_some, q3]
      rfl
    · rw [if_neg (by simp; omega)]
      obtain ⟨M, hM⟩ : ∃ M, (dg B).length = M + 2 := ⟨(dg B).length - 2, by omega⟩
      rw [f145B_eq n (by omega) (List.length_pos_iff.1 (by omega)), ob_some, gd_pos (by simp; try omega)]
      rw [W_id (x := ((dg A).length : Int) - ((dg B).length : Int)) (by omega) (by omega), W_id (x := ((dg A).length : Int) - ((dg B).length : Int) + 1) (by omega) (by omega), gd_pos (by simp; try omega)]
      rw [show (((dg A).length : Int) - ((dg B).length : Int) + 1).toNat = (dg A).length - (M + 1) by omega]
      have hR0 := vl_nonneg ((Lm_dg A).drop ((dg A).length - (M + 1)))
      obtain ⟨R, hR⟩ : ∃ R : Nat, vl ((dg A).drop ((dg A).length - (M + 1))) = (R : Int) := ⟨_, (Int.toNat_of_nonneg hR0).symm⟩
      have hRB : R < B := by
        have := vl_lt ((Lm_dg A).drop ((dg A).length - (M + 1)))
        rw [List.length_drop, show (dg A).length - ((dg A).length - (M + 1)) = M + 1 by omega, hR] at this
        have h2 := (Cn_dg B).ge (List.length_pos_iff.1 (by omega))
        rw [hM, vl_dg] at h2
        have h2 : (10000 : Int) ^ (M + 1) ≤ B := h2
        generalize (10000 : Int) ^ (M + 1) = P at *
        omega
      obtain ⟨o, u, q1, q2, q3, q4, q5, q6, q7⟩ := many182 (n := n) (A := A) (B := B) hM hmn (by omega) (by omega) (k0 := fun z_10 z_11 => (
              ob (f185 n z_10) fun r_12 =>
              ob (f185 n z_11) fun r_13 =>
              some (r_12, r_13))) ((dg A).length - (M + 1)) n 0 R (List.replicate ((dg A).length - (M + 1)) 0) ((dg A).drop ((dg A).length - (M + 1)) ++ [0]) (by omega) (Nat.le_refl _) hRB (by simp) (Lm.rep _) (fun i hi => by simp [List.getD_eq_getElem?_getD, List.getElem?_replicate, hi]) (by rw [vl_rep]; simp) (((Lm_dg A).drop _).app (Lm.cons (by omega) Lm.nil)) (by simp; omega) (by rw [vl_snoc, hR]; simp) (by rw [hR]; simp)
      rw [← List.append_assoc, List.take_append_drop] at q7
      rw [show ((dg A).length : Int) - ((dg B).length : Int) = (((dg A).length - (M + 1) : Nat) : Int) - 1 by omega, q7, f185_eq q1 (by omega) (by omega), ob_some, f185_eq q4 (by omega) (by omega), ob_some, q3, q6]
      rfl

theorem gcd137 {α : Type} {n L : Nat} (hL : L ≤ 1099511627000) (hn : L + 10040 ≤ n) {k0 : List Int → Option α} :
    ∀ (j m a b : Nat), b < 2 ^ j → 2 * j + 1 ≤ m → (dg a).length ≤ L → (dg b).length ≤ L → f183_L1 n m (dg a) (dg b) k0 = k0 (dg (Nat.gcd b a)) := by
  have stop : ∀ (m a : Nat), 0 < m → f183_L1 n m (dg a) (dg 0) k0 = k0 (dg (Nat.gcd 0 a)) := fun m a hm => by
    obtain ⟨m, rfl⟩ : ∃ m', m = m' + 1 := ⟨m - 1, by omega⟩
    rw [f183_L1_s, Nat.gcd_zero_left, dg_zero]; rfl
  have step : ∀ (m a b : Nat), 0 < b → (dg a).length ≤ L → (dg b).length ≤ L → f183_L1 n (m + 1) (dg a) (dg b) k0 = f183_L1 n m (dg b) (dg (a % b)) k0 := fun m a b hb ha hbl => by
    rw [f183_L1_s]
    unfold f183_L1B
    have : 0 < (dg b).length := by rw [dg_pos (by omega)]; simp
    rw [Bool.cond_decide, if_pos (by omega), i_div hb ha hbl hL hn, ob_some]
  intro j
  induction j with
  | zero =>
    intro m a b h1 h2 h3 h4
    obtain rfl : b = 0 := by simpa using h1
    exact stop m a (by omega)
  | succ j ih =>
    intro m a b h1 h2 h3 h4
    rcases Nat.eq_zero_or_pos b with rfl | hb
    · exact stop m a (by omega)
    obtain ⟨m, rfl⟩ : ∃ m', m = m' + 2 := ⟨m - 2, by omega⟩
    have h5 : (dg (a % b)).length ≤ L := Nat.le_trans (len_mono (Nat.le_of_lt (Nat.mod_lt a hb))) h4
    rw [step _ _ _ hb h3 h4, Nat.gcd_rec b a]
    rcases Nat.eq_zero_or_pos (a % b) with hr | hr
    · rw [hr]; exact stop _ _ (by omega)
    have h6 : (dg (b % (a % b))).length ≤ L := Nat.le_trans (len_mono (Nat.le_of_lt (Nat.mod_lt b hr))) h5
    rw [step _ _ _ hr h4 h5, Nat.gcd_rec (a % b) b]
    exact ih m _ _ (gcd_half hb hr h1) (by omega) h5 h6

theorem i_gcd {n L a b : Nat} (hL : L ≤ 1099511627000) (hn : 28 * L + 10040 ≤ n) (ha : (dg a).length ≤ L) (hb : (dg b).length ≤ L) : f183 n (dg a) (dg b) = some (dg (Nat.gcd a b)) := by
  unfold f183
  rw [gcd137 hL (by omega) (14 * L) n a b (pow_two (lt_len' hb)) (by omega) ha hb, Nat.gcd_comm]

abbrev Rt := Bool × List Int × List Int

abbrev rt0 : Rt := (false, [], [])

def Sm (x : Rt) : Prop := x.2.1.length ≤ 1048576 ∧ x.2.2.length ≤ 1048576

/-- lists are no longer than a machine allows -/
def Bd (x : Rt) : Prop := x.2.1.length ≤ 9223372036854775807 ∧ x.2.2.length ≤ 9223372036854775807

theorem f131_eq {n : Nat} {l : List Int} {B : Int} (hB : 0 ≤ B ∧ B ≤ 1048576) (hl : l.length ≤ 9223372036854775807) : f131 n l B = some (if (l.length : Int) ≤ B then B - l.length else -1) := by
  unfold f131
  rw [W_id (x := B - (l.length : Int)) (by omega) (by omega), Bool.cond_decide]
  by_cases h : (l.length : Int) ≤ B
  · rw [if_neg (by omega), if_pos h]
  · rw [if_pos (by omega), if_neg h]

theorem f60_eq {n : Nat} {x : Rt} {B : Int} (hB : 0 ≤ B ∧ B ≤ 1048576) (hx : Bd x) : ∃ r, f60 n x B = some r ∧ (r = -1 ∨ (0 ≤ r ∧ r ≤ B ∧ Sm x)) := by
  unfold f60
  rw [f131_eq hB hx.1, ob_some]
  by_cases h : (x.2.1.length : Int) ≤ B
  · rw [if_pos h, Bool.cond_decide, if_neg (by omega), f131_eq (by omega) hx.2, ob_some]
    by_cases h' : (x.2.2.length : Int) ≤ B - x.2.1.length
    · rw [if_pos h', Bool.cond_decide, if_neg (by omega)]
      exact ⟨_, rfl, .inr ⟨by omega, by omega, by unfold Sm; omega⟩⟩
    · rw [if_neg h', Bool.cond_decide, if_pos (by omega)]
      exact ⟨_, rfl, .inl rfl⟩
  · rw [if_neg h, Bool.cond_decide, if_pos (by omega)]
    exact ⟨_, rfl, .inl rfl⟩

theorem f18_loop {n : Nat} {l : List Rt} (hl : l.length ≤ 1048576) (hb : ∀ x ∈ l, Bd x) : ∀ (m i : Nat) (B : Int), 0 ≤ B ∧ B ≤ 1048576 → i ≤ l.length → l.length < i + m →
    ∃ r, f18_L5 n m l B (i : Int) (fun z => some z) (fun z => some z) = some r ∧ (r = -1 ∨ (0 ≤ r ∧ r ≤ B ∧ ∀ x ∈ l.drop i, Sm x))
  | 0, i, B, hB, hi, hm => by omega
  | m + 1, i, B, hB, hi, hm => by
    rw [f18_L5_s]
    unfold f18_L5B
    dsimp only
    rw [Bool.cond_decide]
    by_cases h : i < l.length
    · rw [if_pos (by omega), gd_pos (by simp; try omega)]
      simp only [Int.toNat_natCast]
      have hd : l.drop i = l.getD i rt0 :: l.drop (i + 1) := by
        rw [List.drop_eq_getElem_cons h, List.getD_eq_getElem?_getD, List.getElem?_eq_getElem h]; rfl
      have hmem : l.getD i rt0 ∈ l := List.mem_of_mem_drop (i := i) (by rw [hd]; simp)
      obtain ⟨r, h1, h2⟩ := f60_eq (n := n) hB (hb _ hmem)
      rw [h1, ob_some]
      rcases h2 with rfl | ⟨h2, h3, h4⟩
      · exact ⟨-1, rfl, .inl rfl⟩
      · rw [Bool.cond_decide, if_neg (by omega), W_id (x := (i : Int) + 1) (by omega) (by omega)]
        obtain ⟨r', q1, q2⟩ := f18_loop hl hb m (i + 1) r (by omega) (by omega) (by omega)
        refine ⟨r', q1, q2.imp id fun ⟨q3, q4, q5⟩ => ⟨q3, by omega, fun x hx => ?_⟩⟩
        rw [hd] at hx
        rcases List.mem_cons.1 hx with rfl | hx
        · exact h4
        · exact q5 x hx
    · rw [if_neg (by omega)]
      refine ⟨_, rfl, .inr ⟨hB.1, Int.le_refl _, fun x hx => ?_⟩⟩
      rw [List.drop_of_length_le (by omega)] at hx
      cases hx

theorem f18_eq {n : Nat} {l : List Rt} {B : Int} (hB : 0 ≤ B ∧ B ≤ 1048576) (hl : l.length ≤ 9223372036854775807) (hb : ∀ x ∈ l, Bd x) (hn : 1048577 ≤ n) : ∃ r, f18 n l B = some r ∧ (r = -1 ∨ (0 ≤ r ∧ r ≤ B ∧ l.length ≤ 1048576 ∧ ∀ x ∈ l, Sm x)) := by
  unfold f18
  rw [W_id (x := B - (l.length : Int)) (by omega) (by omega), Bool.cond_decide]
  by_cases h : (l.length : Int) ≤ B
  · rw [if_neg (by omega)]
    obtain ⟨r, h1, h2⟩ := f18_loop (n := n) (l := l) (by omega) hb n 0 (B - l.length) (by omega) (by omega) (by omega)
    exact ⟨r, h1, h2.imp id fun ⟨q1, q2, q3⟩ => ⟨q1, by omega, by omega, by simpa using q3⟩⟩
  · rw [if_pos (by omega)]
    exact ⟨_, rfl, .inl rfl⟩

theorem copy_set {α : Type} {l z : List α} {i : Nat} {d : α} (hi : i < l.length) (hz : z.length = l.length - i) : (l.take i ++ z).set i (l.getD i d) = l.take (i + 1) ++ z.drop 1 := by
  rw [List.set_append_right _ _ (by rw [List.length_take]; omega), List.length_take, Nat.min_eq_left (by omega), Nat.sub_self]
  cases z with
  | nil => simp at hz; omega
  | cons y z => rw [List.set_cons_zero, List.take_succ_eq_append_getElem hi, List.getD_eq_getElem?_getD, List.getElem?_eq_getElem hi, List.append_assoc]; rfl

theorem f132_loop {α : Type} {n : Nat} {l : List Int} (hl : l.length ≤ 1048576) {k0 : List Int → Option α} : ∀ (m i : Nat) (z : List Int), z.length = l.length - i → i ≤ l.length → l.length < i + m → f132_L3 n m l (i : Int) (l.take i ++ z) k0 = k0 l
  | 0, i, z, hz, hi, hm => by omega
  | m + 1, i, z, hz, hi, hm => by
    rw [f132_L3_s]
    unfold f132_L3B
    dsimp only
    rw [Bool.cond_decide]
    by_cases h : i < l.length
    · rw [if_pos (by omega)]
      simp only [Int.toNat_natCast]
      rw [gd_pos (by simp; try omega), gd_pos (by simp [hz]; omega), gd_pos (by simp [hz]; omega), copy_set h hz, W_id (x := (i : Int) + 1) (by omega) (by omega)]
      exact f132_loop hl m (i + 1) _ (by simp [hz]; omega) (by omega) (by omega)
    · rw [if_neg (by omega)]
      obtain rfl : z = [] := List.eq_nil_of_length_eq_zero (by omega)
      rw [List.take_of_length_le (by omega), List.append_nil]

theorem f132_eq {n : Nat} {l : List Int} (hl : l.length ≤ 1048576) (hn : 1048577 ≤ n) : f132 n l = some l := by
  unfold f132
  rw [gd_pos (by simp; try omega)]
  have := f132_loop (n := n) hl (k0 := fun z_1 => some z_1) n 0 (List.replicate l.length 0) (by simp) (by omega) (by omega)
  simpa using this

theorem f61_eq {n : Nat} {x : Rt} (h : Sm x) (hn : 1048577 ≤ n) : f61 n x = some x := by
  unfold f61
  rw [f132_eq h.1 hn, ob_some, f132_eq h.2 hn, ob_some]

theorem Sm.get {l : List Rt} (h : ∀ x ∈ l, Sm x) (i : Nat) : Sm (l.getD i rt0) := by
  rw [List.getD_eq_getElem?_getD]
  cases e : l[i]? with
  | none => exact ⟨by simp, by simp⟩
  | some x => exact h x (List.mem_of_getElem? e)

theorem f19_loop {α : Type} {n : Nat} {l : List Rt} (hl : l.length ≤ 1048576) (hs : ∀ x ∈ l, Sm x) (hn : 1048577 ≤ n) {k0 : List Rt → Option α} : ∀ (m i : Nat) (z : List Rt), z.length = l.length - i → i ≤ l.length → l.length < i + m → f19_L3 n m l (i : Int) (l.take i ++ z) k0 = k0 l
  | 0, i, z, hz, hi, hm => by omega
  | m + 1, i, z, hz, hi, hm => by
    rw [f19_L3_s]
    unfold f19_L3B
    dsimp only
    rw [Bool.cond_decide]
    by_cases h : i < l.length
    · rw [if_pos (by omega)]
      simp only [Int.toNat_natCast]
      rw [gd_pos (by simp; try omega), f61_eq (Sm.get hs i) hn, ob_some, gd_pos (by simp [hz]; omega), gd_pos (by simp [hz]; omega), copy_set h hz, W_id (x := (i : Int) + 1) (by omega) (by omega)]
      exact f19_loop hl hs hn m (i + 1) _ (by simp [hz]; omega) (by omega) (by omega)
    · rw [if_neg (by omega)]
      obtain rfl : z = [] := List.eq_nil_of_length_eq_zero (by omega)
      rw [List.take_of_length_le (by omega), List.append_nil]

theorem f19_eq {n : Nat} {l : List Rt} (hl : l.length ≤ 1048576) (hs : ∀ x ∈ l, Sm x) (hn : 1048577 ≤ n) : f19 n l = some l := by
  unfold f19
  rw [gd_pos (by simp; try omega)]
  have := f19_loop (n := n) hl hs hn (k0 := fun z_1 => some z_1) n 0 (List.replicate l.length rt0) (by simp) (by omega) (by omega)
  simpa using this

theorem f133_loop {α : Type} {n : Nat} {l : List Int} (hl : l.length ≤ 1048576) {k0 : Bool → Option α} {k1 : Unit → Option α} : ∀ (m i : Nat), i ≤ l.length → l.length < i + m → f133_L4 n m l l (i : Int) k0 k1 = k1 ()
  | 0, i, hi, hm => by omega
  | m + 1, i, hi, hm => by
    rw [f133_L4_s]
    unfold f133_L4B
    dsimp only
    rw [Bool.cond_decide]
    by_cases h : i < l.length
    · rw [if_pos (by omega), gd_pos (by simp; try omega), gd_pos (by simp; try omega), bne_self_eq_false, cond_false, W_id (x := (i : Int) + 1) (by omega) (by omega)]
      exact f133_loop hl m (i + 1) (by omega) (by omega)
    · rw [if_neg (by omega)]

theorem f133_eq {n : Nat} {l : List Int} (hl : l.length ≤ 1048576) (hn : 1048577 ≤ n) : f133 n l l = some true := by
  unfold f133
  rw [bne_self_eq_false, cond_false]
  exact f133_loop hl n 0 (by omega) (by omega)

theorem f62_eq {n : Nat} {x : Rt} (h : Sm x) (hn : 1048577 ≤ n) : f62 n x x = some true := by
  unfold f62
  rw [f133_eq h.1 hn, f133_eq h.2 hn]
  simp

theorem f20_loop {α : Type} {n : Nat} {l : List Rt} (hl : l.length ≤ 1048576) (hs : ∀ x ∈ l, Sm x) (hn : 1048577 ≤ n) {k0 : Bool → Option α} {k1 : Unit → Option α} : ∀ (m i : Nat), i ≤ l.length → l.length < i + m → f20_L4 n m l l (i : Int) k0 k1 = k1 ()
  | 0, i, hi, hm => by omega
  | m + 1, i, hi, hm => by
    rw [f20_L4_s]
    unfold f20_L4B
    dsimp only
    rw [Bool.cond_decide]
    by_cases h : i < l.length
    · rw [if_pos (by omega), gd_pos (by simp; try omega), gd_pos (by simp; try omega)]
      simp only [Int.toNat_natCast]
      rw [f62_eq (Sm.get hs i) hn, ob_some, W_id (x := (i : Int) + 1) (by omega) (by omega)]
      exact f20_loop hl hs hn m (i + 1) (by omega) (by omega)
    · rw [if_neg (by omega)]

theorem f20_eq {n : Nat} {l : List Rt} (hl : l.length ≤ 1048576) (hs : ∀ x ∈ l, Sm x) (hn : 1048577 ≤ n) : f20 n l l = some true := by
  unfold f20
  rw [bne_self_eq_false, cond_false]
  exact f20_loop hl hs hn n 0 (by omega) (by omega)

def limb (x : Int) : Bool := decide (0 ≤ x ∧ x ≤ 9999)

def nok (l : List Int) : Bool := decide (l.length ≤ 40) && l.all limb && (l.isEmpty || decide (0 < l.getD (l.length - 1) 0))

theorem nok_Cn {l : List Int} (h : nok l = true) : Cn l ∧ l.length ≤ 40 := by
  unfold nok at h
  simp only [Bool.and_eq_true, decide_eq_true_eq, Bool.or_eq_true, List.all_eq_true, List.isEmpty_iff] at h
  obtain ⟨⟨h1, h2⟩, h3⟩ := h
  refine ⟨⟨fun x hx => ?_, fun hn => ?_⟩, h1⟩
  · have := h2 x hx
    unfold limb at this
    rw [decide_eq_true_eq] at this
    omega
  · rcases h3 with h3 | h3
    · exact absurd h3 hn
    · omega

theorem alldrop {α : Type} {l : List α} {p : α → Bool} {i : Nat} (h : i < l.length) (d : α) : (l.drop i).all p = (p (l.getD i d) && (l.drop (i + 1)).all p) := by
  rw [List.drop_eq_getElem_cons h, List.all_cons, List.getD_eq_getElem?_getD, List.getElem?_eq_getElem h]; rfl

theorem f65_eq {n : Nat} {a lo hi : Int} : f65 n a lo hi = some (decide (lo ≤ a ∧ a ≤ hi)) := by
  unfold f65; by_cases h : lo ≤ a <;> simp [h]

theorem f70_eq {n : Nat} {a lo hi : Int} : f70 n a lo hi = some (decide (lo ≤ a ∧ a ≤ hi)) := by
  unfold f70; by_cases h : lo ≤ a <;> simp [h]

theorem f189_loop {α : Type} {n : Nat} {l : List Int} (hl : l.length ≤ 1048576) {k0 : Bool → Option α} {k1 : List Int → Option α} : ∀ (m i : Nat), i ≤ l.length → l.length < i + m → f189_L4 n m l (i : Int) k0 k1 = if (l.drop i).all limb = true then k1 l else k0 false
  | 0, i, hi, hm => by omega
  | m + 1, i, hi, hm => by
    rw [f189_L4_s]
    unfold f189_L4B
    dsimp only
    rw [Bool.cond_decide]
    by_cases h : i < l.length
    · rw [if_pos (by omega), gd_pos (by simp; try omega)]
      simp only [Int.toNat_natCast]
      rw [f65_eq, ob_some, alldrop h 0]
      cases hp : limb (l.getD i 0) with
      | true =>
        unfold limb at hp
        rw [hp, W_id (x := (i : Int) + 1) (by omega) (by omega)]
        simp only [Bool.not_true, cond_false, Bool.true_and]
        exact f189_loop hl m (i + 1) (by omega) (by omega)
      | false =>
        unfold limb at hp
        rw [hp]
        simp
    · rw [if_neg (by omega), List.drop_of_length_le (by omega)]
      rfl

theorem f189_eq {n : Nat} {l : List Int} (hn : 1048577 ≤ n) : f189 n l = some (nok l) := by
  unfold f189 nok
  rw [Bool.cond_decide]
  by_cases h : l.length ≤ 4096
  · rw [if_neg (by omega)]
    have := f189_loop (n := n) (l := l) (by omega) (k0 := fun z_2 => some z_2) (k1 := fun z_3 => (
        bif (decide ((z_3.length : Int) ≤ 40)) then
          bif ((z_3.length : Int) == 0) then
            some true
          else
            gd (decide (0 ≤ (W ((z_3.length : Int) - 1))) && decide ((W ((z_3.length : Int) - 1)) < (z_3.length : Int))) (
              some (decide ((z_3.getD ((W ((z_3.length : Int) - 1)).toNat) 0) > 0)))
        else
          some false)) n 0 (by omega) (by omega)
    have this : f189_L4 n n l 0 _ _ = _ := this
    rw [this, List.drop_zero]
    cases l.all limb with
    | false => simp
    | true =>
      rw [if_pos rfl, Bool.cond_decide]
      by_cases h40 : l.length ≤ 40
      · rw [if_pos (by omega)]
        cases l with
        | nil => rfl
        | cons x r =>
          rw [Bool.cond_eq_ite, if_neg (by simp; omega), W_id (x := ((x :: r).length : Int) - 1) (by omega) (by omega), gd_pos (by simp; omega), show (((x :: r).length : Int) - 1).toNat = (x :: r).length - 1 by omega]
          have h41 : r.length ≤ 39 := by simpa using h40
          simp [h41]
      · rw [if_neg (by omega)]
        simp [h40]
  · rw [if_pos (by omega), decide_eq_false (by omega)]
    rfl

theorem f224_loop {n : Nat} {l : List Int} (hl : l.length ≤ 1048576) : ∀ (m i : Nat), i ≤ l.length → l.length < i + m → ∃ r, f224_L2 n m l (l.length : Int) (i : Int) (fun z => some z) (fun (_ : Unit) => some (-1)) = some r ∧ decide (r ≥ 0) = !(l.drop i).all limb
  | 0, i, hi, hm => by omega
  | m + 1, i, hi, hm => by
    rw [f224_L2_s]
    unfold f224_L2B
    dsimp only
    rw [Bool.cond_decide]
    by_cases h : i < l.length
    · rw [if_pos (by omega), gd_pos (by simp; try omega)]
      simp only [Int.toNat_natCast]
      have e : f211 n (l.getD i 0) = some (!limb (l.getD i 0)) := by
        unfold f211 limb
        rw [Bool.cond_decide]
        generalize l.getD i 0 = x
        by_cases h1 : x < 0
        · rw [if_pos h1, decide_eq_false (by omega)]; rfl
        · rw [if_neg h1]
          by_cases h2 : x ≤ 9999
          · rw [decide_eq_false (by omega), decide_eq_true (by omega)]; rfl
          · rw [decide_eq_true (by omega), decide_eq_false (by omega)]; rfl
      rw [e, ob_some, alldrop h 0]
      cases hp : limb (l.getD i 0) with
      | true =>
        rw [W_id (x := (i : Int) + 1) (by omega) (by omega)]
        simp only [Bool.not_true, cond_false, Bool.true_and]
        exact f224_loop hl m (i + 1) (by omega) (by omega)
      | false =>
        exact ⟨i, rfl, by simp⟩
    · rw [if_neg (by omega), List.drop_of_length_le (by omega)]
      exact ⟨-1, rfl, rfl⟩

theorem f210_eq {n : Nat} {l : List Int} (hl : l.length ≤ 1048576) (hn : 1048577 ≤ n) : f210 n l () = some (!l.all limb) := by
  unfold f210 f224
  obtain ⟨r, h1, h2⟩ := f224_loop (n := n) hl n 0 (by omega) (by omega)
  have h1 : f224_L2 n n l (l.length : Int) 0 _ _ = _ := h1
  rw [h1, ob_some, h2, List.drop_zero]

theorem f197_eq {n : Nat} {l : List Int} (hn : 1048577 ≤ n) : f197 n l = some (nok l) := by
  unfold f197 nok
  rw [Bool.cond_decide]
  by_cases h : l.length ≤ 40
  · rw [if_neg (by omega), decide_eq_true h, Bool.true_and, Bool.cond_decide]
    cases l with
    | nil => rw [if_neg (by simp), f210_eq (by omega) hn]; rfl
    | cons x r =>
      rw [if_pos (by simp), W_id (x := ((x :: r).length : Int) - 1) (by omega) (by omega), gd_pos (by simp; omega), show (((x :: r).length : Int) - 1).toNat = (x :: r).length - 1 by omega]
      rw [f210_eq (by omega) hn, ob_some, Bool.not_not, Bool.cond_eq_ite]
      by_cases hz : (x :: r).getD ((x :: r).length - 1) 0 = 0
      · rw [if_pos (by rw [hz]; rfl), hz]; simp
      · rw [if_neg (by rw [beq_iff_eq]; exact hz)]
        cases ha : (x :: r).all limb with
        | false => rfl
        | true =>
          have : limb ((x :: r).getD ((x :: r).length - 1) 0) = true := by
            rw [List.all_eq_true] at ha
            apply ha
            rw [List.getD_eq_getElem?_getD, List.getElem?_eq_getElem (by simp)]
            simp only [Option.getD_some]
            exact List.getElem_mem _
          unfold limb at this
          rw [decide_eq_true_eq] at this
          rw [decide_eq_true (by omega)]
          simp
  · rw [if_pos (by omega), decide_eq_false h]; rfl

theorem len0 {α : Type} (l : List α) : ((l.length : Int) == 0) = l.isEmpty := by
  cases l with
  | nil => rfl
  | cons x r => rw [beq_eq_false_iff_ne.2 (by simp; omega)]; rfl

/-- a rational that is well formed -/
def rok (x : Rt) : Bool := nok x.2.1 && nok x.2.2 && !x.2.2.isEmpty && !(x.2.1.isEmpty && x.1) && decide (Nat.gcd (vl x.2.1).toNat (vl x.2.2).toNat = 1)

theorem dg_one : dg 1 = [1] := by rw [dg_pos (by omega), show 1 / 10000 = 0 from rfl, dg_zero]; rfl

theorem cm_one {g : Nat} : (cm (g : Int) ((1 : Nat) : Int) == 0) = decide (g = 1) := by
  unfold cm
  by_cases h : g = 1
  · subst h; rfl
  · rw [decide_eq_false h]
    by_cases h2 : (g : Int) < (1 : Nat)
    · rw [if_pos h2]; rfl
    · rw [if_neg h2, if_neg (by omega)]; rfl

theorem gcd_len {a b : Nat} (ha : (dg a).length ≤ 40) (hb : (dg b).length ≤ 40) : (dg (Nat.gcd a b)).length ≤ 40 := by
  rcases Nat.eq_zero_or_pos a with rfl | h
  · rw [Nat.gcd_zero_left]; exact hb
  · exact Nat.le_trans (len_mono (Nat.gcd_le_left b h)) ha

theorem f148_eq {n : Nat} {x : Rt} (hn : 1048577 ≤ n) : f148 n x = some (rok x) := by
  obtain ⟨s, a, b⟩ := x
  unfold f148 rok
  dsimp only
  simp only [len0]
  rw [f189_eq hn, ob_some, f189_eq hn, ob_some]
  cases ha : nok a with
  | false => rfl
  | true =>
    cases hb : nok b with
    | false => rfl
    | true =>
      obtain ⟨ca, la⟩ := nok_Cn ha
      obtain ⟨cb, lb⟩ := nok_Cn hb
      have ea := dg_vl ca
      have eb := dg_vl cb
      have hg : f190 n a b = some (dg (Nat.gcd (vl a).toNat (vl b).toNat)) := by
        conv => lhs; rw [← ea, ← eb]
        exact s_gcd (L := 40) (by omega) (by omega) (by rw [ea]; exact la) (by rw [eb]; exact lb)
      have hgl := gcd_len (a := (vl a).toNat) (b := (vl b).toNat) (by rw [ea]; exact la) (by rw [eb]; exact lb)
      rw [hg, ob_some, ← dg_one, s_cmp (by omega) (by omega), ob_some, cm_one]
      cases b <;> cases a <;> cases s <;> simp

theorem f163_eq {n : Nat} {x : Rt} (hn : 1048577 ≤ n) : f163 n x = some (rok x) := by
  obtain ⟨s, a, b⟩ := x
  unfold f163 rok
  dsimp only
  rw [f197_eq hn, ob_some, f197_eq hn, ob_some]
  cases ha : nok a with
  | false => rfl
  | true =>
    cases hb : nok b with
    | false => rfl
    | true =>
      obtain ⟨ca, la⟩ := nok_Cn ha
      obtain ⟨cb, lb⟩ := nok_Cn hb
      have ea := dg_vl ca
      have eb := dg_vl cb
      have hg : f183 n a b = some (dg (Nat.gcd (vl a).toNat (vl b).toNat)) := by
        conv => lhs; rw [← ea, ← eb]
        exact i_gcd (L := 40) (by omega) (by omega) (by rw [ea]; exact la) (by rw [eb]; exact lb)
      have hgl := gcd_len (a := (vl a).toNat) (b := (vl b).toNat) (by rw [ea]; exact la) (by rw [eb]; exact lb)
      rw [hg, ob_some, show f161 n = some [1] from rfl, ob_some, ← dg_one, i_cmp (by omega), ob_some, cm_one, show f74 n (s, a, b) = some ((a.length : Int) == 0) from rfl, ob_some, len0, len0]
      cases b <;> cases a <;> cases s <;> simp

theorem f175_loop {n : Nat} {l : List Rt} (hl : l.length ≤ 1048576) (hn : 1048577 ≤ n) : ∀ (m i : Nat), i ≤ l.length → l.length < i + m → ∃ r, f175_L2 n m l (l.length : Int) (i : Int) (fun z => some z) (fun (_ : Unit) => some (-1)) = some r ∧ decide (r ≥ 0) = !(l.drop i).all rok
  | 0, i, hi, hm => by omega
  | m + 1, i, hi, hm => by
    rw [f175_L2_s]
    unfold f175_L2B
    dsimp only
    rw [Bool.cond_decide]
    by_cases h : i < l.length
    · rw [if_pos (by omega), gd_pos (by simp; try omega)]
      simp only [Int.toNat_natCast]
      have e : f162 n (l.getD i rt0) = some (!rok (l.getD i rt0)) := by
        unfold f162
        rw [f163_eq hn, ob_some]
      rw [e, ob_some, alldrop h rt0]
      cases hp : rok (l.getD i rt0) with
      | true =>
        rw [W_id (x := (i : Int) + 1) (by omega) (by omega)]
        simp only [Bool.not_true, cond_false, Bool.true_and]
        exact f175_loop hl hn m (i + 1) (by omega) (by omega)
      | false => exact ⟨i, rfl, by simp⟩
    · rw [if_neg (by omega), List.drop_of_length_le (by omega)]
      exact ⟨-1, rfl, rfl⟩

theorem f111_eq {n : Nat} {l : List Rt} (hl : l.length ≤ 1048576) (hn : 1048577 ≤ n) : f111 n l () = some (!l.all rok) := by
  unfold f111 f175
  obtain ⟨r, h1, h2⟩ := f175_loop (n := n) hl hn n 0 (by omega) (by omega)
  have h1 : f175_L2 n n l (l.length : Int) 0 _ _ = _ := h1
  rw [h1, ob_some, h2, List.drop_zero]

theorem f94_eq {n : Nat} {l : List Rt} (hl : l.length ≤ 1048576) (hn : 1048577 ≤ n) : f94 n l = some (if l.all rok = true then 0 else 1) := by
  unfold f94
  rw [f111_eq hl hn, ob_some]
  cases l.all rok <;> rfl

def vok (l : List Rt) : Bool := decide (1 ≤ l.length ∧ l.length ≤ 4) && l.all rok

theorem f114_loop {α : Type} {n : Nat} {l : List Rt} (hl : l.length ≤ 1048576) (hn : 1048577 ≤ n) {k0 : Bool → Option α} {k1 : List Rt → Option α} : ∀ (m i : Nat), i ≤ l.length → l.length < i + m → f114_L4 n m l (i : Int) k0 k1 = if (l.drop i).all rok = true then k1 l else k0 false
  | 0, i, hi, hm => by omega
  | m + 1, i, hi, hm => by
    rw [f114_L4_s]
    unfold f114_L4B
    dsimp only
    rw [Bool.cond_decide]
    by_cases h : i < l.length
    · rw [if_pos (by omega), gd_pos (by simp; try omega)]
      simp only [Int.toNat_natCast]
      rw [f148_eq hn, ob_some, alldrop h rt0]
      cases hp : rok (l.getD i rt0) with
      | true =>
        rw [W_id (x := (i : Int) + 1) (by omega) (by omega)]
        simp only [Bool.not_true, cond_false, Bool.true_and]
        exact f114_loop hl hn m (i + 1) (by omega) (by omega)
      | false => simp
    · rw [if_neg (by omega), List.drop_of_length_le (by omega)]
      rfl

theorem f114_eq {n : Nat} {l : List Rt} (hn : 1048577 ≤ n) : f114 n l = some (vok l) := by
  unfold f114 vok
  rw [Bool.cond_decide]
  by_cases h : l.length ≤ 4096
  · rw [if_neg (by omega)]
    have h1 := f114_loop (n := n) (l := l) (by omega) hn (k0 := fun z_3 => some z_3) (k1 := fun z_4 => (
        ob (f65 n (z_4.length : Int) 1 4) fun r_5 =>
        some r_5)) n 0 (by omega) (by omega)
    have h1 : f114_L4 n n l 0 _ _ = _ := h1
    rw [h1, List.drop_zero, f65_eq, ob_some]
    have e : decide ((1 : Int) ≤ (l.length : Int) ∧ (l.length : Int) ≤ 4) = decide (1 ≤ l.length ∧ l.length ≤ 4) := by
      apply decide_eq_decide.2; omega
    rw [e]
    cases l.all rok <;> simp
  · rw [if_pos (by omega), decide_eq_false (by omega)]; rfl

theorem f109_eq {n : Nat} {l : List Rt} (hn : 1048577 ≤ n) : f109 n l = some (vok l) := by
  unfold f109 vok
  rw [Bool.cond_decide, Bool.cond_decide]
  by_cases h : 1 ≤ l.length ∧ l.length ≤ 4
  · rw [if_pos (by omega), if_pos (by omega), f94_eq (by omega) hn, decide_eq_true h, ob_some]
    cases l.all rok <;> rfl
  · rw [decide_eq_false h]
    split
    · rw [if_neg (by omega)]; rfl
    · rfl

theorem f167_loop {n : Nat} {l : List Int} (hl : l.length ≤ 1048576) : ∀ (m i : Nat), i ≤ l.length → l.length < i + m → ∃ c, f167_L2 n m 4096 l (l.length : Int) (i : Int) (fun z => some z) (fun (_ : Unit) => some 0) = some c ∧ ((c = 0 ∧ ∀ x ∈ l.drop i, x ≤ 4096) ∨ (c = 2 ∧ ∃ x ∈ l, 4096 < x))
  | 0, i, hi, hm => by omega
  | m + 1, i, hi, hm => by
    rw [f167_L2_s]
    unfold f167_L2B
    dsimp only
    rw [Bool.cond_decide]
    by_cases h : i < l.length
    · rw [if_pos (by omega), gd_pos (by simp; try omega)]
      simp only [Int.toNat_natCast]
      rw [Bool.cond_decide]
      by_cases hx : 4096 < l.getD i 0
      · rw [if_pos hx]
        refine ⟨2, rfl, .inr ⟨rfl, l.getD i 0, ?_, hx⟩⟩
        rw [List.getD_eq_getElem?_getD, List.getElem?_eq_getElem h]
        exact List.getElem_mem h
      · rw [if_neg hx, W_id (x := (i : Int) + 1) (by omega) (by omega)]
        obtain ⟨c, h1, h2⟩ := f167_loop (n := n) hl m (i + 1) (by omega) (by omega)
        refine ⟨c, h1, h2.imp (fun ⟨e, h3⟩ => ⟨e, fun x hx' => ?_⟩) (fun h => h)⟩
        rw [List.drop_eq_getElem_cons h] at hx'
        rcases List.mem_cons.1 hx' with rfl | hx'
        · rw [List.getD_eq_getElem?_getD, List.getElem?_eq_getElem h] at hx
          exact Int.not_lt.1 hx
        · exact h3 x hx'
    · rw [if_neg (by omega)]
      refine ⟨0, rfl, .inl ⟨rfl, fun x hx => ?_⟩⟩
      rw [List.drop_of_length_le (by omega)] at hx
      cases hx

theorem f98_loop {α : Type} {n : Nat} {L : List (List Rt)} (hl : L.length ≤ 1048576) {k0 : List Int → Option α} : ∀ (m i : Nat) (o : List Int), o.length ≤ i → i ≤ L.length → L.length < i + m → f98_L3 n m L (L.length : Int) (i : Int) o k0 = k0 (o ++ (L.drop i).map fun v => (v.length : Int))
  | 0, i, o, ho, hi, hm => by omega
  | m + 1, i, o, ho, hi, hm => by
    rw [f98_L3_s]
    unfold f98_L3B
    dsimp only
    rw [Bool.cond_decide]
    by_cases h : i < L.length
    · rw [if_pos (by omega), gd_pos (by simp; try omega), gd_pos (by simp only [decide_eq_true_eq]; omega)]
      simp only [Int.toNat_natCast]
      rw [W_id (x := (i : Int) + 1) (by omega) (by omega), show (i : Int) + 1 = ((i + 1 : Nat) : Int) from rfl, f98_loop hl m (i + 1) _ (by simp; omega) (by omega) (by omega), List.drop_eq_getElem_cons h, List.getD_eq_getElem?_getD, List.getElem?_eq_getElem h, List.append_assoc]
      rfl
    · rw [if_neg (by omega), List.drop_of_length_le (by omega)]
      simp

theorem f98_eq {n : Nat} {L : List (List Rt)} (hl : L.length ≤ 1048576) (hn : 1048577 ≤ n) : ∃ c, f98 n L = some c ∧ ((c = 0 ∧ ∀ v ∈ L, v.length ≤ 4096) ∨ (c = 2 ∧ ∃ v ∈ L, 4096 < v.length)) := by
  unfold f98
  have h1 := f98_loop (n := n) (L := L) hl (k0 := fun z_1 => (
      ob (f167 n 4096 z_1) fun r_2 =>
      some r_2)) n 0 [] (by simp) (by omega) (by omega)
  have h1 : f98_L3 n n L (L.length : Int) 0 [] _ = _ := h1
  rw [h1, List.drop_zero, List.nil_append]
  unfold f167
  obtain ⟨c, h2, h3⟩ := f167_loop (n := n) (l := L.map fun v => (v.length : Int)) (by simpa using hl) n 0 (by omega) (by simp; omega)
  have h2 : f167_L2 n n 4096 _ _ 0 _ _ = _ := h2
  refine ⟨c, by rw [h2, ob_some], h3.imp (fun ⟨e, h⟩ => ⟨e, fun v hv => by have := h _ (by rw [List.drop_zero]; exact List.mem_map.2 ⟨v, hv, rfl⟩); omega⟩) fun ⟨e, x, hx, hx'⟩ => ⟨e, ?_⟩⟩
  obtain ⟨v, hv, rfl⟩ := List.mem_map.1 hx
  exact ⟨v, hv, by omega⟩

theorem f93_loop5 {α : Type} {n : Nat} {L : List (List Rt)} (hl : L.length ≤ 1048576) (hn : 1048577 ≤ n) {k0 : Int → Option α} {k1 : List (List Rt) → Option α} : ∀ (m i : Nat), i ≤ L.length → L.length < i + m → f93_L5 n m L L (L.length : Int) (i : Int) k0 k1 = if (L.drop i).all vok = true then k1 L else k0 1
  | 0, i, hi, hm => by omega
  | m + 1, i, hi, hm => by
    rw [f93_L5_s]
    unfold f93_L5B
    dsimp only
    rw [Bool.cond_decide]
    by_cases h : i < L.length
    · rw [if_pos (by omega), gd_pos (by simp; try omega)]
      simp only [Int.toNat_natCast]
      rw [f109_eq hn, ob_some, alldrop h []]
      cases hp : vok (L.getD i []) with
      | true =>
        rw [W_id (x := (i : Int) + 1) (by omega) (by omega)]
        simp only [Bool.not_true, cond_false, Bool.true_and]
        exact f93_loop5 hl hn m (i + 1) (by omega) (by omega)
      | false => simp
    · rw [if_neg (by omega), List.drop_of_length_le (by omega)]
      rfl

theorem f93_loop11 {α : Type} {n : Nat} {L : List (List Rt)} (hl : L.length ≤ 1048576) {k0 : Int → Option α} {k1 : Unit → Option α} : ∀ (m i : Nat), i ≤ L.length → L.length < i + m → f93_L11 n m L L (L.length : Int) (i : Int) k0 k1 = if ((L.drop i).all fun v => v.length == (L.getD 0 []).length) = true then k1 () else k0 8
  | 0, i, hi, hm => by omega
  | m + 1, i, hi, hm => by
    rw [f93_L11_s]
    unfold f93_L11B
    dsimp only
    rw [Bool.cond_decide]
    by_cases h : i < L.length
    · rw [if_pos (by omega), gd_pos (by simp; try omega), gd_pos (by simp only [decide_eq_true_eq]; omega)]
      simp only [Int.toNat_natCast]
      rw [alldrop h []]
      by_cases hp : (L.getD i []).length = (L.getD 0 []).length
      · rw [hp, W_id (x := (i : Int) + 1) (by omega) (by omega), bne_self_eq_false, cond_false, BEq.rfl, Bool.true_and]
        exact f93_loop11 hl m (i + 1) (by omega) (by omega)
      · rw [show (((L.getD i []).length : Int) != ((L.getD 0 []).length : Int)) = true by rw [bne_iff_ne]; omega, show ((L.getD i []).length == (L.getD 0 []).length) = false by rw [beq_eq_false_iff_ne]; exact hp]
        simp
    · rw [if_neg (by omega), List.drop_of_length_le (by omega)]
      rfl

theorem f93_eq {n : Nat} {L : List (List Rt)} (hl : L.length ≤ 1048576) (hn : 1048577 ≤ n) : ∃ c, f93 n L = some c ∧ (c == 0) = (L.all vok && L.all fun v => v.length == (L.getD 0 []).length) := by
  unfold f93
  obtain ⟨c, h1, h2⟩ := f98_eq hl hn
  rw [h1, ob_some]
  rcases h2 with ⟨rfl, _⟩ | ⟨rfl, v, hv, hlv⟩
  · rw [bne_self_eq_false, cond_false]
    have h5 := f93_loop5 (n := n) (L := L) hl hn (k0 := fun z_3 => some z_3) (k1 := fun z_4 => (
        f93_L11 n n z_4 z_4 (z_4.length : Int) 0
          (fun z_5 => (
            some z_5))
          (fun (_ : Unit) => (
            some 0)))) n 0 (by omega) (by omega)
    have h5 : f93_L5 n n L L (L.length : Int) 0 _ _ = _ := h5
    rw [h5, List.drop_zero]
    cases L.all vok with
    | false => exact ⟨1, rfl, rfl⟩
    | true =>
      have h6 := f93_loop11 (n := n) (L := L) hl (k0 := fun z_5 => some z_5) (k1 := fun (_ : Unit) => some 0) n 0 (by omega) (by omega)
      have h6 : f93_L11 n n L L (L.length : Int) 0 _ _ = _ := h6
      rw [if_pos rfl, h6, List.drop_zero]
      cases L.all fun v => v.length == (L.getD 0 []).length with
      | false => exact ⟨8, rfl, rfl⟩
      | true => exact ⟨0, rfl, rfl⟩
  · refine ⟨2, rfl, ?_⟩
    have : L.all vok = false := by
      rw [List.all_eq_false]
      refine ⟨v, hv, ?_⟩
      unfold vok
      rw [decide_eq_false (by omega)]
      simp
    rw [this]; rfl

/-- three vectors of one length -/
def vec3 (a b c : List Rt) : Bool := vok a && vok b && vok c && (b.length == a.length) && (c.length == a.length)

theorem f93_three {n : Nat} {a b c : List Rt} (hn : 1048577 ≤ n) : ∃ r, f93 n [a, b, c] = some r ∧ (r == 0) = vec3 a b c := by
  obtain ⟨r, h1, h2⟩ := f93_eq (n := n) (L := [a, b, c]) (by simp) hn
  refine ⟨r, h1, ?_⟩
  rw [h2]
  unfold vec3
  simp only [List.all_cons, List.all_nil, Bool.and_true, List.getD_cons_zero, BEq.rfl, Bool.true_and]
  cases vok a <;> cases vok b <;> cases vok c <;> simp

theorem beqN {a b : Nat} : ((a : Int) == (b : Int)) = (a == b) := by
  by_cases h : a = b
  · subst h; simp
  · rw [beq_eq_false_iff_ne.2 h, beq_eq_false_iff_ne.2 (by omega)]

def BdL (l : List Rt) : Prop := l.length ≤ 9223372036854775807 ∧ ∀ x ∈ l, Bd x

def SmL (l : List Rt) : Prop := l.length ≤ 1048576 ∧ ∀ x ∈ l, Sm x

theorem f18_eq' {n : Nat} {l : List Rt} {B : Int} (hB : 0 ≤ B ∧ B ≤ 1048576) (hl : BdL l) (hn : 1048577 ≤ n) : ∃ r, f18 n l B = some r ∧ (r = -1 ∨ ((0 ≤ r ∧ r ≤ 1048576) ∧ SmL l)) := by
  obtain ⟨r, h1, h2⟩ := f18_eq (n := n) hB hl.1 hl.2 hn
  exact ⟨r, h1, h2.imp id fun ⟨q1, q2, q3, q4⟩ => ⟨⟨q1, by omega⟩, q3, q4⟩⟩

abbrev Nod := Int × Int × Int × Int

def kidsP (op : Int) : Int := if op = 3 ∨ op = 4 ∨ op = 5 ∨ op = 6 then 2 else if op = 7 ∨ op = 8 then 1 else 0

theorem f214_eq {n : Nat} {x : Nod} : f214 n x = some (kidsP x.1) := by
  unfold f214 kidsP
  simp only [Bool.cond_eq_ite, beq_iff_eq]
  grind

def numP (x : Nod) : Prop := if x.1 = 1 then 0 ≤ x.2.2.2 ∧ x.2.2.2 ≤ 999999999 else if x.1 = 2 then 0 ≤ x.2.2.2 ∧ x.2.2.2 ≤ 3 else if x.1 = 8 then 0 ≤ x.2.2.2 ∧ x.2.2.2 ≤ 8 else x.2.2.2 = 0

instance (x : Nod) : Decidable (numP x) := by unfold numP; infer_instance

theorem f231_eq {n : Nat} {x : Nod} : f231 n x = some (decide (numP x)) := by
  unfold f231 numP
  simp only [Bool.cond_eq_ite, beq_iff_eq, f70_eq, ob_some]
  grind

theorem f232_eq {n : Nat} {h : Bool} {k i : Int} (hi : 0 ≤ i ∧ i < 1152921504606846976) : f232 n h k i = some (decide (if h = true then 0 ≤ k ∧ k ≤ i - 1 else k = 0)) := by
  unfold f232
  simp only [f70_eq, ob_some, W_id (x := i - 1) (by omega) (by omega), Bool.cond_eq_ite]
  cases h <;> grind

def plainP (x : Nod) (i : Int) : Prop := (1 ≤ x.1 ∧ x.1 ≤ 8) ∧ numP x ∧ (if kidsP x.1 > 0 then 0 ≤ x.2.1 ∧ x.2.1 ≤ i - 1 else x.2.1 = 0) ∧ (if kidsP x.1 > 1 then 0 ≤ x.2.2.1 ∧ x.2.2.1 ≤ i - 1 else x.2.2.1 = 0)

instance (x : Nod) (i : Int) : Decidable (plainP x i) := by unfold plainP; infer_instance

theorem f225_eq {n : Nat} {x : Nod} {i : Int} (hi : 0 ≤ i ∧ i < 1152921504606846976) : f225 n x i = some (decide (plainP x i)) := by
  unfold f225 plainP
  simp only [f70_eq, f231_eq, f214_eq, ob_some, f232_eq hi, Bool.cond_eq_ite, decide_eq_true_eq]
  grind

theorem f206_eq {n : Nat} {a : Int} : f206 n a = some (decide (3 ≤ a ∧ a ≤ 6)) := by
  unfold f206; simp [f65_eq]

theorem f208_eq {n : Nat} {a : Int} : f208 n a = some (decide (a = 7 ∨ a = 8)) := by
  unfold f208; simp only [Bool.cond_eq_ite, beq_iff_eq]; grind

/-- what a node must be, by the reference: but the place where its tree begins -/
def nodeP (x : Nod) (i : Int) : Prop := (1 ≤ x.1 ∧ x.1 ≤ 8) ∧ (if 3 ≤ x.1 ∧ x.1 ≤ 6 then (0 ≤ x.2.1 ∧ x.2.1 ≤ i - 1) ∧ (x.2.1 + 1 ≤ x.2.2.1 ∧ x.2.2.1 ≤ i - 1) ∧ x.2.2.2 = 0
  else if x.1 = 7 ∨ x.1 = 8 then x.2.1 = i - 1 ∧ 0 < i ∧ x.2.2.1 = 0 ∧ 0 ≤ x.2.2.2 ∧ x.2.2.2 ≤ (if x.1 = 8 then 8 else 0)
  else if x.1 = 2 then x.2.1 = 0 ∧ x.2.2.1 = 0 ∧ 0 ≤ x.2.2.2 ∧ x.2.2.2 ≤ 3 else x.2.1 = 0 ∧ x.2.2.1 = 0 ∧ 0 ≤ x.2.2.2 ∧ x.2.2.2 ≤ 999999999)

instance (x : Nod) (i : Int) : Decidable (nodeP x i) := by unfold nodeP; infer_instance

theorem f205_eq {n : Nat} {x : Nod} {i : Int} (hi : 0 ≤ i ∧ i < 1152921504606846976) : f205 n x i = some (decide (nodeP x i)) := by
  unfold f205 nodeP
  simp only [f65_eq, f206_eq, f208_eq, f147_eq, ob_some, W_id (x := i - 1) (by omega) (by omega), Bool.cond_eq_ite, decide_eq_true_eq, beq_iff_eq]
  by_cases h0 : 1 ≤ x.1 ∧ x.1 ≤ 8
  · by_cases h1 : 3 ≤ x.1 ∧ x.1 ≤ 6
    · by_cases h2 : 0 ≤ x.2.1 ∧ x.2.1 ≤ i - 1
      · rw [W_id (x := x.2.1 + 1) (by omega) (by omega)]
        simp only [h0, h1, h2]
        by_cases h3 : x.2.1 + 1 ≤ x.2.2.1 ∧ x.2.2.1 ≤ i - 1
        · simp [h3]; rfl
        · simp [h3]
      · simp [h0, h1, h2]
    · by_cases h2 : x.1 = 7 ∨ x.1 = 8
      · have e : W (8 * (if (x.1 == 8) = true then 1 else 0)) = if x.1 = 8 then 8 else 0 := by
          by_cases h : x.1 = 8 <;> simp [h] <;> exact W_id (by omega) (by omega)
        simp only [beq_iff_eq] at e
        simp only [h0, h1, h2, e]
        grind
      · grind
  · simp [h0]

/-- a node that fits, after these beginnings -/
def okP (bs : List Int) (x : Nod) (i : Int) : Prop := nodeP x i ∧ (3 ≤ x.1 ∧ x.1 ≤ 6 → x.2.2.1 = i - 1 ∧ bs.getD x.2.2.1.toNat 0 = x.2.1 + 1)

instance (bs : List Int) (x : Nod) (i : Int) : Decidable (okP bs x i) := by unfold okP; infer_instance

def nb (bs : List Int) (x : Nod) (i : Int) : Int := if 3 ≤ x.1 ∧ x.1 ≤ 8 then bs.getD x.2.1.toNat 0 else i

def nd (ds : List Int) (x : Nod) : Int := if 3 ≤ x.1 ∧ x.1 ≤ 6 then 1 + max (ds.getD x.2.1.toNat 0) (ds.getD x.2.2.1.toNat 0) else if x.1 = 7 ∨ x.1 = 8 then 1 + ds.getD x.2.1.toNat 0 else 1

def runE : List Int → List Int → List Nod → Option (List Int × List Int)
  | bs, ds, [] => some (bs, ds)
  | bs, ds, x :: r => if okP bs x bs.length then runE (bs ++ [nb bs x bs.length]) (ds ++ [nd ds x]) r else none

/-- what holds of beginnings and depths on the way -/
structure InvE (bs ds : List Int) : Prop where
  len : ds.length = bs.length
  small : bs.length ≤ 1048576
  b : ∀ j, j < bs.length → 0 ≤ bs.getD j 0 ∧ bs.getD j 0 ≤ j
  d : ∀ j, j < ds.length → 1 ≤ ds.getD j 0 ∧ ds.getD j 0 ≤ j + 1

theorem toNat_lt {a : Int} {k : Nat} (h0 : 0 ≤ a) (h : a ≤ (k : Int) - 1) : a.toNat < k := by omega

theorem InvE.step {bs ds : List Int} (h : InvE bs ds) {x : Nod} (hx : okP bs x bs.length) (hs : bs.length + 1 ≤ 1048576) : InvE (bs ++ [nb bs x bs.length]) (ds ++ [nd ds x]) := by
  obtain ⟨h1, h2, h3, h4⟩ := h
  have hn := hx.1
  unfold nodeP at hn
  refine ⟨by simp [h1], by simpa using hs, fun j hj => ?_, fun j hj => ?_⟩
  · simp only [List.length_append, List.length_cons, List.length_nil] at hj
    rcases Nat.lt_or_ge j bs.length with hlt | hge
    · rw [getD_append_left hlt]; exact h3 j hlt
    · obtain rfl : j = bs.length := by omega
      rw [getD_append_last]
      unfold nb
      split
      · have ha : 0 ≤ x.2.1 ∧ x.2.1 ≤ (bs.length : Int) - 1 := by
          split at hn
          · omega
          · split at hn
            · omega
            · omega
        have := h3 _ (toNat_lt ha.1 ha.2)
        omega
      · omega
  · simp only [List.length_append, List.length_cons, List.length_nil] at hj
    rcases Nat.lt_or_ge j ds.length with hlt | hge
    · rw [getD_append_left hlt]; exact h4 j hlt
    · obtain rfl : j = ds.length := by omega
      rw [getD_append_last]
      unfold nd
      split
      · rename_i h2'
        rw [if_pos h2'] at hn
        have ha := h4 _ (by rw [h1]; exact toNat_lt (k := bs.length) (a := x.2.1) (by omega) (by omega))
        have hb := h4 _ (by rw [h1]; exact toNat_lt (k := bs.length) (a := x.2.2.1) (by omega) (by omega))
        omega
      · rename_i h2'
        rw [if_neg h2'] at hn
        split
        · rename_i h3'
          rw [if_pos h3'] at hn
          have ha := h4 _ (by rw [h1]; exact toNat_lt (k := bs.length) (a := x.2.1) (by omega) (by omega))
          omega
        · omega

/-- the program's test of a node is the reference's -/
theorem plain_ok {bs ds : List Int} (h : InvE bs ds) {x : Nod} : okP bs x bs.length ↔ plainP x bs.length ∧ (kidsP x.1 = 1 → x.2.1 = (bs.length : Int) - 1) ∧ (kidsP x.1 = 2 → x.2.2.1 = (bs.length : Int) - 1 ∧ x.2.1 = bs.getD x.2.2.1.toNat 0 - 1) := by
  obtain ⟨h1, h2, h3, h4⟩ := h
  unfold okP nodeP plainP numP kidsP
  by_cases h2 : 3 ≤ x.1 ∧ x.1 ≤ 6
  · have e : x.1 = 3 ∨ x.1 = 4 ∨ x.1 = 5 ∨ x.1 = 6 := by omega
    have e1 : ¬ x.1 = 1 := by omega
    have e2 : ¬ x.1 = 2 := by omega
    have e3 : ¬ x.1 = 8 := by omega
    simp only [if_pos e, if_pos h2, if_neg e1, if_neg e2, if_neg e3]
    constructor
    · rintro ⟨⟨ha, hb, hc, hd⟩, hf⟩
      obtain ⟨hf1, hf2⟩ := hf h2
      refine ⟨⟨ha, hd, by rw [if_pos (by decide)]; omega, by rw [if_pos (by decide)]; omega⟩, fun h => absurd h (by decide), fun _ => by omega⟩
    · rintro ⟨⟨ha, hb, hc, hd⟩, _, hf⟩
      obtain ⟨hf1, hf2⟩ := hf trivial
      rw [if_pos (by decide)] at hc hd
      have := h3 _ (toNat_lt hd.1 hd.2)
      refine ⟨⟨ha, hc, ?_, hb⟩, fun _ => ⟨hf1, by omega⟩⟩
      omega
  · have e : ¬ (x.1 = 3 ∨ x.1 = 4 ∨ x.1 = 5 ∨ x.1 = 6) := by omega
    simp only [if_neg e, if_neg h2]
    by_cases h5 : x.1 = 7 ∨ x.1 = 8
    · have e1 : ¬ x.1 = 1 := by omega
      have e2 : ¬ x.1 = 2 := by omega
      simp only [if_pos h5, if_neg e1, if_neg e2]
      constructor
      · rintro ⟨⟨ha, hb, hc, hd, hn⟩, _⟩
        refine ⟨⟨ha, ?_, by rw [if_pos (by decide)]; omega, by rw [if_neg (by decide)]; exact hd⟩, fun _ => hb, fun h => absurd h (by decide)⟩
        split <;> (split at hn <;> omega)
      · rintro ⟨⟨ha, hb, hc, hd⟩, hf, _⟩
        rw [if_pos (by decide)] at hc
        rw [if_neg (by decide)] at hd
        have hf := hf trivial
        refine ⟨⟨ha, hf, by omega, hd, ?_⟩, fun h => absurd h h2⟩
        split at hb <;> split <;> omega
    · have e3 : ¬ x.1 = 8 := by omega
      simp only [if_neg h5, if_neg e3]
      constructor
      · rintro ⟨⟨ha, hb⟩, _⟩
        refine ⟨⟨ha, ?_, ?_, ?_⟩, fun h => absurd h (by decide), fun h => absurd h (by decide)⟩
        · have hb1 : x.1 = 1 ∨ x.1 = 2 := by omega
          rcases hb1 with h1' | h1'
          · rw [if_neg (by omega)] at hb; rw [if_pos h1']; omega
          · rw [if_pos h1'] at hb; rw [if_neg (by omega), if_pos h1']; omega
        · rw [if_neg (by decide)]; split at hb <;> omega
        · rw [if_neg (by decide)]; split at hb <;> omega
      · rintro ⟨⟨ha, hb, hc, hd⟩, _, _⟩
        rw [if_neg (by decide)] at hc hd
        refine ⟨⟨ha, ?_⟩, fun h => absurd h h2⟩
        have hb1 : x.1 = 1 ∨ x.1 = 2 := by omega
        rcases hb1 with h1' | h1'
        · rw [if_pos h1'] at hb; rw [if_neg (by omega)]; omega
        · rw [if_neg (by omega), if_pos h1'] at hb; rw [if_pos h1']; omega

/-- the program's round -/
theorem shape_round {α : Type} {n k : Nat} {e : List Nod} {bs ds : List Int} {f} {k0 : Bool → Option α} {k1} (hi : InvE bs ds) (hk : bs.length = k) (hlt : k < e.length) (hN : e.length ≤ 1048576) :
    f212_L3B n e (e.length : Int) (k : Int) bs ds f k0 k1 = if okP bs (e.getD k (0, 0, 0, 0)) (bs.length : Nat) then f e (e.length : Int) ((k + 1 : Nat) : Int) (bs ++ [nb bs (e.getD k (0, 0, 0, 0)) (bs.length : Nat)]) (ds ++ [nd ds (e.getD k (0, 0, 0, 0))]) else k0 false := by
  have hp := plain_ok hi (x := e.getD k (0, 0, 0, 0))
  obtain ⟨h1, h2, h3, h4⟩ := hi
  subst hk
  unfold f212_L3B
  generalize hx : e.getD bs.length (0, 0, 0, 0) = x at hp ⊢
  rw [Bool.cond_decide, if_pos (by omega), gd_pos (by simp; omega)]
  simp only [Int.toNat_natCast, hx, f225_eq (x := x) (i := (bs.length : Int)) (by omega), f214_eq, ob_some, W_id (x := (bs.length : Int) - 1) (by omega) (by omega), W_id (x := (bs.length : Int) + 1) (by omega) (by omega)]
  by_cases hpl : plainP x bs.length
  · simp only [hpl, decide_true, Bool.not_true, cond_false]
    have hpl' := hpl
    unfold plainP at hpl'
    by_cases k1' : kidsP x.1 = 1
    · have hop : x.1 = 7 ∨ x.1 = 8 := by unfold kidsP at k1'; grind
      simp only [k1', beq_self_eq_true, cond_true]
      rw [if_pos (by rw [k1']; decide)] at hpl'
      by_cases ha : x.2.1 = (bs.length : Int) - 1
      · have hok : okP bs x bs.length := hp.2 ⟨hpl, fun _ => ha, fun h => by omega⟩
        have hd := h4 x.2.1.toNat (by omega)
        rw [if_pos hok]
        have e1 : (x.2.1 != (bs.length : Int) - 1) = false := by simp [ha]
        rw [e1, cond_false, gd_pos (by simp; omega), gd_pos (by simp; omega), gd_pos (by simp; omega), gd_pos (by simp; omega), gd_pos (by simp; omega), gd_pos (by simp; omega), W_id (by omega) (by omega)]
        have e2 : nb bs x bs.length = bs.getD x.2.1.toNat 0 := by unfold nb; rw [if_pos (by omega)]
        have e3 : nd ds x = ds.getD x.2.1.toNat 0 + 1 := by unfold nd; rw [if_neg (by omega), if_pos hop]; omega
        rw [e2, e3]
        rfl
      · have hok : ¬ okP bs x bs.length := fun h => ha ((hp.1 h).2.1 k1')
        rw [if_neg hok]
        have e1 : (x.2.1 != (bs.length : Int) - 1) = true := by simp [ha]
        rw [e1, cond_true]
    · have e0 : (kidsP x.1 == 1) = false := by simp [k1']
      rw [e0, cond_false]
      by_cases k2' : kidsP x.1 = 2
      · have hop : 3 ≤ x.1 ∧ x.1 ≤ 6 := by unfold kidsP at k2'; grind
        simp only [k2', beq_self_eq_true, cond_true]
        rw [if_pos (by rw [k2']; decide), if_pos (by rw [k2']; decide)] at hpl'
        by_cases hb : x.2.2.1 = (bs.length : Int) - 1
        · have e1 : (x.2.2.1 != (bs.length : Int) - 1) = false := by simp [hb]
          have hbb := h3 x.2.2.1.toNat (by omega)
          rw [e1, cond_false, gd_pos (by simp; omega), gd_pos (by simp; omega), W_id (x := bs.getD x.2.2.1.toNat 0 - 1) (by omega) (by omega)]
          by_cases ha : x.2.1 = bs.getD x.2.2.1.toNat 0 - 1
          · have hok : okP bs x bs.length := hp.2 ⟨hpl, fun h => by omega, fun _ => ⟨hb, ha⟩⟩
            have hd := h4 x.2.1.toNat (by omega)
            have hd' := h4 x.2.2.1.toNat (by omega)
            rw [if_pos hok]
            have e1 : (x.2.1 != bs.getD x.2.2.1.toNat 0 - 1) = false := by rw [← ha]; simp
            rw [e1, cond_false, gd_pos (by simp; omega), gd_pos (by simp; omega), gd_pos (by simp; omega), gd_pos (by simp; omega), gd_pos (by simp; omega), gd_pos (by simp; omega), gd_pos (by simp; omega), gd_pos (by simp; omega), W_id (by omega) (by omega)]
            have e2 : nb bs x bs.length = bs.getD x.2.1.toNat 0 := by unfold nb; rw [if_pos (by omega)]
            have e3 : nd ds x = max (ds.getD x.2.1.toNat 0) (ds.getD x.2.2.1.toNat 0) + 1 := by unfold nd; rw [if_pos hop]; omega
            rw [e2, e3]
            rfl
          · have hok : ¬ okP bs x bs.length := fun h => ha ((hp.1 h).2.2 k2').2
            rw [if_neg hok]
            have e1 : (x.2.1 != bs.getD x.2.2.1.toNat 0 - 1) = true := by simp only [bne_iff_ne, ne_eq]; exact ha
            rw [e1, cond_true]
        · have hok : ¬ okP bs x bs.length := fun h => hb ((hp.1 h).2.2 k2').1
          rw [if_neg hok]
          have e1 : (x.2.2.1 != (bs.length : Int) - 1) = true := by simp [hb]
          rw [e1, cond_true]
      · have e0 : (kidsP x.1 == 2) = false := by simp [k2']
        rw [e0, cond_false]
        have hok : okP bs x bs.length := hp.2 ⟨hpl, fun h => absurd h k1', fun h => absurd h k2'⟩
        have hop : x.1 = 1 ∨ x.1 = 2 := by unfold kidsP at k1' k2'; grind
        rw [if_pos hok, gd_pos (by simp; omega), gd_pos (by simp; omega)]
        have e2 : nb bs x bs.length = bs.length := by unfold nb; rw [if_neg (by omega)]
        have e3 : nd ds x = 1 := by unfold nd; rw [if_neg (by omega), if_neg (by omega)]
        rw [e2, e3]
        rfl
  · have hok : ¬ okP bs x bs.length := fun h => hpl (hp.1 h).1
    rw [if_neg hok]
    simp only [hpl, decide_false, Bool.not_false, cond_true]

theorem runE_inv : ∀ (r : List Nod) (bs ds bs' ds' : List Int), InvE bs ds → bs.length + r.length ≤ 1048576 → runE bs ds r = some (bs', ds') → InvE bs' ds' ∧ bs'.length = bs.length + r.length ∧ (∀ j, j < bs.length → bs'.getD j 0 = bs.getD j 0) ∧ (∀ j, j < ds.length → ds'.getD j 0 = ds.getD j 0)
  | [], bs, ds, bs', ds', hi, _, h => by
    simp only [runE, Option.some.injEq, Prod.mk.injEq] at h
    obtain ⟨rfl, rfl⟩ := h
    exact ⟨hi, by simp, fun _ _ => rfl, fun _ _ => rfl⟩
  | x :: r, bs, ds, bs', ds', hi, hl, h => by
    simp only [runE] at h
    simp only [List.length_cons] at hl
    split at h
    · rename_i hok
      obtain ⟨h1, h2, h3, h4⟩ := runE_inv r _ _ bs' ds' (hi.step hok (by omega)) (by simp; omega) h
      refine ⟨h1, by rw [h2]; simp; omega, fun j hj => ?_, fun j hj => ?_⟩
      · rw [h3 j (by simp; omega), getD_append_left hj]
      · rw [h4 j (by simp; omega), getD_append_left hj]
    · cases h

theorem shape_loop {α : Type} {n : Nat} {e : List Nod} (hN : e.length ≤ 1048576) {k0 : Bool → Option α} {k1 : List Int → List Int → Option α} : ∀ (r : List Nod) (m : Nat) (bs ds : List Int), InvE bs ds → e.drop bs.length = r → bs.length + r.length = e.length → r.length < m →
    f212_L3 n m e (e.length : Int) (bs.length : Int) bs ds k0 k1 = match runE bs ds r with
      | some (bs', ds') => k1 bs' ds'
      | none => k0 false
  | [], m + 1, bs, ds, hi, hd, hl, hm => by
    rw [f212_L3_s]
    unfold f212_L3B
    simp only [List.length_nil] at hl
    rw [Bool.cond_decide, if_neg (by omega)]
    rfl
  | x :: r, m + 1, bs, ds, hi, hd, hl, hm => by
    obtain ⟨hx, hlt, hd'⟩ := getD_drop_cons (d := (0, 0, 0, 0)) hd
    rw [f212_L3_s, shape_round hi rfl hlt hN, hx]
    simp only [runE]
    by_cases hok : okP bs x bs.length
    · rw [if_pos hok, if_pos hok]
      have ih := shape_loop hN r m (bs ++ [nb bs x bs.length]) (ds ++ [nd ds x]) (hi.step hok (by omega)) (by simpa using hd') (by simp; simp at hl; omega) (by simp at hm; omega) (n := n) (k0 := k0) (k1 := k1)
      simp only [List.length_append, List.length_cons, List.length_nil, Nat.zero_add] at ih
      exact ih
    · rw [if_neg hok, if_neg hok]

theorem inv0 : InvE [] [] := ⟨rfl, by simp, fun j hj => by simp at hj, fun j hj => by simp at hj⟩

theorem f212_eq {n : Nat} {e : List Nod} (hN : e.length ≤ 1048576) (hn : 1048577 ≤ n) : f212 n e = some (match runE [] [] e with
    | some (bs, ds) => (bs, ds, true)
    | none => ([], [], false)) := by
  unfold f212
  have := shape_loop (n := n) hN (k0 := fun z => some ([], [], z)) (k1 := fun a b => some (a, b, true)) e n [] [] inv0 rfl (by simp) (by omega)
  simp only [List.length_nil] at this
  refine Eq.trans this ?_
  cases runE [] [] e with
  | none => rfl
  | some p => rfl

theorem max_loop {α : Type} {n : Nat} {l : List Int} (hN : l.length ≤ 1048576) {k0 : Int → Option α} : ∀ (r : List Int) (m k : Nat) (a : Int), l.drop k = r → k + r.length = l.length → r.length < m → f213_L5 n m l a (k : Int) k0 = k0 (r.foldl max a)
  | [], m + 1, k, a, hd, hl, hm => by
    rw [f213_L5_s]
    unfold f213_L5B
    simp only [List.length_nil] at hl
    rw [Bool.cond_decide, if_neg (by omega)]
    rfl
  | x :: r, m + 1, k, a, hd, hl, hm => by
    obtain ⟨hx, hlt, hd'⟩ := getD_drop_cons (d := 0) hd
    rw [f213_L5_s]
    unfold f213_L5B
    rw [Bool.cond_decide, if_pos (by omega), gd_pos (by simp; omega), W_id (by omega) (by omega)]
    simp only [Int.toNat_natCast, hx]
    simp only [List.length_cons] at hl hm
    exact max_loop hN r m (k + 1) (max a x) hd' (by omega) (by omega)

theorem f213_eq {n : Nat} {l : List Int} (hN : l.length ≤ 1048576) (hn : 1048577 ≤ n) (h0 : 0 < l.length) : ∃ r, f213 n l = some r ∧ (r ≤ 12 ↔ ∀ x ∈ l, x ≤ 12) := by
  cases l with
  | nil => cases h0
  | cons x r =>
    refine ⟨r.foldl max x, ?_, ?_⟩
    · unfold f213
      rw [Bool.cond_decide, if_neg (by simp only [List.length_cons]; omega), gd_pos (by simp)]
      have := max_loop (n := n) (k0 := fun z => some z) hN r n 1 x rfl (by simp only [List.length_cons]; omega) (by simp at hN; omega)
      exact this
    · rw [foldl_max_le]
      simp

/-- what both sides ask of an expression -/
def exprP (e : List Nod) : Prop := (1 ≤ e.length ∧ e.length ≤ 60) ∧ ∃ bs ds, runE [] [] e = some (bs, ds) ∧ bs.getD (e.length - 1) 0 = 0 ∧ ∀ x ∈ ds, x ≤ 12

open Classical in
theorem f198_eq {n : Nat} {e : List Nod} (hN : e.length ≤ 1048576) (hn : 1048577 ≤ n) : f198 n e = some (decide (exprP e)) := by
  unfold f198
  rw [f70_eq, ob_some]
  by_cases h1 : (1 : Int) ≤ (e.length : Int) ∧ (e.length : Int) ≤ 60
  · simp only [h1, and_self, decide_true, Bool.not_true, cond_false]
    rw [f212_eq hN hn, ob_some]
    cases hr : runE [] [] e with
    | none =>
      have : ¬ exprP e := fun ⟨_, _, _, h, _⟩ => by rw [hr] at h; cases h
      simp [this]
    | some p =>
      obtain ⟨bs, ds⟩ := p
      obtain ⟨hi, hl, _, _⟩ := runE_inv e [] [] bs ds inv0 (by simpa using hN) hr
      simp only [List.length_nil, Nat.zero_add] at hl
      simp only [cond_true]
      rw [W_id (x := (e.length : Int) - 1) (by omega) (by omega), gd_pos (by simp; omega)]
      have et : ((e.length : Int) - 1).toNat = e.length - 1 := by omega
      rw [et]
      by_cases hb : bs.getD (e.length - 1) 0 = 0
      · obtain ⟨r, hr1, hr2⟩ := f213_eq (n := n) (l := ds) (by rw [hi.len]; omega) hn (by rw [hi.len]; omega)
        rw [hr1, ob_some]
        have e1 : (bs.getD (e.length - 1) 0 == 0) = true := by rw [hb]; rfl
        rw [e1, cond_true]
        congr 1
        rw [decide_eq_decide, hr2]
        constructor
        · intro h; exact ⟨by omega, bs, ds, hr, hb, h⟩
        · rintro ⟨_, bs', ds', h, _, h'⟩
          rw [hr] at h
          simp only [Option.some.injEq, Prod.mk.injEq] at h
          obtain ⟨rfl, rfl⟩ := h
          exact h'
      · have e1 : (bs.getD (e.length - 1) 0 == 0) = false := by simp only [beq_eq_false_iff_ne, ne_eq]; exact hb
        have : ¬ exprP e := fun ⟨_, bs', ds', h, hb', _⟩ => by
          rw [hr] at h
          simp only [Option.some.injEq, Prod.mk.injEq] at h
          obtain ⟨rfl, rfl⟩ := h
          exact hb hb'
        rw [e1, cond_false]
        simp [this]
  · have : ¬ exprP e := fun ⟨h, _⟩ => h1 (by omega)
    simp only [h1, decide_false, Bool.not_false, cond_true, this]

theorem first_loop {α : Type} {n : Nat} {e : List Nod} {bs : List Int} (hN : e.length ≤ 1048576)
    (hb : ∀ j, j < bs.length → okP (bs.take j) (e.getD j (0, 0, 0, 0)) j ∧ bs.getD j 0 = nb (bs.take j) (e.getD j (0, 0, 0, 0)) j) (hl : bs.length ≤ e.length) {k0 : Int → Option α} :
    ∀ (j m : Nat), j < bs.length → j < m → f207_L2 n m (j : Int) e (e.getD j (0, 0, 0, 0)).1 (e.getD j (0, 0, 0, 0)).2.1 (e.getD j (0, 0, 0, 0)).2.2.1 (e.getD j (0, 0, 0, 0)).2.2.2 k0 = k0 (bs.getD j 0) := by
  intro j
  induction j using Nat.strongRecOn with
  | ind j ih =>
    intro m hj hm
    obtain ⟨m, rfl⟩ : ∃ m', m = m' + 1 := ⟨m - 1, by omega⟩
    obtain ⟨hok, hv⟩ := hb j hj
    rw [f207_L2_s]
    unfold f207_L2B
    rw [hv]
    generalize hx : e.getD j (0, 0, 0, 0) = x at hok hv ⊢
    have hn := hok.1
    unfold nodeP at hn
    simp only [f206_eq, f208_eq, ob_some, Bool.cond_decide]
    by_cases h1 : 3 ≤ x.1 ∧ x.1 ≤ 8
    · have ha : 0 ≤ x.2.1 ∧ x.2.1 ≤ (j : Int) - 1 := by
        split at hn
        · omega
        · split at hn
          · omega
          · omega
      have hlt : x.2.1.toNat < j := by omega
      have e1 : nb (bs.take j) x j = bs.getD x.2.1.toNat 0 := by
        unfold nb
        rw [if_pos h1]
        simp [List.getD_eq_getElem?_getD, List.getElem?_take, hlt]
      have key := ih x.2.1.toNat hlt m (by omega) (by omega)
      have et : ((x.2.1.toNat : Nat) : Int) = x.2.1 := by omega
      rw [et] at key
      rw [e1, gd_pos (by simp; omega)]
      by_cases h2 : 3 ≤ x.1 ∧ x.1 ≤ 6
      · rw [if_pos h2]; exact key
      · rw [if_neg h2, if_pos (by omega)]; exact key
    · rw [if_neg (by omega), if_neg (by omega)]
      unfold nb
      rw [if_neg h1]

/-- all that ran so far -/
def Ran (e : List Nod) (bs : List Int) : Prop := ∀ j, j < bs.length → okP (bs.take j) (e.getD j (0, 0, 0, 0)) j ∧ bs.getD j 0 = nb (bs.take j) (e.getD j (0, 0, 0, 0)) j

theorem f207_eq {n : Nat} {e : List Nod} {bs : List Int} (hN : e.length ≤ 1048576) (hn : 1048577 ≤ n) (hb : Ran e bs) (hl : bs.length ≤ e.length) {j : Int} (hj : 0 ≤ j ∧ j < (bs.length : Int)) : f207 n e j = some (bs.getD j.toNat 0) := by
  unfold f207
  rw [gd_pos (by simp; omega)]
  have := first_loop (n := n) hN hb hl (k0 := fun z => some z) j.toNat n (by omega) (by omega)
  rw [show ((j.toNat : Nat) : Int) = j by omega] at this
  exact this

theorem Ran.step {e : List Nod} {bs : List Int} (h : Ran e bs) {x : Nod} (hx : e.getD bs.length (0, 0, 0, 0) = x) (hok : okP bs x bs.length) : Ran e (bs ++ [nb bs x bs.length]) := by
  intro j hj
  simp only [List.length_append, List.length_cons, List.length_nil] at hj
  rcases Nat.lt_or_ge j bs.length with hlt | hge
  · rw [getD_append_left hlt, List.take_append_of_le_length (by omega)]
    exact h j hlt
  · obtain rfl : j = bs.length := by omega
    rw [getD_append_last, List.take_left', hx]
    · exact ⟨hok, rfl⟩
    · rfl

theorem spec_loop {α : Type} {n : Nat} {e : List Nod} (hN : e.length ≤ 1048576) (hn : 1048577 ≤ n) {k0 : Bool → Option α} {k1 : List Nod → Option α} : ∀ (r : List Nod) (m : Nat) (bs ds : List Int), InvE bs ds → Ran e bs → (∀ x ∈ ds, x ≤ 12) → e.drop bs.length = r → bs.length + r.length = e.length → r.length < m →
    f191_L5 n m (bs.length : Int) e ds k0 k1 = match runE bs ds r with
      | some (_, ds') => if ∀ x ∈ ds', x ≤ 12 then k1 e else k0 false
      | none => k0 false
  | [], m + 1, bs, ds, hi, hr, h12, hd, hl, hm => by
    rw [f191_L5_s]
    unfold f191_L5B
    simp only [List.length_nil] at hl
    rw [Bool.cond_decide, if_neg (by omega)]
    simp only [runE]
    rw [if_pos h12]
  | x :: r, m + 1, bs, ds, hi, hr, h12, hd, hl, hm => by
    obtain ⟨hx, hlt, hd'⟩ := getD_drop_cons (d := (0, 0, 0, 0)) hd
    have hi0 := hi
    obtain ⟨h1, h2, h3, h4⟩ := hi
    simp only [List.length_cons] at hl hm
    -- what the round comes to
    have round : ∀ f : Int → List Nod → List Int → Option α, f191_L5B n (bs.length : Int) e ds f k0 k1 = if okP bs x bs.length ∧ nd ds x ≤ 12 then f ((bs.length + 1 : Nat) : Int) e (ds ++ [nd ds x]) else k0 false := by
      intro f
      unfold f191_L5B
      rw [Bool.cond_decide, if_pos (by omega), gd_pos (by simp; omega)]
      simp only [Int.toNat_natCast, hx, f205_eq (x := x) (i := (bs.length : Int)) (by omega), f206_eq, f208_eq, ob_some, W_id (x := (bs.length : Int) - 1) (by omega) (by omega), W_id (x := (bs.length : Int) + 1) (by omega) (by omega)]
      by_cases hno : nodeP x bs.length
      · simp only [hno, decide_true, Bool.not_true, cond_false]
        have hno' := hno
        unfold nodeP at hno'
        by_cases h5 : 3 ≤ x.1 ∧ x.1 ≤ 6
        · have h6 : ¬ (x.1 = 7 ∨ x.1 = 8) := by omega
          rw [if_pos h5] at hno'
          simp only [h5, h6, and_self, decide_true, cond_true, decide_false, cond_false]
          by_cases hb : x.2.2.1 = (bs.length : Int) - 1
          · have e1 : (x.2.2.1 != (bs.length : Int) - 1) = false := by simp [hb]
            rw [e1, cond_false, f207_eq hN hn hr (by omega) (by omega), ob_some, W_id (x := x.2.1 + 1) (by omega) (by omega)]
            by_cases ha : bs.getD x.2.2.1.toNat 0 = x.2.1 + 1
            · have hok : okP bs x bs.length := ⟨hno, fun _ => ⟨hb, ha⟩⟩
              have e1 : (bs.getD x.2.2.1.toNat 0 != x.2.1 + 1) = false := by rw [ha]; simp
              have da := h4 x.2.1.toNat (by omega)
              have db := h4 x.2.2.1.toNat (by omega)
              have e3 : nd ds x = 1 + max (ds.getD x.2.1.toNat 0) (ds.getD x.2.2.1.toNat 0) := by unfold nd; rw [if_pos h5]
              rw [e1, cond_false, gd_pos (by simp; omega), gd_pos (by simp; omega), gd_pos (by simp; omega), gd_pos (by simp; omega), W_id (by omega) (by omega), ← e3, Bool.cond_decide]
              by_cases h12' : nd ds x ≤ 12
              · rw [if_neg (by omega), gd_pos (by simp; omega), if_pos ⟨hok, h12'⟩]
                rfl
              · rw [if_pos (by omega), if_neg (fun h => h12' h.2)]
            · have hok : ¬ okP bs x bs.length := fun h => ha (h.2 h5).2
              have e1 : (bs.getD x.2.2.1.toNat 0 != x.2.1 + 1) = true := by simp only [bne_iff_ne, ne_eq]; exact ha
              rw [e1, cond_true, if_neg (fun h => hok h.1)]
          · have hok : ¬ okP bs x bs.length := fun h => hb (h.2 h5).1
            have e1 : (x.2.2.1 != (bs.length : Int) - 1) = true := by simp [hb]
            rw [e1, cond_true, if_neg (fun h => hok h.1)]
        · rw [if_neg h5] at hno'
          have hok : okP bs x bs.length := ⟨hno, fun h => absurd h h5⟩
          simp only [h5, decide_false, cond_false]
          by_cases h6 : x.1 = 7 ∨ x.1 = 8
          · rw [if_pos h6] at hno'
            have da := h4 x.2.1.toNat (by omega)
            have e3 : nd ds x = 1 + ds.getD x.2.1.toNat 0 := by unfold nd; rw [if_neg h5, if_pos h6]
            simp only [h6, decide_true, cond_true]
            rw [gd_pos (by simp; omega), gd_pos (by simp; omega), W_id (by omega) (by omega), ← e3, Bool.cond_decide]
            by_cases h12' : nd ds x ≤ 12
            · rw [if_neg (by omega), gd_pos (by simp; omega), if_pos ⟨hok, h12'⟩]
              rfl
            · rw [if_pos (by omega), if_neg (fun h => h12' h.2)]
          · simp only [h6, decide_false, cond_false]
            have e3 : nd ds x = 1 := by unfold nd; rw [if_neg h5, if_neg h6]
            rw [Bool.cond_decide, if_neg (by omega), gd_pos (by simp; omega), if_pos ⟨hok, by omega⟩, e3]
            rfl
      · have hok : ¬ okP bs x bs.length := fun h => hno h.1
        simp only [hno, decide_false, Bool.not_false, cond_true]
        rw [if_neg (fun h => hok h.1)]
    rw [f191_L5_s, round]
    simp only [runE]
    by_cases hok : okP bs x bs.length
    · rw [if_pos hok]
      by_cases h12' : nd ds x ≤ 12
      · rw [if_pos ⟨hok, h12'⟩]
        have ih := spec_loop hN hn r m (bs ++ [nb bs x bs.length]) (ds ++ [nd ds x]) (hi0.step hok (by omega)) (hr.step hx hok) (fun y hy => by
          rcases List.mem_append.1 hy with hy | hy
          · exact h12 y hy
          · simp only [List.mem_singleton] at hy; subst hy; exact h12') (by simpa using hd') (by simp; omega) (by omega) (k0 := k0) (k1 := k1)
        simp only [List.length_append, List.length_cons, List.length_nil, Nat.zero_add] at ih
        exact ih
      · rw [if_neg (fun h => h12' h.2)]
        cases hrun : runE (bs ++ [nb bs x bs.length]) (ds ++ [nd ds x]) r with
        | none => rfl
        | some p =>
          obtain ⟨bs', ds'⟩ := p
          obtain ⟨q1, q2, _, q4⟩ := runE_inv r _ _ bs' ds' (hi0.step hok (by omega)) (by simp; omega) hrun
          have hlt' : ds.length < ds'.length := by rw [q1.len, q2]; simp; omega
          have hv := q4 ds.length (by simp)
          rw [getD_append_last] at hv
          have hm' : nd ds x ∈ ds' := by
            rw [← hv]
            simp only [List.getD_eq_getElem?_getD, List.getElem?_eq_getElem hlt', Option.getD_some]
            exact List.getElem_mem hlt'
          simp only
          rw [if_neg (fun h => h12' (h _ hm'))]
    · rw [if_neg hok, if_neg (fun h => hok h.1)]

theorem runE_ran {e : List Nod} : ∀ (r : List Nod) (bs ds bs' ds' : List Int), Ran e bs → e.drop bs.length = r → runE bs ds r = some (bs', ds') → Ran e bs'
  | [], bs, ds, bs', ds', hr, _, h => by
    simp only [runE, Option.some.injEq, Prod.mk.injEq] at h
    obtain ⟨rfl, _⟩ := h
    exact hr
  | x :: r, bs, ds, bs', ds', hr, hd, h => by
    obtain ⟨hx, _, hd'⟩ := getD_drop_cons (d := (0, 0, 0, 0)) hd
    simp only [runE] at h
    split at h
    · rename_i hok
      exact runE_ran r _ _ bs' ds' (hr.step hx hok) (by simpa using hd') h
    · cases h

open Classical in
theorem f191_eq {n : Nat} {e : List Nod} (hN : e.length ≤ 1048576) (hn : 1048577 ≤ n) : f191 n e = some (decide (exprP e)) := by
  unfold f191
  rw [f65_eq, ob_some]
  by_cases h1 : (1 : Int) ≤ (e.length : Int) ∧ (e.length : Int) ≤ 60
  · simp only [h1, and_self, decide_true, Bool.not_true, cond_false]
    have := spec_loop (n := n) hN hn (k0 := fun z => some z) (k1 := fun z => ob (f207 n z (W ((z.length : Int) - 1))) fun r => some (r == 0)) e n [] [] inv0 (fun j hj => by simp at hj) (by simp) rfl (by simp) (by omega)
    simp only [List.length_nil] at this
    refine Eq.trans this ?_
    cases hr : runE [] [] e with
    | none =>
      have : ¬ exprP e := fun ⟨_, _, _, h, _⟩ => by rw [hr] at h; cases h
      simp [this]
    | some p =>
      obtain ⟨bs, ds⟩ := p
      obtain ⟨hi, hl, _, _⟩ := runE_inv e [] [] bs ds inv0 (by simpa using hN) hr
      simp only [List.length_nil, Nat.zero_add] at hl
      have hran := runE_ran e [] [] bs ds (fun j hj => by simp at hj) rfl hr
      simp only
      by_cases h12 : ∀ x ∈ ds, x ≤ 12
      · rw [if_pos h12, W_id (by omega) (by omega), f207_eq hN hn hran (by omega) (by omega), ob_some]
        have et : ((e.length : Int) - 1).toNat = e.length - 1 := by omega
        rw [et]
        by_cases hb : bs.getD (e.length - 1) 0 = 0
        · have : exprP e := ⟨by omega, bs, ds, hr, hb, h12⟩
          rw [hb]
          simp [this]
        · have : ¬ exprP e := fun ⟨_, bs', ds', h, hb', _⟩ => by
            rw [hr] at h
            simp only [Option.some.injEq, Prod.mk.injEq] at h
            obtain ⟨rfl, rfl⟩ := h
            exact hb hb'
          have e1 : (bs.getD (e.length - 1) 0 == 0) = false := by simp only [beq_eq_false_iff_ne, ne_eq]; exact hb
          rw [e1]
          simp [this]
      · have : ¬ exprP e := fun ⟨_, bs', ds', h, _, h'⟩ => by
          rw [hr] at h
          simp only [Option.some.injEq, Prod.mk.injEq] at h
          obtain ⟨rfl, rfl⟩ := h
          exact h12 h'
        rw [if_neg h12]
        simp [this]
  · have : ¬ exprP e := fun ⟨h, _⟩ => h1 (by omega)
    simp only [h1, decide_false, Bool.not_false, cond_true, this]

theorem copy_loop {α : Type} {n : Nat} {e : List Nod} (hN : e.length ≤ 1048576) {k0 : List Nod → Option α} : ∀ (r : List Nod) (m : Nat) (out : List Nod), e.drop out.length = r → out.length + r.length = e.length → r.length < m →
    (∀ j, j < out.length → out.getD j (0, 0, 0, 0) = e.getD j (0, 0, 0, 0)) → f152_L3 n m e (out.length : Int) (out ++ List.replicate r.length (0, 0, 0, 0)) k0 = k0 e
  | [], m + 1, out, hd, hl, hm, ho => by
    rw [f152_L3_s]
    unfold f152_L3B
    simp only [List.length_nil] at hl
    rw [Bool.cond_decide, if_neg (by omega)]
    congr 1
    simp only [List.length_nil, List.replicate_zero, List.append_nil]
    apply List.ext_getElem (by omega)
    intro j h1 h2
    have := ho j h1
    simpa [List.getD_eq_getElem?_getD, h1, h2] using this
  | x :: r, m + 1, out, hd, hl, hm, ho => by
    obtain ⟨hx, hlt, hd'⟩ := getD_drop_cons (d := (0, 0, 0, 0)) hd
    rw [f152_L3_s]
    unfold f152_L3B
    simp only [List.length_cons] at hl hm
    rw [Bool.cond_decide, if_pos (by omega), gd_pos (by simp; omega), W_id (by omega) (by omega)]
    simp only [Int.toNat_natCast, hx]
    unfold f193
    rw [ob_some, gd_pos (by simp; omega), gd_pos (by simp)]
    have es : (out ++ List.replicate (x :: r).length (0, 0, 0, 0)).set out.length x = (out ++ [x]) ++ List.replicate r.length (0, 0, 0, 0) := by
      rw [List.set_append_right _ _ (Nat.le_refl _)]
      simp [List.replicate_succ]
    rw [es]
    have ih := copy_loop hN r m (out ++ [x]) (by simpa using hd') (by simp; omega) (by omega) (fun j hj => by
      simp only [List.length_append, List.length_cons, List.length_nil] at hj
      rcases Nat.lt_or_ge j out.length with h | h
      · rw [getD_append_left h]; exact ho j h
      · obtain rfl : j = out.length := by omega
        rw [getD_append_last, hx]) (n := n) (k0 := k0)
    simp only [List.length_append, List.length_cons, List.length_nil, Nat.zero_add] at ih
    exact ih

theorem f83_eq {n : Nat} {e : List Nod} (hN : e.length ≤ 1048576) (hn : 1048577 ≤ n) : f83 n e = some e := by
  unfold f83 f152
  rw [gd_pos (by simp; omega)]
  have := copy_loop (n := n) hN (k0 := fun z => some z) e n [] rfl (by simp) (by omega) (fun j hj => by simp at hj)
  simp only [List.length_nil, List.nil_append] at this
  rw [Int.toNat_natCast]
  have this : f152_L3 n n e 0 (List.replicate e.length (0, 0, 0, 0)) (fun z => some z) = some e := this
  rw [this]
  rfl

theorem f195_same {n : Nat} {x : Nod} : f195 n x x = some true := by unfold f195; simp

theorem same_loop {α : Type} {n : Nat} {e : List Nod} (hN : e.length ≤ 1048576) {k0 : Bool → Option α} {k1 : Unit → Option α} : ∀ (m k : Nat), k ≤ e.length → e.length - k < m → f154_L4 n m e e (k : Int) k0 k1 = k1 ()
  | m + 1, k, hk, hm => by
    rw [f154_L4_s]
    unfold f154_L4B
    by_cases h : k < e.length
    · rw [Bool.cond_decide, if_pos (by omega), gd_pos (by simp; omega), W_id (by omega) (by omega)]
      simp only [f195_same, ob_some, Bool.not_true, cond_false]
      rw [gd_pos (by simp; omega)]
      exact same_loop hN m (k + 1) (by omega) (by omega)
    · rw [Bool.cond_decide, if_neg (by omega)]

theorem f86_eq {n : Nat} {e : List Nod} (hN : e.length ≤ 1048576) (hn : 1048577 ≤ n) : f86 n e e = some true := by
  unfold f86 f154
  simp only [bne_self_eq_false, cond_false]
  have := same_loop (n := n) hN (k0 := fun z => some z) (k1 := fun _ => some true) n 0 (by omega) (by omega)
  have this : f154_L4 n n e e 0 (fun z => some z) (fun _ => some true) = some true := this
  rw [this]
  rfl

theorem f80_eq {n : Nat} {e : List Nod} (hlen : e.length ≤ 9223372036854775807) : f80 n e 1048576 = some (if e.length ≤ 1048576 then 1048576 - (e.length : Int) else -1) := by
  unfold f80 f149
  rw [W_id (by omega) (by omega)]
  by_cases h : e.length ≤ 1048576
  · rw [Bool.cond_decide, if_neg (by omega), ob_some, Bool.cond_decide, if_neg (by omega), if_pos h]
  · rw [Bool.cond_decide, if_pos (by omega), ob_some, if_neg h]
    rfl

/-- a rational well formed, in numbers -/
theorem rok_nat {x : Rt} (h : rok x = true) : ∃ (s : Bool) (N D : Nat), x = (s, dg N, dg D) ∧ (dg N).length ≤ 40 ∧ (dg D).length ≤ 40 ∧ 0 < D ∧ (s = true → 0 < N) := by
  obtain ⟨s, a, b⟩ := x
  unfold rok at h
  simp only [Bool.and_eq_true, Bool.not_eq_true', decide_eq_true_eq] at h
  obtain ⟨⟨⟨⟨ha, hb⟩, hb0⟩, hs⟩, _⟩ := h
  obtain ⟨ca, la⟩ := nok_Cn ha
  obtain ⟨cb, lb⟩ := nok_Cn hb
  have hb0 : b ≠ [] := by rintro rfl; cases hb0
  refine ⟨s, (vl a).toNat, (vl b).toNat, by rw [dg_vl ca, dg_vl cb], by rw [dg_vl ca]; exact la, by rw [dg_vl cb]; exact lb, ?_, fun e => ?_⟩
  · have := cb.pos hb0; omega
  · have ha0 : a ≠ [] := by rintro rfl; rw [e] at hs; cases hs
    have := ca.pos ha0; omega

theorem dglen0 {m : Nat} : (((dg m).length : Int) == 0) = decide (m = 0) := by
  rw [len0]
  by_cases h : m = 0
  · subst h; rw [dg_zero]; rfl
  · rw [decide_eq_false h, dg_pos h]; rfl

theorem dglenp {m : Nat} : decide (((dg m).length : Int) > 0) = decide (m ≠ 0) := by
  by_cases h : m = 0
  · subst h; rw [dg_zero]; rfl
  · rw [dg_pos h]; simp [h]

/-- the one is greater than the other: by products across -/
def gtP (sa : Bool) (p : Nat) (sb : Bool) (q : Nat) : Bool := decide ((if sb = true then -(q : Int) else q) < (if sa = true then -(p : Int) else p))

def gtR (a b : Rt) : Bool := gtP a.1 ((vl a.2.1).toNat * (vl b.2.2).toNat) b.1 ((vl b.2.1).toNat * (vl a.2.2).toNat)

theorem make146 {n x d : Nat} {s : Bool} (hd : 0 < d) (hx : (dg x).length ≤ 100) (hdl : (dg d).length ≤ 100) (hn : 1048577 ≤ n) : ∃ y, f177 n s (dg x) (dg d) = some y ∧ f135 n y = some (if x = 0 then 0 else if s = true then -1 else 1) := by
  have hg : 0 < Nat.gcd x d := Nat.gcd_pos_of_pos_right x hd
  have hgl : (dg (Nat.gcd x d)).length ≤ 100 := Nat.le_trans (len_mono (Nat.gcd_le_right x hd)) hdl
  have hz : (x / Nat.gcd x d = 0) ↔ x = 0 := by
    constructor
    · intro h
      have := Nat.div_mul_cancel (Nat.gcd_dvd_left x d)
      rw [h, Nat.zero_mul] at this
      exact this.symm
    · intro h; rw [h, Nat.zero_div]
  unfold f177
  rw [s_gcd (L := 100) (by omega) (by omega) hx hdl, ob_some, s_div (L := 100) hg hx hgl (by omega) (by omega), ob_some, s_div (L := 100) hg hdl hgl (by omega) (by omega), ob_some]
  dsimp only
  rw [dglenp]
  generalize hq : x / Nat.gcd x d = q at *
  cases s with
  | true =>
    refine ⟨_, rfl, ?_⟩
    unfold f135 f116
    rw [ob_some]
    dsimp only
    rw [dglen0]
    by_cases h : x = 0
    · rw [decide_eq_true (hz.2 h), if_pos h]; rfl
    · rw [decide_eq_false (fun e => h (hz.1 e)), if_neg h, decide_eq_true (show q ≠ 0 from fun e => h (hz.1 e))]; rfl
  | false =>
    refine ⟨_, rfl, ?_⟩
    unfold f135 f116
    rw [ob_some]
    dsimp only
    rw [dglen0]
    by_cases h : x = 0
    · rw [decide_eq_true (hz.2 h), if_pos h]; rfl
    · rw [decide_eq_false (fun e => h (hz.1 e)), if_neg h]; rfl

theorem gt_same {sa sb sb' : Bool} {p q : Nat} (hp : sa = true → 0 < p) (hq : sb = true → 0 < q) (hs : sb' = (!sb && decide (q ≠ 0))) (he : sa = sb') :
    ((if p + q = 0 then (0 : Int) else if sa = true then -1 else 1) > 0 ↔ (if sb = true then -(q : Int) else q) < (if sa = true then -(p : Int) else p)) ∧ ((if p + q = 0 then (0 : Int) else if sa = true then -1 else 1) < 0 ↔ (if sa = true then -(p : Int) else p) < (if sb = true then -(q : Int) else q)) := by
  refine ⟨?_, ?_⟩
  · cases sa <;> cases sb <;> by_cases hz : q = 0 <;> grind
  · cases sa <;> cases sb <;> by_cases hz : q = 0 <;> grind

theorem gt_ge {sa sb sb' : Bool} {p q : Nat} (hp : sa = true → 0 < p) (hq : sb = true → 0 < q) (hs : sb' = (!sb && decide (q ≠ 0))) (he : sa ≠ sb') (hle : q ≤ p) :
    ((if p - q = 0 then (0 : Int) else if sa = true then -1 else 1) > 0 ↔ (if sb = true then -(q : Int) else q) < (if sa = true then -(p : Int) else p)) ∧ ((if p - q = 0 then (0 : Int) else if sa = true then -1 else 1) < 0 ↔ (if sa = true then -(p : Int) else p) < (if sb = true then -(q : Int) else q)) := by
  refine ⟨?_, ?_⟩
  · by_cases h : p - q = 0
    · rw [if_pos h]
      cases sa <;> cases sb <;> by_cases hz : q = 0 <;> grind
    · rw [if_neg h]
      cases sa <;> cases sb <;> by_cases hz : q = 0 <;> grind
  · by_cases h : p - q = 0
    · rw [if_pos h]
      cases sa <;> cases sb <;> by_cases hz : q = 0 <;> grind
    · rw [if_neg h]
      cases sa <;> cases sb <;> by_cases hz : q = 0 <;> grind

theorem gt_lt {sa sb sb' : Bool} {p q : Nat} (hp : sa = true → 0 < p) (hq : sb = true → 0 < q) (hs : sb' = (!sb && decide (q ≠ 0))) (he : sa ≠ sb') (hle : ¬ q ≤ p) :
    ((if q - p = 0 then (0 : Int) else if sb' = true then -1 else 1) > 0 ↔ (if sb = true then -(q : Int) else q) < (if sa = true then -(p : Int) else p)) ∧ ((if q - p = 0 then (0 : Int) else if sb' = true then -1 else 1) < 0 ↔ (if sa = true then -(p : Int) else p) < (if sb = true then -(q : Int) else q)) := by
  refine ⟨?_, ?_⟩
  · rw [if_neg (by omega)]
    cases sa <;> cases sb <;> by_cases hz : q = 0 <;> grind
  · rw [if_neg (by omega)]
    cases sa <;> cases sb <;> by_cases hz : q = 0 <;> grind

theorem f134_nat {n Na Da Nb Db : Nat} {sa sb : Bool} (a1 : (dg Na).length ≤ 40) (a2 : (dg Da).length ≤ 40) (a3 : 0 < Da) (a4 : sa = true → 0 < Na) (b1 : (dg Nb).length ≤ 40) (b2 : (dg Db).length ≤ 40) (b3 : 0 < Db) (b4 : sb = true → 0 < Nb) (hn : 1048577 ≤ n) :
    ∃ r, f134 n (sa, dg Na, dg Da) (sb, dg Nb, dg Db) = some r ∧ decide (r > 0) = gtP sa (Na * Db) sb (Nb * Da) ∧ decide (r < 0) = gtP sb (Nb * Da) sa (Na * Db) := by
  have l1 := len_mul Na Db
  have l2 := len_mul Nb Da
  have l3 := len_mul Da Db
  have l4 := len_add (Na * Db) (Nb * Da)
  have hd : 0 < Da * Db := Nat.mul_pos a3 b3
  have hp : sa = true → 0 < Na * Db := fun h => Nat.mul_pos (a4 h) b3
  have hq : sb = true → 0 < Nb * Da := fun h => Nat.mul_pos (b4 h) a3
  have hq0 : Nb ≠ 0 ↔ Nb * Da ≠ 0 := by
    constructor
    · intro h; have := Nat.mul_pos (Nat.pos_of_ne_zero h) a3; omega
    · rintro h rfl; rw [Nat.zero_mul] at h; exact h rfl
  have key : ∀ sb' : Bool, sb' = (!sb && decide (Nb ≠ 0)) → ∃ r, (ob (ob (f146 n (sa, dg Na, dg Da) (sb', dg Nb, dg Db)) fun r_2 => some r_2) fun r_1 => ob (f135 n r_1) fun r_2 => some r_2) = some r ∧ decide (r > 0) = gtP sa (Na * Db) sb (Nb * Da) ∧ decide (r < 0) = gtP sb (Nb * Da) sa (Na * Db) := by
    intro sb' hs
    have hsb : sb' = (!sb && decide (Nb * Da ≠ 0)) := by
      rw [hs]; congr 1; exact decide_eq_decide.2 hq0
    unfold f146
    dsimp only
    rw [s_mul (by omega) (by omega), ob_some, s_mul (by omega) (by omega), ob_some, s_mul (by omega) (by omega), ob_some]
    generalize hpe : Na * Db = p at *
    generalize hqe : Nb * Da = q at *
    generalize Da * Db = d at *
    have lp : (dg (p - q)).length ≤ 100 := Nat.le_trans (len_mono (Nat.sub_le p q)) (by omega)
    have lq : (dg (q - p)).length ≤ 100 := Nat.le_trans (len_mono (Nat.sub_le q p)) (by omega)
    unfold gtP
    rw [Bool.cond_eq_ite]
    by_cases he : sa = sb'
    · rw [if_pos (by rw [he]; simp), s_add (by omega) (by omega) (by omega), ob_some]
      obtain ⟨y, e1, e2⟩ := make146 (n := n) (x := p + q) (d := d) (s := sa) hd (by omega) (by omega) hn
      rw [e1, ob_some, ob_some, ob_some, e2, ob_some]
      exact ⟨_, rfl, decide_eq_decide.2 (gt_same hp hq hsb he).1, decide_eq_decide.2 (gt_same hp hq hsb he).2⟩
    · rw [if_neg (by simpa using he), s_cmp (by omega) (by omega), ob_some, Bool.cond_decide]
      by_cases hle : q ≤ p
      · rw [if_pos (by
          rcases Nat.lt_or_eq_of_le hle with h | h
          · rw [cm_gt (by omega)]; omega
          · rw [cm_eq (by omega)]; omega), s_sub (by omega) (by omega) hle, ob_some]
        obtain ⟨y, e1, e2⟩ := make146 (n := n) (x := p - q) (d := d) (s := sa) hd lp (by omega) hn
        rw [e1, ob_some, ob_some, ob_some, e2, ob_some]
        exact ⟨_, rfl, decide_eq_decide.2 (gt_ge hp hq hsb he hle).1, decide_eq_decide.2 (gt_ge hp hq hsb he hle).2⟩
      · rw [if_neg (by rw [cm_lt (by omega)]; omega), s_sub (by omega) (by omega) (by omega), ob_some]
        obtain ⟨y, e1, e2⟩ := make146 (n := n) (x := q - p) (d := d) (s := sb') hd lq (by omega) hn
        rw [e1, ob_some, ob_some, ob_some, e2, ob_some]
        exact ⟨_, rfl, decide_eq_decide.2 (gt_lt hp hq hsb he hle).1, decide_eq_decide.2 (gt_lt hp hq hsb he hle).2⟩
  unfold f134 f119 f138
  dsimp only
  rw [dglenp]
  cases sb with
  | true =>
    have := key false rfl
    simp only [Bool.not_true, cond_false, ob_some]
    exact this
  | false =>
    have := key (decide (Nb ≠ 0)) (by simp)
    simp only [Bool.not_false, cond_true, ob_some]
    exact this

theorem sign148 {n N : Nat} {D : List Int} {s : Bool} : f141 n (s, dg N, D) = some (if N = 0 then 0 else if s = true then -1 else 1) := by
  unfold f141
  rw [show f74 n (s, dg N, D) = some (((dg N).length : Int) == 0) from rfl, ob_some, dglen0]
  by_cases h : N = 0
  · rw [decide_eq_true h, if_pos h]; rfl
  · rw [decide_eq_false h, if_neg h]
    cases s <;> rfl

theorem cmp86_sign {sa sb : Bool} {Na Nb p q : Nat} (hp : Na = 0 ↔ p = 0) (hq : Nb = 0 ↔ q = 0) (ha : sa = true → 0 < p) (hb : sb = true → 0 < q)
    (he : (if Na = 0 then (0 : Int) else if sa = true then -1 else 1) ≠ (if Nb = 0 then (0 : Int) else if sb = true then -1 else 1)) :
    (((if Na = 0 then (0 : Int) else if sa = true then -1 else 1) - (if Nb = 0 then (0 : Int) else if sb = true then -1 else 1)) > 0 ↔ (if sb = true then -(q : Int) else q) < (if sa = true then -(p : Int) else p)) ∧ (((if Na = 0 then (0 : Int) else if sa = true then -1 else 1) - (if Nb = 0 then (0 : Int) else if sb = true then -1 else 1)) < 0 ↔ (if sa = true then -(p : Int) else p) < (if sb = true then -(q : Int) else q)) := by
  refine ⟨?_, ?_⟩
  · by_cases h1 : Na = 0 <;> by_cases h2 : Nb = 0 <;> cases sa <;> cases sb <;> grind
  · by_cases h1 : Na = 0 <;> by_cases h2 : Nb = 0 <;> cases sa <;> cases sb <;> grind

theorem cmp86_cm {sa sb : Bool} {Na Nb p q : Nat} (hp : Na = 0 ↔ p = 0) (hq : Nb = 0 ↔ q = 0) (ha : sa = true → 0 < p) (hb : sb = true → 0 < q)
    (he : (if Na = 0 then (0 : Int) else if sa = true then -1 else 1) = (if Nb = 0 then (0 : Int) else if sb = true then -1 else 1)) :
    ((if sa = true then 0 - cm (p : Int) (q : Int) else cm (p : Int) (q : Int)) > 0 ↔ (if sb = true then -(q : Int) else q) < (if sa = true then -(p : Int) else p)) ∧ ((if sa = true then 0 - cm (p : Int) (q : Int) else cm (p : Int) (q : Int)) < 0 ↔ (if sa = true then -(p : Int) else p) < (if sb = true then -(q : Int) else q)) := by
  refine ⟨?_, ?_⟩
  · rcases Int.lt_trichotomy (p : Int) (q : Int) with h | h | h
    · rw [cm_lt h]
      by_cases h1 : Na = 0 <;> by_cases h2 : Nb = 0 <;> cases sa <;> cases sb <;> grind
    · rw [cm_eq h]
      by_cases h1 : Na = 0 <;> by_cases h2 : Nb = 0 <;> cases sa <;> cases sb <;> grind
    · rw [cm_gt h]
      by_cases h1 : Na = 0 <;> by_cases h2 : Nb = 0 <;> cases sa <;> cases sb <;> grind
  · rcases Int.lt_trichotomy (p : Int) (q : Int) with h | h | h
    · rw [cm_lt h]
      by_cases h1 : Na = 0 <;> by_cases h2 : Nb = 0 <;> cases sa <;> cases sb <;> grind
    · rw [cm_eq h]
      by_cases h1 : Na = 0 <;> by_cases h2 : Nb = 0 <;> cases sa <;> cases sb <;> grind
    · rw [cm_gt h]
      by_cases h1 : Na = 0 <;> by_cases h2 : Nb = 0 <;> cases sa <;> cases sb <;> grind

theorem cm_rng (x y : Int) : -1 ≤ cm x y ∧ cm x y ≤ 1 := by
  unfold cm
  split
  · omega
  · split <;> omega

theorem f181_nat {n Na Da Nb Db : Nat} {sa sb : Bool} (a1 : (dg Na).length ≤ 40) (a2 : (dg Da).length ≤ 40) (a3 : 0 < Da) (a4 : sa = true → 0 < Na) (b1 : (dg Nb).length ≤ 40) (b2 : (dg Db).length ≤ 40) (b3 : 0 < Db) (b4 : sb = true → 0 < Nb) (hn : 1048577 ≤ n) :
    ∃ r, f181 n (sa, dg Na, dg Da) (sb, dg Nb, dg Db) = some r ∧ decide (r > 0) = gtP sa (Na * Db) sb (Nb * Da) ∧ decide (r < 0) = gtP sb (Nb * Da) sa (Na * Db) := by
  have l1 := len_mul Na Db
  have l2 := len_mul Nb Da
  have hp : sa = true → 0 < Na * Db := fun h => Nat.mul_pos (a4 h) b3
  have hq : sb = true → 0 < Nb * Da := fun h => Nat.mul_pos (b4 h) a3
  have hp0 : Na = 0 ↔ Na * Db = 0 := by
    constructor
    · rintro rfl; rw [Nat.zero_mul]
    · intro h
      rcases Nat.mul_eq_zero.1 h with h | h
      · exact h
      · omega
  have hq0 : Nb = 0 ↔ Nb * Da = 0 := by
    constructor
    · rintro rfl; rw [Nat.zero_mul]
    · intro h
      rcases Nat.mul_eq_zero.1 h with h | h
      · exact h
      · omega
  unfold f181
  rw [sign148, ob_some, sign148, ob_some]
  dsimp only
  rw [Bool.cond_eq_ite]
  by_cases he : (if Na = 0 then (0 : Int) else if sa = true then -1 else 1) = (if Nb = 0 then (0 : Int) else if sb = true then -1 else 1)
  · rw [if_neg (by rw [he]; simp), i_mul (by omega) (by omega), ob_some, i_mul (by omega) (by omega), ob_some, i_cmp (by omega), ob_some]
    have hr := cm_rng ((Na * Db : Nat) : Int) ((Nb * Da : Nat) : Int)
    rw [W_id (x := 0 - cm ((Na * Db : Nat) : Int) ((Nb * Da : Nat) : Int)) (by omega) (by omega)]
    refine ⟨if sa = true then 0 - cm ((Na * Db : Nat) : Int) ((Nb * Da : Nat) : Int) else cm ((Na * Db : Nat) : Int) ((Nb * Da : Nat) : Int), by cases sa <;> rfl, ?_⟩
    exact ⟨decide_eq_decide.2 (cmp86_cm hp0 hq0 hp hq he).1, decide_eq_decide.2 (cmp86_cm hp0 hq0 hp hq he).2⟩
  · rw [if_pos (by rw [bne_iff_ne]; exact he), ob_some, ob_some]
    have h1 : -1 ≤ (if Na = 0 then (0 : Int) else if sa = true then -1 else 1) ∧ (if Na = 0 then (0 : Int) else if sa = true then -1 else 1) ≤ 1 := by
      split
      · omega
      · split <;> omega
    have h2 : -1 ≤ (if Nb = 0 then (0 : Int) else if sb = true then -1 else 1) ∧ (if Nb = 0 then (0 : Int) else if sb = true then -1 else 1) ≤ 1 := by
      split
      · omega
      · split <;> omega
    rw [W_id (by omega) (by omega)]
    exact ⟨_, rfl, decide_eq_decide.2 (cmp86_sign hp0 hq0 hp hq he).1, decide_eq_decide.2 (cmp86_sign hp0 hq0 hp hq he).2⟩

theorem gtR_nat {sa sb : Bool} {Na Da Nb Db : Nat} : gtR (sa, dg Na, dg Da) (sb, dg Nb, dg Db) = gtP sa (Na * Db) sb (Nb * Da) := by
  unfold gtR
  dsimp only
  rw [vl_dg, vl_dg, vl_dg, vl_dg]
  rfl

theorem f134_eq {n : Nat} {a b : Rt} (ha : rok a = true) (hb : rok b = true) (hn : 1048577 ≤ n) : ∃ r, f134 n a b = some r ∧ decide (r > 0) = gtR a b ∧ decide (r < 0) = gtR b a := by
  obtain ⟨sa, Na, Da, rfl, a1, a2, a3, a4⟩ := rok_nat ha
  obtain ⟨sb, Nb, Db, rfl, b1, b2, b3, b4⟩ := rok_nat hb
  rw [gtR_nat, gtR_nat]
  exact f134_nat a1 a2 a3 a4 b1 b2 b3 b4 hn

theorem f181_eq {n : Nat} {a b : Rt} (ha : rok a = true) (hb : rok b = true) (hn : 1048577 ≤ n) : ∃ r, f181 n a b = some r ∧ decide (r > 0) = gtR a b ∧ decide (r < 0) = gtR b a := by
  obtain ⟨sa, Na, Da, rfl, a1, a2, a3, a4⟩ := rok_nat ha
  obtain ⟨sb, Nb, Db, rfl, b1, b2, b3, b4⟩ := rok_nat hb
  rw [gtR_nat, gtR_nat]
  exact f181_nat a1 a2 a3 a4 b1 b2 b3 b4 hn

theorem rok_get {l : List Rt} (h : vok l = true) {i : Nat} (hi : i < l.length) : rok (l.getD i rt0) = true := by
  unfold vok at h
  rw [Bool.and_eq_true, List.all_eq_true] at h
  refine h.2 _ ?_
  rw [List.getD_eq_getElem?_getD, List.getElem?_eq_getElem hi]
  exact List.getElem_mem hi

theorem vok_len {l : List Rt} (h : vok l = true) : l.length ≤ 4 := by
  unfold vok at h
  rw [Bool.and_eq_true, decide_eq_true_eq] at h
  exact h.1.2

theorem f209_loop {n : Nat} {a b : List Rt} (ha : vok a = true) (hb : vok b = true) (hab : a.length = b.length) (hn : 1048577 ≤ n) : ∀ (m i : Nat), i ≤ a.length → a.length < i + m →
    ∃ r, f209_L2 n m b a (a.length : Int) (i : Int) (fun z => some z) (fun (_ : Unit) => some true) = some r ∧ (r = true ↔ ∀ j, i ≤ j → j < a.length → gtR (a.getD j rt0) (b.getD j rt0) = false)
  | 0, i, hi, hm => by omega
  | m + 1, i, hi, hm => by
    rw [f209_L2_s]
    unfold f209_L2B
    dsimp only
    have hla := vok_len ha
    rw [Bool.cond_decide]
    by_cases h : i < a.length
    · rw [if_pos (by omega), gd_pos (by simp; try omega), gd_pos (by simp; try omega)]
      simp only [Int.toNat_natCast]
      obtain ⟨r, h1, h2, _⟩ := f181_eq (n := n) (rok_get ha h) (rok_get hb (i := i) (by omega)) hn
      rw [h1, ob_some, h2]
      cases hg : gtR (a.getD i rt0) (b.getD i rt0) with
      | true =>
        refine ⟨false, rfl, ?_⟩
        constructor
        · intro e; cases e
        · intro e; rw [e i (Nat.le_refl _) h] at hg; cases hg
      | false =>
        rw [W_id (x := (i : Int) + 1) (by omega) (by omega)]
        obtain ⟨r', q1, q2⟩ := f209_loop ha hb hab hn m (i + 1) (by omega) (by omega)
        refine ⟨r', q1, q2.trans ⟨fun e j hj hj' => ?_, fun e j hj hj' => e j (by omega) hj'⟩⟩
        rcases Nat.eq_or_lt_of_le hj with rfl | hj
        · exact hg
        · exact e j hj hj'
    · rw [if_neg (by omega)]
      exact ⟨true, rfl, fun _ j hj hj' => by omega, fun _ => rfl⟩

theorem f209_eq {n : Nat} {a b : List Rt} (ha : vok a = true) (hb : vok b = true) (hab : a.length = b.length) (hn : 1048577 ≤ n) :
    ∃ r, f209 n a b = some r ∧ (r = true ↔ ∀ j, j < a.length → gtR (a.getD j rt0) (b.getD j rt0) = false) := by
  unfold f209
  have hla := vok_len ha
  obtain ⟨r, h1, h2⟩ := f209_loop ha hb hab hn n 0 (by omega) (by omega)
  exact ⟨r, h1, h2.trans ⟨fun e j hj => e j (Nat.zero_le _) hj, fun e j _ hj => e j hj⟩⟩

theorem f150_loop {n : Nat} {x lo hi : List Rt} (hx : vok x = true) (hlo : vok lo = true) (hhi : vok hi = true) (h1 : lo.length = x.length) (h2 : lo.length = hi.length) (hn : 1048577 ≤ n) (c0 : List Nod) (c4 : Int) (c5 : Bool) (c6 c7 : List Int) (c8 c9 : Int) : ∀ (m i : Nat), i ≤ lo.length → lo.length < i + m →
    ∃ r, f150_L8 n m (i : Int) c0 x lo hi c4 c5 c6 c7 c8 c9 (fun z => some z) (fun (_ : Unit) => some true) = some r ∧ (r = true ↔ ∀ j, i ≤ j → j < lo.length → gtR (lo.getD j rt0) (x.getD j rt0) = false ∧ gtR (x.getD j rt0) (hi.getD j rt0) = false)
  | 0, i, hi', hm => by omega
  | m + 1, i, hi', hm => by
    rw [f150_L8_s]
    unfold f150_L8B
    dsimp only
    have hla := vok_len hlo
    rw [Bool.cond_decide]
    by_cases h : i < lo.length
    · rw [if_pos (by omega), gd_pos (by simp; try omega), gd_pos (by simp; try omega)]
      simp only [Int.toNat_natCast]
      obtain ⟨r, e1, e2, _⟩ := f134_eq (n := n) (rok_get hlo h) (rok_get hx (i := i) (by omega)) hn
      rw [e1, ob_some, e2]
      cases hg : gtR (lo.getD i rt0) (x.getD i rt0) with
      | true =>
        refine ⟨false, rfl, ?_⟩
        constructor
        · intro e; cases e
        · intro e; rw [(e i (Nat.le_refl _) h).1] at hg; cases hg
      | false =>
        rw [cond_false, gd_pos (by simp; try omega), gd_pos (by simp; try omega)]
        obtain ⟨r, e1, e2, _⟩ := f134_eq (n := n) (rok_get hx (i := i) (by omega)) (rok_get hhi (i := i) (by omega)) hn
        rw [e1, ob_some, e2]
        cases hg2 : gtR (x.getD i rt0) (hi.getD i rt0) with
        | true =>
          refine ⟨false, rfl, ?_⟩
          constructor
          · intro e; cases e
          · intro e; rw [(e i (Nat.le_refl _) h).2] at hg2; cases hg2
        | false =>
          rw [W_id (x := (i : Int) + 1) (by omega) (by omega)]
          obtain ⟨r', q1, q2⟩ := f150_loop hx hlo hhi h1 h2 hn c0 c4 c5 c6 c7 c8 c9 m (i + 1) (by omega) (by omega)
          refine ⟨r', q1, q2.trans ⟨fun e j hj hj' => ?_, fun e j hj hj' => e j (by omega) hj'⟩⟩
          rcases Nat.eq_or_lt_of_le hj with rfl | hj
          · exact ⟨hg, hg2⟩
          · exact e j hj hj'
    · rw [if_neg (by omega)]
      exact ⟨true, rfl, fun _ j hj hj' => by omega, fun _ => rfl⟩

def dimF (s : Int) (l : List Nod) : Int := l.foldl (fun s x => if x.1 = 2 then max s (W (x.2.2.2 + 1)) else s) s

abbrev nd0 : Nod := (0, 0, 0, 0)

theorem dim_drop {l : List Nod} {i : Nat} (h : i < l.length) (s : Int) : dimF s (l.drop i) = dimF (if (l.getD i nd0).1 = 2 then max s (W ((l.getD i nd0).2.2.2 + 1)) else s) (l.drop (i + 1)) := by
  rw [List.drop_eq_getElem_cons h, List.getD_eq_getElem?_getD, List.getElem?_eq_getElem h]; rfl

theorem f192_loop {α : Type} {n : Nat} {l : List Nod} (hl : l.length ≤ 1048576) {k0 : Int → Option α} : ∀ (m i : Nat) (s : Int), i ≤ l.length → l.length < i + m → f192_L3 n m s (i : Int) l k0 = k0 (dimF s (l.drop i))
  | 0, i, s, hi, hm => by omega
  | m + 1, i, s, hi, hm => by
    rw [f192_L3_s]
    unfold f192_L3B
    dsimp only
    rw [Bool.cond_decide]
    by_cases h : i < l.length
    · rw [if_pos (by omega), gd_pos (by simp; try omega), gd_pos (by simp; try omega), dim_drop h]
      simp only [Int.toNat_natCast]
      rw [Bool.cond_eq_ite, W_id (x := (i : Int) + 1) (by omega) (by omega)]
      by_cases hv : (l.getD i nd0).1 = 2
      · rw [if_pos (by rw [beq_iff_eq]; exact hv), if_pos hv]
        exact f192_loop hl m (i + 1) _ (by omega) (by omega)
      · rw [if_neg (by rw [beq_iff_eq]; exact hv), if_neg hv]
        exact f192_loop hl m (i + 1) _ (by omega) (by omega)
    · rw [if_neg (by omega), List.drop_of_length_le (by omega)]
      rfl

theorem f165_loop {α : Type} {n : Nat} {l : List Nod} (hl : l.length ≤ 1048576) {k0 : Int → Option α} : ∀ (m i : Nat) (s : Int), i ≤ l.length → l.length < i + m → f165_L3 n m s l (l.length : Int) (i : Int) k0 = k0 (dimF s (l.drop i))
  | 0, i, s, hi, hm => by omega
  | m + 1, i, s, hi, hm => by
    rw [f165_L3_s]
    unfold f165_L3B
    dsimp only
    rw [Bool.cond_decide]
    by_cases h : i < l.length
    · rw [if_pos (by omega), gd_pos (by simp; try omega), dim_drop h]
      simp only [Int.toNat_natCast]
      rw [Bool.cond_eq_ite, W_id (x := (i : Int) + 1) (by omega) (by omega)]
      by_cases hv : (l.getD i nd0).1 = 2
      · rw [if_pos (by rw [beq_iff_eq]; exact hv), if_pos hv]
        exact f165_loop hl m (i + 1) _ (by omega) (by omega)
      · rw [if_neg (by rw [beq_iff_eq]; exact hv), if_neg hv]
        exact f165_loop hl m (i + 1) _ (by omega) (by omega)
    · rw [if_neg (by omega), List.drop_of_length_le (by omega)]
      rfl

theorem f192_eq {n : Nat} {l : List Nod} (hl : l.length ≤ 1048576) (hn : 1048577 ≤ n) : f192 n l = some (dimF 0 l) := by
  unfold f192
  have := f192_loop (n := n) hl (k0 := fun z_3 => some z_3) n 0 0 (by omega) (by omega)
  simpa using this

theorem f165_eq {n : Nat} {l : List Nod} (hl : l.length ≤ 1048576) (hn : 1048577 ≤ n) : f165 n l = some (dimF 0 l) := by
  unfold f165
  have := f165_loop (n := n) hl (k0 := fun z_2 => some z_2) n 0 0 (by omega) (by omega)
  simpa using this

abbrev Prb := List Nod × List Rt × List Rt × List Rt × Int × Rt × Int × Int

theorem sign120 {n : Nat} {x : Rt} (hx : rok x = true) : ∃ r, f135 n x = some r ∧ decide (r < 0) = x.1 := by
  obtain ⟨s, N, D, rfl, a1, a2, a3, a4⟩ := rok_nat hx
  unfold f135 f116
  rw [ob_some]
  dsimp only
  rw [dglen0]
  by_cases h : N = 0
  · rw [decide_eq_true h]
    refine ⟨0, rfl, ?_⟩
    cases s with
    | true => have := a4 rfl; omega
    | false => rfl
  · rw [decide_eq_false h]
    cases s with
    | true => exact ⟨-1, rfl, rfl⟩
    | false => exact ⟨1, rfl, rfl⟩

/-- both sides judge a problem alike -/
theorem prob_same {n : Nat} {p : Prb} (he : p.1.length ≤ 1048576) (hn : 1048577 ≤ n) : ∃ r, f150 n p = some r ∧ f194 n p = some r ∧ (r = true → vok p.2.1 = true ∧ ((p.2.2.1.length = 0 ∧ p.2.2.2.1.length = 0) ∨ vec3 p.2.1 p.2.2.1 p.2.2.2.1 = true)) := by
  unfold f150 f194
  obtain ⟨d0, x1, x2⟩ : ∃ d, f191 n p.1 = some d ∧ f198 n p.1 = some d := ⟨_, f191_eq he hn, f198_eq he hn⟩
  rw [x1, ob_some, x2, ob_some]
  cases d0 with
  | false => exact ⟨false, rfl, rfl, nofun⟩
  | true =>
  simp only [Bool.not_true, cond_false, f114_eq hn, f109_eq hn, ob_some]
  cases hx : vok p.2.1 with
  | false => exact ⟨false, rfl, rfl, nofun⟩
  | true =>
  simp only [Bool.not_true, cond_false, f192_eq he hn, f165_eq he hn, ob_some]
  cases hd : decide (dimF 0 p.1 > (p.2.1.length : Int)) with
  | true => exact ⟨false, rfl, rfl, nofun⟩
  | false =>
  simp only [cond_false, f65_eq, f70_eq, ob_some]
  cases decide (1 ≤ p.2.2.2.2.1 ∧ p.2.2.2.2.1 ≤ 4) with
  | false => exact ⟨false, rfl, rfl, nofun⟩
  | true =>
  simp only [Bool.not_true, cond_false, f148_eq hn, f163_eq hn, ob_some]
  cases hr : rok p.2.2.2.2.2.1 with
  | false => exact ⟨false, rfl, rfl, nofun⟩
  | true =>
  obtain ⟨r, s1, s2⟩ := sign120 (n := n) hr
  simp only [Bool.not_true, cond_false, s1, ob_some, s2]
  cases p.2.2.2.2.2.1.1 with
  | true => exact ⟨false, rfl, rfl, nofun⟩
  | false =>
  simp only [cond_false]
  cases decide (0 ≤ p.2.2.2.2.2.2.1 ∧ p.2.2.2.2.2.2.1 ≤ 6) with
  | false => exact ⟨false, rfl, rfl, nofun⟩
  | true =>
  simp only [Bool.not_true, cond_false]
  cases decide (0 ≤ p.2.2.2.2.2.2.2 ∧ p.2.2.2.2.2.2.2 ≤ 30) with
  | false => exact ⟨false, rfl, rfl, nofun⟩
  | true =>
  simp only [Bool.not_true, cond_false]
  obtain ⟨v, v1, v2⟩ := f93_three (n := n) (a := p.2.1) (b := p.2.2.1) (c := p.2.2.2.1) hn
  unfold f155
  simp only [v1, v2, ob_some]
  by_cases hlh : p.2.2.1.length = p.2.2.2.1.length
  · rw [hlh, bne_self_eq_false]
    by_cases h0 : p.2.2.2.1.length = 0
    · rw [h0]
      exact ⟨true, rfl, rfl, fun _ => ⟨trivial, .inl ⟨rfl, rfl⟩⟩⟩
    · rw [show decide ((p.2.2.2.1.length : Int) > 0) = true by rw [decide_eq_true_eq]; omega, show ((p.2.2.2.1.length : Int) == 0) = false by rw [beq_eq_false_iff_ne]; omega]
      simp only [Bool.not_true, cond_false]
      unfold vec3
      rw [hx, hlh]
      by_cases hlx : p.2.2.2.1.length = p.2.1.length
      · rw [hlx, bne_self_eq_false, BEq.rfl]
        simp only [cond_false, Bool.true_and, Bool.and_true]
        cases hlo : vok p.2.2.1 with
        | false => exact ⟨false, rfl, rfl, nofun⟩
        | true =>
        cases hhi : vok p.2.2.2.1 with
        | false => exact ⟨false, rfl, rfl, nofun⟩
        | true =>
        have hl4 := vok_len hx
        obtain ⟨r1, t1, t2⟩ := f150_loop hx hlo hhi (by omega) hlh hn p.1 p.2.2.2.2.1 false p.2.2.2.2.2.1.2.1 p.2.2.2.2.2.1.2.2 p.2.2.2.2.2.2.1 p.2.2.2.2.2.2.2 n 0 (by omega) (by omega)
        refine ⟨r1, t1, ?_⟩
        obtain ⟨r2, u1, u2⟩ := f209_eq (n := n) hlo hx (by omega) hn
        obtain ⟨r3, w1, w2⟩ := f209_eq (n := n) hx hhi (by omega) hn
        simp only [u1, w1, ob_some]
        have e : r1 = (r2 && r3) := by
          rw [Bool.eq_iff_iff, t2, Bool.and_eq_true, u2, w2]
          constructor
          · intro h
            exact ⟨fun j hj => (h j (Nat.zero_le _) hj).1, fun j hj => (h j (Nat.zero_le _) (by omega)).2⟩
          · rintro ⟨h, h'⟩ j _ hj
            exact ⟨h j hj, h' j (by omega)⟩
        refine ⟨by rw [e]; cases r2 <;> rfl, fun _ => ⟨trivial, .inr rfl⟩⟩
      · rw [show ((p.2.2.2.1.length : Int) != (p.2.1.length : Int)) = true by rw [bne_iff_ne]; omega, show (p.2.2.2.1.length == p.2.1.length) = false by rw [beq_eq_false_iff_ne]; exact hlx]
        simp only [Bool.and_false]
        exact ⟨false, rfl, rfl, nofun⟩
  · have hv : vec3 p.2.1 p.2.2.1 p.2.2.2.1 = false := by
      unfold vec3
      by_cases h1 : p.2.2.1.length = p.2.1.length
      · rw [show (p.2.2.2.1.length == p.2.1.length) = false by rw [beq_eq_false_iff_ne]; omega, Bool.and_false]
      · rw [show (p.2.2.1.length == p.2.1.length) = false by rw [beq_eq_false_iff_ne]; exact h1, Bool.and_false, Bool.false_and]
    rw [hv, show ((p.2.2.1.length : Int) != (p.2.2.2.1.length : Int)) = true by rw [bne_iff_ne]; omega]
    refine ⟨false, rfl, ?_, nofun⟩
    by_cases h1 : p.2.2.1.length = 0
    · rw [h1, show ((p.2.2.2.1.length : Int) == 0) = false by rw [beq_eq_false_iff_ne]; omega]
      rfl
    · rw [show ((p.2.2.1.length : Int) == 0) = false by rw [beq_eq_false_iff_ne]; omega]
      rfl

theorem f80_eq' {n : Nat} {e : List Nod} (hl : e.length ≤ 9223372036854775807) : ∃ r, f80 n e 1048576 = some r ∧ (r = -1 ∨ ((0 ≤ r ∧ r ≤ 1048576) ∧ e.length ≤ 1048576)) := by
  refine ⟨_, f80_eq hl, ?_⟩
  by_cases h : e.length ≤ 1048576
  · rw [if_pos h]; exact .inr ⟨by omega, h⟩
  · rw [if_neg h]; exact .inl rfl

theorem f28_eq {n : Nat} {s : Prb} (h0 : s.1.length ≤ 9223372036854775807) (h1 : BdL s.2.1) (h2 : BdL s.2.2.1) (h3 : BdL s.2.2.2.1) (h4 : Bd s.2.2.2.2.2.1) (hn : 1048577 ≤ n) : ∃ r, f28 n s 1048576 = some r ∧ (r = -1 ∨ ((0 ≤ r ∧ r ≤ 1048576) ∧ s.1.length ≤ 1048576 ∧ SmL s.2.1 ∧ SmL s.2.2.1 ∧ SmL s.2.2.2.1 ∧ Sm s.2.2.2.2.2.1)) := by
  unfold f28
  obtain ⟨r0, e0, c0⟩ := f80_eq' (n := n) h0
  rw [e0, ob_some]
  rcases c0 with rfl | ⟨b0, c0⟩
  · exact ⟨-1, rfl, .inl rfl⟩
  obtain ⟨r1, e1, c1⟩ := f18_eq' b0 h1 hn
  rw [Bool.cond_decide, if_neg (by omega), e1, ob_some]
  rcases c1 with rfl | ⟨b1, c1⟩
  · exact ⟨-1, rfl, .inl rfl⟩
  obtain ⟨r2, e2, c2⟩ := f18_eq' b1 h2 hn
  rw [Bool.cond_decide, if_neg (by omega), e2, ob_some]
  rcases c2 with rfl | ⟨b2, c2⟩
  · exact ⟨-1, rfl, .inl rfl⟩
  obtain ⟨r3, e3, c3⟩ := f18_eq' b2 h3 hn
  rw [Bool.cond_decide, if_neg (by omega), e3, ob_some]
  rcases c3 with rfl | ⟨b3, c3⟩
  · exact ⟨-1, rfl, .inl rfl⟩
  obtain ⟨r4, e4, c4⟩ := f60_eq (n := n) b3 h4
  rw [Bool.cond_decide, if_neg (by omega), e4, ob_some]
  rcases c4 with rfl | ⟨b4, b5, c4⟩
  · exact ⟨-1, rfl, .inl rfl⟩
  rw [Bool.cond_decide, if_neg (by omega)]
  exact ⟨r4, rfl, .inr ⟨⟨b4, by omega⟩, c0, c1, c2, c3, c4⟩⟩

theorem f30_eq {n : Nat} {s : Prb} (c0 : s.1.length ≤ 1048576) (c1 : SmL s.2.1) (c2 : SmL s.2.2.1) (c3 : SmL s.2.2.2.1) (c4 : Sm s.2.2.2.2.2.1) (hn : 1048577 ≤ n) : f30 n s = some s := by
  unfold f30
  rw [f83_eq c0 hn, ob_some, f19_eq c1.1 c1.2 hn, ob_some, f19_eq c2.1 c2.2 hn, ob_some, f19_eq c3.1 c3.2 hn, ob_some, f61_eq c4 hn, ob_some]

theorem f32_eq {n : Nat} {s : Prb} (c0 : s.1.length ≤ 1048576) (c1 : SmL s.2.1) (c2 : SmL s.2.2.1) (c3 : SmL s.2.2.2.1) (c4 : Sm s.2.2.2.2.2.1) (hn : 1048577 ≤ n) : f32 n s s = some true := by
  unfold f32
  rw [f86_eq c0 hn, ob_some, f20_eq c1.1 c1.2 hn, ob_some, f20_eq c2.1 c2.2 hn, ob_some, f20_eq c3.1 c3.2 hn, ob_some, f62_eq c4 hn, ob_some]
  simp

theorem clone97 {n : Nat} {x : Rt} (h : rok x = true) : f97 n x = some x := by
  obtain ⟨s, a, b⟩ := x
  unfold rok at h
  simp only [Bool.and_eq_true] at h
  have la := (nok_Cn h.1.1.1.1).2
  have lb := (nok_Cn h.1.1.1.2).2
  unfold f97
  rw [f145_eq n (l := a) (by omega), ob_some, f145_eq n (l := b) (by omega), ob_some]

def clampE (x lo hi : Rt) : Rt := if gtR lo x = true then lo else if gtR x hi = true then hi else x

theorem clampE_ok {x lo hi : Rt} (hx : rok x = true) (hl : rok lo = true) (hh : rok hi = true) : rok (clampE x lo hi) = true := by
  unfold clampE
  split
  · exact hl
  · split
    · exact hh
    · exact hx

def clampL (x lo hi : List Rt) (i k : Nat) : List Rt := (List.range' i k).map fun j => clampE (x.getD j rt0) (lo.getD j rt0) (hi.getD j rt0)

theorem clampL_len (x lo hi : List Rt) (i k : Nat) : (clampL x lo hi i k).length = k := by simp [clampL]

theorem clampL_get {x lo hi : List Rt} {k j : Nat} (h : j < k) : (clampL x lo hi 0 k).getD j rt0 = clampE (x.getD j rt0) (lo.getD j rt0) (hi.getD j rt0) := by
  unfold clampL
  rw [List.getD_eq_getElem?_getD, List.getElem?_map, List.getElem?_range' h]
  simp

theorem f196_eq {n i : Nat} {x lo hi : List Rt} (hx : vok x = true) (hl : vok lo = true) (hh : vok hi = true) (h1 : lo.length = x.length) (h2 : hi.length = x.length) (hn : 1048577 ≤ n) (hi' : i < x.length) :
    f196 n (i : Int) x lo hi = some (clampE (x.getD i rt0) (lo.getD i rt0) (hi.getD i rt0)) := by
  unfold f196 clampE
  dsimp only
  have hx4 := vok_len hx
  rw [gd_pos (by simp; try omega), gd_pos (by simp; try omega)]
  simp only [Int.toNat_natCast]
  obtain ⟨r, e1, _, e2⟩ := f181_eq (n := n) (rok_get hx hi') (rok_get hl (i := i) (by omega)) hn
  rw [e1, ob_some, e2]
  cases gtR (lo.getD i rt0) (x.getD i rt0) with
  | true => rw [cond_true, gd_pos (by simp; try omega), if_pos rfl]
  | false =>
    rw [cond_false, gd_pos (by simp; try omega), gd_pos (by simp; try omega)]
    obtain ⟨r, e1, e2, _⟩ := f181_eq (n := n) (rok_get hx hi') (rok_get hh (i := i) (by omega)) hn
    rw [e1, ob_some, e2]
    cases gtR (x.getD i rt0) (hi.getD i rt0) with
    | true => rw [cond_true, gd_pos (by simp; try omega)]; rfl
    | false => rw [cond_false, gd_pos (by simp; try omega)]; rfl

theorem f129b_loop {α : Type} {n : Nat} {x lo hi : List Rt} (hx : vok x = true) (hl : vok lo = true) (hh : vok hi = true) (h1 : lo.length = x.length) (h2 : hi.length = x.length) (hn : 1048577 ≤ n) {k0 : List Rt → Option α} :
    ∀ (m i : Nat) (o : List Rt), o.length = i → i ≤ x.length → x.length < i + m → f129b_L3 n m (x, lo, hi) (x.length : Int) (i : Int) o k0 = k0 (o ++ clampL x lo hi i (x.length - i))
  | 0, i, o, ho, hi', hm => by omega
  | m + 1, i, o, ho, hi', hm => by
    rw [f129b_L3_s]
    unfold f129b_L3B
    dsimp only
    have hx4 := vok_len hx
    rw [Bool.cond_decide]
    by_cases h : i < x.length
    · rw [if_pos (by omega), f196_eq hx hl hh h1 h2 hn h, ob_some, clone97 (clampE_ok (rok_get hx h) (rok_get hl (by omega)) (rok_get hh (by omega))), ob_some, gd_pos (by simp; try omega), W_id (x := (i : Int) + 1) (by omega) (by omega), show (i : Int) + 1 = ((i + 1 : Nat) : Int) from rfl,
        f129b_loop hx hl hh h1 h2 hn m (i + 1) _ (by simp [ho]) (by omega) (by omega)]
      rw [show x.length - i = (x.length - (i + 1)) + 1 by omega]
      unfold clampL
      rw [List.range'_succ, List.map_cons, List.append_assoc]
      rfl
    · rw [if_neg (by omega), show x.length - i = 0 by omega]
      simp [clampL]

theorem f156_loop {α : Type} {n : Nat} {x lo hi : List Rt} (hx : vok x = true) (hl : vok lo = true) (hh : vok hi = true) (h1 : lo.length = x.length) (h2 : hi.length = x.length) (hn : 1048577 ≤ n) {k0 : List Rt → Option α} :
    ∀ (m i : Nat) (o : List Rt), o.length = i → i ≤ x.length → x.length < i + m → f156_L3 n m x lo hi (i : Int) o k0 = k0 (o ++ clampL x lo hi i (x.length - i))
  | 0, i, o, ho, hi', hm => by omega
  | m + 1, i, o, ho, hi', hm => by
    rw [f156_L3_s]
    unfold f156_L3B
    dsimp only
    have hx4 := vok_len hx
    rw [Bool.cond_decide]
    by_cases h : i < x.length
    · have nx : clampL x lo hi i (x.length - i) = clampE (x.getD i rt0) (lo.getD i rt0) (hi.getD i rt0) :: clampL x lo hi (i + 1) (x.length - (i + 1)) := by
        rw [show x.length - i = (x.length - (i + 1)) + 1 by omega]
        unfold clampL
        rw [List.range'_succ, List.map_cons]
      have go : ∀ y : Rt, y = clampE (x.getD i rt0) (lo.getD i rt0) (hi.getD i rt0) → f156_L3 n m x lo hi (W ((i : Int) + 1)) (o ++ [y]) k0 = k0 (o ++ clampL x lo hi i (x.length - i)) := by
        intro y hy
        rw [W_id (x := (i : Int) + 1) (by omega) (by omega), show (i : Int) + 1 = ((i + 1 : Nat) : Int) from rfl, f156_loop hx hl hh h1 h2 hn m (i + 1) _ (by simp [ho]) (by omega) (by omega), nx, hy, List.append_assoc]
        rfl
      unfold clampE at go
      rw [if_pos (by omega), gd_pos (by simp; try omega), gd_pos (by simp; try omega)]
      simp only [Int.toNat_natCast]
      obtain ⟨r, e1, _, e2⟩ := f134_eq (n := n) (rok_get hx h) (rok_get hl (i := i) (by omega)) hn
      rw [e1, ob_some, e2]
      cases hg : gtR (lo.getD i rt0) (x.getD i rt0) with
      | true =>
        rw [cond_true, gd_pos (by simp; try omega), gd_pos (by simp; try omega)]
        exact go _ (by rw [if_pos hg])
      | false =>
        rw [cond_false, gd_pos (by simp; try omega), gd_pos (by simp; try omega)]
        obtain ⟨r, e1, e2, _⟩ := f134_eq (n := n) (rok_get hx h) (rok_get hh (i := i) (by omega)) hn
        rw [e1, ob_some, e2]
        cases hg2 : gtR (x.getD i rt0) (hi.getD i rt0) with
        | true =>
          rw [cond_true, gd_pos (by simp; try omega), gd_pos (by simp; try omega)]
          exact go _ (by rw [if_neg (by rw [hg]; decide), if_pos hg2])
        | false =>
          rw [cond_false, gd_pos (by simp; try omega), gd_pos (by simp; try omega)]
          exact go _ (by rw [if_neg (by rw [hg]; decide), if_neg (by rw [hg2]; decide)])
    · rw [if_neg (by omega), show x.length - i = 0 by omega]
      simp [clampL]

theorem f129_loop {α : Type} {n : Nat} {x : List Rt} (hx : vok x = true) (hn : 1048577 ≤ n) {k0 : List Rt → Option α} :
    ∀ (m i : Nat) (o : List Rt), o.length = i → i ≤ x.length → x.length < i + m → f129_L3 n m x (x.length : Int) (i : Int) o k0 = k0 (o ++ x.drop i)
  | 0, i, o, ho, hi', hm => by omega
  | m + 1, i, o, ho, hi', hm => by
    rw [f129_L3_s]
    unfold f129_L3B
    dsimp only
    have hx4 := vok_len hx
    rw [Bool.cond_decide]
    by_cases h : i < x.length
    · have e : f168 n (i : Int) x = some (x.getD i rt0) := by
        unfold f168
        rw [gd_pos (by simp; try omega)]
        simp only [Int.toNat_natCast]
      rw [if_pos (by omega), e, ob_some, clone97 (rok_get hx h), ob_some, gd_pos (by simp; try omega), W_id (x := (i : Int) + 1) (by omega) (by omega), show (i : Int) + 1 = ((i + 1 : Nat) : Int) from rfl,
        f129_loop hx hn m (i + 1) _ (by simp [ho]) (by omega) (by omega), List.append_assoc, List.drop_eq_getElem_cons h, List.getD_eq_getElem?_getD, List.getElem?_eq_getElem h]
      rfl
    · rw [if_neg (by omega), List.drop_of_length_le (by omega), List.append_nil]

theorem ne0_of {r : Int} {a b : Bool} (h1 : decide (r > 0) = a) (h2 : decide (r < 0) = b) : (r == 0) = (!a && !b) := by
  subst h1; subst h2
  by_cases h : r = 0
  · subst h; rfl
  · rw [beq_eq_false_iff_ne.2 h]
    rcases Int.lt_or_gt_of_ne h with h | h
    · rw [decide_eq_true h]; simp
    · rw [decide_eq_true (show r > 0 from h)]; rfl

theorem f151_loop {n : Nat} {a b : List Rt} (ha : ∀ i, i < a.length → rok (a.getD i rt0) = true) (hb : vok b = true) (hab : a.length = b.length) (hn : 1048577 ≤ n) : ∀ (m i : Nat), i ≤ a.length → a.length < i + m →
    ∃ r, f151_L4 n m a b (i : Int) (fun z => some z) (fun (_ : Unit) => some true) = some r ∧ (r = true ↔ ∀ j, i ≤ j → j < a.length → gtR (a.getD j rt0) (b.getD j rt0) = false ∧ gtR (b.getD j rt0) (a.getD j rt0) = false)
  | 0, i, hi, hm => by omega
  | m + 1, i, hi, hm => by
    rw [f151_L4_s]
    unfold f151_L4B
    dsimp only
    have hla := vok_len hb
    rw [Bool.cond_decide]
    by_cases h : i < a.length
    · rw [if_pos (by omega), gd_pos (by simp; try omega), gd_pos (by simp; try omega)]
      simp only [Int.toNat_natCast]
      obtain ⟨r, e1, e2, e3⟩ := f134_eq (n := n) (ha i h) (rok_get hb (i := i) (by omega)) hn
      rw [e1, ob_some, bne, ne0_of e2 e3]
      by_cases hg : gtR (a.getD i rt0) (b.getD i rt0) = false ∧ gtR (b.getD i rt0) (a.getD i rt0) = false
      · rw [hg.1, hg.2, W_id (x := (i : Int) + 1) (by omega) (by omega)]
        obtain ⟨r', q1, q2⟩ := f151_loop ha hb hab hn m (i + 1) (by omega) (by omega)
        refine ⟨r', q1, q2.trans ⟨fun e j hj hj' => ?_, fun e j hj hj' => e j (by omega) hj'⟩⟩
        rcases Nat.eq_or_lt_of_le hj with rfl | hj
        · exact hg
        · exact e j hj hj'
      · refine ⟨false, ?_, ⟨nofun, fun e => absurd (e i (Nat.le_refl _) h) hg⟩⟩
        cases h1 : gtR (a.getD i rt0) (b.getD i rt0) <;> cases h2 : gtR (b.getD i rt0) (a.getD i rt0) <;> first | rfl | exact absurd ⟨h1, h2⟩ hg
    · rw [if_neg (by omega)]
      exact ⟨true, rfl, fun _ j hj hj' => by omega, fun _ => rfl⟩

theorem f179_loop {n : Nat} {a b : List Rt} (ha : ∀ i, i < a.length → rok (a.getD i rt0) = true) (hb : vok b = true) (hab : a.length = b.length) (hn : 1048577 ≤ n) : ∀ (m i : Nat), i ≤ a.length → a.length < i + m →
    ∃ r, f179_L4 n m b a (a.length : Int) (i : Int) (fun z => some z) (fun (_ : Unit) => some true) = some r ∧ (r = true ↔ ∀ j, i ≤ j → j < a.length → gtR (a.getD j rt0) (b.getD j rt0) = false ∧ gtR (b.getD j rt0) (a.getD j rt0) = false)
  | 0, i, hi, hm => by omega
  | m + 1, i, hi, hm => by
    rw [f179_L4_s]
    unfold f179_L4B
    dsimp only
    have hla := vok_len hb
    rw [Bool.cond_decide]
    by_cases h : i < a.length
    · rw [if_pos (by omega), gd_pos (by simp; try omega), gd_pos (by simp; try omega)]
      simp only [Int.toNat_natCast]
      obtain ⟨r, e1, e2, e3⟩ := f181_eq (n := n) (ha i h) (rok_get hb (i := i) (by omega)) hn
      unfold f180
      rw [e1, ob_some, ob_some, ne0_of e2 e3]
      by_cases hg : gtR (a.getD i rt0) (b.getD i rt0) = false ∧ gtR (b.getD i rt0) (a.getD i rt0) = false
      · rw [hg.1, hg.2, W_id (x := (i : Int) + 1) (by omega) (by omega)]
        obtain ⟨r', q1, q2⟩ := f179_loop ha hb hab hn m (i + 1) (by omega) (by omega)
        refine ⟨r', q1, q2.trans ⟨fun e j hj hj' => ?_, fun e j hj hj' => e j (by omega) hj'⟩⟩
        rcases Nat.eq_or_lt_of_le hj with rfl | hj
        · exact hg
        · exact e j hj hj'
      · refine ⟨false, ?_, ⟨nofun, fun e => absurd (e i (Nat.le_refl _) h) hg⟩⟩
        cases h1 : gtR (a.getD i rt0) (b.getD i rt0) <;> cases h2 : gtR (b.getD i rt0) (a.getD i rt0) <;> first | rfl | exact absurd ⟨h1, h2⟩ hg
    · rw [if_neg (by omega)]
      exact ⟨true, rfl, fun _ j hj hj' => by omega, fun _ => rfl⟩

/-- both sides compare alike -/
theorem same_same {n : Nat} {a b : List Rt} (ha : ∀ i, i < a.length → rok (a.getD i rt0) = true) (hb : vok b = true) (hab : a.length = b.length) (hn : 1048577 ≤ n) : ∃ r, f151 n a b = some r ∧ f139 n a b = some r := by
  unfold f151 f139 f179
  have hla := vok_len hb
  rw [hab, bne_self_eq_false, cond_false]
  obtain ⟨r1, t1, t2⟩ := f151_loop ha hb hab hn n 0 (by omega) (by omega)
  obtain ⟨r2, u1, u2⟩ := f179_loop ha hb hab hn n 0 (by omega) (by omega)
  have e : r1 = r2 := by rw [Bool.eq_iff_iff, t2, u2]
  rw [← e, hab] at u1
  have u1 : f179_L4 n n b a (b.length : Int) 0 _ _ = _ := u1
  refine ⟨r1, t1, ?_⟩
  rw [cond_false, u1, ob_some]

def fnz : List Int → Int
  | [] => 0
  | x :: r => if x = 0 then fnz r else x

theorem f68_loop {n : Nat} {l : List Int} (hl : l.length ≤ 1048576) : ∀ (m i : Nat), i ≤ l.length → l.length < i + m → f68_L2 n m l (l.length : Int) (i : Int) (fun z => some z) (fun (_ : Unit) => some 0) = some (fnz (l.drop i))
  | 0, i, hi, hm => by omega
  | m + 1, i, hi, hm => by
    rw [f68_L2_s]
    unfold f68_L2B
    dsimp only
    rw [Bool.cond_decide]
    by_cases h : i < l.length
    · rw [if_pos (by omega), gd_pos (by simp; try omega)]
      simp only [Int.toNat_natCast]
      rw [List.drop_eq_getElem_cons h, fnz, List.getD_eq_getElem?_getD, List.getElem?_eq_getElem h, Option.getD_some]
      by_cases hz : l[i] = 0
      · rw [hz, if_pos rfl, bne_self_eq_false, cond_false, W_id (x := (i : Int) + 1) (by omega) (by omega)]
        exact f68_loop hl m (i + 1) (by omega) (by omega)
      · rw [if_neg hz, show (l[i] != 0) = true by rw [bne_iff_ne]; exact hz, cond_true]
    · rw [if_neg (by omega), List.drop_of_length_le (by omega)]
      rfl

theorem f68_eq {n : Nat} {l : List Int} (hl : l.length ≤ 1048576) (hn : 1048577 ≤ n) : f68 n l = some (fnz l) := by
  unfold f68
  have := f68_loop (n := n) hl n 0 (by omega) (by omega)
  exact this

theorem f69_eq {n : Nat} {b : Bool} {c : Int} : f69 n b c = some (if b = true then 0 else c) := by
  unfold f69; cases b <;> rfl

/-- the code of a problem and a point -/
def ptCode (v : Bool) (p : Prb) (x : List Rt) : Int :=
  if 4096 < x.length then 2 else if v = true ∧ vok x = true then (if x.length = p.2.1.length then 0 else 8) else 1

theorem f81_eq {n : Nat} {p : Prb} {x : List Rt} {v : Bool} (hv : f150 n p = some v) (hn : 1048577 ≤ n) : f81 n p x = some (ptCode v p x) := by
  unfold f81 ptCode
  rw [Bool.cond_decide]
  by_cases h : 4096 < x.length
  · rw [if_pos (by omega), if_pos h]
  · rw [if_neg (by omega), if_neg h, hv, ob_some, f114_eq hn, ob_some]
    cases v with
    | false => rfl
    | true =>
      cases vok x with
      | false => rfl
      | true =>
        by_cases hl : x.length = p.2.1.length
        · rw [hl, bne_self_eq_false, if_pos ⟨rfl, rfl⟩, if_pos rfl]; rfl
        · rw [show ((x.length : Int) != (p.2.1.length : Int)) = true by rw [bne_iff_ne]; omega, if_pos ⟨rfl, rfl⟩, if_neg hl]; rfl

theorem f84_eq {n : Nat} {p : Prb} {x : List Rt} {v : Bool} (hv : f194 n p = some v) (hn : 1048577 ≤ n) : f84 n p x = some (ptCode v p x) := by
  unfold f84 ptCode f153
  obtain ⟨c, h1, h2⟩ := f98_eq (n := n) (L := [x]) (by simp) hn
  rw [h1, ob_some, hv, ob_some, f69_eq, ob_some, ob_some, f109_eq hn, ob_some, f69_eq, ob_some, f68_eq (by simp) hn, ob_some]
  have hc : c = if 4096 < x.length then 2 else 0 := by
    rcases h2 with ⟨rfl, h⟩ | ⟨rfl, y, hy, h⟩
    · rw [if_neg (by have := h x (by simp); omega)]
    · rw [List.mem_singleton.1 hy] at h
      rw [if_pos h]
  rw [hc]
  by_cases h : 4096 < x.length
  · rw [if_pos h, if_pos h]
    have e : fnz [2, if v = true then 0 else 1, if vok x = true then 0 else 1] = 2 := rfl
    rw [e]
    simp only [f69_eq, ob_some, f68_eq (l := [2, _]) (by simp) hn]
    rfl
  · rw [if_neg h, if_neg h]
    by_cases hb : v = true ∧ vok x = true
    · rw [hb.1, hb.2, beqN]
      have e : fnz [0, if true = true then 0 else 1, if true = true then 0 else 1] = 0 := rfl
      rw [e, show (if true = true ∧ true = true then (if x.length = p.2.1.length then (0 : Int) else 8) else 1) = if x.length = p.2.1.length then 0 else 8 from if_pos ⟨rfl, rfl⟩]
      simp only [f69_eq, ob_some, f68_eq (l := [0, _]) (by simp) hn]
      by_cases hl : x.length = p.2.1.length
      · rw [if_pos hl, hl]
        simp [fnz]
      · rw [if_neg hl, show (x.length == p.2.1.length) = false by rw [beq_eq_false_iff_ne]; exact hl]
        rfl
    · rw [if_neg hb]
      have e : fnz [0, if v = true then 0 else 1, if vok x = true then 0 else 1] = 1 := by
        cases v <;> cases h1 : vok x <;> first | rfl | exact absurd ⟨rfl, h1⟩ hb
      rw [e]
      simp only [f69_eq, ob_some, f68_eq (l := [1, _]) (by simp) hn]
      rfl

/-- the law FnExactInBox -/
theorem f7_eq {n : Nat} {s : Prb} {x : List Rt} (h0 : s.1.length ≤ 9223372036854775807) (h1 : BdL s.2.1) (h2 : BdL s.2.2.1) (h3 : BdL s.2.2.2.1) (h4 : Bd s.2.2.2.2.2.1) (h5 : BdL x) (hn : 1048577 ≤ n) : f7 n s x = some true := by
  unfold f7
  obtain ⟨r, e, c⟩ := f28_eq h0 h1 h2 h3 h4 hn
  rw [e, ob_some]
  rcases c with rfl | ⟨b, c0, c1, c2, c3, c4⟩
  · rfl
  obtain ⟨r', e', c'⟩ := f18_eq' b h5 hn
  rw [Bool.cond_decide, if_neg (by omega), e', ob_some]
  rcases c' with rfl | ⟨b', c5⟩
  · rfl
  obtain ⟨v, v1, v2, v3⟩ := prob_same (n := n) (p := s) c0 hn
  have key : ∃ t, f29 n s x = some t ∧ f31 n s x = some t := by
    unfold f29 f31
    rw [f81_eq v1 hn, f84_eq v2 hn, ob_some, ob_some]
    by_cases hlong : 4096 < x.length
    · rw [Bool.cond_decide, if_pos (by omega)]
      refine ⟨(false, 2), rfl, ?_⟩
      unfold ptCode
      rw [if_pos hlong]; rfl
    · rw [Bool.cond_decide, if_neg (by omega)]
      by_cases hz : ptCode v s x = 0
      · rw [hz, bne_self_eq_false, cond_false, cond_false]
        have hv : v = true ∧ vok x = true ∧ x.length = s.2.1.length := by
          unfold ptCode at hz
          rw [if_neg hlong] at hz
          by_cases hb : v = true ∧ vok x = true
          · rw [if_pos hb] at hz
            by_cases hl : x.length = s.2.1.length
            · exact ⟨hb.1, hb.2, hl⟩
            · rw [if_neg hl] at hz; omega
          · rw [if_neg hb] at hz; omega
        obtain ⟨hv1, hx, hxl⟩ := hv
        have hx4 := vok_len hx
        obtain ⟨_, hbox⟩ := v3 hv1
        have hy : ∃ y, f87 n s x = some y ∧ f88 n s x = some y ∧ y.length = x.length ∧ ∀ i, i < y.length → rok (y.getD i rt0) = true := by
          unfold f87 f88 f155 f157
          rw [ob_some, ob_some]
          rcases hbox with ⟨hb0, _⟩ | hb3
          · rw [hb0]
            refine ⟨x, ?_, ?_, rfl, fun i hi => rok_get hx hi⟩
            · rw [show (!decide (((0 : Nat) : Int) > 0)) = true from rfl, cond_true, gd_pos (by simp; try omega)]
            · rw [show (!decide (((0 : Nat) : Int) > 0)) = true from rfl, cond_true]
              unfold f100 f129
              have h := f129_loop (n := n) hx hn (k0 := fun z_3 => some z_3) n 0 [] rfl (by omega) (by omega)
              have h : f129_L3 n n x (x.length : Int) 0 [] _ = _ := h
              rw [h, ob_some, ob_some, List.drop_zero, List.nil_append]
          · unfold vec3 at hb3
            simp only [Bool.and_eq_true, beq_iff_eq] at hb3
            obtain ⟨⟨⟨⟨q1, q2⟩, q3⟩, q4⟩, q5⟩ := hb3
            have hlo : 1 ≤ s.2.2.1.length := by
              unfold vok at q2
              rw [Bool.and_eq_true, decide_eq_true_eq] at q2
              exact q2.1.1
            rw [show (!decide ((s.2.2.1.length : Int) > 0)) = false by rw [decide_eq_true (by omega)]; rfl, cond_false, cond_false]
            refine ⟨clampL x s.2.2.1 s.2.2.2.1 0 x.length, ?_, ?_, clampL_len _ _ _ _ _, fun i hi => ?_⟩
            · unfold f156
              have h := f156_loop (n := n) hx q2 q3 (by omega) (by omega) hn (k0 := fun z_10 => some z_10) n 0 [] rfl (by omega) (by omega)
              have h : f156_L3 n n x s.2.2.1 s.2.2.2.1 0 [] _ = _ := h
              rw [h, ob_some, Nat.sub_zero, List.nil_append]
            · unfold f158 f129b
              have h := f129b_loop (n := n) hx q2 q3 (by omega) (by omega) hn (k0 := fun z_3 => some z_3) n 0 [] rfl (by omega) (by omega)
              have h : f129b_L3 n n (x, s.2.2.1, s.2.2.2.1) (x.length : Int) 0 [] _ = _ := h
              rw [h, ob_some, ob_some, Nat.sub_zero, List.nil_append]
            · rw [clampL_len] at hi
              rw [clampL_get hi]
              exact clampE_ok (rok_get hx hi) (rok_get q2 (by omega)) (rok_get q3 (by omega))
        obtain ⟨y, y1, y2, y3, y4⟩ := hy
        obtain ⟨w, w1, w2⟩ := same_same (n := n) y4 hx y3 hn
        unfold f82 f85
        rw [y1, y2, ob_some, ob_some, w1, w2]
        exact ⟨_, rfl, rfl⟩
      · rw [show (ptCode v s x != 0) = true by rw [bne_iff_ne]; exact hz]
        exact ⟨_, rfl, rfl⟩
  obtain ⟨t, t1, t2⟩ := key
  rw [Bool.cond_decide, if_neg (by omega), f30_eq c0 c1 c2 c3 c4 hn, ob_some, f19_eq c5.1 c5.2 hn, ob_some, t1, ob_some, ob_some, ob_some, t2, ob_some, BEq.rfl, bne_self_eq_false]
  simp only [Bool.not_true, cond_false, ob_some]
  rw [f32_eq c0 c1 c2 c3 c4 hn, ob_some, f20_eq c5.1 c5.2 hn, ob_some]
  rfl

end Go.Ev
