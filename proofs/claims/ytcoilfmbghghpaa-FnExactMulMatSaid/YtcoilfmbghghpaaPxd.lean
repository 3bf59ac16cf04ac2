/- DERIVED. The plain laws: what the models compute. -/
import Derived.Test.YtcoilfmbghghpaaPxc

set_option linter.all false
set_option linter.unusedVariables false
set_option linter.unusedSimpArgs false

namespace Go.Ev
open Go

theorem W_id {x : Int} (h : -9223372036854775808 ≤ x) (h' : x < 9223372036854775808) : W x = x := wrap64_id h h'

@[simp] theorem ob_some {α β : Type} (r : β) (k : β → Option α) : ob (some r) k = k r := rfl

@[simp] theorem ob_none {α β : Type} (k : β → Option α) : ob (none : Option β) k = none := rfl

@[simp] theorem gd_true {α : Type} (x : Option α) : gd true x = x := rfl

@[simp] theorem gd_false {α : Type} (x : Option α) : gd false x = none := rfl

theorem gd_pos {α : Type} {g : Bool} (h : g = true) (x : Option α) : gd g x = x := by rw [h]; rfl

theorem getD_append_left {α : Type} {l m : List α} {i : Nat} {d : α} (h : i < l.length) : (l ++ m).getD i d = l.getD i d := by
 simp [List.getD_eq_getElem?_getD, List.getElem?_append_left h]

theorem getD_append_last {α : Type} {l : List α} {x d : α} : (l ++ [x]).getD l.length d = x := by
 simp [List.getD_eq_getElem?_getD]

def vl : List Int → Int
 | [] => 0
 | x :: r => x + 10000 * vl r

def Lm (l : List Int) : Prop := ∀ x ∈ l, 0 ≤ x ∧ x < 10000

def dg (n : Nat) : List Int := if n = 0 then [] else ((n % 10000 : Nat) : Int) :: dg (n / 10000)
termination_by n
decreasing_by omega

theorem dg_zero : dg 0 = [] := by rw [dg]; rfl

theorem dg_pos {n : Nat} (h : n ≠ 0) : dg n = ((n % 10000 : Nat) : Int) :: dg (n / 10000) := by rw [dg, if_neg h]

theorem Lm.nil : Lm [] := fun _ h => by cases h

theorem Lm.cons {x : Int} {l : List Int} (hx : 0 ≤ x ∧ x < 10000) (hl : Lm l) : Lm (x :: l) := fun y hy => by
 rcases List.mem_cons.1 hy with rfl | hy
 · exact hx
 · exact hl y hy

theorem Lm.head {x : Int} {l : List Int} (h : Lm (x :: l)) : 0 ≤ x ∧ x < 10000 := h x (by simp)

theorem Lm.tail {x : Int} {l : List Int} (h : Lm (x :: l)) : Lm l := fun y hy => h y (by simp [hy])

theorem Lm.app {l m : List Int} (h : Lm l) (h' : Lm m) : Lm (l ++ m) := fun y hy => (List.mem_append.1 hy).elim (h y) (h' y)

theorem Lm.take {l : List Int} (h : Lm l) (k : Nat) : Lm (l.take k) := fun y hy => h y (List.mem_of_mem_take hy)

theorem Lm.drop {l : List Int} (h : Lm l) (k : Nat) : Lm (l.drop k) := fun y hy => h y (List.mem_of_mem_drop hy)

theorem Lm.set {l : List Int} (h : Lm l) (k : Nat) {x : Int} (hx : 0 ≤ x ∧ x < 10000) : Lm (l.set k x) := fun y hy => by
 rcases List.mem_or_eq_of_mem_set hy with hy | rfl
 · exact h y hy
 · exact hx

theorem Lm.get {l : List Int} (h : Lm l) (k : Nat) : 0 ≤ l.getD k 0 ∧ l.getD k 0 < 10000 := by
 rw [List.getD_eq_getElem?_getD]
 cases e : l[k]? with
 | none => simp
 | some x => exact h x (List.mem_of_getElem? e)

theorem Lm.rep (n : Nat) : Lm (List.replicate n 0) := fun y hy => by
 obtain rfl := (List.mem_replicate.1 hy).2
 omega

theorem Lm_dg (n : Nat) : Lm (dg n) := by
 induction n using Nat.strongRecOn with
 | _ n ih =>
  by_cases h : n = 0
  · subst h; rw [dg_zero]; exact Lm.nil
  · rw [dg_pos h]
    exact Lm.cons (by omega) (ih _ (by omega))

theorem vl_dg (n : Nat) : vl (dg n) = n := by
 induction n using Nat.strongRecOn with
 | _ n ih =>
  by_cases h : n = 0
  · subst h; rw [dg_zero]; rfl
  · rw [dg_pos h, vl, ih _ (by omega)]
    omega

theorem vl_nonneg {l : List Int} (h : Lm l) : 0 ≤ vl l := by
 induction l with
 | nil => exact Int.le_refl _
 | cons x r ih =>
  have := h.head
  have := ih h.tail
  simp only [vl]; omega

theorem pw_pos (k : Nat) : (0 : Int) < 10000 ^ k := Int.pow_pos (by omega)

theorem pw_succ (k : Nat) : (10000 : Int) ^ (k + 1) = 10000 * 10000 ^ k := by rw [Int.pow_succ, Int.mul_comm]

theorem pw_le {i j : Nat} (h : i ≤ j) : (10000 : Int) ^ i ≤ 10000 ^ j := by
 induction j with
 | zero => obtain rfl : i = 0 := by omega
           exact Int.le_refl _
 | succ j ih =>
  by_cases e : i = j + 1
  · subst e; exact Int.le_refl _
  · have := ih (by omega)
    have := pw_pos j
    rw [pw_succ]; omega

theorem pw_lt {i j : Nat} (h : (10000 : Int) ^ i < 10000 ^ j) : i < j := by
 rcases Nat.lt_or_ge i j with h' | h'
 · exact h'
 · have := pw_le h'; omega

theorem vl_lt {l : List Int} (h : Lm l) : vl l < 10000 ^ l.length := by
 induction l with
 | nil => simp [vl]
 | cons x r ih =>
  have := h.head
  have := ih h.tail
  simp only [vl, List.length_cons, pw_succ]; omega

theorem vl_app (l m : List Int) : vl (l ++ m) = vl l + 10000 ^ l.length * vl m := by
 induction l with
 | nil => simp [vl]
 | cons x r ih => simp only [List.cons_append, vl, ih, List.length_cons, pw_succ]; grind

theorem vl_snoc (l : List Int) (x : Int) : vl (l ++ [x]) = vl l + 10000 ^ l.length * x := by rw [vl_app]; simp [vl]

theorem vl_rep (n : Nat) : vl (List.replicate n 0) = 0 := by
 induction n with
 | zero => rfl
 | succ n ih => simp [List.replicate_succ, vl, ih]

theorem vl_take_succ {l : List Int} {k : Nat} (h : k < l.length) : vl (l.take (k + 1)) = vl (l.take k) + 10000 ^ k * l.getD k 0 := by
 rw [List.take_succ_eq_append_getElem h, vl_snoc, List.length_take, Nat.min_eq_left (by omega), List.getD_eq_getElem?_getD, List.getElem?_eq_getElem h]
 rfl

theorem vl_set {l : List Int} {k : Nat} (x : Int) (h : k < l.length) : vl (l.set k x) = vl l + 10000 ^ k * (x - l.getD k 0) := by
 induction l generalizing k with
 | nil => simp at h
 | cons y r ih =>
  cases k with
  | zero => simp [vl]; omega
  | succ k =>
   have := ih (k := k) (by simpa using h)
   simp only [List.set_cons_succ, vl, this, List.getD_cons_succ, pw_succ]
   grind

def Cn (l : List Int) : Prop := Lm l ∧ (l ≠ [] → l.getD (l.length - 1) 0 ≠ 0)

theorem Cn_dg (n : Nat) : Cn (dg n) := by
 refine ⟨Lm_dg n, ?_⟩
 induction n using Nat.strongRecOn with
 | _ n ih =>
  by_cases h : n = 0
  · subst h; rw [dg_zero]; exact fun h => absurd rfl h
  · rw [dg_pos h]
    intro _
    by_cases e : dg (n / 10000) = []
    · rw [e]
      have h0 : n / 10000 = 0 := by
       have := vl_dg (n / 10000)
       rw [e] at this
       simp only [vl] at this
       omega
      simp
      omega
    · have := ih (n / 10000) (by omega) e
      have hl : 0 < (dg (n / 10000)).length := List.length_pos_iff.2 e
      simp only [List.length_cons, Nat.add_sub_cancel]
      rw [show (dg (n / 10000)).length = ((dg (n / 10000)).length - 1) + 1 by omega, List.getD_cons_succ]
      exact this

theorem Cn.tail {x : Int} {l : List Int} (h : Cn (x :: l)) : Cn l := by
 refine ⟨h.1.tail, fun hn => ?_⟩
 have := h.2 (by simp)
 have hl : 0 < l.length := List.length_pos_iff.2 hn
 simp only [List.length_cons, Nat.add_sub_cancel] at this
 rw [show l.length = (l.length - 1) + 1 by omega, List.getD_cons_succ] at this
 exact this

theorem Cn.pos {l : List Int} (h : Cn l) (hn : l ≠ []) : 0 < vl l := by
 induction l with
 | nil => exact absurd rfl hn
 | cons x r ih =>
  have hx := h.1.head
  have hr := vl_nonneg h.1.tail
  by_cases e : r = []
  · subst e
    have := h.2 (by simp)
    simp at this
    simp only [vl]; omega
  · have := ih h.tail e
    simp only [vl]; omega

theorem dg_vl {l : List Int} (h : Cn l) : dg (vl l).toNat = l := by
 induction l with
 | nil => exact dg_zero
 | cons x r ih =>
  have hx := h.1.head
  have hr := vl_nonneg h.1.tail
  have hp := h.pos (by simp)
  have ih := ih h.tail
  simp only [vl] at hp ⊢
  rw [dg_pos (by omega)]
  congr 1
  · omega
  · rw [← ih]
    congr 1
    rw [ih]
    omega

theorem Cn.ge {l : List Int} (h : Cn l) (hn : l ≠ []) : (10000 : Int) ^ (l.length - 1) ≤ vl l := by
 have hl : 0 < l.length := List.length_pos_iff.2 hn
 have h1 := vl_take_succ (l := l) (k := l.length - 1) (by omega)
 rw [show l.length - 1 + 1 = l.length by omega, List.take_length] at h1
 have h2 := h.2 hn
 have h3 := h.1.get (l.length - 1)
 have h4 := vl_nonneg (h.1.take (l.length - 1))
 have h5 := pw_pos (l.length - 1)
 have h6 : (10000 : Int) ^ (l.length - 1) * 1 ≤ 10000 ^ (l.length - 1) * l.getD (l.length - 1) 0 := Int.mul_le_mul_of_nonneg_left (by omega) (by omega)
 omega

theorem dg_len {n k : Nat} : (dg n).length ≤ k ↔ (n : Int) < 10000 ^ k := by
 constructor
 · intro h
   have := vl_lt (Lm_dg n)
   rw [vl_dg] at this
   exact Int.lt_of_lt_of_le this (pw_le h)
 · intro h
   by_cases e : dg n = []
   · rw [e]; simp
   · have := (Cn_dg n).ge e
     rw [vl_dg] at this
     have := pw_lt (Int.lt_of_le_of_lt this h)
     have hl : 0 < (dg n).length := List.length_pos_iff.2 e
     omega

theorem dg_nil {n : Nat} : dg n = [] ↔ n = 0 := by
 constructor
 · intro h
   have := vl_dg n
   rw [h] at this
   simp only [vl] at this
   omega
 · rintro rfl; exact dg_zero

theorem len_mono {a b : Nat} (h : a ≤ b) : (dg a).length ≤ (dg b).length := by
 refine dg_len.2 ?_
 have := vl_lt (Lm_dg b)
 rw [vl_dg] at this
 omega

def cm (x y : Int) : Int := if x < y then -1 else if x = y then 0 else 1

theorem cmp_take {a b : List Int} (ha : Lm a) (hb : Lm b) {k : Nat} (h1 : k < a.length) (h2 : k < b.length) (h : a.getD k 0 < b.getD k 0) : vl (a.take (k + 1)) < vl (b.take (k + 1)) := by
 rw [vl_take_succ h1, vl_take_succ h2]
 have q1 := vl_lt (ha.take k)
 rw [List.length_take, Nat.min_eq_left (by omega)] at q1
 have q2 := vl_nonneg (hb.take k)
 have q3 : (10000 : Int) ^ k * (a.getD k 0 + 1) ≤ 10000 ^ k * b.getD k 0 := Int.mul_le_mul_of_nonneg_left (by omega) (by have := pw_pos k; omega)
 rw [Int.mul_add, Int.mul_one] at q3
 omega

theorem Cn.lt_of_len {a b : List Int} (ha : Cn a) (hb : Cn b) (h : a.length < b.length) : vl a < vl b := by
 have h1 := vl_lt ha.1
 have h2 := hb.ge (by intro e; subst e; simp at h)
 have h3 : (10000 : Int) ^ a.length ≤ 10000 ^ (b.length - 1) := pw_le (by omega)
 omega

theorem Cn.of_take {l : List Int} (h : Lm l) {t : Nat} (ht : t ≤ l.length) (hl : t = 0 ∨ l.getD (t - 1) 0 ≠ 0) : Cn (l.take t) := by
 refine ⟨h.take t, fun hn => ?_⟩
 have hlen : (l.take t).length = t := by simp; omega
 rcases hl with rfl | hl
 · simp at hn
 · have ht0 : t ≠ 0 := by rintro rfl; simp at hn
   rw [hlen, List.getD_eq_getElem?_getD, List.getElem?_take, if_pos (by omega), ← List.getD_eq_getElem?_getD]
   exact hl

theorem tdv {x : Int} (h : 0 ≤ x) : Int.tdiv x 10000 = x / 10000 := Int.tdiv_eq_ediv_of_nonneg h

theorem tmd {x : Int} (h : 0 ≤ x) : Int.tmod x 10000 = x % 10000 := Int.tmod_eq_emod_of_nonneg h

theorem trim185 {α : Type} {n : Nat} {l : List Int} (hN : l.length ≤ 1099511627776) {k0 : List Int → Int → Option α} : ∀ (m k : Nat), k < m → k ≤ l.length →
  ∃ t, t ≤ k ∧ f185_L2 n m l (k : Int) k0 = k0 l (t : Int) ∧ vl (l.take t) = vl (l.take k) ∧ (t = 0 ∨ l.getD (t - 1) 0 ≠ 0)
 | 0, k, h, _ => by omega
 | m + 1, k, h, hk => by
  rw [f185_L2_s]
  unfold f185_L2B
  dsimp only
  by_cases h0 : k = 0
  · subst h0; exact ⟨0, Nat.le_refl _, rfl, rfl, .inl rfl⟩
  · rw [Bool.cond_decide, if_pos (by omega), W_id (by omega) (by omega), gd_pos (by simp; omega)]
    have e : ((k : Int) - 1).toNat = k - 1 := by omega
    rw [e, Bool.cond_eq_ite]
    by_cases hz : l.getD (k - 1) 0 = 0
    · rw [if_pos (by rw [hz]; rfl)]
      obtain ⟨t, h1, h2, h3, h4⟩ := trim185 (n := n) hN (k0 := k0) m (k - 1) (by omega) (by omega)
      refine ⟨t, by omega, ?_, ?_, h4⟩
      · rw [show (k : Int) - 1 = ((k - 1 : Nat) : Int) by omega]; exact h2
      · rw [h3]
        have := vl_take_succ (l := l) (k := k - 1) (by omega)
        rw [show k - 1 + 1 = k by omega, hz] at this
        rw [this]; simp
    · rw [if_neg (by simpa using hz)]
      exact ⟨k, Nat.le_refl _, rfl, rfl, .inr hz⟩

theorem f185_eq {n : Nat} {l : List Int} (hl : Lm l) (hN : l.length ≤ 1099511627776) (hn : l.length < n) : f185 n l = some (dg (vl l).toNat) := by
 unfold f185
 obtain ⟨t, h1, h2, h3, h4⟩ := trim185 (n := n) hN (k0 := fun z_1 z_2 => gd (decide (0 ≤ z_2) && decide (z_2 ≤ (z_1.length : Int))) (gd (decide ((0 + ((z_1.drop 0).take (z_2.toNat - 0)).length) * 8 ≤ 140737488355328)) (some ((z_1.drop 0).take (z_2.toNat - 0))))) n l.length hn (Nat.le_refl _)
 rw [h2, gd_pos (by simp; omega), gd_pos (by simp; omega)]
 simp only [List.drop_zero, Int.toNat_natCast, Nat.sub_zero]
 rw [List.take_length] at h3
 rw [← h3, dg_vl (Cn.of_take hl (by omega) h4)]

theorem trim186 {α : Type} {n : Nat} {l : List Int} (hN : l.length ≤ 1099511627776) {k0 : List Int → Int → Option α} : ∀ (m k : Nat), k < m → k ≤ l.length →
  ∃ t, t ≤ k ∧ f186_L2 n m l (k : Int) k0 = k0 l (t : Int) ∧ vl (l.take t) = vl (l.take k) ∧ (t = 0 ∨ l.getD (t - 1) 0 ≠ 0)
 | 0, k, h, _ => by omega
 | m + 1, k, h, hk => by
  rw [f186_L2_s]
  unfold f186_L2B
  dsimp only
  by_cases h0 : k = 0
  · subst h0; exact ⟨0, Nat.le_refl _, rfl, rfl, .inl rfl⟩
  · rw [Bool.cond_decide, if_pos (by omega), W_id (by omega) (by omega), gd_pos (by simp; omega)]
    have e : ((k : Int) - 1).toNat = k - 1 := by omega
    rw [e, Bool.cond_eq_ite]
    by_cases hz : l.getD (k - 1) 0 = 0
    · rw [if_pos (by rw [hz]; rfl)]
      obtain ⟨t, h1, h2, h3, h4⟩ := trim186 (n := n) hN (k0 := k0) m (k - 1) (by omega) (by omega)
      refine ⟨t, by omega, ?_, ?_, h4⟩
      · rw [show (k : Int) - 1 = ((k - 1 : Nat) : Int) by omega]; exact h2
      · rw [h3]
        have := vl_take_succ (l := l) (k := k - 1) (by omega)
        rw [show k - 1 + 1 = k by omega, hz] at this
        rw [this]; simp
    · rw [if_neg (by simpa using hz)]
      exact ⟨k, Nat.le_refl _, rfl, rfl, .inr hz⟩

theorem f186_eq {n : Nat} {l : List Int} (hl : Lm l) (hN : l.length ≤ 1099511627776) (hn : l.length < n) : f186 n l = some (dg (vl l).toNat) := by
 unfold f186
 obtain ⟨t, h1, h2, h3, h4⟩ := trim186 (n := n) hN (k0 := fun z_1 z_2 => gd (decide (0 ≤ z_2) && decide (z_2 ≤ (z_1.length : Int))) (some ((z_1.drop 0).take (z_2.toNat - 0)))) n l.length hn (Nat.le_refl _)
 rw [h2, gd_pos (by simp; omega)]
 simp only [List.drop_zero, Int.toNat_natCast, Nat.sub_zero]
 rw [List.take_length] at h3
 rw [← h3, dg_vl (Cn.of_take hl (by omega) h4)]

theorem small190 {α : Type} {n : Nat} {k0 : List Int → Option α} : ∀ (m x : Nat) (o : List Int), (x : Int) ≤ 9223372036854775807 → (dg x).length < m → o.length + (dg x).length ≤ 1099511627776 → f190_L2 n m (x : Int) o k0 = k0 (o ++ dg x)
 | 0, x, o, _, h, _ => by omega
 | m + 1, x, o, hx, h, hN => by
  rw [f190_L2_s]
  unfold f190_L2B
  dsimp only
  by_cases h0 : x = 0
  · subst h0; rw [dg_zero]; simp
  · rw [dg_pos h0] at h hN ⊢
    simp only [List.length_cons] at h hN
    rw [Bool.cond_decide, if_pos (by omega), gd_pos (by simp; omega), tdv (by omega), tmd (by omega), W_id (by omega) (by omega), show (x : Int) / 10000 = ((x / 10000 : Nat) : Int) by omega, show (x : Int) % 10000 = ((x % 10000 : Nat) : Int) by omega]
    rw [small190 (n := n) m (x / 10000) _ (by omega) (by omega) (by simp; omega)]
    simp

theorem f190_eq {n : Nat} {x : Nat} (hx : (x : Int) ≤ 9223372036854775807) (hn : 10 < n) : f190 n (x : Int) = some (dg x) := by
 have hl : (dg x).length ≤ 5 := dg_len.2 (by rw [show (10000 : Int) ^ 5 = 100000000000000000000 from rfl]; omega)
 unfold f190
 rw [small190 (n := n) n x [] hx (by omega) (by simp; omega)]
 simp

theorem small163 {α : Type} {n : Nat} {k0 : List Int → Option α} : ∀ (m x : Nat) (o : List Int), (x : Int) ≤ 9223372036854775807 → (dg x).length < m → o.length + (dg x).length ≤ 1099511627776 → f163_L2 n m (x : Int) o k0 = k0 (o ++ dg x)
 | 0, x, o, _, h, _ => by omega
 | m + 1, x, o, hx, h, hN => by
  rw [f163_L2_s]
  unfold f163_L2B
  dsimp only
  by_cases h0 : x = 0
  · subst h0; rw [dg_zero]; simp
  · rw [dg_pos h0] at h hN ⊢
    simp only [List.length_cons] at h hN
    rw [Bool.cond_decide, if_pos (by omega), gd_pos (by simp; omega), tdv (by omega), tmd (by omega), W_id (by omega) (by omega), show (x : Int) / 10000 = ((x / 10000 : Nat) : Int) by omega, show (x : Int) % 10000 = ((x % 10000 : Nat) : Int) by omega]
    rw [small163 (n := n) m (x / 10000) _ (by omega) (by omega) (by simp; omega)]
    simp

theorem f163_eq {n : Nat} {x : Nat} (hx : (x : Int) ≤ 9223372036854775807) (hn : 10 < n) : f163 n (x : Int) = some (dg x) := by
 have hl : (dg x).length ≤ 5 := dg_len.2 (by rw [show (10000 : Int) ^ 5 = 100000000000000000000 from rfl]; omega)
 unfold f163
 rw [small163 (n := n) n x [] hx (by omega) (by simp; omega)]
 simp

theorem f175_eq {n : Nat} {b : Bool} : f175 n b = some (if b = true then 1 else 0) := by cases b <;> rfl

theorem cm_lt {x y : Int} (h : x < y) : cm x y = -1 := by unfold cm; rw [if_pos h]

theorem cm_gt {x y : Int} (h : y < x) : cm x y = 1 := by unfold cm; rw [if_neg (by omega), if_neg (by omega)]

theorem cm_eq {x y : Int} (h : x = y) : cm x y = 0 := by unfold cm; rw [if_neg (by omega), if_pos h]

theorem cm_add (x y z : Int) : cm (x + z) (y + z) = cm x y := by
 rcases Int.lt_trichotomy x y with h | h | h
 · rw [cm_lt h, cm_lt (by omega)]
 · rw [cm_eq h, cm_eq (by omega)]
 · rw [cm_gt h, cm_gt (by omega)]

theorem cmp127 {α : Type} {n : Nat} {a b : List Int} (ha : Lm a) (hb : Lm b) (hab : a.length = b.length) (hN : a.length ≤ 1099511627776) {k0 : Int → Option α} {k1 : Unit → Option α} : ∀ (m k : Nat), k < m → k ≤ a.length →
  f127_L4 n m a b ((k : Int) - 1) k0 k1 = if vl (a.take k) = vl (b.take k) then k1 () else k0 (cm (vl (a.take k)) (vl (b.take k)))
 | 0, k, h, _ => by omega
 | m + 1, k, h, hk => by
  rw [f127_L4_s]
  unfold f127_L4B
  dsimp only
  by_cases h0 : k = 0
  · subst h0
    simp
  · rw [Bool.cond_decide, if_pos (by omega), gd_pos (by simp; omega), gd_pos (by simp; omega)]
    have e : ((k : Int) - 1).toNat = k - 1 := by omega
    rw [e, Bool.cond_eq_ite]
    have ta := vl_take_succ (l := a) (k := k - 1) (by omega)
    have tb := vl_take_succ (l := b) (k := k - 1) (by omega)
    rw [show k - 1 + 1 = k by omega] at ta tb
    by_cases hz : a.getD (k - 1) 0 = b.getD (k - 1) 0
    · rw [if_neg (by simpa using hz), W_id (by omega) (by omega)]
      rw [show (k : Int) - 1 - 1 = ((k - 1 : Nat) : Int) - 1 by omega, cmp127 (n := n) ha hb hab hN m (k - 1) (by omega) (by omega)]
      rw [ta, tb, hz]
      by_cases h1 : vl (a.take (k - 1)) = vl (b.take (k - 1))
      · rw [if_pos h1, if_pos (by omega)]
      · rw [if_neg h1, if_neg (by omega)]
        rw [cm_add]
    · rw [if_pos (by simpa using hz), gd_pos (by simp; omega), gd_pos (by simp; omega), f175_eq, ob_some]
      rcases Int.lt_or_gt_of_ne hz with h1 | h1
      · have := cmp_take ha hb (k := k - 1) (by omega) (by omega) h1
        rw [show k - 1 + 1 = k by omega] at this
        rw [show (if vl (a.take k) = vl (b.take k) then k1 () else k0 (cm (vl (a.take k)) (vl (b.take k)))) = k0 (-1) by rw [if_neg (by omega), cm_lt this], if_neg (by rw [decide_eq_true_eq]; omega)]
        rfl
      · have := cmp_take hb ha (k := k - 1) (by omega) (by omega) h1
        rw [show k - 1 + 1 = k by omega] at this
        rw [show (if vl (a.take k) = vl (b.take k) then k1 () else k0 (cm (vl (a.take k)) (vl (b.take k)))) = k0 1 by rw [if_neg (by omega), cm_gt this], if_pos (by rw [decide_eq_true_eq]; omega)]
        rfl

theorem f127_eq {n : Nat} {a b : List Int} (ha : Cn a) (hb : Cn b) (hN : a.length ≤ 1099511627776) (hn : a.length < n) : f127 n a b = some (cm (vl a) (vl b)) := by
 unfold f127
 rw [Bool.cond_eq_ite]
 by_cases h : a.length = b.length
 · rw [if_neg (by simp [h]), W_id (by omega) (by omega), cmp127 (n := n) ha.1 hb.1 h hN n a.length hn (Nat.le_refl _)]
   rw [List.take_length, h, List.take_length]
   by_cases h1 : vl a = vl b
   · rw [if_pos h1, cm_eq h1]
   · rw [if_neg h1]
 · rw [if_pos (by simp; omega), f175_eq, ob_some]
   rcases Nat.lt_or_gt_of_ne h with h1 | h1
   · rw [cm_lt (ha.lt_of_len hb h1), if_neg (by simp; omega)]; rfl
   · rw [cm_gt (hb.lt_of_len ha h1), if_pos (by simp; omega)]; rfl

theorem cmp136 {α : Type} {n : Nat} {a b : List Int} (ha : Lm a) (hb : Lm b) (hab : a.length = b.length) {k0 k1 : Int → Option α} : ∀ (k : Nat), k ≤ a.length →
  f136_L6R n a k a b 0 k0 k1 = if vl (a.take k) = vl (b.take k) then k0 0 else k1 (cm (vl (a.take k)) (vl (b.take k)))
 | 0, _ => by rw [f136_L6_0]; simp
 | k + 1, hk => by
  rw [f136_L6_s]
  unfold f136_L6B
  dsimp only
  rw [gd_pos (by simp; omega), Bool.cond_eq_ite]
  have ta := vl_take_succ (l := a) (k := k) (by omega)
  have tb := vl_take_succ (l := b) (k := k) (by omega)
  simp only [Int.toNat_natCast]
  by_cases hz : a.getD k 0 = b.getD k 0
  · rw [if_neg (by simpa using hz), gd_pos (by simp), cmp136 ha hb hab k (by omega)]
    rw [ta, tb, hz]
    by_cases h1 : vl (a.take k) = vl (b.take k)
    · rw [if_pos h1, if_pos (by omega)]
    · rw [if_neg h1, if_neg (by omega)]
      rw [cm_add]
  · rw [if_pos (by simpa using hz), gd_pos (by simp; omega), Bool.cond_decide]
    rcases Int.lt_or_gt_of_ne hz with h1 | h1
    · have := cmp_take ha hb (k := k) (by omega) (by omega) h1
      rw [show (if vl (a.take (k + 1)) = vl (b.take (k + 1)) then k0 0 else k1 (cm (vl (a.take (k + 1))) (vl (b.take (k + 1))))) = k1 (-1) by rw [if_neg (by omega), cm_lt this], if_pos h1]
    · have := cmp_take hb ha (k := k) (by omega) (by omega) h1
      rw [show (if vl (a.take (k + 1)) = vl (b.take (k + 1)) then k0 0 else k1 (cm (vl (a.take (k + 1))) (vl (b.take (k + 1))))) = k1 1 by rw [if_neg (by omega), cm_gt this], if_neg (by omega)]

theorem f136_eq {n : Nat} {a b : List Int} (ha : Cn a) (hb : Cn b) (hN : a.length ≤ 1099511627776) : f136 n a b = some (cm (vl a) (vl b)) := by
 unfold f136
 rw [Bool.cond_eq_ite]
 by_cases h : a.length = b.length
 · rw [if_neg (by simp [h])]
   rw [show f181 n a = some a from rfl, ob_some, f136_L6_e, gd_pos (by simp; omega), cmp136 ha.1 hb.1 h a.length (Nat.le_refl _)]
   rw [List.take_length, h, List.take_length]
   by_cases h1 : vl a = vl b
   · rw [if_pos h1, cm_eq h1]
   · rw [if_neg h1]
 · rw [if_pos (by simp; omega), Bool.cond_decide]
   rcases Nat.lt_or_gt_of_ne h with h1 | h1
   · rw [cm_lt (ha.lt_of_len hb h1), if_pos (by omega)]
   · rw [cm_gt (hb.lt_of_len ha h1), if_neg (by omega)]

theorem vl_take_suc (l : List Int) (k : Nat) : vl (l.take (k + 1)) = vl (l.take k) + 10000 ^ k * l.getD k 0 := by
 rcases Nat.lt_or_ge k l.length with h | h
 · exact vl_take_succ h
 · rw [List.take_of_length_le (by omega), List.take_of_length_le (by omega), List.getD_eq_getElem?_getD, List.getElem?_eq_none h]
   simp

theorem getD_out {l : List Int} {k : Nat} (h : l.length ≤ k) : l.getD k 0 = 0 := by
 rw [List.getD_eq_getElem?_getD, List.getElem?_eq_none h]; rfl

theorem Cn.of_ge {l : List Int} (h : Lm l) (hg : l ≠ [] → (10000 : Int) ^ (l.length - 1) ≤ vl l) : Cn l := by
 refine ⟨h, fun hn e => ?_⟩
 have hl : 0 < l.length := List.length_pos_iff.2 hn
 have h1 := vl_take_suc l (l.length - 1)
 rw [show l.length - 1 + 1 = l.length by omega, List.take_length, e] at h1
 have h2 := vl_lt (h.take (l.length - 1))
 rw [List.length_take, Nat.min_eq_left (by omega)] at h2
 have := hg hn
 omega

theorem take_le (l : List Int) {k : Nat} (h : l.length ≤ k) : l.take k = l := List.take_of_length_le h

theorem add188 {α : Type} {n : Nat} {a b : List Int} (ha : Cn a) (hb : Cn b) (hN : a.length ≤ 1099511627776) (hNb : b.length ≤ 1099511627776) {k0 : List Int → Option α} : ∀ (m i : Nat) (c : Int) (o : List Int), o.length = i → Lm o → 0 ≤ c → c ≤ 1 →
  vl o + 10000 ^ i * c = vl (a.take i) + vl (b.take i) → (i ≤ max a.length b.length ∨ (i = max a.length b.length + 1 ∧ c = 0 ∧ o.getD (i - 1) 0 ≠ 0)) → max a.length b.length + 2 ≤ i + m →
  f188_L4 n m a b c (i : Int) o k0 = k0 (dg (vl a + vl b).toNat)
 | 0, i, c, o, ho, hlo, hc0, hc1, hv, hq, hm => by omega
 | m + 1, i, c, o, ho, hlo, hc0, hc1, hv, hq, hm => by
  rw [f188_L4_s]
  unfold f188_L4B
  dsimp only
  have fin : a.length ≤ i → b.length ≤ i → c = 0 → o = dg (vl a + vl b).toNat := fun h1 h2 h3 => by
   rw [take_le a h1, take_le b h2, h3] at hv
   have hv' : vl o = vl a + vl b := by simpa using hv
   have : Cn o := Cn.of_ge hlo fun hn => by
    have hl : 0 < o.length := List.length_pos_iff.2 hn
    rcases hq with hq | ⟨hq1, _, hq3⟩
    · have hmx : i = max a.length b.length := by omega
      rw [ho, hv']
      rcases Nat.le_total a.length b.length with hab | hab
      · have h4 := hb.ge (List.length_pos_iff.1 (by omega))
        have h5 := vl_nonneg ha.1
        rw [show i - 1 = b.length - 1 by omega]; omega
      · have h4 := ha.ge (List.length_pos_iff.1 (by omega))
        have h5 := vl_nonneg hb.1
        rw [show i - 1 = a.length - 1 by omega]; omega
    · have h1 := vl_take_suc o (o.length - 1)
      rw [show o.length - 1 + 1 = o.length by omega, List.take_length] at h1
      have h2 := vl_nonneg (hlo.take (o.length - 1))
      have h3 := hlo.get (o.length - 1)
      rw [← ho] at hq3
      have h4 := pw_pos (o.length - 1)
      have h5 : (10000 : Int) ^ (o.length - 1) * 1 ≤ 10000 ^ (o.length - 1) * o.getD (o.length - 1) 0 := Int.mul_le_mul_of_nonneg_left (by omega) (by omega)
      omega
   rw [← hv', dg_vl this]
  have go : ∀ (y : Int), y = c + a.getD i 0 + b.getD i 0 → (i < max a.length b.length ∨ (i = max a.length b.length ∧ 0 < c)) → f188_L4 n m a b (W (Int.tdiv y 10000)) (W ((i : Int) + 1)) (o ++ [Int.tmod y 10000]) k0 = k0 (dg (vl a + vl b).toNat) := by
   intro y hy hi
   have h1 := ha.1.get i
   have h2 := hb.1.get i
   rw [tdv (by omega), tmd (by omega), W_id (by omega) (by omega), W_id (by omega) (by omega)]
   have ta := vl_take_suc a i
   have tb := vl_take_suc b i
   have hyy : y = 10000 * (y / 10000) + y % 10000 := by omega
   refine add188 (n := n) ha hb hN hNb m (i + 1) _ _ (by simp [ho]) (hlo.app (Lm.cons (by omega) Lm.nil)) (by omega) (by omega) ?_ ?_ (by omega)
   · rw [vl_snoc, ho, ta, tb, pw_succ]
     generalize y / 10000 = q at *
     generalize y % 10000 = r at *
     generalize (10000 : Int) ^ i = P at *
     grind
   · rcases hi with hi | ⟨hi, hc⟩
     · exact .inl (by omega)
     · right
       have e1 : a.getD i 0 = 0 := getD_out (by omega)
       have e2 : b.getD i 0 = 0 := getD_out (by omega)
       have e3 : y = 1 := by omega
       subst e3
       refine ⟨by omega, by rfl, ?_⟩
       rw [Nat.add_sub_cancel, ← ho, List.getD_eq_getElem?_getD]
       simp
  have hcases : (i < a.length ∨ i < b.length ∨ 0 < c) → (i < max a.length b.length ∨ (i = max a.length b.length ∧ 0 < c)) := fun h => by
   rcases h with h | h | h
   · exact .inl (by omega)
   · exact .inl (by omega)
   · rcases hq with hq | ⟨_, h0, _⟩
     · omega
     · omega
  have ho2 : (decide ((o.length + 1) * 8 ≤ 140737488355328)) = true := by
   rw [decide_eq_true_eq]
   rcases hq with hq | ⟨hq, _⟩ <;> omega
  have h1 := ha.1.get i
  have h2 := hb.1.get i
  by_cases hA : i < a.length
  · have dA : decide ((i : Int) < (a.length : Int)) = true := by rw [decide_eq_true_eq]; omega
    simp only [dA, cond_true, Int.toNat_natCast]
    rw [gd_pos (by simp; try omega), W_id (x := c + a.getD i 0) (by omega) (by omega)]
    by_cases hB : i < b.length
    · have dB : decide ((i : Int) < (b.length : Int)) = true := by rw [decide_eq_true_eq]; omega
      simp only [dB, cond_true]
      rw [gd_pos (by simp; try omega), gd_pos ho2, W_id (x := c + a.getD i 0 + b.getD i 0) (by omega) (by omega)]
      exact go _ rfl (hcases (.inl hA))
    · have dB : decide ((i : Int) < (b.length : Int)) = false := by rw [decide_eq_false_iff_not]; omega
      simp only [dB, cond_false]
      rw [gd_pos ho2]
      exact go _ (by rw [getD_out (l := b) (by omega)]; omega) (hcases (.inl hA))
  · have dA : decide ((i : Int) < (a.length : Int)) = false := by rw [decide_eq_false_iff_not]; omega
    simp only [dA, cond_false, Int.toNat_natCast]
    by_cases hB : i < b.length
    · have dB : decide ((i : Int) < (b.length : Int)) = true := by rw [decide_eq_true_eq]; omega
      simp only [dB, cond_true]
      rw [gd_pos (by simp; try omega), gd_pos ho2, W_id (x := c + b.getD i 0) (by omega) (by omega)]
      exact go _ (by rw [getD_out (l := a) (by omega)]; omega) (hcases (.inr (.inl hB)))
    · have dB : decide ((i : Int) < (b.length : Int)) = false := by rw [decide_eq_false_iff_not]; omega
      simp only [dB, cond_false]
      rw [Bool.cond_decide]
      by_cases hc : 0 < c
      · rw [if_pos (by omega), gd_pos ho2]
        exact go _ (by rw [getD_out (l := a) (by omega), getD_out (l := b) (by omega)]; omega) (hcases (.inr (.inr hc)))
      · rw [if_neg (by omega), fin (by omega) (by omega) (by omega)]

theorem f188_eq {n : Nat} {a b : List Int} (ha : Cn a) (hb : Cn b) (hN : a.length ≤ 1099511627776) (hNb : b.length ≤ 1099511627776) (hn : max a.length b.length + 2 ≤ n) : f188 n a b = some (dg (vl a + vl b).toNat) := by
 unfold f188
 have := add188 (n := n) ha hb hN hNb (k0 := fun z_6 => some z_6) n 0 0 [] rfl Lm.nil (by omega) (by omega) (by simp [vl]) (.inl (by omega)) (by omega)
 exact this

theorem sub189 {α : Type} {n : Nat} {a b : List Int} (ha : Lm a) (hb : Lm b) (hN : a.length ≤ 1099511627776) {k0 : List Int → Option α} : ∀ (m i : Nat) (c : Int) (o : List Int), o.length = i → Lm o → 0 ≤ c → c ≤ 1 → i ≤ a.length →
  vl o - 10000 ^ i * c = vl (a.take i) - vl (b.take i) → a.length + 1 ≤ i + m →
  ∃ o' c', f189_L4 n m a b c (i : Int) o k0 = k0 o' ∧ o'.length = a.length ∧ Lm o' ∧ 0 ≤ c' ∧ c' ≤ 1 ∧ vl o' - 10000 ^ a.length * c' = vl a - vl (b.take a.length)
 | 0, i, c, o, ho, hlo, hc0, hc1, hi, hv, hm => by omega
 | m + 1, i, c, o, ho, hlo, hc0, hc1, hi, hv, hm => by
  rw [f189_L4_s]
  unfold f189_L4B
  dsimp only
  by_cases hA : i < a.length
  · rw [Bool.cond_decide, if_pos (by omega), gd_pos (by simp; try omega)]
    have h1 := ha.get i
    have h2 := hb.get i
    have ta := vl_take_suc a i
    have tb := vl_take_suc b i
    have ho2 : (decide ((o.length + 1) * 8 ≤ 140737488355328)) = true := by
     rw [decide_eq_true_eq]; omega
    have go : ∀ y : Int, y = a.getD i 0 - c - b.getD i 0 → ∃ o' c', f189_L4 n m a b (if y < 0 then 1 else 0) (W ((i : Int) + 1)) (o ++ [W (y + W ((if y < 0 then 1 else 0) * 10000))]) k0 = k0 o' ∧ o'.length = a.length ∧ Lm o' ∧ 0 ≤ c' ∧ c' ≤ 1 ∧ vl o' - 10000 ^ a.length * c' = vl a - vl (b.take a.length) := by
     intro y hy
     obtain ⟨d, hd⟩ : ∃ d : Int, d = if y < 0 then 1 else 0 := ⟨_, rfl⟩
     have hd1 : 0 ≤ d ∧ d ≤ 1 ∧ 0 ≤ y + d * 10000 ∧ y + d * 10000 < 10000 := by
      rw [hd]
      split <;> omega
     rw [← hd, W_id (x := d * 10000) (by omega) (by omega), W_id (x := y + d * 10000) (by omega) (by omega), W_id (x := (i : Int) + 1) (by omega) (by omega)]
     refine sub189 (n := n) ha hb hN m (i + 1) d _ (by simp [ho]) (hlo.app (Lm.cons (by omega) Lm.nil)) (by omega) (by omega) (by omega) ?_ (by omega)
     rw [vl_snoc, ho, ta, tb, pw_succ]
     generalize (10000 : Int) ^ i = P at *
     grind
    simp only [Int.toNat_natCast]
    by_cases hB : i < b.length
    · have dB : decide ((i : Int) < (b.length : Int)) = true := by rw [decide_eq_true_eq]; omega
      simp only [dB, cond_true]
      rw [gd_pos (by simp; try omega)]
      simp only [W_id (x := a.getD i 0 - c) (by omega) (by omega), W_id (x := a.getD i 0 - c - b.getD i 0) (by omega) (by omega)]
      rw [f175_eq, ob_some, gd_pos ho2]
      simp only [decide_eq_true_eq]
      exact go _ rfl
    · have dB : decide ((i : Int) < (b.length : Int)) = false := by rw [decide_eq_false_iff_not]; omega
      simp only [dB, cond_false]
      simp only [W_id (x := a.getD i 0 - c) (by omega) (by omega)]
      rw [f175_eq, ob_some, gd_pos ho2]
      simp only [decide_eq_true_eq]
      exact go _ (by rw [getD_out (l := b) (by omega)]; omega)
  · rw [Bool.cond_decide, if_neg (by omega)]
    obtain rfl : i = a.length := by omega
    rw [List.take_length] at hv
    exact ⟨o, c, rfl, ho, hlo, hc0, hc1, hv⟩

theorem f189_eq {n : Nat} {a b : List Int} (ha : Cn a) (hb : Cn b) (hN : a.length ≤ 1099511627776) (hn : a.length + 1 ≤ n) (hab : vl b ≤ vl a) : f189 n a b = some (dg (vl a - vl b).toNat) := by
 have hl : b.length ≤ a.length := by
  rcases Nat.lt_or_ge a.length b.length with h | h
  · have := ha.lt_of_len hb h; omega
  · exact h
 unfold f189
 obtain ⟨o, c, h1, h2, h3, h4, h5, h6⟩ := sub189 (n := n) ha.1 hb.1 hN (k0 := fun z_4 => ob (f185 n z_4) fun r_5 => some r_5) n 0 0 [] rfl Lm.nil (by omega) (by omega) (by omega) (by simp [vl]) (by omega)
 have h1 : f189_L4 n n a b 0 0 [] (fun z_4 => ob (f185 n z_4) fun r_5 => some r_5) = _ := h1
 rw [h1, f185_eq h3 (by omega) (by omega), ob_some]
 rw [take_le b hl] at h6
 have h7 := vl_lt h3
 rw [h2] at h7
 have : c = 0 := by
  rcases Int.lt_or_eq_of_le h4 with h | h
  · have : c = 1 := by omega
    rw [this] at h6
    omega
  · exact h.symm
 rw [this] at h6
 rw [show vl o = vl a - vl b by simpa using h6]

theorem vl_drop {l : List Int} {k : Nat} (h : k < l.length) : vl (l.drop k) = l.getD k 0 + 10000 * vl (l.drop (k + 1)) := by
 rw [List.drop_eq_getElem_cons h, vl, List.getD_eq_getElem?_getD, List.getElem?_eq_getElem h]; rfl

theorem mul_step {P o ok y q r c ai bk v' T : Int} (h : o + P * (c + ai * (bk + 10000 * v')) = T) (hy : y = ok + c + ai * bk) (hq : y = 10000 * q + r) : o + P * (r - ok) + 10000 * P * (q + ai * v') = T := by
 grind

theorem limb_mul {x y : Int} (hx : 0 ≤ x ∧ x < 10000) (hy : 0 ≤ y ∧ y < 10000) : 0 ≤ x * y ∧ x * y ≤ 99980001 := by
 have h1 := Int.mul_nonneg hx.1 hy.1
 have h2 : x * y ≤ 9999 * y := Int.mul_le_mul_of_nonneg_right (by omega) hy.1
 omega

theorem mul154 {α : Type} {n : Nat} {a b : List Int} (ha : Lm a) (hb : Lm b) (i : Nat) (hi : i < a.length) {S : Nat} (hS : a.length + b.length < S) (hN : S ≤ 1099511627776) {T : Int} (hT : T < 10000 ^ S) {k0 : List Int → List Int → Int → List Int → Option α} :
  ∀ (m k : Nat) (c : Int) (o : List Int), Lm o → o.length = S → 0 ≤ c → c < 10000 → i + k ≤ S → vl o + 10000 ^ (i + k) * (c + a.getD i 0 * vl (b.drop k)) = T → S + 1 ≤ i + k + m →
  ∃ o', Lm o' ∧ o'.length = S ∧ vl o' = T ∧ f154_L7 n m a b (i : Int) c (k : Int) o k0 = k0 a b (i : Int) o'
 | 0, k, c, o, hlo, ho, hc0, hc1, hik, hv, hm => by omega
 | m + 1, k, c, o, hlo, ho, hc0, hc1, hik, hv, hm => by
  rw [f154_L7_s]
  unfold f154_L7B
  dsimp only
  have h1 := ha.get i
  have h2 := hb.get k
  have h3 := hlo.get (i + k)
  have h4 := limb_mul h1 h2
  have hvo := vl_nonneg hlo
  have go : ∀ y : Int, i + k < S → (k < b.length ∨ b.length ≤ k) → y = o.getD (i + k) 0 + c + a.getD i 0 * b.getD k 0 →
    ∃ o', Lm o' ∧ o'.length = S ∧ vl o' = T ∧ f154_L7 n m a b (i : Int) (W (Int.tdiv y 10000)) (W ((k : Int) + 1)) (o.set (i + k) (Int.tmod y 10000)) k0 = k0 a b (i : Int) o' := by
   intro y hlt hk hy
   rw [tdv (by omega), tmd (by omega), W_id (by omega) (by omega), W_id (by omega) (by omega)]
   refine mul154 (n := n) ha hb i hi hS hN hT m (k + 1) _ _ (hlo.set _ (by omega)) (by simpa using ho) (by omega) (by omega) (by omega) ?_ (by omega)
   rw [vl_set _ (by omega), show i + (k + 1) = (i + k) + 1 by omega, pw_succ]
   have hyy : y = 10000 * (y / 10000) + y % 10000 := by omega
   refine mul_step (bk := b.getD k 0) ?_ hy hyy
   rcases hk with hk | hk
   · rw [← vl_drop hk]; exact hv
   · rw [List.drop_of_length_le (by omega)] at hv ⊢
     rw [getD_out hk]
     simpa [vl] using hv
  by_cases hB : k < b.length
  · have dB : decide ((k : Int) < (b.length : Int)) = true := by rw [decide_eq_true_eq]; omega
    simp only [dB, cond_true, Int.toNat_natCast]
    rw [W_id (x := (i : Int) + (k : Int)) (by omega) (by omega)]
    have e : ((i : Int) + (k : Int)).toNat = i + k := by omega
    simp only [e]
    rw [gd_pos (by simp; try omega), gd_pos (by simp; try omega), gd_pos (by simp; try omega), gd_pos (by simp; try omega), W_id (x := a.getD i 0 * b.getD k 0) (by omega) (by omega), W_id (x := o.getD (i + k) 0 + c) (by omega) (by omega), W_id (x := o.getD (i + k) 0 + c + a.getD i 0 * b.getD k 0) (by omega) (by omega), gd_pos (by simp; try omega), gd_pos (by simp; try omega)]
    exact go _ (by omega) (.inl hB) rfl
  · have dB : decide ((k : Int) < (b.length : Int)) = false := by rw [decide_eq_false_iff_not]; omega
    simp only [dB, cond_false]
    rw [Bool.cond_decide]
    rw [List.drop_of_length_le (by omega)] at hv
    by_cases hc : 0 < c
    · have hlt : i + k < S := by
       refine pw_lt ?_
       have h5 : (10000 : Int) ^ (i + k) * 1 ≤ 10000 ^ (i + k) * c := Int.mul_le_mul_of_nonneg_left (by omega) (by have := pw_pos (i + k); omega)
       simp only [vl, Int.mul_zero, Int.add_zero] at hv
       omega
      rw [if_pos (by omega), W_id (x := (i : Int) + (k : Int)) (by omega) (by omega)]
      have e : ((i : Int) + (k : Int)).toNat = i + k := by omega
      simp only [e]
      rw [gd_pos (by simp; try omega), gd_pos (by simp; try omega), gd_pos (by simp; try omega), gd_pos (by simp; try omega), W_id (x := o.getD (i + k) 0 + c) (by omega) (by omega)]
      exact go _ hlt (.inr (by omega)) (by rw [getD_out (l := b) (by omega)]; omega)
    · rw [if_neg (by omega)]
      obtain rfl : c = 0 := by omega
      exact ⟨o, hlo, ho, by simpa [vl] using hv, rfl⟩

theorem mul_lt {a b : List Int} (ha : Lm a) (hb : Lm b) {i S : Nat} (hS : i + b.length ≤ S) : vl (a.take i) * vl b < 10000 ^ S := by
 have h1 := vl_lt (ha.take i)
 have h2 := vl_lt hb
 have h3 := vl_nonneg (ha.take i)
 have h4 := vl_nonneg hb
 have h5 : (10000 : Int) ^ (a.take i).length ≤ 10000 ^ i := pw_le (by simp; omega)
 have h6 := pw_pos i
 have h7 := pw_pos b.length
 have h8 : vl (a.take i) * vl b ≤ vl (a.take i) * 10000 ^ b.length := Int.mul_le_mul_of_nonneg_left (by omega) h3
 have h9 : vl (a.take i) * 10000 ^ b.length < 10000 ^ i * 10000 ^ b.length := Int.mul_lt_mul_of_pos_right (by omega) h7
 rw [← Int.pow_add] at h9
 have h10 : (10000 : Int) ^ (i + b.length) ≤ 10000 ^ S := pw_le hS
 omega

theorem mulo154 {α : Type} {n : Nat} {a b : List Int} (ha : Lm a) (hb : Lm b) {S : Nat} (hS : a.length + b.length < S) (hN : S ≤ 1099511627776) (hn : S + 1 ≤ n) {k0 : List Int → Option α} :
  ∀ (m i : Nat) (o : List Int), Lm o → o.length = S → i ≤ a.length → vl o = vl (a.take i) * vl b → a.length + 1 ≤ i + m →
  ∃ o', Lm o' ∧ o'.length = S ∧ vl o' = vl a * vl b ∧ f154_L3 n m a b (i : Int) o k0 = k0 o'
 | 0, i, o, hlo, ho, hi, hv, hm => by omega
 | m + 1, i, o, hlo, ho, hi, hv, hm => by
  rw [f154_L3_s]
  unfold f154_L3B
  dsimp only
  rw [Bool.cond_decide]
  by_cases hA : i < a.length
  · rw [if_pos (by omega)]
    have hT : vl (a.take (i + 1)) * vl b < 10000 ^ S := mul_lt ha hb (by omega)
    obtain ⟨o', q1, q2, q3, q4⟩ := mul154 (n := n) ha hb i hA hS hN hT (k0 := fun z_1 z_2 z_3 z_4 => f154_L3 n m z_1 z_2 (W (z_3 + 1)) z_4 k0) n 0 0 o hlo ho (by omega) (by omega) (by omega) (by
     rw [hv, vl_take_suc, List.drop_zero, Nat.add_zero]
     generalize (10000 : Int) ^ i = P
     grind) (by omega)
    have q4 : f154_L7 n n a b (i : Int) 0 0 o _ = _ := q4
    rw [q4, W_id (by omega) (by omega)]
    exact mulo154 (n := n) ha hb hS hN hn m (i + 1) o' q1 q2 (by omega) q3 (by omega)
  · rw [if_neg (by omega)]
    obtain rfl : i = a.length := by omega
    rw [List.take_length] at hv
    exact ⟨o, hlo, ho, hv, rfl⟩

theorem f154_eq {n : Nat} {a b : List Int} (ha : Lm a) (hb : Lm b) (hN : a.length + b.length ≤ 1099511627770) (hn : a.length + b.length + 2 ≤ n) : f154 n a b = some (dg (vl a * vl b).toNat) := by
 unfold f154
 rw [W_id (x := (a.length : Int) + (b.length : Int)) (by omega) (by omega), W_id (x := (a.length : Int) + (b.length : Int) + 1) (by omega) (by omega), gd_pos (by simp; try omega)]
 have e : ((a.length : Int) + (b.length : Int) + 1).toNat = a.length + b.length + 1 := by omega
 rw [e]
 obtain ⟨o, q1, q2, q3, q4⟩ := mulo154 (n := n) ha hb (S := a.length + b.length + 1) (by omega) (by omega) (by omega) (k0 := fun z_5 => ob (f185 n z_5) fun r_6 => some r_6) n 0 (List.replicate (a.length + b.length + 1) 0) (Lm.rep _) (by simp) (by omega) (by rw [vl_rep]; simp [vl]) (by omega)
 have q4 : f154_L3 n n a b 0 _ _ = _ := q4
 rw [q4, f185_eq q1 (by omega) (by omega), ob_some, q3]

theorem mul149 {α : Type} {n : Nat} {a b : List Int} (ha : Lm a) (hb : Lm b) (i : Nat) (hi : i < a.length) {S : Nat} (hS : a.length + b.length ≤ S) (hN : S ≤ 1099511627776) {T : Int} (hT : T < 10000 ^ S) (q1 : List Int) (q2 q3 : Int) {k0 : List Int → List Int → Int → Int → List Int → Option α} :
  ∀ (m k : Nat) (c : Int) (o : List Int), Lm o → o.length = S → 0 ≤ c → c < 10000 → i + k ≤ S → vl o + 10000 ^ (i + k) * (c + a.getD i 0 * vl (b.drop k)) = T → S + 1 ≤ i + k + m →
  ∃ o', Lm o' ∧ o'.length = S ∧ vl o' = T ∧ f149_L7 n m b (i : Int) (a.getD i 0) c (k : Int) q1 q2 q3 o k0 = k0 b q1 q2 q3 o'
 | 0, k, c, o, hlo, ho, hc0, hc1, hik, hv, hm => by omega
 | m + 1, k, c, o, hlo, ho, hc0, hc1, hik, hv, hm => by
  rw [f149_L7_s]
  unfold f149_L7B
  dsimp only
  have h1 := ha.get i
  have h2 := hb.get k
  have h3 := hlo.get (i + k)
  have h4 := limb_mul h1 h2
  have hvo := vl_nonneg hlo
  have go : ∀ y : Int, i + k < S → (k < b.length ∨ b.length ≤ k) → y = o.getD (i + k) 0 + c + a.getD i 0 * b.getD k 0 →
    ∃ o', Lm o' ∧ o'.length = S ∧ vl o' = T ∧ f149_L7 n m b (i : Int) (a.getD i 0) (W (Int.tdiv y 10000)) (W ((k : Int) + 1)) q1 q2 q3 (o.set (i + k) (Int.tmod y 10000)) k0 = k0 b q1 q2 q3 o' := by
   intro y hlt hk hy
   rw [tdv (by omega), tmd (by omega), W_id (by omega) (by omega), W_id (by omega) (by omega)]
   refine mul149 (n := n) ha hb i hi hS hN hT q1 q2 q3 m (k + 1) _ _ (hlo.set _ (by omega)) (by simpa using ho) (by omega) (by omega) (by omega) ?_ (by omega)
   rw [vl_set _ (by omega), show i + (k + 1) = (i + k) + 1 by omega, pw_succ]
   have hyy : y = 10000 * (y / 10000) + y % 10000 := by omega
   refine mul_step (bk := b.getD k 0) ?_ hy hyy
   rcases hk with hk | hk
   · rw [← vl_drop hk]; exact hv
   · rw [List.drop_of_length_le (by omega)] at hv ⊢
     rw [getD_out hk]
     simpa [vl] using hv
  by_cases hB : k < b.length
  · have dB : decide ((k : Int) < (b.length : Int)) = true := by rw [decide_eq_true_eq]; omega
    simp only [dB, cond_true, Int.toNat_natCast]
    rw [W_id (x := (i : Int) + (k : Int)) (by omega) (by omega)]
    have e : ((i : Int) + (k : Int)).toNat = i + k := by omega
    simp only [e]
    rw [gd_pos (by simp; try omega), W_id (x := a.getD i 0 * b.getD k 0) (by omega) (by omega), W_id (x := c + a.getD i 0 * b.getD k 0) (by omega) (by omega), gd_pos (by simp; try omega), gd_pos (by simp; try omega), gd_pos (by simp; try omega), gd_pos (by simp; try omega), W_id (x := c + a.getD i 0 * b.getD k 0 + o.getD (i + k) 0) (by omega) (by omega)]
    exact go _ (by omega) (.inl hB) (by omega)
  · have dB : decide ((k : Int) < (b.length : Int)) = false := by rw [decide_eq_false_iff_not]; omega
    simp only [dB, cond_false]
    rw [Bool.cond_decide]
    rw [List.drop_of_length_le (by omega)] at hv
    by_cases hc : 0 < c
    · have hlt : i + k < S := by
       refine pw_lt ?_
       have h5 : (10000 : Int) ^ (i + k) * 1 ≤ 10000 ^ (i + k) * c := Int.mul_le_mul_of_nonneg_left (by omega) (by have := pw_pos (i + k); omega)
       simp only [vl, Int.mul_zero, Int.add_zero] at hv
       omega
      rw [if_pos (by omega), W_id (x := (i : Int) + (k : Int)) (by omega) (by omega)]
      have e : ((i : Int) + (k : Int)).toNat = i + k := by omega
      simp only [e]
      rw [gd_pos (by simp; try omega), gd_pos (by simp; try omega), gd_pos (by simp; try omega), gd_pos (by simp; try omega), W_id (x := c + o.getD (i + k) 0) (by omega) (by omega)]
      exact go _ hlt (.inr (by omega)) (by rw [getD_out (l := b) (by omega)]; omega)
    · rw [if_neg (by omega)]
      obtain rfl : c = 0 := by omega
      exact ⟨o, hlo, ho, by simpa [vl] using hv, rfl⟩

theorem mulo149 {α : Type} {n : Nat} {a b : List Int} (ha : Lm a) (hb : Lm b) {S : Nat} (hS : a.length + b.length ≤ S) (hN : S ≤ 1099511627776) (hn : S + 1 ≤ n) {k0 : List Int → Option α} :
  ∀ (m i : Nat) (o : List Int), Lm o → o.length = S → i ≤ a.length → vl o = vl (a.take i) * vl b → a.length + 1 ≤ i + m →
  ∃ o', Lm o' ∧ o'.length = S ∧ vl o' = vl a * vl b ∧ f149_L3 n m b a (a.length : Int) (i : Int) o k0 = k0 o'
 | 0, i, o, hlo, ho, hi, hv, hm => by omega
 | m + 1, i, o, hlo, ho, hi, hv, hm => by
  rw [f149_L3_s]
  unfold f149_L3B
  dsimp only
  rw [Bool.cond_decide]
  by_cases hA : i < a.length
  · rw [if_pos (by omega), gd_pos (by simp; try omega)]
    simp only [Int.toNat_natCast]
    have hT : vl (a.take (i + 1)) * vl b < 10000 ^ S := mul_lt ha hb (by omega)
    obtain ⟨o', q1, q2, q3, q4⟩ := mul149 (n := n) ha hb i hA hS hN hT a (a.length : Int) (i : Int) (k0 := fun z_1 z_2 z_3 z_4 z_5 => f149_L3 n m z_1 z_2 z_3 (W (z_4 + 1)) z_5 k0) n 0 0 o hlo ho (by omega) (by omega) (by omega) (by
     rw [hv, vl_take_suc, List.drop_zero, Nat.add_zero]
     generalize (10000 : Int) ^ i = P
     grind) (by omega)
    have q4 : f149_L7 n n b (i : Int) (a.getD i 0) 0 0 a (a.length : Int) (i : Int) o _ = _ := q4
    rw [q4, W_id (by omega) (by omega)]
    exact mulo149 (n := n) ha hb hS hN hn m (i + 1) o' q1 q2 (by omega) q3 (by omega)
  · rw [if_neg (by omega)]
    obtain rfl : i = a.length := by omega
    rw [List.take_length] at hv
    exact ⟨o, hlo, ho, hv, rfl⟩

theorem f149_eq {n : Nat} {a b : List Int} (ha : Lm a) (hb : Lm b) (hN : a.length + b.length ≤ 1099511627770) (hn : a.length + b.length + 2 ≤ n) : f149 n a b = some (dg (vl a * vl b).toNat) := by
 unfold f149
 rw [W_id (x := (a.length : Int) + (b.length : Int)) (by omega) (by omega), gd_pos (by simp; try omega)]
 have e : ((a.length : Int) + (b.length : Int)).toNat = a.length + b.length := by omega
 rw [e]
 obtain ⟨o, q1, q2, q3, q4⟩ := mulo149 (n := n) ha hb (S := a.length + b.length) (by omega) (by omega) (by omega) (k0 := fun z_5 => ob (f186 n z_5) fun r_6 => some r_6) n 0 (List.replicate (a.length + b.length) 0) (Lm.rep _) (by simp) (by omega) (by rw [vl_rep]; simp [vl]) (by omega)
 have q4 : f149_L3 n n b a (a.length : Int) 0 _ _ = _ := q4
 rw [q4, f186_eq q1 (by omega) (by omega), ob_some, q3]

theorem pwc (k : Nat) : ((10000 ^ k : Nat) : Int) = (10000 : Int) ^ k := by rw [Int.natCast_pow]; rfl

theorem nc10 (Q : Nat) : ((10000 * Q : Nat) : Int) = 10000 * (Q : Int) := by omega

theorem nc10a (Q q : Nat) : ((10000 * Q + q : Nat) : Int) = 10000 * (Q : Int) + q := by omega

theorem nc10b (Q q : Nat) : ((q + 10000 * Q : Nat) : Int) = q + 10000 * (Q : Int) := by omega

theorem len_of {n k : Nat} (h : n < 10000 ^ k) : (dg n).length ≤ k := dg_len.2 (by rw [← pwc]; omega)

theorem lt_len (n : Nat) : n < 10000 ^ (dg n).length := by
 have := dg_len.1 (Nat.le_refl (dg n).length)
 rw [← pwc] at this
 omega

theorem lt_len' {n k : Nat} (h : (dg n).length ≤ k) : n < 10000 ^ k := by
 have := dg_len.1 h
 rw [← pwc] at this
 omega

theorem len_mul (a b : Nat) : (dg (a * b)).length ≤ (dg a).length + (dg b).length := by
 refine len_of ?_
 rw [Nat.pow_add]
 exact Nat.mul_lt_mul'' (lt_len a) (lt_len b)

theorem len_add (a b : Nat) : (dg (a + b)).length ≤ max (dg a).length (dg b).length + 1 := by
 refine len_of ?_
 have h1 : a < 10000 ^ max (dg a).length (dg b).length := lt_len' (by omega)
 have h2 : b < 10000 ^ max (dg a).length (dg b).length := lt_len' (by omega)
 rw [Nat.pow_succ]
 omega

theorem len_one {a : Nat} (h : a < 10000) : (dg a).length ≤ 1 := len_of (by simpa using h)

theorem len_ten (a : Nat) (x : Nat) (h : x < 10000) : (dg (x + 10000 * a)).length ≤ (dg a).length + 1 := by
 refine len_of ?_
 have := lt_len a
 rw [Nat.pow_succ]
 omega

theorem s_cmp {n a b : Nat} (h : (dg a).length ≤ 1099511627776) (hn : (dg a).length < n) : f127 n (dg a) (dg b) = some (cm a b) := by
 rw [f127_eq (Cn_dg a) (Cn_dg b) h hn, vl_dg, vl_dg]

theorem s_mul {n a b : Nat} (h : (dg a).length + (dg b).length ≤ 1099511627770) (hn : (dg a).length + (dg b).length + 2 ≤ n) : f154 n (dg a) (dg b) = some (dg (a * b)) := by
 rw [f154_eq (Lm_dg a) (Lm_dg b) h hn, vl_dg, vl_dg]; congr 1

theorem s_add {n a b : Nat} (h : (dg a).length ≤ 1099511627776) (h' : (dg b).length ≤ 1099511627776) (hn : max (dg a).length (dg b).length + 2 ≤ n) : f188 n (dg a) (dg b) = some (dg (a + b)) := by
 rw [f188_eq (Cn_dg a) (Cn_dg b) h h' hn, vl_dg, vl_dg]; congr 1

theorem s_sub {n a b : Nat} (h : (dg a).length ≤ 1099511627776) (hn : (dg a).length + 1 ≤ n) (hab : b ≤ a) : f189 n (dg a) (dg b) = some (dg (a - b)) := by
 rw [f189_eq (Cn_dg a) (Cn_dg b) h hn (by rw [vl_dg, vl_dg]; omega), vl_dg, vl_dg]
 congr 2
 omega

theorem i_mul {n a b : Nat} (h : (dg a).length + (dg b).length ≤ 1099511627770) (hn : (dg a).length + (dg b).length + 2 ≤ n) : f149 n (dg a) (dg b) = some (dg (a * b)) := by
 rw [f149_eq (Lm_dg a) (Lm_dg b) h hn, vl_dg, vl_dg]; congr 1

theorem i_cmp {n a b : Nat} (h : (dg a).length ≤ 1099511627776) : f136 n (dg a) (dg b) = some (cm a b) := by
 rw [f136_eq (Cn_dg a) (Cn_dg b) h, vl_dg, vl_dg]

theorem bis176 {α : Type} {n B R : Nat} (hBl : (dg B).length ≤ 1099511627700) (hn : (dg B).length + 20 ≤ n) (s0 : List Int) (s8 : Int) (b14 : List Int) {k0 : List Int → List Int → List Int → Int → Int → List Int → Option α} :
  ∀ (m lo hi : Nat), lo < hi → hi ≤ 10000 → lo * B ≤ R → R < hi * B → hi ≤ lo + m →
  f176_L10 n m s0 (dg B) (dg R) s8 (lo : Int) (hi : Int) b14 k0 = k0 s0 (dg B) (dg R) s8 ((R / B : Nat) : Int) b14
 | 0, lo, hi, h1, h2, h3, h4, h5 => by omega
 | m + 1, lo, hi, h1, h2, h3, h4, h5 => by
  rw [f176_L10_s]
  unfold f176_L10B
  dsimp only
  rw [W_id (x := (hi : Int) - (lo : Int)) (by omega) (by omega), W_id (x := (lo : Int) + (hi : Int)) (by omega) (by omega)]
  have e : Int.tdiv ((lo : Int) + (hi : Int)) 2 = (((lo + hi) / 2 : Nat) : Int) := by
   rw [Int.tdiv_eq_ediv_of_nonneg (by omega)]; omega
  rw [e, W_id (x := (((lo + hi) / 2 : Nat) : Int)) (by omega) (by omega)]
  generalize hmid : (lo + hi) / 2 = mid
  by_cases hc : lo + 1 < hi
  · rw [Bool.cond_decide, if_pos (by omega), f190_eq (by omega) (by omega), ob_some]
    have hl := len_one (a := mid) (by omega)
    have hm := len_mul B mid
    rw [s_mul (by omega) (by omega), ob_some, s_cmp (by omega) (by omega), ob_some, Bool.cond_decide]
    by_cases hle : B * mid ≤ R
    · have : cm ((B * mid : Nat) : Int) (R : Int) ≤ 0 := by
       rcases Nat.lt_or_eq_of_le hle with h | h
       · rw [cm_lt (by omega)]; omega
       · rw [cm_eq (by omega)]; omega
      rw [if_pos this]
      exact bis176 hBl hn s0 s8 b14 m mid hi (by omega) h2 (by rw [Nat.mul_comm]; exact hle) h4 (by omega)
    · have : ¬ cm ((B * mid : Nat) : Int) (R : Int) ≤ 0 := by
       rw [cm_gt (by omega)]; omega
      rw [if_neg this]
      exact bis176 hBl hn s0 s8 b14 m lo mid (by omega) (by omega) h3 (by rw [Nat.mul_comm]; omega) (by omega)
  · rw [Bool.cond_decide, if_neg (by omega)]
    obtain rfl : hi = lo + 1 := by omega
    have : R / B = lo := by
     rw [Nat.div_eq_iff (Nat.pos_of_ne_zero (by rintro rfl; simp at h4))]
     rw [Nat.add_mul] at h4
     omega
    rw [this]

theorem div176 {α : Type} {n L A B : Nat} (hB : 0 < B) (hA : (dg A).length ≤ L) (hBl : (dg B).length ≤ L) (hL : L ≤ 1099511627000) (hn : L + 10040 ≤ n) {k0 : List Int → List Int → Option α} :
  ∀ (k m Q R : Nat) (o : List Int), k < m → k ≤ (dg A).length → R < B → o.length = (dg A).length → Lm o → (∀ i, i < k → o.getD i 0 = 0) → vl o = 10000 ^ k * (Q : Int) → (Q : Int) * B + R = vl ((dg A).drop k) →
  ∃ o', Lm o' ∧ o'.length = (dg A).length ∧ vl o' = ((A / B : Nat) : Int) ∧ f176_L4 n m (dg A) (dg B) (dg R) ((k : Int) - 1) o k0 = k0 (dg (A % B)) o'
 | _, 0, _, _, _, h1, _, _, _, _, _, _, _ => by omega
 | 0, m + 1, Q, R, o, h1, h2, h3, h4, h5, h6, h7, h8 => by
  rw [f176_L4_s]
  unfold f176_L4B
  dsimp only
  rw [Bool.cond_decide, if_neg (by omega)]
  rw [List.drop_zero, vl_dg] at h8
  have h8 : Q * B + R = A := by
   have : ((Q * B + R : Nat) : Int) = A := by rw [Int.natCast_add, Int.natCast_mul]; exact h8
   omega
  have h9 : A / B = Q := by rw [← h8, Nat.add_comm, Nat.add_mul_div_right _ _ hB, Nat.div_eq_of_lt h3, Nat.zero_add]
  have h10 : A % B = R := by rw [← h8, Nat.mul_add_mod_self_right, Nat.mod_eq_of_lt h3]
  exact ⟨o, h5, h4, by rw [h7, h9]; simp, by rw [h10]⟩
 | k + 1, m + 1, Q, R, o, h1, h2, h3, h4, h5, h6, h7, h8 => by
  rw [f176_L4_s]
  unfold f176_L4B
  dsimp only
  rw [Bool.cond_decide, if_pos (by omega)]
  rw [show (((k + 1 : Nat) : Int) - 1) = (k : Int) by omega]
  simp only [Int.toNat_natCast]
  have hg := (Lm_dg A).get k
  obtain ⟨x, hx⟩ : ∃ x : Nat, (dg A).getD k 0 = (x : Int) := ⟨((dg A).getD k 0).toNat, by omega⟩
  have hlR : (dg R).length ≤ L := Nat.le_trans (len_mono (by omega)) hBl
  have hlRx := len_ten R x (by omega)
  have hRx : vl ((dg A).drop k) = (x : Int) + 10000 * ((Q : Int) * B + R) := by
   rw [vl_drop (by omega), hx, ← h8]
  have hR' : x + 10000 * R < 10000 * B := by omega
  rw [hx, gd_pos (by simp; try omega), gd_pos (by simp; try omega), f185_eq (Lm.app (Lm.cons (by omega) Lm.nil) (Lm_dg R)) (by simp; omega) (by simp; omega), ob_some]
  have e1 : (vl ([(x : Int)] ++ dg R)).toNat = x + 10000 * R := by
   rw [List.cons_append, List.nil_append, vl, vl_dg]; omega
  rw [e1, s_cmp (by omega) (by omega), ob_some, W_id (x := (k : Int) - 1) (by omega) (by omega), Bool.cond_decide]
  by_cases hlt : x + 10000 * R < B
  · rw [if_pos (by rw [cm_lt (by omega)]; omega)]
    refine div176 hB hA hBl hL hn k m (10000 * Q) (x + 10000 * R) o (by omega) (by omega) hlt h4 h5 (fun i hi => h6 i (by omega)) ?_ ?_
    · rw [h7, pw_succ, nc10]; grind
    · rw [hRx, nc10, nc10b]; grind
  · rw [if_neg (by
     rcases Nat.lt_or_eq_of_le (Nat.le_of_not_lt hlt) with h | h
     · rw [cm_gt (by omega)]; omega
     · rw [cm_eq (by omega)]; omega)]
    have hbis := bis176 (n := n) (B := B) (R := x + 10000 * R) (by omega) (by omega) (dg A) (k : Int) o (k0 := fun z_3 z_4 z_5 z_6 z_7 z_8 => (
            gd (decide (0 ≤ z_6) && decide (z_6 < (z_8.length : Int))) (
             gd (decide (z_6.toNat < z_8.length)) (
              ob (f190 n z_7) fun r_9 =>
              ob (f154 n z_4 r_9) fun r_10 =>
              ob (f189 n z_5 r_10) fun r_11 =>
              f176_L4 n m z_3 z_4 r_11 (W (z_6 - 1)) (z_8.set z_6.toNat z_7) k0)))) n 0 10000 (by omega) (by omega) (by omega) hR' (by omega)
    have hbis : f176_L10 n n (dg A) (dg B) (dg (x + 10000 * R)) (k : Int) 0 10000 o _ = _ := hbis
    rw [hbis]
    simp only [Int.toNat_natCast]
    have hq : (x + 10000 * R) / B < 10000 := by
     rw [Nat.div_lt_iff_lt_mul hB]; omega
    have hqr := Nat.div_add_mod (x + 10000 * R) B
    have hqm := Nat.mod_lt (x + 10000 * R) hB
    generalize hqq : (x + 10000 * R) / B = q at *
    generalize hrr : (x + 10000 * R) % B = r at *
    have hl1 := len_one hq
    have hl2 := len_mul B q
    rw [gd_pos (by simp; try omega), gd_pos (by simp; try omega), f190_eq (by omega) (by omega), ob_some, s_mul (by omega) (by omega), ob_some, s_sub (by omega) (by omega) (by omega), ob_some, W_id (x := (k : Int) - 1) (by omega) (by omega), show x + 10000 * R - B * q = r by omega]
    refine div176 hB hA hBl hL hn k m (10000 * Q + q) r _ (by omega) (by omega) hqm (by simpa using h4) (h5.set _ (by omega)) (fun i hi => ?_) ?_ ?_
    · rw [List.getD_eq_getElem?_getD, List.getElem?_set_ne (by omega), ← List.getD_eq_getElem?_getD]
      exact h6 i (by omega)
    · rw [vl_set _ (by omega), h7, h6 k (by omega), pw_succ, nc10a]
      generalize (10000 : Int) ^ k = P
      grind
    · rw [hRx]
      have : (B : Int) * q + r = x + 10000 * R := by
       rw [← nc10b, ← hqr, Int.natCast_add, Int.natCast_mul]
      rw [nc10a]
      grind

theorem s_div {n L A B : Nat} (hB : 0 < B) (hA : (dg A).length ≤ L) (hBl : (dg B).length ≤ L) (hL : L ≤ 1099511627000) (hn : L + 10040 ≤ n) : f176 n (dg A) (dg B) = some (dg (A / B), dg (A % B)) := by
 unfold f176
 rw [gd_pos (by simp; try omega), W_id (x := ((dg A).length : Int) - 1) (by omega) (by omega)]
 simp only [Int.toNat_natCast]
 obtain ⟨o, h1, h2, h3, h4⟩ := div176 (n := n) hB hA hBl hL hn (k0 := fun z_12 z_13 => (
       ob (f185 n z_13) fun r_14 =>
       some (r_14, z_12))) (dg A).length n 0 0 (List.replicate (dg A).length 0) (by omega) (Nat.le_refl _) hB (by simp) (Lm.rep _) (fun i hi => by simp [List.getD_eq_getElem?_getD, List.getElem?_replicate, hi]) (by rw [vl_rep]; simp) (by simp [vl])
 rw [dg_zero] at h4
 rw [h4, f185_eq h1 (by omega) (by omega), ob_some, h3]
 rfl

theorem gcd_half {a b : Nat} (hb : 0 < b) (hr : 0 < a % b) {j : Nat} (h : b < 2 ^ (j + 1)) : b % (a % b) < 2 ^ j := by
 have h1 := Nat.mod_lt a hb
 have h2 := Nat.mod_lt b hr
 have h3 := Nat.div_add_mod b (a % b)
 generalize a % b = r at *
 have h4 : 1 ≤ b / r := by rw [Nat.le_div_iff_mul_le hr]; omega
 have h5 : r * 1 ≤ r * (b / r) := Nat.mul_le_mul_left r h4
 rw [Nat.pow_succ] at h
 omega

theorem gcd128 {α : Type} {n L : Nat} (hL : L ≤ 1099511627000) (hn : L + 10040 ≤ n) {k0 : List Int → Option α} :
  ∀ (j m a b : Nat), b < 2 ^ j → 2 * j + 1 ≤ m → (dg a).length ≤ L → (dg b).length ≤ L → f128_L1 n m (dg a) (dg b) k0 = k0 (dg (Nat.gcd b a)) := by
 have stop : ∀ (m a : Nat), 0 < m → f128_L1 n m (dg a) (dg 0) k0 = k0 (dg (Nat.gcd 0 a)) := fun m a hm => by
  obtain ⟨m, rfl⟩ : ∃ m', m = m' + 1 := ⟨m - 1, by omega⟩
  rw [f128_L1_s, Nat.gcd_zero_left, dg_zero]; rfl
 have step : ∀ (m a b : Nat), 0 < b → (dg a).length ≤ L → (dg b).length ≤ L → f128_L1 n (m + 1) (dg a) (dg b) k0 = f128_L1 n m (dg b) (dg (a % b)) k0 := fun m a b hb ha hbl => by
  rw [f128_L1_s]
  unfold f128_L1B
  have : 0 < (dg b).length := by rw [dg_pos (by omega)]; simp
  rw [Bool.cond_decide, if_pos (by omega), s_div hb ha hbl hL hn, ob_some]
 intro j
 induction j with
 | zero =>
  intro m a b h1 h2 h3 h4
  obtain rfl : b = 0 := by simpa using h1
  exact stop m a (by omega)
 | succ j ih =>
  intro m a b h1 h2 h3 h4
  rcases Nat.eq_zero_or_pos b with rfl | hb
  · exact stop m a (by omega)
  obtain ⟨m, rfl⟩ : ∃ m', m = m' + 2 := ⟨m - 2, by omega⟩
  have h5 : (dg (a % b)).length ≤ L := Nat.le_trans (len_mono (Nat.le_of_lt (Nat.mod_lt a hb))) h4
  rw [step _ _ _ hb h3 h4, Nat.gcd_rec b a]
  rcases Nat.eq_zero_or_pos (a % b) with hr | hr
  · rw [hr]; exact stop _ _ (by omega)
  have h6 : (dg (b % (a % b))).length ≤ L := Nat.le_trans (len_mono (Nat.le_of_lt (Nat.mod_lt b hr))) h5
  rw [step _ _ _ hr h4 h5, Nat.gcd_rec (a % b) b]
  exact ih m _ _ (gcd_half hb hr h1) (by omega) h5 h6

theorem pow_two {b L : Nat} (h : b < 10000 ^ L) : b < 2 ^ (14 * L) := by
 rw [Nat.pow_mul]
 exact Nat.lt_of_lt_of_le h (Nat.pow_le_pow_left (by decide) L)

theorem s_gcd {n L a b : Nat} (hL : L ≤ 1099511627000) (hn : 28 * L + 10040 ≤ n) (ha : (dg a).length ≤ L) (hb : (dg b).length ≤ L) : f128 n (dg a) (dg b) = some (dg (Nat.gcd a b)) := by
 unfold f128
 have h1 : (dg (Nat.gcd b a)).length ≤ L := by
  rcases Nat.eq_zero_or_pos b with rfl | h
  · rw [Nat.gcd_zero_left]; exact ha
  · exact Nat.le_trans (len_mono (Nat.gcd_le_left a h)) hb
 rw [gcd128 hL (by omega) (14 * L) n a b (pow_two (lt_len' hb)) (by omega) ha hb, gd_pos (by simp; try omega), Nat.gcd_comm]

theorem mid_get {pre w post : List Int} {i : Nat} (h : i < w.length) : (pre ++ w ++ post).getD (pre.length + i) 0 = w.getD i 0 := by
 rw [List.append_assoc, List.getD_eq_getElem?_getD, List.getElem?_append_right (by omega), Nat.add_sub_cancel_left, List.getElem?_append_left h, ← List.getD_eq_getElem?_getD]

theorem mid_set {pre w post : List Int} {i : Nat} (h : i < w.length) (x : Int) : (pre ++ w ++ post).set (pre.length + i) x = pre ++ w.set i x ++ post := by
 rw [List.append_assoc, List.set_append_right _ _ (by omega), Nat.add_sub_cancel_left, List.set_append_left _ _ h, List.append_assoc]

theorem carry_neg {y : Int} (h : y < 0) (h' : -1099511627776 < y) : W (Int.tdiv (W (W (y - 10000) + 1)) 10000) = y / 10000 := by
 rw [W_id (x := y - 10000) (by omega) (by omega), W_id (x := y - 10000 + 1) (by omega) (by omega)]
 have : Int.tdiv (y - 10000 + 1) 10000 = y / 10000 := by
  rw [show y - 10000 + 1 = -(9999 - y) by omega, Int.neg_tdiv, Int.tdiv_eq_ediv_of_nonneg (by omega)]
  omega
 rw [this, W_id (by omega) (by omega)]

theorem sub_step {o P q c wi bi v' T y d r : Int} (h : o + P * (c - q * (bi + 10000 * v')) = T) (hy : y = wi + c - q * bi) (hd : y = 10000 * d + r) : o + P * (r - wi) + 10000 * P * (d - q * v') = T := by
 grind

theorem plus_step {o P c wi bi v' T y d r : Int} (h : o + P * (c + (bi + 10000 * v')) = T) (hy : y = wi + c + bi) (hd : y = 10000 * d + r) : o + P * (r - wi) + 10000 * P * (d + v') = T := by
 grind

theorem vl_drop' {l : List Int} (k : Nat) : vl (l.drop k) = l.getD k 0 + 10000 * vl (l.drop (k + 1)) := by
 rcases Nat.lt_or_ge k l.length with h | h
 · exact vl_drop h
 · rw [List.drop_of_length_le h, List.drop_of_length_le (by omega), getD_out h]; rfl

theorem sub197 {α : Type} {n N : Nat} {b pre post : List Int} (hb : Lm b) (hbN : b.length = N) (hN : pre.length + N + 1 + post.length ≤ 1099511627776) {q : Int} (hq : 0 ≤ q ∧ q < 10000) {T : Int} {k0 : Nat → Nat → List Int → Int → Int → Int → List Int → Option α} :
  ∀ (m i : Nat) (c : Int) (w : List Int), Lm w → w.length = N + 1 → -9999 ≤ c → c ≤ 0 → i ≤ N + 1 → vl w + 10000 ^ i * (c - q * vl (b.drop i)) = T → N + 2 ≤ i + m →
  ∃ w' c', Lm w' ∧ w'.length = N + 1 ∧ c' ≤ 0 ∧ vl w' + 10000 ^ (N + 1) * c' = T ∧ f197B_L6 n m pre.length (N + 1) b (b.length : Int) q c ((N + 1 : Nat) : Int) (i : Int) (pre ++ w ++ post) k0 = k0 pre.length (N + 1) b (b.length : Int) q c' (pre ++ w' ++ post)
 | 0, i, c, w, h1, h2, h3, h4, h5, h6, h7 => by omega
 | m + 1, i, c, w, h1, h2, h3, h4, h5, h6, h7 => by
  rw [f197B_L6_s]
  unfold f197B_L6B
  dsimp only
  by_cases hi : i < N + 1
  · rw [Bool.cond_decide, if_pos (by omega)]
    simp only [Int.toNat_natCast]
    rw [gd_pos (by simp; try omega), gd_pos (by simp; try omega)]
    simp only [mid_get (pre := pre) (post := post) (w := w) (i := i) (by omega)]
    have g1 := h1.get i
    have g2 := hb.get i
    have g3 := limb_mul hq g2
    have go : ∀ y : Int, y = w.getD i 0 + c - q * b.getD i 0 →
      ∃ w' c', Lm w' ∧ w'.length = N + 1 ∧ c' ≤ 0 ∧ vl w' + 10000 ^ (N + 1) * c' = T ∧ 
      (bif (decide (y < 0)) then (gd (decide (0 ≤ (i : Int)) && decide ((i : Int) < ((N + 1 : Nat) : Int))) (
        gd (decide ((pre.length + i) < (pre ++ w ++ post).length)) (
         f197B_L6 n m pre.length (N + 1) b (b.length : Int) q (W (Int.tdiv (W ((W (y - 10000)) + 1)) 10000)) ((N + 1 : Nat) : Int) (W ((i : Int) + 1)) ((pre ++ w ++ post).set (pre.length + i) (W (y - (W ((W (Int.tdiv (W ((W (y - 10000)) + 1)) 10000)) * 10000))))) k0)))
       else (gd (decide (0 ≤ (i : Int)) && decide ((i : Int) < ((N + 1 : Nat) : Int))) (
        gd (decide ((pre.length + i) < (pre ++ w ++ post).length)) (
         f197B_L6 n m pre.length (N + 1) b (b.length : Int) q 0 ((N + 1 : Nat) : Int) (W ((i : Int) + 1)) ((pre ++ w ++ post).set (pre.length + i) (W (y - (W (0 * 10000))))) k0)))) = k0 pre.length (N + 1) b (b.length : Int) q c' (pre ++ w' ++ post) := by
     intro y hy
     have hd : y = 10000 * (y / 10000) + y % 10000 := by omega
     have go2 : ∀ d : Int, d = y / 10000 → ∃ w' c', Lm w' ∧ w'.length = N + 1 ∧ c' ≤ 0 ∧ vl w' + 10000 ^ (N + 1) * c' = T ∧ (gd (decide (0 ≤ (i : Int)) && decide ((i : Int) < ((N + 1 : Nat) : Int))) (
           gd (decide ((pre.length + i) < (pre ++ w ++ post).length)) (
            f197B_L6 n m pre.length (N + 1) b (b.length : Int) q d ((N + 1 : Nat) : Int) (W ((i : Int) + 1)) ((pre ++ w ++ post).set (pre.length + i) (W (y - (W (d * 10000))))) k0))) = k0 pre.length (N + 1) b (b.length : Int) q c' (pre ++ w' ++ post) := by
      intro d hdd
      rw [gd_pos (by simp; try omega), gd_pos (by simp; try omega), mid_set (by omega), W_id (x := d * 10000) (by omega) (by omega), W_id (x := y - d * 10000) (by omega) (by omega), W_id (x := (i : Int) + 1) (by omega) (by omega)]
      refine sub197 (n := n) hb hbN hN hq m (i + 1) d _ (h1.set _ (by omega)) (by simpa using h2) (by omega) (by omega) (by omega) ?_ (by omega)
      rw [vl_set _ (by omega), pw_succ]
      refine sub_step (bi := b.getD i 0) ?_ hy (by omega)
      rw [← vl_drop']; exact h6
     rw [Bool.cond_decide]
     by_cases hneg : y < 0
     · rw [if_pos hneg]
       simp only [carry_neg hneg (by omega)]
       exact go2 _ rfl
     · rw [if_neg hneg]
       exact go2 0 (by omega)
    by_cases hB : i < b.length
    · have dB : decide ((i : Int) < (b.length : Int)) = true := by rw [decide_eq_true_eq]; omega
      simp only [dB, cond_true]
      rw [gd_pos (by simp; try omega)]
      simp only [W_id (x := q * b.getD i 0) (by omega) (by omega), W_id (x := w.getD i 0 + c) (by omega) (by omega), W_id (x := w.getD i 0 + c - q * b.getD i 0) (by omega) (by omega)]
      exact go _ rfl
    · have dB : decide ((i : Int) < (b.length : Int)) = false := by rw [decide_eq_false_iff_not]; omega
      simp only [dB, cond_false]
      simp only [W_id (x := w.getD i 0 + c) (by omega) (by omega)]
      exact go _ (by rw [getD_out (l := b) (by omega)]; omega)
  · rw [Bool.cond_decide, if_neg (by omega)]
    obtain rfl : i = N + 1 := by omega
    rw [List.drop_of_length_le (by omega)] at h6
    exact ⟨w, c, h1, h2, h4, by simpa [vl] using h6, rfl⟩

theorem plus197 {α : Type} {n N : Nat} {b pre post : List Int} (hb : Lm b) (hbN : b.length = N) (hN : pre.length + N + 1 + post.length ≤ 1099511627776) {q z : Int} {T : Int} {k0 : Nat → Nat → List Int → Int → Int → Int → Int → List Int → Option α} :
  ∀ (m i : Nat) (c : Int) (w : List Int), Lm w → w.length = N + 1 → 0 ≤ c → c ≤ 1 → i ≤ N + 1 → vl w + 10000 ^ i * (c + vl (b.drop i)) = T → N + 2 ≤ i + m →
  ∃ w' c', Lm w' ∧ w'.length = N + 1 ∧ 0 ≤ c' ∧ c' ≤ 1 ∧ vl w' + 10000 ^ (N + 1) * c' = T ∧ f197B_L20 n m pre.length (N + 1) b (b.length : Int) q z c ((N + 1 : Nat) : Int) (i : Int) (pre ++ w ++ post) k0 = k0 pre.length (N + 1) b (b.length : Int) q z c' (pre ++ w' ++ post)
 | 0, i, c, w, h1, h2, h3, h4, h5, h6, h7 => by omega
 | m + 1, i, c, w, h1, h2, h3, h4, h5, h6, h7 => by
  rw [f197B_L20_s]
  unfold f197B_L20B
  dsimp only
  by_cases hi : i < N + 1
  · rw [Bool.cond_decide, if_pos (by omega)]
    simp only [Int.toNat_natCast]
    rw [gd_pos (by simp; try omega), gd_pos (by simp; try omega), mid_get (by omega)]
    have g1 := h1.get i
    have g2 := hb.get i
    have go : ∀ y : Int, y = w.getD i 0 + c + b.getD i 0 → ∃ w' c', Lm w' ∧ w'.length = N + 1 ∧ 0 ≤ c' ∧ c' ≤ 1 ∧ vl w' + 10000 ^ (N + 1) * c' = T ∧ (gd (decide (0 ≤ (i : Int)) && decide ((i : Int) < ((N + 1 : Nat) : Int))) (
            gd (decide ((pre.length + i) < (pre ++ w ++ post).length)) (
             f197B_L20 n m pre.length (N + 1) b (b.length : Int) q z (W (Int.tdiv y 10000)) ((N + 1 : Nat) : Int) (W ((i : Int) + 1)) ((pre ++ w ++ post).set (pre.length + i) (Int.tmod y 10000)) k0))) = k0 pre.length (N + 1) b (b.length : Int) q z c' (pre ++ w' ++ post) := by
     intro y hy
     have hd : y = 10000 * (y / 10000) + y % 10000 := by omega
     rw [gd_pos (by simp; try omega), gd_pos (by simp; try omega), mid_set (by omega), tdv (by omega), tmd (by omega), W_id (x := y / 10000) (by omega) (by omega), W_id (x := (i : Int) + 1) (by omega) (by omega)]
     refine plus197 (n := n) hb hbN hN m (i + 1) _ _ (h1.set _ (by omega)) (by simpa using h2) (by omega) (by omega) (by omega) ?_ (by omega)
     rw [vl_set _ (by omega), pw_succ]
     refine plus_step (bi := b.getD i 0) ?_ hy hd
     rw [← vl_drop']; exact h6
    by_cases hB : i < b.length
    · have dB : decide ((i : Int) < (b.length : Int)) = true := by rw [decide_eq_true_eq]; omega
      simp only [dB, cond_true]
      rw [gd_pos (by simp; try omega)]
      simp only [W_id (x := w.getD i 0 + c) (by omega) (by omega), W_id (x := w.getD i 0 + c + b.getD i 0) (by omega) (by omega)]
      exact go _ rfl
    · have dB : decide ((i : Int) < (b.length : Int)) = false := by rw [decide_eq_false_iff_not]; omega
      simp only [dB, cond_false]
      simp only [W_id (x := w.getD i 0 + c) (by omega) (by omega)]
      exact go _ (by rw [getD_out (l := b) (by omega)]; omega)
  · rw [Bool.cond_decide, if_neg (by omega)]
    obtain rfl : i = N + 1 := by omega
    rw [List.drop_of_length_le (by omega)] at h6
    exact ⟨w, c, h1, h2, h3, h4, by simpa [vl] using h6, rfl⟩

theorem back_neg {P v c R qB : Int} (h1 : v < P) (hP : 0 < P) (h : v + P * c = R - qB) (hc : c < 0) : R - qB < 0 := by
 have : P * c ≤ P * (-1) := Int.mul_le_mul_of_nonneg_left (by omega) (by omega)
 omega

theorem back_low {P v c R q B : Int} (h0 : v < P) (h : v + P * c = R - q * B) (hB : 0 ≤ B) (hBP : B < P) (hR : 0 ≤ R) (hq : q < 10000) (hq0 : 0 ≤ q) : -10000 ≤ c := by
 have h9 : q * B ≤ 10000 * B := Int.mul_le_mul_of_nonneg_right (by omega) (by omega)
 rcases Int.lt_or_le c (-10000) with h1 | h1
 · have h8 : P * c ≤ P * (-10001) := Int.mul_le_mul_of_nonneg_left (by omega) (by omega)
   exfalso
   omega
 · exact h1

theorem back_new {v v' x x' R qB B : Int} (h : v + x = R - qB) (h' : v' + x' = v + B) : v' + (x + x') = R - (qB - B) := by omega

theorem back197 {α : Type} {n N R B : Nat} {pre post : List Int} (hB : 0 < B) (hbN : (dg B).length = N) (hN : pre.length + N + 1 + post.length ≤ 1099511627776) (hn : N + 2 ≤ n) {k0 : Int → List Int → Option α} :
  ∀ (m q : Nat) (c : Int) (w : List Int), Lm w → w.length = N + 1 → c ≤ 0 → vl w + 10000 ^ (N + 1) * c = (R : Int) - q * B → R / B ≤ q → q < 10000 → q < m →
  ∃ w', Lm w' ∧ w'.length = N + 1 ∧ vl w' = ((R % B : Nat) : Int) ∧ f197B_L16 n m pre.length (N + 1) (dg B) ((dg B).length : Int) (q : Int) c (pre ++ w ++ post) k0 = k0 ((R / B : Nat) : Int) (pre ++ w' ++ post)
 | 0, q, c, w, h1, h2, h3, h4, h5, h6, h7 => by omega
 | m + 1, q, c, w, h1, h2, h3, h4, h5, h6, h7 => by
  rw [f197B_L16_s]
  unfold f197B_L16B
  dsimp only
  have hw := vl_lt h1
  have hw0 := vl_nonneg h1
  rw [h2] at hw
  rw [Bool.cond_decide]
  have hP := pw_pos (N + 1)
  have hBP := lt_len B
  rw [hbN] at hBP
  have hdm := Nat.div_add_mod R B
  have hml := Nat.mod_lt R hB
  by_cases hc : c < 0
  · rw [if_pos hc]
    have hneg := back_neg hw hP h4 hc
    have hlt : R / B < q := by
     rw [Nat.div_lt_iff_lt_mul hB]
     have : ((q * B : Nat) : Int) = (q : Int) * B := Int.natCast_mul q B
     omega
    have hq0 : 0 < q := Nat.lt_of_le_of_lt (Nat.zero_le _) hlt
    have hBi : (B : Int) < 10000 ^ N := by rw [← pwc]; omega
    have hBP' : (B : Int) < 10000 ^ (N + 1) := by
     have := pw_le (show N ≤ N + 1 by omega)
     omega
    have hcm := back_low (q := (q : Int)) hw h4 (by omega) hBP' (by omega) (by omega) (by omega)
    rw [W_id (x := (q : Int) - 1) (by omega) (by omega), show (q : Int) - 1 = ((q - 1 : Nat) : Int) by omega]
    obtain ⟨w', c', q1, q2, q3, q4, q5, q6⟩ := plus197 (n := n) (Lm_dg B) hbN hN (q := ((q - 1 : Nat) : Int)) (z := c) (T := vl w + B) (k0 := fun z_12 z_13 z_14 z_15 z_16 z_17 z_18 z_19 => (
     f197B_L16 n m z_12 z_13 z_14 z_15 z_16 (W (z_17 + z_18)) z_19 k0)) n 0 0 w h1 h2 (by omega) (by omega) (by omega) (by rw [List.drop_zero, vl_dg, Int.pow_zero, Int.one_mul, Int.zero_add]) (by omega)
    have q6 : f197B_L20 n n pre.length (N + 1) (dg B) ((dg B).length : Int) ((q - 1 : Nat) : Int) c 0 ((N + 1 : Nat) : Int) 0 (pre ++ w ++ post) _ = _ := q6
    rw [q6]
    have hq1 : ((q - 1 : Nat) : Int) * B = q * B - B := by
     rw [show ((q - 1 : Nat) : Int) = (q : Int) - 1 by omega, Int.sub_mul, Int.one_mul]
    have hnew : vl w' + 10000 ^ (N + 1) * (c + c') = (R : Int) - ((q - 1 : Nat) : Int) * B := by
     rw [Int.mul_add, hq1]
     exact back_new h4 q5
    rw [W_id (x := c + c') (by omega) (by omega)]
    exact back197 hB hbN hN hn m (q - 1) (c + c') w' q1 q2 (by omega) hnew (by omega) (by omega) (by omega)
  · rw [if_neg hc]
    obtain rfl : c = 0 := by omega
    rw [Int.mul_zero, Int.add_zero] at h4
    have e : R / B = q := by
     refine Nat.le_antisymm h5 ?_
     rw [Nat.le_div_iff_mul_le hB]
     have : ((q * B : Nat) : Int) = (q : Int) * B := Int.natCast_mul q B
     omega
    refine ⟨w, h1, h2, ?_, by rw [e]⟩
    have : ((B * q : Nat) : Int) = (q : Int) * B := by rw [Int.natCast_mul, Int.mul_comm]
    rw [e] at hdm
    omega

theorem guess {P lowR lowB high top t R B : Int} (hR : R = lowR + P * high) (hB : B = lowB + P * top) (h1 : lowR < P) (h2 : 0 ≤ lowB) (hP : 0 < P) (ht : 0 ≤ t) (hle : t * B ≤ R) : t * top ≤ high := by
 have h3 : t * (P * top) ≤ t * B := Int.mul_le_mul_of_nonneg_left (by omega) ht
 have h4 : P * (t * top) < P * (high + 1) := by
  rw [Int.mul_add, Int.mul_one, show P * (t * top) = t * (P * top) by grind]; omega
 have := Int.lt_of_mul_lt_mul_left h4 (by omega)
 omega

theorem f197B_eq {n M R B : Nat} {pre w post : List Int} (hbN : (dg B).length = M + 2) (hN : pre.length + (M + 2) + 1 + post.length ≤ 1099511627776) (hn : M + 10010 ≤ n) (hw : Lm w) (hwl : w.length = M + 3) (hv : vl w = (R : Int)) (hR : R < 10000 * B) :
  ∃ w', Lm w' ∧ w'.length = M + 3 ∧ vl w' = ((R % B : Nat) : Int) ∧ f197B n (pre ++ w ++ post, pre.length, M + 3) (dg B) = some (((R / B : Nat) : Int), pre ++ w' ++ post) := by
 have hB : 0 < B := by omega
 unfold f197B
 dsimp only
 rw [hbN]
 rw [W_id (x := ((M + 2 : Nat) : Int) - 1) (by omega) (by omega), W_id (x := ((M + 2 : Nat) : Int) - 2) (by omega) (by omega), show ((M + 2 : Nat) : Int) - 1 = ((M + 1 : Nat) : Int) by omega, show ((M + 2 : Nat) : Int) - 2 = (M : Int) by omega]
 simp only [Int.toNat_natCast]
 have hb := Lm_dg B
 have g0 := hw.get (M + 2)
 have g1 := hw.get (M + 1)
 have g2 := hw.get M
 have b1 := hb.get (M + 1)
 have b2 := hb.get M
 have bt : (dg B).getD (M + 1) 0 ≠ 0 := by
  have := (Cn_dg B).2 (List.length_pos_iff.1 (by omega))
  rw [hbN] at this
  exact this
 rw [gd_pos (by simp; try omega), gd_pos (by simp; try omega), gd_pos (by simp; try omega), gd_pos (by simp; try omega), gd_pos (by simp; try omega), gd_pos (by simp; try omega), gd_pos (by simp; try omega), gd_pos (by simp; try omega)]
 simp only [mid_get (pre := pre) (post := post) (w := w) (i := M + 2) (by omega), mid_get (pre := pre) (post := post) (w := w) (i := M + 1) (by omega), mid_get (pre := pre) (post := post) (w := w) (i := M) (by omega)]
 simp only [W_id (x := (dg B).getD (M + 1) 0 * 10000) (by omega) (by omega), W_id (x := (dg B).getD (M + 1) 0 * 10000 + (dg B).getD M 0) (by omega) (by omega), W_id (x := w.getD (M + 2) 0 * 10000) (by omega) (by omega), W_id (x := w.getD (M + 2) 0 * 10000 + w.getD (M + 1) 0) (by omega) (by omega), W_id (x := (w.getD (M + 2) 0 * 10000 + w.getD (M + 1) 0) * 10000) (by omega) (by omega), W_id (x := (w.getD (M + 2) 0 * 10000 + w.getD (M + 1) 0) * 10000 + w.getD M 0) (by omega) (by omega)]
 rw [gd_pos (by simp only [decide_eq_true_eq]; omega)]
 have vw : (R : Int) = vl (w.take M) + 10000 ^ M * ((w.getD (M + 2) 0 * 10000 + w.getD (M + 1) 0) * 10000 + w.getD M 0) := by
  have t1 := vl_take_suc w (M + 2)
  have t2 := vl_take_suc w (M + 1)
  have t3 := vl_take_suc w M
  rw [take_le w (by omega), hv] at t1
  rw [t1, t2, t3, pw_succ, pw_succ]
  grind
 have vb : (B : Int) = vl ((dg B).take M) + 10000 ^ M * ((dg B).getD (M + 1) 0 * 10000 + (dg B).getD M 0) := by
  have t2 := vl_take_suc (dg B) (M + 1)
  have t3 := vl_take_suc (dg B) M
  rw [take_le (dg B) (by omega), vl_dg] at t2
  rw [t2, t3, pw_succ]
  grind
 have lw := vl_lt (hw.take M)
 rw [List.length_take, Nat.min_eq_left (by omega)] at lw
 have lb := vl_nonneg (hb.take M)
 generalize hhigh : (w.getD (M + 2) 0 * 10000 + w.getD (M + 1) 0) * 10000 + w.getD M 0 = high at *
 generalize htop : (dg B).getD (M + 1) 0 * 10000 + (dg B).getD M 0 = top at *
 have htop0 : 0 < top := by omega
 have hh0 : 0 ≤ high ∧ high < 1000000000000 := by omega
 rw [Int.tdiv_eq_ediv_of_nonneg (by omega)]
 have hd0 : 0 ≤ high / top := Int.ediv_nonneg (by omega) (by omega)
 have hd1 : high / top ≤ high := Int.ediv_le_self _ (by omega)
 rw [W_id (x := high / top) (by omega) (by omega)]
 obtain ⟨q, hq⟩ : ∃ q : Nat, min (high / top) 9999 = (q : Int) := ⟨(min (high / top) 9999).toNat, by omega⟩
 have hql : q < 10000 := by omega
 have hqr : R / B ≤ q := by
  have h1 : (((R / B : Nat) : Int)) * top ≤ high := by
   refine guess vw vb lw lb (pw_pos M) (Int.natCast_nonneg _) ?_
   have := Nat.div_mul_le_self R B
   rw [← Int.natCast_mul]; omega
  have h2 : ((R / B : Nat) : Int) ≤ high / top := by rw [Int.le_ediv_iff_mul_le htop0]; exact h1
  have h3 : R / B < 10000 := by rw [Nat.div_lt_iff_lt_mul hB]; omega
  omega
 rw [hq]
 obtain ⟨w1, c1, r1, r2, r3, r4, r5⟩ := sub197 (n := n) (N := M + 2) (b := dg B) (pre := pre) (post := post) hb hbN hN (q := (q : Int)) (by omega) (T := (R : Int) - q * B) (k0 := fun z_5 z_6 z_7 z_8 z_9 z_10 z_11 => (
                       f197B_L16 n n z_5 z_6 z_7 z_8 z_9 z_10 z_11
                        (fun z_20 z_21 => (
                         some (z_20, z_21))))) n 0 0 w hw hwl (by omega) (by omega) (by omega) (by rw [List.drop_zero, vl_dg, hv, Int.pow_zero, Int.one_mul, Int.zero_sub, Int.sub_eq_add_neg]) (by omega)
 obtain ⟨w2, s1, s2, s3, s4⟩ := back197 (n := n) (N := M + 2) (R := R) (B := B) (pre := pre) (post := post) hB hbN hN (by omega) (k0 := fun z_20 z_21 => (some (z_20, z_21))) n q c1 w1 r1 r2 r3 r4 hqr hql (by omega)
 refine ⟨w2, s1, s2, s3, ?_⟩
 rw [hbN] at r5 s4
 have r5 : f197B_L6 n n pre.length (M + 3) (dg B) ((M + 2 : Nat) : Int) (q : Int) 0 ((M + 3 : Nat) : Int) 0 (pre ++ w ++ post) _ = _ := r5
 rw [r5]
 exact s4

theorem tdivN (y b : Nat) : Int.tdiv (y : Int) (b : Int) = ((y / b : Nat) : Int) := by
 rw [Int.tdiv_eq_ediv_of_nonneg (by omega), Int.natCast_ediv]

theorem tmodN (y b : Nat) : Int.tmod (y : Int) (b : Int) = ((y % b : Nat) : Int) := by
 rw [Int.tmod_eq_emod_of_nonneg (by omega), Int.natCast_emod]

theorem set_low {o : List Int} {k i : Nat} {x : Int} (h : ∀ i, i < k + 1 → o.getD i 0 = 0) (hi : i < k) : (o.set k x).getD i 0 = 0 := by
 rw [List.getD_eq_getElem?_getD, List.getElem?_set_ne (by omega), ← List.getD_eq_getElem?_getD]
 exact h i (by omega)

theorem step_quo {Q B R x q r y : Nat} (hy : x + 10000 * R = y) (hqr : B * q + r = y) {V : Int} (hV : (Q : Int) * B + R = V) : ((10000 * Q + q : Nat) : Int) * B + r = x + 10000 * V := by
 have : (B : Int) * q + r = x + 10000 * R := by
  rw [← nc10b, hy, ← hqr, Int.natCast_add, Int.natCast_mul]
 rw [nc10a, ← hV]
 grind

theorem one182 {α : Type} {n A B : Nat} (hB : 0 < B) (hB1 : B < 10000) (hlA : (dg A).length ≤ 1099511627000) {k0 : Int → List Int → Option α} :
  ∀ (k Q R : Nat) (o : List Int), k ≤ (dg A).length → R < B → o.length = (dg A).length → Lm o → (∀ i, i < k → o.getD i 0 = 0) → vl o = 10000 ^ k * (Q : Int) → (Q : Int) * B + R = vl ((dg A).drop k) →
  ∃ o', Lm o' ∧ o'.length = (dg A).length ∧ vl o' = ((A / B : Nat) : Int) ∧ f182_L7R n (dg A) k (dg A) [(B : Int)] (R : Int) o k0 = k0 ((A % B : Nat) : Int) o'
 | 0, Q, R, o, h2, h3, h4, h5, h6, h7, h8 => by
  rw [f182_L7_0]
  rw [List.drop_zero, vl_dg] at h8
  have h8 : Q * B + R = A := by
   have : ((Q * B + R : Nat) : Int) = A := by rw [Int.natCast_add, Int.natCast_mul]; exact h8
   omega
  have h9 : A / B = Q := by rw [← h8, Nat.add_comm, Nat.add_mul_div_right _ _ hB, Nat.div_eq_of_lt h3, Nat.zero_add]
  have h10 : A % B = R := by rw [← h8, Nat.mul_add_mod_self_right, Nat.mod_eq_of_lt h3]
  exact ⟨o, h5, h4, by rw [h7, h9]; simp, by rw [h10]⟩
 | k + 1, Q, R, o, h2, h3, h4, h5, h6, h7, h8 => by
  rw [f182_L7_s]
  unfold f182_L7B
  dsimp only
  have hg := (Lm_dg A).get k
  obtain ⟨x, hx⟩ : ∃ x : Nat, (dg A).getD k 0 = (x : Int) := ⟨((dg A).getD k 0).toNat, by omega⟩
  have hRx : vl ((dg A).drop k) = (x : Int) + 10000 * vl ((dg A).drop (k + 1)) := by
   rw [vl_drop (by omega), hx]
  simp only [Int.toNat_natCast]
  rw [gd_pos (by simp; try omega), gd_pos (by simp; omega), gd_pos (by simp; try omega), gd_pos (by simp; omega), gd_pos (by simp; try omega), gd_pos (by simp; try omega), gd_pos (by simp), hx]
  rw [W_id (x := (R : Int) * 10000) (by omega) (by omega), W_id (x := (R : Int) * 10000 + (x : Int)) (by omega) (by omega), show (R : Int) * 10000 + (x : Int) = ((x + 10000 * R : Nat) : Int) by omega]
  have e0 : ([(B : Int)]).getD 0 0 = (B : Int) := rfl
  rw [e0, tdivN, tmodN]
  have hq : (x + 10000 * R) / B < 10000 := by
   rw [Nat.div_lt_iff_lt_mul hB]; omega
  have hqr := Nat.div_add_mod (x + 10000 * R) B
  have hqm := Nat.mod_lt (x + 10000 * R) hB
  generalize (x + 10000 * R) / B = q at *
  generalize (x + 10000 * R) % B = r at *
  rw [W_id (x := (q : Int)) (by omega) (by omega)]
  refine one182 hB hB1 hlA k (10000 * Q + q) r _ (by omega) hqm (by simpa using h4) (h5.set _ (by omega)) (fun i hi => set_low h6 hi) ?_ ?_
  · rw [vl_set _ (by omega), h7, h6 k (by omega), pw_succ, nc10a]
    generalize (10000 : Int) ^ k = P
    grind
  · rw [hRx, ← h8]
    exact step_quo rfl hqr rfl

theorem many182 {α : Type} {n A B M : Nat} (hM : (dg B).length = M + 2) (hla : (dg B).length ≤ (dg A).length) (hlA : (dg A).length ≤ 1099511627000) (hn : (dg A).length + 10040 ≤ n) {k0 : List Int → List Int → Option α} :
  ∀ (k m Q R : Nat) (o u : List Int), k < m → k ≤ (dg A).length - (M + 1) → R < B → o.length = (dg A).length - (M + 1) → Lm o → (∀ i, i < k → o.getD i 0 = 0) → vl o = 10000 ^ k * (Q : Int) →
  Lm u → u.length + k = (dg A).length + 1 → vl u = (R : Int) → (Q : Int) * B + R = vl ((dg A).drop k) →
  ∃ o' u', Lm o' ∧ o'.length = (dg A).length - (M + 1) ∧ vl o' = ((A / B : Nat) : Int) ∧ Lm u' ∧ u'.length = (dg A).length + 1 ∧ vl u' = ((A % B : Nat) : Int) ∧
   f182_L14 n m ((dg B).length : Int) ((k : Int) - 1) (dg B) o ((dg A).take k ++ u) k0 = k0 o' u'
 | _, 0, _, _, _, _, h1, _, _, _, _, _, _, _, _, _, _ => by omega
 | 0, m + 1, Q, R, o, u, h1, h2, h3, h4, h5, h6, h7, u1, u2, u3, h8 => by
  rw [f182_L14_s]
  unfold f182_L14B
  dsimp only
  rw [Bool.cond_decide, if_neg (by omega)]
  rw [List.drop_zero, vl_dg] at h8
  have h8 : Q * B + R = A := by
   have : ((Q * B + R : Nat) : Int) = A := by rw [Int.natCast_add, Int.natCast_mul]; exact h8
   omega
  have hB : 0 < B := by omega
  have h9 : A / B = Q := by rw [← h8, Nat.add_comm, Nat.add_mul_div_right _ _ hB, Nat.div_eq_of_lt h3, Nat.zero_add]
  have h10 : A % B = R := by rw [← h8, Nat.mul_add_mod_self_right, Nat.mod_eq_of_lt h3]
  exact ⟨o, u, h5, h4, by rw [h7, h9]; simp, u1, by omega, by rw [u3, h10], by simp⟩
 | k + 1, m + 1, Q, R, o, u, h1, h2, h3, h4, h5, h6, h7, u1, u2, u3, h8 => by
  rw [f182_L14_s]
  unfold f182_L14B
  dsimp only
  have hB : 0 < B := by omega
  rw [Bool.cond_decide, if_pos (by omega)]
  rw [show (((k + 1 : Nat) : Int) - 1) = (k : Int) by omega]
  have hg := (Lm_dg A).get k
  obtain ⟨x, hx⟩ : ∃ x : Nat, (dg A).getD k 0 = (x : Int) := ⟨((dg A).getD k 0).toNat, by omega⟩
  have hRx : vl ((dg A).drop k) = (x : Int) + 10000 * vl ((dg A).drop (k + 1)) := by
   rw [vl_drop (by omega), hx]
  have htk : (dg A).take (k + 1) ++ u = (dg A).take k ++ ((x : Int) :: u) := by
   rw [List.take_succ_eq_append_getElem (by omega), List.append_assoc]
   congr 1
   rw [← hx, List.getD_eq_getElem?_getD, List.getElem?_eq_getElem (by omega)]
   rfl
  have hL : Lm ((x : Int) :: u) := Lm.cons (by omega) u1
  have hv : vl ((x : Int) :: u) = ((x + 10000 * R : Nat) : Int) := by rw [vl, u3, nc10b]
  have hlt : x + 10000 * R < 10000 * B := by omega
  obtain ⟨w, post, hwp, hw, hp, hwl⟩ : ∃ w post, (x : Int) :: u = w ++ post ∧ Lm w ∧ Lm post ∧ w.length = M + 3 :=
   ⟨((x : Int) :: u).take (M + 3), ((x : Int) :: u).drop (M + 3), (List.take_append_drop _ _).symm, hL.take _, hL.drop _, by rw [List.length_take, List.length_cons]; omega⟩
  have hlp : w.length + post.length = u.length + 1 := by
   have := congrArg List.length hwp
   simpa using this.symm
  have hvp : vl post = 0 := by
   have e := hv
   rw [hwp, vl_app, hwl] at e
   have h10 : B < 10000 ^ (M + 2) := lt_len' (by omega)
   have h11 : ((x + 10000 * R : Nat) : Int) < 10000 ^ (M + 3) := by
    rw [pw_succ, ← pwc]; omega
   have h12 := vl_nonneg hw
   have h13 := vl_nonneg hp
   rcases Int.lt_or_eq_of_le h13 with h | h
   · exfalso
     have h14 : (10000 : Int) ^ (M + 3) * 1 ≤ 10000 ^ (M + 3) * vl post := Int.mul_le_mul_of_nonneg_left (by omega) (by have := pw_pos (M + 3); omega)
     generalize (10000 : Int) ^ (M + 3) * vl post = z at *
     generalize (10000 : Int) ^ (M + 3) = P at *
     omega
   · exact h.symm
  have hvw : vl w = ((x + 10000 * R : Nat) : Int) := by
   rw [← hv, hwp, vl_app, hvp]; simp
  rw [htk, hwp, ← List.append_assoc]
  have hpl : ((dg A).take k).length = k := by rw [List.length_take]; omega
  obtain ⟨w', q1, q2, q3, q4⟩ := f197B_eq (n := n) (pre := (dg A).take k) (post := post) hM (by omega) (by omega) hw hwl hvw hlt
  rw [hpl] at q4
  rw [W_id (x := (k : Int) + ((dg B).length : Int)) (by omega) (by omega), W_id (x := (k : Int) + ((dg B).length : Int) + 1) (by omega) (by omega)]
  rw [gd_pos (by simp only [Bool.and_eq_true, decide_eq_true_eq, List.length_append, hpl]; omega)]
  rw [show ((k : Int) + ((dg B).length : Int) + 1).toNat - (k : Int).toNat = M + 3 by omega]
  simp only [Int.toNat_natCast]
  rw [q4, ob_some]
  dsimp only
  have hqm := Nat.mod_lt (x + 10000 * R) hB
  have hqr := Nat.div_add_mod (x + 10000 * R) B
  have hq : (x + 10000 * R) / B < 10000 := by
   rw [Nat.div_lt_iff_lt_mul hB]; omega
  generalize (x + 10000 * R) / B = q at *
  generalize (x + 10000 * R) % B = r at *
  rw [gd_pos (by simp [hwl, q2]), gd_pos (by simp; try omega), gd_pos (by simp; try omega), W_id (x := (k : Int) - 1) (by omega) (by omega), List.append_assoc]
  refine many182 hM hla hlA hn k m (10000 * Q + q) r _ _ (by omega) (by omega) hqm (by simpa using h4) (h5.set _ (by omega)) (fun i hi => set_low h6 hi) ?_ (q1.app hp) ?_ ?_ ?_
  · rw [vl_set _ (by omega), h7, h6 k (by omega), pw_succ, nc10a]
    generalize (10000 : Int) ^ k = P
    grind
  · rw [List.length_append]; omega
  · rw [vl_app, hvp, q3]; simp
  · rw [hRx, ← h8]
    exact step_quo rfl hqr rfl

theorem f132_eq (n : Nat) {l : List Int} (h : l.length ≤ 17592186044416) : f132 n l = some l := by
 unfold f132
 cases l with
 | nil => rfl
 | cons x r =>
  unfold f132G
  rw [Bool.cond_eq_ite, if_neg (by simp), gd_pos (by rfl), gd_pos (by simp only [decide_eq_true_eq]; simp only [List.length_cons] at *; omega)]

theorem f132B_eq (n : Nat) {l : List Int} (h : l.length ≤ 17592186044416) (h0 : l ≠ []) : f132B n l = some l := by
 unfold f132B
 cases l with
 | nil => exact absurd rfl h0
 | cons x r => rw [gd_pos (by rfl), gd_pos (by simp only [decide_eq_true_eq]; simp only [List.length_cons] at *; omega)]

theorem i_div {n L A B : Nat} (hB : 0 < B) (hA : (dg A).length ≤ L) (hBl : (dg B).length ≤ L) (hL : L ≤ 1099511627000) (hn : L + 10040 ≤ n) : f182 n (dg A) (dg B) = some (dg (A / B), dg (A % B)) := by
 unfold f182
 rw [i_cmp (by omega), ob_some, Bool.cond_decide]
 by_cases hlt : A < B
 · rw [if_pos (by rw [cm_lt (by omega)]; omega), f132_eq n (by omega), ob_some, Nat.div_eq_of_lt hlt, Nat.mod_eq_of_lt hlt, dg_zero]
 · rw [if_neg (by
    rcases Nat.lt_or_eq_of_le (Nat.le_of_not_lt hlt) with h | h
    · rw [cm_gt (by omega)]; omega
    · rw [cm_eq (by omega)]; omega)]
   have hmn : (dg B).length ≤ (dg A).length := len_mono (by omega)
   have hb0 : 0 < (dg B).length := by rw [dg_pos (by omega)]; simp
   rw [Bool.cond_eq_ite]
   by_cases h1 : (dg B).length = 1
   · rw [if_pos (by simp [h1])]
     have hB1 : B < 10000 := by have := lt_len' (n := B) (k := 1) (by omega); simpa using this
     have hBd : dg B = [(B : Int)] := by
      rw [dg_pos (by omega), Nat.mod_eq_of_lt hB1, Nat.div_eq_of_lt hB1, dg_zero]
     rw [gd_pos (by simp; try omega), show f181 n (dg A) = some (dg A) from rfl, ob_some, f182_L7_e, gd_pos (by simp; try omega), hBd]
     simp only [Int.toNat_natCast]
     obtain ⟨o, q1, q2, q3, q4⟩ := one182 (n := n) (A := A) hB hB1 (by omega) (k0 := fun z_4 z_5 => (
           ob (f186 n z_5) fun r_6 =>
           ob (f163 n z_4) fun r_7 =>
           some (r_6, r_7))) (dg A).length 0 0 (List.replicate (dg A).length 0) (Nat.le_refl _) hB (by simp) (Lm.rep _) (fun i hi => by simp [List.getD_eq_getElem?_getD, List.getElem?_replicate, hi]) (by rw [vl_rep]; simp) (by simp [vl])
     have q4 : f182_L7R n (dg A) (dg A).length (dg A) [(B : Int)] 0 _ _ = _ := q4
     have hm := Nat.mod_lt A hB
     rw [q4, f186_eq q1 (by omega) (by omega), ob_some, f163_eq (by omega) (by omega), ob_some, q3]
     rfl
   · rw [if_neg (by simp; omega)]
     obtain ⟨M, hM⟩ : ∃ M, (dg B).length = M + 2 := ⟨(dg B).length - 2, by omega⟩
     rw [f132B_eq n (by omega) (List.length_pos_iff.1 (by omega)), ob_some, gd_pos (by simp; try omega)]
     rw [W_id (x := ((dg A).length : Int) - ((dg B).length : Int)) (by omega) (by omega), W_id (x := ((dg A).length : Int) - ((dg B).length : Int) + 1) (by omega) (by omega), gd_pos (by simp; try omega)]
     rw [show (((dg A).length : Int) - ((dg B).length : Int) + 1).toNat = (dg A).length - (M + 1) by omega]
     have hR0 := vl_nonneg ((Lm_dg A).drop ((dg A).length - (M + 1)))
     obtain ⟨R, hR⟩ : ∃ R : Nat, vl ((dg A).drop ((dg A).length - (M + 1))) = (R : Int) := ⟨_, (Int.toNat_of_nonneg hR0).symm⟩
     have hRB : R < B := by
      have := vl_lt ((Lm_dg A).drop ((dg A).length - (M + 1)))
      rw [List.length_drop, show (dg A).length - ((dg A).length - (M + 1)) = M + 1 by omega, hR] at this
      have h2 := (Cn_dg B).ge (List.length_pos_iff.1 (by omega))
      rw [hM, vl_dg] at h2
      have h2 : (10000 : Int) ^ (M + 1) ≤ B := h2
      generalize (10000 : Int) ^ (M + 1) = P at *
      omega
     obtain ⟨o, u, q1, q2, q3, q4, q5, q6, q7⟩ := many182 (n := n) (A := A) (B := B) hM hmn (by omega) (by omega) (k0 := fun z_10 z_11 => (
             ob (f186 n z_10) fun r_12 =>
             ob (f186 n z_11) fun r_13 =>
             some (r_12, r_13))) ((dg A).length - (M + 1)) n 0 R (List.replicate ((dg A).length - (M + 1)) 0) ((dg A).drop ((dg A).length - (M + 1)) ++ [0]) (by omega) (Nat.le_refl _) hRB (by simp) (Lm.rep _) (fun i hi => by simp [List.getD_eq_getElem?_getD, List.getElem?_replicate, hi]) (by rw [vl_rep]; simp) (((Lm_dg A).drop _).app (Lm.cons (by omega) Lm.nil)) (by simp; omega) (by rw [vl_snoc, hR]; simp) (by rw [hR]; simp)
     rw [← List.append_assoc, List.take_append_drop] at q7
     rw [show ((dg A).length : Int) - ((dg B).length : Int) = (((dg A).length - (M + 1) : Nat) : Int) - 1 by omega, q7, f186_eq q1 (by omega) (by omega), ob_some, f186_eq q4 (by omega) (by omega), ob_some, q3, q6]
     rfl

theorem gcd137 {α : Type} {n L : Nat} (hL : L ≤ 1099511627000) (hn : L + 10040 ≤ n) {k0 : List Int → Option α} :
  ∀ (j m a b : Nat), b < 2 ^ j → 2 * j + 1 ≤ m → (dg a).length ≤ L → (dg b).length ≤ L → f137_L1 n m (dg a) (dg b) k0 = k0 (dg (Nat.gcd b a)) := by
 have stop : ∀ (m a : Nat), 0 < m → f137_L1 n m (dg a) (dg 0) k0 = k0 (dg (Nat.gcd 0 a)) := fun m a hm => by
  obtain ⟨m, rfl⟩ : ∃ m', m = m' + 1 := ⟨m - 1, by omega⟩
  rw [f137_L1_s, Nat.gcd_zero_left, dg_zero]; rfl
 have step : ∀ (m a b : Nat), 0 < b → (dg a).length ≤ L → (dg b).length ≤ L → f137_L1 n (m + 1) (dg a) (dg b) k0 = f137_L1 n m (dg b) (dg (a % b)) k0 := fun m a b hb ha hbl => by
  rw [f137_L1_s]
  unfold f137_L1B
  have : 0 < (dg b).length := by rw [dg_pos (by omega)]; simp
  rw [Bool.cond_decide, if_pos (by omega), i_div hb ha hbl hL hn, ob_some]
 intro j
 induction j with
 | zero =>
  intro m a b h1 h2 h3 h4
  obtain rfl : b = 0 := by simpa using h1
  exact stop m a (by omega)
 | succ j ih =>
  intro m a b h1 h2 h3 h4
  rcases Nat.eq_zero_or_pos b with rfl | hb
  · exact stop m a (by omega)
  obtain ⟨m, rfl⟩ : ∃ m', m = m' + 2 := ⟨m - 2, by omega⟩
  have h5 : (dg (a % b)).length ≤ L := Nat.le_trans (len_mono (Nat.le_of_lt (Nat.mod_lt a hb))) h4
  rw [step _ _ _ hb h3 h4, Nat.gcd_rec b a]
  rcases Nat.eq_zero_or_pos (a % b) with hr | hr
  · rw [hr]; exact stop _ _ (by omega)
  have h6 : (dg (b % (a % b))).length ≤ L := Nat.le_trans (len_mono (Nat.le_of_lt (Nat.mod_lt b hr))) h5
  rw [step _ _ _ hr h4 h5, Nat.gcd_rec (a % b) b]
  exact ih m _ _ (gcd_half hb hr h1) (by omega) h5 h6

theorem i_gcd {n L a b : Nat} (hL : L ≤ 1099511627000) (hn : 28 * L + 10040 ≤ n) (ha : (dg a).length ≤ L) (hb : (dg b).length ≤ L) : f137 n (dg a) (dg b) = some (dg (Nat.gcd a b)) := by
 unfold f137
 rw [gcd137 hL (by omega) (14 * L) n a b (pow_two (lt_len' hb)) (by omega) ha hb, Nat.gcd_comm]

abbrev Rt := Bool × List Int × List Int

abbrev rt0 : Rt := (false, [], [])

def Sm (x : Rt) : Prop := x.2.1.length ≤ 1048576 ∧ x.2.2.length ≤ 1048576

def Bd (x : Rt) : Prop := x.2.1.length ≤ 9223372036854775807 ∧ x.2.2.length ≤ 9223372036854775807

theorem f69_eq {n : Nat} {l : List Int} {B : Int} (hB : 0 ≤ B ∧ B ≤ 1048576) (hl : l.length ≤ 9223372036854775807) : f69 n l B = some (if (l.length : Int) ≤ B then B - l.length else -1) := by
 unfold f69
 rw [W_id (x := B - (l.length : Int)) (by omega) (by omega), Bool.cond_decide]
 by_cases h : (l.length : Int) ≤ B
 · rw [if_neg (by omega), if_pos h]
 · rw [if_pos (by omega), if_neg h]

theorem f20_eq {n : Nat} {x : Rt} {B : Int} (hB : 0 ≤ B ∧ B ≤ 1048576) (hx : Bd x) : ∃ r, f20 n x B = some r ∧ (r = -1 ∨ (0 ≤ r ∧ r ≤ B ∧ Sm x)) := by
 unfold f20
 rw [f69_eq hB hx.1, ob_some]
 by_cases h : (x.2.1.length : Int) ≤ B
 · rw [if_pos h, Bool.cond_decide, if_neg (by omega), f69_eq (by omega) hx.2, ob_some]
   by_cases h' : (x.2.2.length : Int) ≤ B - x.2.1.length
   · rw [if_pos h', Bool.cond_decide, if_neg (by omega)]
     exact ⟨_, rfl, .inr ⟨by omega, by omega, by unfold Sm; omega⟩⟩
   · rw [if_neg h', Bool.cond_decide, if_pos (by omega)]
     exact ⟨_, rfl, .inl rfl⟩
 · rw [if_neg h, Bool.cond_decide, if_pos (by omega)]
   exact ⟨_, rfl, .inl rfl⟩

theorem f15_loop {n : Nat} {l : List Rt} (hl : l.length ≤ 1048576) (hb : ∀ x ∈ l, Bd x) : ∀ (m i : Nat) (B : Int), 0 ≤ B ∧ B ≤ 1048576 → i ≤ l.length → l.length < i + m →
  ∃ r, f15_L5 n m l B (i : Int) (fun z => some z) (fun z => some z) = some r ∧ (r = -1 ∨ (0 ≤ r ∧ r ≤ B ∧ ∀ x ∈ l.drop i, Sm x))
 | 0, i, B, hB, hi, hm => by omega
 | m + 1, i, B, hB, hi, hm => by
  rw [f15_L5_s]
  unfold f15_L5B
  dsimp only
  rw [Bool.cond_decide]
  by_cases h : i < l.length
  · rw [if_pos (by omega), gd_pos (by simp; try omega)]
    simp only [Int.toNat_natCast]
    have hd : l.drop i = l.getD i rt0 :: l.drop (i + 1) := by
     rw [List.drop_eq_getElem_cons h, List.getD_eq_getElem?_getD, List.getElem?_eq_getElem h]; rfl
    have hmem : l.getD i rt0 ∈ l := List.mem_of_mem_drop (i := i) (by rw [hd]; simp)
    obtain ⟨r, h1, h2⟩ := f20_eq (n := n) hB (hb _ hmem)
    rw [h1, ob_some]
    rcases h2 with rfl | ⟨h2, h3, h4⟩
    · exact ⟨-1, rfl, .inl rfl⟩
    · rw [Bool.cond_decide, if_neg (by omega), W_id (x := (i : Int) + 1) (by omega) (by omega)]
      obtain ⟨r', q1, q2⟩ := f15_loop hl hb m (i + 1) r (by omega) (by omega) (by omega)
      refine ⟨r', q1, q2.imp id fun ⟨q3, q4, q5⟩ => ⟨q3, by omega, fun x hx => ?_⟩⟩
      rw [hd] at hx
      rcases List.mem_cons.1 hx with rfl | hx
      · exact h4
      · exact q5 x hx
  · rw [if_neg (by omega)]
    refine ⟨_, rfl, .inr ⟨hB.1, Int.le_refl _, fun x hx => ?_⟩⟩
    rw [List.drop_of_length_le (by omega)] at hx
    cases hx

theorem f15_eq {n : Nat} {l : List Rt} {B : Int} (hB : 0 ≤ B ∧ B ≤ 1048576) (hl : l.length ≤ 9223372036854775807) (hb : ∀ x ∈ l, Bd x) (hn : 1048577 ≤ n) : ∃ r, f15 n l B = some r ∧ (r = -1 ∨ (0 ≤ r ∧ r ≤ B ∧ l.length ≤ 1048576 ∧ ∀ x ∈ l, Sm x)) := by
 unfold f15
 rw [W_id (x := B - (l.length : Int)) (by omega) (by omega), Bool.cond_decide]
 by_cases h : (l.length : Int) ≤ B
 · rw [if_neg (by omega)]
   obtain ⟨r, h1, h2⟩ := f15_loop (n := n) (l := l) (by omega) hb n 0 (B - l.length) (by omega) (by omega) (by omega)
   exact ⟨r, h1, h2.imp id fun ⟨q1, q2, q3⟩ => ⟨q1, by omega, by omega, by simpa using q3⟩⟩
 · rw [if_pos (by omega)]
   exact ⟨_, rfl, .inl rfl⟩

theorem copy_set {α : Type} {l z : List α} {i : Nat} {d : α} (hi : i < l.length) (hz : z.length = l.length - i) : (l.take i ++ z).set i (l.getD i d) = l.take (i + 1) ++ z.drop 1 := by
 rw [List.set_append_right _ _ (by rw [List.length_take]; omega), List.length_take, Nat.min_eq_left (by omega), Nat.sub_self]
 cases z with
 | nil => simp at hz; omega
 | cons y z => rw [List.set_cons_zero, List.take_succ_eq_append_getElem hi, List.getD_eq_getElem?_getD, List.getElem?_eq_getElem hi, List.append_assoc]; rfl

theorem f71_loop {α : Type} {n : Nat} {l : List Int} (hl : l.length ≤ 1048576) {k0 : List Int → Option α} : ∀ (m i : Nat) (z : List Int), z.length = l.length - i → i ≤ l.length → l.length < i + m → f71_L3 n m l (i : Int) (l.take i ++ z) k0 = k0 l
 | 0, i, z, hz, hi, hm => by omega
 | m + 1, i, z, hz, hi, hm => by
  rw [f71_L3_s]
  unfold f71_L3B
  dsimp only
  rw [Bool.cond_decide]
  by_cases h : i < l.length
  · rw [if_pos (by omega)]
    simp only [Int.toNat_natCast]
    rw [gd_pos (by simp; try omega), gd_pos (by simp [hz]; omega), gd_pos (by simp [hz]; omega), copy_set h hz, W_id (x := (i : Int) + 1) (by omega) (by omega)]
    exact f71_loop hl m (i + 1) _ (by simp [hz]; omega) (by omega) (by omega)
  · rw [if_neg (by omega)]
    obtain rfl : z = [] := List.eq_nil_of_length_eq_zero (by omega)
    rw [List.take_of_length_le (by omega), List.append_nil]

theorem f71_eq {n : Nat} {l : List Int} (hl : l.length ≤ 1048576) (hn : 1048577 ≤ n) : f71 n l = some l := by
 unfold f71
 rw [gd_pos (by simp; try omega)]
 have := f71_loop (n := n) hl (k0 := fun z_1 => some z_1) n 0 (List.replicate l.length 0) (by simp) (by omega) (by omega)
 simpa using this

theorem f22_eq {n : Nat} {x : Rt} (h : Sm x) (hn : 1048577 ≤ n) : f22 n x = some x := by
 unfold f22
 rw [f71_eq h.1 hn, ob_some, f71_eq h.2 hn, ob_some]

theorem Sm.get {l : List Rt} (h : ∀ x ∈ l, Sm x) (i : Nat) : Sm (l.getD i rt0) := by
 rw [List.getD_eq_getElem?_getD]
 cases e : l[i]? with
 | none => exact ⟨by simp, by simp⟩
 | some x => exact h x (List.mem_of_getElem? e)

theorem f17_loop {α : Type} {n : Nat} {l : List Rt} (hl : l.length ≤ 1048576) (hs : ∀ x ∈ l, Sm x) (hn : 1048577 ≤ n) {k0 : List Rt → Option α} : ∀ (m i : Nat) (z : List Rt), z.length = l.length - i → i ≤ l.length → l.length < i + m → f17_L3 n m l (i : Int) (l.take i ++ z) k0 = k0 l
 | 0, i, z, hz, hi, hm => by omega
 | m + 1, i, z, hz, hi, hm => by
  rw [f17_L3_s]
  unfold f17_L3B
  dsimp only
  rw [Bool.cond_decide]
  by_cases h : i < l.length
  · rw [if_pos (by omega)]
    simp only [Int.toNat_natCast]
    rw [gd_pos (by simp; try omega), f22_eq (Sm.get hs i) hn, ob_some, gd_pos (by simp [hz]; omega), gd_pos (by simp [hz]; omega), copy_set h hz, W_id (x := (i : Int) + 1) (by omega) (by omega)]
    exact f17_loop hl hs hn m (i + 1) _ (by simp [hz]; omega) (by omega) (by omega)
  · rw [if_neg (by omega)]
    obtain rfl : z = [] := List.eq_nil_of_length_eq_zero (by omega)
    rw [List.take_of_length_le (by omega), List.append_nil]

theorem f17_eq {n : Nat} {l : List Rt} (hl : l.length ≤ 1048576) (hs : ∀ x ∈ l, Sm x) (hn : 1048577 ≤ n) : f17 n l = some l := by
 unfold f17
 rw [gd_pos (by simp; try omega)]
 have := f17_loop (n := n) hl hs hn (k0 := fun z_1 => some z_1) n 0 (List.replicate l.length rt0) (by simp) (by omega) (by omega)
 simpa using this

theorem f73_loop {α : Type} {n : Nat} {l : List Int} (hl : l.length ≤ 1048576) {k0 : Bool → Option α} {k1 : Unit → Option α} : ∀ (m i : Nat), i ≤ l.length → l.length < i + m → f73_L4 n m l l (i : Int) k0 k1 = k1 ()
 | 0, i, hi, hm => by omega
 | m + 1, i, hi, hm => by
  rw [f73_L4_s]
  unfold f73_L4B
  dsimp only
  rw [Bool.cond_decide]
  by_cases h : i < l.length
  · rw [if_pos (by omega), gd_pos (by simp; try omega), gd_pos (by simp; try omega), bne_self_eq_false, cond_false, W_id (x := (i : Int) + 1) (by omega) (by omega)]
    exact f73_loop hl m (i + 1) (by omega) (by omega)
  · rw [if_neg (by omega)]

theorem f73_eq {n : Nat} {l : List Int} (hl : l.length ≤ 1048576) (hn : 1048577 ≤ n) : f73 n l l = some true := by
 unfold f73
 rw [bne_self_eq_false, cond_false]
 exact f73_loop hl n 0 (by omega) (by omega)

theorem f24_eq {n : Nat} {x : Rt} (h : Sm x) (hn : 1048577 ≤ n) : f24 n x x = some true := by
 unfold f24
 rw [f73_eq h.1 hn, f73_eq h.2 hn]
 simp

theorem f19_loop {α : Type} {n : Nat} {l : List Rt} (hl : l.length ≤ 1048576) (hs : ∀ x ∈ l, Sm x) (hn : 1048577 ≤ n) {k0 : Bool → Option α} {k1 : Unit → Option α} : ∀ (m i : Nat), i ≤ l.length → l.length < i + m → f19_L4 n m l l (i : Int) k0 k1 = k1 ()
 | 0, i, hi, hm => by omega
 | m + 1, i, hi, hm => by
  rw [f19_L4_s]
  unfold f19_L4B
  dsimp only
  rw [Bool.cond_decide]
  by_cases h : i < l.length
  · rw [if_pos (by omega), gd_pos (by simp; try omega), gd_pos (by simp; try omega)]
    simp only [Int.toNat_natCast]
    rw [f24_eq (Sm.get hs i) hn, ob_some, W_id (x := (i : Int) + 1) (by omega) (by omega)]
    exact f19_loop hl hs hn m (i + 1) (by omega) (by omega)
  · rw [if_neg (by omega)]

theorem f19_eq {n : Nat} {l : List Rt} (hl : l.length ≤ 1048576) (hs : ∀ x ∈ l, Sm x) (hn : 1048577 ≤ n) : f19 n l l = some true := by
 unfold f19
 rw [bne_self_eq_false, cond_false]
 exact f19_loop hl hs hn n 0 (by omega) (by omega)

def limb (x : Int) : Bool := decide (0 ≤ x ∧ x ≤ 9999)

def nok (l : List Int) : Bool := decide (l.length ≤ 40) && l.all limb && (l.isEmpty || decide (0 < l.getD (l.length - 1) 0))

theorem nok_Cn {l : List Int} (h : nok l = true) : Cn l ∧ l.length ≤ 40 := by
 unfold nok at h
 simp only [Bool.and_eq_true, decide_eq_true_eq, Bool.or_eq_true, List.all_eq_true, List.isEmpty_iff] at h
 obtain ⟨⟨h1, h2⟩, h3⟩ := h
 refine ⟨⟨fun x hx => ?_, fun hn => ?_⟩, h1⟩
 · have := h2 x hx
   unfold limb at this
   rw [decide_eq_true_eq] at this
   omega
 · rcases h3 with h3 | h3
   · exact absurd h3 hn
   · omega

theorem alldrop {α : Type} {l : List α} {p : α → Bool} {i : Nat} (h : i < l.length) (d : α) : (l.drop i).all p = (p (l.getD i d) && (l.drop (i + 1)).all p) := by
 rw [List.drop_eq_getElem_cons h, List.all_cons, List.getD_eq_getElem?_getD, List.getElem?_eq_getElem h]; rfl

theorem f65_eq {n : Nat} {a lo hi : Int} : f65 n a lo hi = some (decide (lo ≤ a ∧ a ≤ hi)) := by
 unfold f65; by_cases h : lo ≤ a <;> simp [h]

theorem f67_eq {n : Nat} {a lo hi : Int} : f67 n a lo hi = some (decide (lo ≤ a ∧ a ≤ hi)) := by
 unfold f67; by_cases h : lo ≤ a <;> simp [h]

theorem f126_loop {α : Type} {n : Nat} {l : List Int} (hl : l.length ≤ 1048576) {k0 : Bool → Option α} {k1 : List Int → Option α} : ∀ (m i : Nat), i ≤ l.length → l.length < i + m → f126_L4 n m l (i : Int) k0 k1 = if (l.drop i).all limb = true then k1 l else k0 false
 | 0, i, hi, hm => by omega
 | m + 1, i, hi, hm => by
  rw [f126_L4_s]
  unfold f126_L4B
  dsimp only
  rw [Bool.cond_decide]
  by_cases h : i < l.length
  · rw [if_pos (by omega), gd_pos (by simp; try omega)]
    simp only [Int.toNat_natCast]
    rw [f65_eq, ob_some, alldrop h 0]
    cases hp : limb (l.getD i 0) with
    | true =>
     unfold limb at hp
     rw [hp, W_id (x := (i : Int) + 1) (by omega) (by omega)]
     simp only [Bool.not_true, cond_false, Bool.true_and]
     exact f126_loop hl m (i + 1) (by omega) (by omega)
    | false =>
     unfold limb at hp
     rw [hp]
     simp
  · rw [if_neg (by omega), List.drop_of_length_le (by omega)]
    rfl

theorem f126_eq {n : Nat} {l : List Int} (hn : 1048577 ≤ n) : f126 n l = some (nok l) := by
 unfold f126 nok
 rw [Bool.cond_decide]
 by_cases h : l.length ≤ 4096
 · rw [if_neg (by omega)]
   have := f126_loop (n := n) (l := l) (by omega) (k0 := fun z_2 => some z_2) (k1 := fun z_3 => (
     bif (decide ((z_3.length : Int) ≤ 40)) then
      bif ((z_3.length : Int) == 0) then
       some true
      else
       gd (decide (0 ≤ (W ((z_3.length : Int) - 1))) && decide ((W ((z_3.length : Int) - 1)) < (z_3.length : Int))) (
        some (decide ((z_3.getD ((W ((z_3.length : Int) - 1)).toNat) 0) > 0)))
     else
      some false)) n 0 (by omega) (by omega)
   have this : f126_L4 n n l 0 _ _ = _ := this
   rw [this, List.drop_zero]
   cases l.all limb with
   | false => simp
   | true =>
    rw [if_pos rfl, Bool.cond_decide]
    by_cases h40 : l.length ≤ 40
    · rw [if_pos (by omega)]
      cases l with
      | nil => rfl
      | cons x r =>
       rw [Bool.cond_eq_ite, if_neg (by simp; omega), W_id (x := ((x :: r).length : Int) - 1) (by omega) (by omega), gd_pos (by simp; omega), show (((x :: r).length : Int) - 1).toNat = (x :: r).length - 1 by omega]
       have h41 : r.length ≤ 39 := by simpa using h40
       simp [h41]
    · rw [if_neg (by omega)]
      simp [h40]
 · rw [if_pos (by omega), decide_eq_false (by omega)]
   rfl

theorem f195c180_loop {n : Nat} {l : List Int} (hl : l.length ≤ 1048576) : ∀ (m i : Nat), i ≤ l.length → l.length < i + m → ∃ r, f195c180_L2 n m l (l.length : Int) (i : Int) (fun z => some z) (fun (_ : Unit) => some (-1)) = some r ∧ decide (r ≥ 0) = !(l.drop i).all limb
 | 0, i, hi, hm => by omega
 | m + 1, i, hi, hm => by
  rw [f195c180_L2_s]
  unfold f195c180_L2B
  dsimp only
  rw [Bool.cond_decide]
  by_cases h : i < l.length
  · rw [if_pos (by omega), gd_pos (by simp; try omega)]
    simp only [Int.toNat_natCast]
    have e : f180 n (l.getD i 0) = some (!limb (l.getD i 0)) := by
     unfold f180 limb
     rw [Bool.cond_decide]
     generalize l.getD i 0 = x
     by_cases h1 : x < 0
     · rw [if_pos h1, decide_eq_false (by omega)]; rfl
     · rw [if_neg h1]
       by_cases h2 : x ≤ 9999
       · rw [decide_eq_false (by omega), decide_eq_true (by omega)]; rfl
       · rw [decide_eq_true (by omega), decide_eq_false (by omega)]; rfl
    rw [e, ob_some, alldrop h 0]
    cases hp : limb (l.getD i 0) with
    | true =>
     rw [W_id (x := (i : Int) + 1) (by omega) (by omega)]
     simp only [Bool.not_true, cond_false, Bool.true_and]
     exact f195c180_loop hl m (i + 1) (by omega) (by omega)
    | false =>
     exact ⟨i, rfl, by simp⟩
  · rw [if_neg (by omega), List.drop_of_length_le (by omega)]
    exact ⟨-1, rfl, rfl⟩

theorem f179c180_eq {n : Nat} {l : List Int} (hl : l.length ≤ 1048576) (hn : 1048577 ≤ n) : f179c180 n l () = some (!l.all limb) := by
 unfold f179c180 f195c180
 obtain ⟨r, h1, h2⟩ := f195c180_loop (n := n) hl n 0 (by omega) (by omega)
 have h1 : f195c180_L2 n n l (l.length : Int) 0 _ _ = _ := h1
 rw [h1, ob_some, h2, List.drop_zero]

theorem f134_eq {n : Nat} {l : List Int} (hn : 1048577 ≤ n) : f134 n l = some (nok l) := by
 unfold f134 nok
 rw [Bool.cond_decide]
 by_cases h : l.length ≤ 40
 · rw [if_neg (by omega), decide_eq_true h, Bool.true_and, Bool.cond_decide]
   cases l with
   | nil => rw [if_neg (by simp), f179c180_eq (by omega) hn]; rfl
   | cons x r =>
    rw [if_pos (by simp), W_id (x := ((x :: r).length : Int) - 1) (by omega) (by omega), gd_pos (by simp; omega), show (((x :: r).length : Int) - 1).toNat = (x :: r).length - 1 by omega]
    rw [f179c180_eq (by omega) hn, ob_some, Bool.not_not, Bool.cond_eq_ite]
    by_cases hz : (x :: r).getD ((x :: r).length - 1) 0 = 0
    · rw [if_pos (by rw [hz]; rfl), hz]; simp
    · rw [if_neg (by rw [beq_iff_eq]; exact hz)]
      cases ha : (x :: r).all limb with
      | false => rfl
      | true =>
       have : limb ((x :: r).getD ((x :: r).length - 1) 0) = true := by
        rw [List.all_eq_true] at ha
        apply ha
        rw [List.getD_eq_getElem?_getD, List.getElem?_eq_getElem (by simp)]
        simp only [Option.getD_some]
        exact List.getElem_mem _
       unfold limb at this
       rw [decide_eq_true_eq] at this
       rw [decide_eq_true (by omega)]
       simp
 · rw [if_pos (by omega), decide_eq_false h]; rfl

theorem len0 {α : Type} (l : List α) : ((l.length : Int) == 0) = l.isEmpty := by
 cases l with
 | nil => rfl
 | cons x r => rw [beq_eq_false_iff_ne.2 (by simp; omega)]; rfl

def rok (x : Rt) : Bool := nok x.2.1 && nok x.2.2 && !x.2.2.isEmpty && !(x.2.1.isEmpty && x.1) && decide (Nat.gcd (vl x.2.1).toNat (vl x.2.2).toNat = 1)

theorem dg_one : dg 1 = [1] := by rw [dg_pos (by omega), show 1 / 10000 = 0 from rfl, dg_zero]; rfl

theorem cm_one {g : Nat} : (cm (g : Int) ((1 : Nat) : Int) == 0) = decide (g = 1) := by
 unfold cm
 by_cases h : g = 1
 · subst h; rfl
 · rw [decide_eq_false h]
   by_cases h2 : (g : Int) < (1 : Nat)
   · rw [if_pos h2]; rfl
   · rw [if_neg h2, if_neg (by omega)]; rfl

theorem gcd_len {a b : Nat} (ha : (dg a).length ≤ 40) (hb : (dg b).length ≤ 40) : (dg (Nat.gcd a b)).length ≤ 40 := by
 rcases Nat.eq_zero_or_pos a with rfl | h
 · rw [Nat.gcd_zero_left]; exact hb
 · exact Nat.le_trans (len_mono (Nat.gcd_le_left b h)) ha

theorem f66_eq {n : Nat} {x : Rt} (hn : 1048577 ≤ n) : f66 n x = some (rok x) := by
 obtain ⟨s, a, b⟩ := x
 unfold f66 rok
 dsimp only
 simp only [len0]
 rw [f126_eq hn, ob_some, f126_eq hn, ob_some]
 cases ha : nok a with
 | false => rfl
 | true =>
  cases hb : nok b with
  | false => rfl
  | true =>
   obtain ⟨ca, la⟩ := nok_Cn ha
   obtain ⟨cb, lb⟩ := nok_Cn hb
   have ea := dg_vl ca
   have eb := dg_vl cb
   have hg : f128 n a b = some (dg (Nat.gcd (vl a).toNat (vl b).toNat)) := by
    conv => lhs; rw [← ea, ← eb]
    exact s_gcd (L := 40) (by omega) (by omega) (by rw [ea]; exact la) (by rw [eb]; exact lb)
   have hgl := gcd_len (a := (vl a).toNat) (b := (vl b).toNat) (by rw [ea]; exact la) (by rw [eb]; exact lb)
   rw [hg, ob_some, ← dg_one, s_cmp (by omega) (by omega), ob_some, cm_one]
   cases b <;> cases a <;> cases s <;> simp

theorem f78_eq {n : Nat} {x : Rt} (hn : 1048577 ≤ n) : f78 n x = some (rok x) := by
 obtain ⟨s, a, b⟩ := x
 unfold f78 rok
 dsimp only
 rw [f134_eq hn, ob_some, f134_eq hn, ob_some]
 cases ha : nok a with
 | false => rfl
 | true =>
  cases hb : nok b with
  | false => rfl
  | true =>
   obtain ⟨ca, la⟩ := nok_Cn ha
   obtain ⟨cb, lb⟩ := nok_Cn hb
   have ea := dg_vl ca
   have eb := dg_vl cb
   have hg : f137 n a b = some (dg (Nat.gcd (vl a).toNat (vl b).toNat)) := by
    conv => lhs; rw [← ea, ← eb]
    exact i_gcd (L := 40) (by omega) (by omega) (by rw [ea]; exact la) (by rw [eb]; exact lb)
   have hgl := gcd_len (a := (vl a).toNat) (b := (vl b).toNat) (by rw [ea]; exact la) (by rw [eb]; exact lb)
   rw [hg, ob_some, show f138 n = some [1] from rfl, ob_some, ← dg_one, i_cmp (by omega), ob_some, cm_one, show f135 n (s, a, b) = some ((a.length : Int) == 0) from rfl, ob_some, len0, len0]
   cases b <;> cases a <;> cases s <;> simp

theorem f16_loop {α : Type} {n : Nat} {l : List Rt} (hl : l.length ≤ 1048576) (hn : 1048577 ≤ n) {k0 : Bool → Option α} {k1 : Unit → Option α} : ∀ (m i : Nat), i ≤ l.length → l.length < i + m → f16_L6 n m l (i : Int) k0 k1 = if (l.drop i).all rok = true then k1 () else k0 false
 | 0, i, hi, hm => by omega
 | m + 1, i, hi, hm => by
  rw [f16_L6_s]
  unfold f16_L6B
  dsimp only
  rw [Bool.cond_decide]
  by_cases h : i < l.length
  · rw [if_pos (by omega), gd_pos (by simp; try omega)]
    simp only [Int.toNat_natCast]
    rw [f66_eq hn, ob_some, alldrop h rt0]
    cases hp : rok (l.getD i rt0) with
    | true =>
     rw [W_id (x := (i : Int) + 1) (by omega) (by omega)]
     simp only [Bool.not_true, cond_false, Bool.true_and]
     exact f16_loop hl hn m (i + 1) (by omega) (by omega)
    | false => simp
  · rw [if_neg (by omega), List.drop_of_length_le (by omega)]
    rfl

theorem f177c131_loop {n : Nat} {l : List Rt} (hl : l.length ≤ 1048576) (hn : 1048577 ≤ n) : ∀ (m i : Nat), i ≤ l.length → l.length < i + m → ∃ r, f177c131_L2 n m l (l.length : Int) (i : Int) (fun z => some z) (fun (_ : Unit) => some (-1)) = some r ∧ decide (r ≥ 0) = !(l.drop i).all rok
 | 0, i, hi, hm => by omega
 | m + 1, i, hi, hm => by
  rw [f177c131_L2_s]
  unfold f177c131_L2B
  dsimp only
  rw [Bool.cond_decide]
  by_cases h : i < l.length
  · rw [if_pos (by omega), gd_pos (by simp; try omega)]
    simp only [Int.toNat_natCast]
    have e : f131 n (l.getD i rt0) = some (!rok (l.getD i rt0)) := by
     unfold f131
     rw [f78_eq hn, ob_some]
    rw [e, ob_some, alldrop h rt0]
    cases hp : rok (l.getD i rt0) with
    | true =>
     rw [W_id (x := (i : Int) + 1) (by omega) (by omega)]
     simp only [Bool.not_true, cond_false, Bool.true_and]
     exact f177c131_loop hl hn m (i + 1) (by omega) (by omega)
    | false => exact ⟨i, rfl, by simp⟩
  · rw [if_neg (by omega), List.drop_of_length_le (by omega)]
    exact ⟨-1, rfl, rfl⟩

theorem f130c131_eq {n : Nat} {l : List Rt} (hl : l.length ≤ 1048576) (hn : 1048577 ≤ n) : f130c131 n l () = some (!l.all rok) := by
 unfold f130c131 f177c131
 obtain ⟨r, h1, h2⟩ := f177c131_loop (n := n) hl hn n 0 (by omega) (by omega)
 have h1 : f177c131_L2 n n l (l.length : Int) 0 _ _ = _ := h1
 rw [h1, ob_some, h2, List.drop_zero]

theorem f68_eq {n : Nat} {l : List Rt} (hl : l.length ≤ 1048576) (hn : 1048577 ≤ n) : f68 n l = some (if l.all rok = true then 0 else 1) := by
 unfold f68
 rw [f130c131_eq hl hn, ob_some]
 cases l.all rok <;> rfl

theorem sq_le {a : Int} (h : 1 ≤ a ∧ a ≤ 4) : 0 ≤ a * a ∧ a * a ≤ 16 := by
 obtain ⟨h1, h2⟩ := h
 have h3 := Int.mul_nonneg (a := a) (b := a) (by omega) (by omega)
 have h4 : a * a ≤ 4 * a := Int.mul_le_mul_of_nonneg_right (by omega) (by omega)
 omega

def mok (l : List Rt) (a : Int) : Bool := decide (1 ≤ a ∧ a ≤ 4) && ((l.length : Int) == a * a) && l.all rok

theorem f16_eq {n : Nat} {l : List Rt} {a : Int} (hn : 1048577 ≤ n) : f16 n l a = some (mok l a) := by
 unfold f16 mok
 rw [Bool.cond_decide, f65_eq, ob_some]
 by_cases ha : 1 ≤ a ∧ a ≤ 4
 · rw [decide_eq_true ha]
   have := sq_le ha
   rw [W_id (x := a * a) (by omega) (by omega)]
   by_cases hl : (l.length : Int) = a * a
   · rw [if_neg (by omega), hl]
     simp only [Bool.not_true, cond_false, bne_self_eq_false, BEq.rfl, Bool.true_and]
     have h := f16_loop (n := n) (l := l) (by omega) hn (k0 := fun z_4 => some z_4) (k1 := fun (_ : Unit) => some true) n 0 (by omega) (by omega)
     have h : f16_L6 n n l 0 _ _ = _ := h
     rw [h, List.drop_zero]
     cases l.all rok <;> rfl
   · have : ((l.length : Int) == a * a) = false := by rw [beq_eq_false_iff_ne]; exact hl
     rw [this, show ((l.length : Int) != a * a) = true by rw [bne_iff_ne]; exact hl]
     split <;> rfl
 · rw [decide_eq_false ha]
   split <;> rfl

theorem f18_eq {n : Nat} {l : List Rt} {a : Int} (hn : 1048577 ≤ n) : f18 n l a = some (mok l a) := by
 unfold f18 mok
 rw [f67_eq, ob_some]
 by_cases ha : 1 ≤ a ∧ a ≤ 4
 · rw [decide_eq_true ha]
   have := sq_le ha
   rw [W_id (x := a * a) (by omega) (by omega)]
   by_cases hl : (l.length : Int) = a * a
   · rw [f68_eq (by omega) hn, hl]
     cases l.all rok <;> simp
   · have : ((l.length : Int) == a * a) = false := by rw [beq_eq_false_iff_ne]; exact hl
     rw [this]; rfl
 · rw [decide_eq_false ha]; rfl

theorem f178_loop {n : Nat} {l : List Int} (hl : l.length ≤ 1048576) : ∀ (m i : Nat), i ≤ l.length → l.length < i + m → ∃ c, f178_L2 n m 4096 l (l.length : Int) (i : Int) (fun z => some z) (fun (_ : Unit) => some 0) = some c ∧ ((c = 0 ∧ ∀ x ∈ l.drop i, x ≤ 4096) ∨ (c = 2 ∧ ∃ x ∈ l, 4096 < x))
 | 0, i, hi, hm => by omega
 | m + 1, i, hi, hm => by
  rw [f178_L2_s]
  unfold f178_L2B
  dsimp only
  rw [Bool.cond_decide]
  by_cases h : i < l.length
  · rw [if_pos (by omega), gd_pos (by simp; try omega)]
    simp only [Int.toNat_natCast]
    rw [Bool.cond_decide]
    by_cases hx : 4096 < l.getD i 0
    · rw [if_pos hx]
      refine ⟨2, rfl, .inr ⟨rfl, l.getD i 0, ?_, hx⟩⟩
      rw [List.getD_eq_getElem?_getD, List.getElem?_eq_getElem h]
      exact List.getElem_mem h
    · rw [if_neg hx, W_id (x := (i : Int) + 1) (by omega) (by omega)]
      obtain ⟨c, h1, h2⟩ := f178_loop (n := n) hl m (i + 1) (by omega) (by omega)
      refine ⟨c, h1, h2.imp (fun ⟨e, h3⟩ => ⟨e, fun x hx' => ?_⟩) (fun h => h)⟩
      rw [List.drop_eq_getElem_cons h] at hx'
      rcases List.mem_cons.1 hx' with rfl | hx'
      · rw [List.getD_eq_getElem?_getD, List.getElem?_eq_getElem h] at hx
        exact Int.not_lt.1 hx
      · exact h3 x hx'
  · rw [if_neg (by omega)]
    refine ⟨0, rfl, .inl ⟨rfl, fun x hx => ?_⟩⟩
    rw [List.drop_of_length_le (by omega)] at hx
    cases hx

theorem f133_loop {α : Type} {n : Nat} {L : List (List Rt)} (hl : L.length ≤ 1048576) {k0 : List Int → Option α} : ∀ (m i : Nat) (o : List Int), o.length ≤ i → i ≤ L.length → L.length < i + m → f133_L3 n m L (L.length : Int) (i : Int) o k0 = k0 (o ++ (L.drop i).map fun v => (v.length : Int))
 | 0, i, o, ho, hi, hm => by omega
 | m + 1, i, o, ho, hi, hm => by
  rw [f133_L3_s]
  unfold f133_L3B
  dsimp only
  rw [Bool.cond_decide]
  by_cases h : i < L.length
  · rw [if_pos (by omega), gd_pos (by simp; try omega), gd_pos (by simp only [decide_eq_true_eq]; omega)]
    simp only [Int.toNat_natCast]
    rw [W_id (x := (i : Int) + 1) (by omega) (by omega), show (i : Int) + 1 = ((i + 1 : Nat) : Int) from rfl, f133_loop hl m (i + 1) _ (by simp; omega) (by omega) (by omega), List.drop_eq_getElem_cons h, List.getD_eq_getElem?_getD, List.getElem?_eq_getElem h, List.append_assoc]
    rfl
  · rw [if_neg (by omega), List.drop_of_length_le (by omega)]
    simp

theorem f133_eq {n : Nat} {L : List (List Rt)} (hl : L.length ≤ 1048576) (hn : 1048577 ≤ n) : ∃ c, f133 n L = some c ∧ ((c = 0 ∧ ∀ v ∈ L, v.length ≤ 4096) ∨ (c = 2 ∧ ∃ v ∈ L, 4096 < v.length)) := by
 unfold f133
 have h1 := f133_loop (n := n) (L := L) hl (k0 := fun z_1 => (
   ob (f178 n 4096 z_1) fun r_2 =>
   some r_2)) n 0 [] (by simp) (by omega) (by omega)
 have h1 : f133_L3 n n L (L.length : Int) 0 [] _ = _ := h1
 rw [h1, List.drop_zero, List.nil_append]
 unfold f178
 obtain ⟨c, h2, h3⟩ := f178_loop (n := n) (l := L.map fun v => (v.length : Int)) (by simpa using hl) n 0 (by omega) (by simp; omega)
 have h2 : f178_L2 n n 4096 _ _ 0 _ _ = _ := h2
 refine ⟨c, by rw [h2, ob_some], h3.imp (fun ⟨e, h⟩ => ⟨e, fun v hv => by have := h _ (by rw [List.drop_zero]; exact List.mem_map.2 ⟨v, hv, rfl⟩); omega⟩) fun ⟨e, x, hx, hx'⟩ => ⟨e, ?_⟩⟩
 obtain ⟨v, hv, rfl⟩ := List.mem_map.1 hx
 exact ⟨v, hv, by omega⟩

def BdL (l : List Rt) : Prop := l.length ≤ 9223372036854775807 ∧ ∀ x ∈ l, Bd x

def SmL (l : List Rt) : Prop := l.length ≤ 1048576 ∧ ∀ x ∈ l, Sm x

theorem f15_eq' {n : Nat} {l : List Rt} {B : Int} (hB : 0 ≤ B ∧ B ≤ 1048576) (hl : BdL l) (hn : 1048577 ≤ n) : ∃ r, f15 n l B = some r ∧ (r = -1 ∨ ((0 ≤ r ∧ r ≤ 1048576) ∧ SmL l)) := by
 obtain ⟨r, h1, h2⟩ := f15_eq (n := n) hB hl.1 hl.2 hn
 exact ⟨r, h1, h2.imp id fun ⟨q1, q2, q3, q4⟩ => ⟨⟨q1, by omega⟩, q3, q4⟩⟩

abbrev Nod := Int × Int × Int × Int

def kidsP (op : Int) : Int := if op = 3 ∨ op = 4 ∨ op = 5 ∨ op = 6 then 2 else if op = 7 ∨ op = 8 then 1 else 0

def numP (x : Nod) : Prop := if x.1 = 1 then 0 ≤ x.2.2.2 ∧ x.2.2.2 ≤ 999999999 else if x.1 = 2 then 0 ≤ x.2.2.2 ∧ x.2.2.2 ≤ 3 else if x.1 = 8 then 0 ≤ x.2.2.2 ∧ x.2.2.2 ≤ 8 else x.2.2.2 = 0

instance (x : Nod) : Decidable (numP x) := by unfold numP; infer_instance

def plainP (x : Nod) (i : Int) : Prop := (1 ≤ x.1 ∧ x.1 ≤ 8) ∧ numP x ∧ (if kidsP x.1 > 0 then 0 ≤ x.2.1 ∧ x.2.1 ≤ i - 1 else x.2.1 = 0) ∧ (if kidsP x.1 > 1 then 0 ≤ x.2.2.1 ∧ x.2.2.1 ≤ i - 1 else x.2.2.1 = 0)

instance (x : Nod) (i : Int) : Decidable (plainP x i) := by unfold plainP; infer_instance

def nodeP (x : Nod) (i : Int) : Prop := (1 ≤ x.1 ∧ x.1 ≤ 8) ∧ (if 3 ≤ x.1 ∧ x.1 ≤ 6 then (0 ≤ x.2.1 ∧ x.2.1 ≤ i - 1) ∧ (x.2.1 + 1 ≤ x.2.2.1 ∧ x.2.2.1 ≤ i - 1) ∧ x.2.2.2 = 0
 else if x.1 = 7 ∨ x.1 = 8 then x.2.1 = i - 1 ∧ 0 < i ∧ x.2.2.1 = 0 ∧ 0 ≤ x.2.2.2 ∧ x.2.2.2 ≤ (if x.1 = 8 then 8 else 0)
 else if x.1 = 2 then x.2.1 = 0 ∧ x.2.2.1 = 0 ∧ 0 ≤ x.2.2.2 ∧ x.2.2.2 ≤ 3 else x.2.1 = 0 ∧ x.2.2.1 = 0 ∧ 0 ≤ x.2.2.2 ∧ x.2.2.2 ≤ 999999999)

instance (x : Nod) (i : Int) : Decidable (nodeP x i) := by unfold nodeP; infer_instance

def okP (bs : List Int) (x : Nod) (i : Int) : Prop := nodeP x i ∧ (3 ≤ x.1 ∧ x.1 ≤ 6 → x.2.2.1 = i - 1 ∧ bs.getD x.2.2.1.toNat 0 = x.2.1 + 1)

instance (bs : List Int) (x : Nod) (i : Int) : Decidable (okP bs x i) := by unfold okP; infer_instance

def nb (bs : List Int) (x : Nod) (i : Int) : Int := if 3 ≤ x.1 ∧ x.1 ≤ 8 then bs.getD x.2.1.toNat 0 else i

def nd (ds : List Int) (x : Nod) : Int := if 3 ≤ x.1 ∧ x.1 ≤ 6 then 1 + max (ds.getD x.2.1.toNat 0) (ds.getD x.2.2.1.toNat 0) else if x.1 = 7 ∨ x.1 = 8 then 1 + ds.getD x.2.1.toNat 0 else 1

structure InvE (bs ds : List Int) : Prop where
 len : ds.length = bs.length
 small : bs.length ≤ 1048576
 b : ∀ j, j < bs.length → 0 ≤ bs.getD j 0 ∧ bs.getD j 0 ≤ j
 d : ∀ j, j < ds.length → 1 ≤ ds.getD j 0 ∧ ds.getD j 0 ≤ j + 1

theorem toNat_lt {a : Int} {k : Nat} (h0 : 0 ≤ a) (h : a ≤ (k : Int) - 1) : a.toNat < k := by omega

theorem InvE.step {bs ds : List Int} (h : InvE bs ds) {x : Nod} (hx : okP bs x bs.length) (hs : bs.length + 1 ≤ 1048576) : InvE (bs ++ [nb bs x bs.length]) (ds ++ [nd ds x]) := by
 obtain ⟨h1, h2, h3, h4⟩ := h
 have hn := hx.1
 unfold nodeP at hn
 refine ⟨by simp [h1], by simpa using hs, fun j hj => ?_, fun j hj => ?_⟩
 · simp only [List.length_append, List.length_cons, List.length_nil] at hj
   rcases Nat.lt_or_ge j bs.length with hlt | hge
   · rw [getD_append_left hlt]; exact h3 j hlt
   · obtain rfl : j = bs.length := by omega
     rw [getD_append_last]
     unfold nb
     split
     · have ha : 0 ≤ x.2.1 ∧ x.2.1 ≤ (bs.length : Int) - 1 := by
        split at hn
        · omega
        · split at hn
          · omega
          · omega
       have := h3 _ (toNat_lt ha.1 ha.2)
       omega
     · omega
 · simp only [List.length_append, List.length_cons, List.length_nil] at hj
   rcases Nat.lt_or_ge j ds.length with hlt | hge
   · rw [getD_append_left hlt]; exact h4 j hlt
   · obtain rfl : j = ds.length := by omega
     rw [getD_append_last]
     unfold nd
     split
     · rename_i h2'
       rw [if_pos h2'] at hn
       have ha := h4 _ (by rw [h1]; exact toNat_lt (k := bs.length) (a := x.2.1) (by omega) (by omega))
       have hb := h4 _ (by rw [h1]; exact toNat_lt (k := bs.length) (a := x.2.2.1) (by omega) (by omega))
       omega
     · rename_i h2'
       rw [if_neg h2'] at hn
       split
       · rename_i h3'
         rw [if_pos h3'] at hn
         have ha := h4 _ (by rw [h1]; exact toNat_lt (k := bs.length) (a := x.2.1) (by omega) (by omega))
         omega
       · omega

def Ran (e : List Nod) (bs : List Int) : Prop := ∀ j, j < bs.length → okP (bs.take j) (e.getD j (0, 0, 0, 0)) j ∧ bs.getD j 0 = nb (bs.take j) (e.getD j (0, 0, 0, 0)) j

theorem Ran.step {e : List Nod} {bs : List Int} (h : Ran e bs) {x : Nod} (hx : e.getD bs.length (0, 0, 0, 0) = x) (hok : okP bs x bs.length) : Ran e (bs ++ [nb bs x bs.length]) := by
 intro j hj
 simp only [List.length_append, List.length_cons, List.length_nil] at hj
 rcases Nat.lt_or_ge j bs.length with hlt | hge
 · rw [getD_append_left hlt, List.take_append_of_le_length (by omega)]
   exact h j hlt
 · obtain rfl : j = bs.length := by omega
   rw [getD_append_last, List.take_left', hx]
   · exact ⟨hok, rfl⟩
   · rfl

theorem rok_nat {x : Rt} (h : rok x = true) : ∃ (s : Bool) (N D : Nat), x = (s, dg N, dg D) ∧ (dg N).length ≤ 40 ∧ (dg D).length ≤ 40 ∧ 0 < D ∧ (s = true → 0 < N) := by
 obtain ⟨s, a, b⟩ := x
 unfold rok at h
 simp only [Bool.and_eq_true, Bool.not_eq_true', decide_eq_true_eq] at h
 obtain ⟨⟨⟨⟨ha, hb⟩, hb0⟩, hs⟩, _⟩ := h
 obtain ⟨ca, la⟩ := nok_Cn ha
 obtain ⟨cb, lb⟩ := nok_Cn hb
 have hb0 : b ≠ [] := by rintro rfl; cases hb0
 refine ⟨s, (vl a).toNat, (vl b).toNat, by rw [dg_vl ca, dg_vl cb], by rw [dg_vl ca]; exact la, by rw [dg_vl cb]; exact lb, ?_, fun e => ?_⟩
 · have := cb.pos hb0; omega
 · have ha0 : a ≠ [] := by rintro rfl; rw [e] at hs; cases hs
   have := ca.pos ha0; omega

theorem dglen0 {m : Nat} : (((dg m).length : Int) == 0) = decide (m = 0) := by
 rw [len0]
 by_cases h : m = 0
 · subst h; rw [dg_zero]; rfl
 · rw [decide_eq_false h, dg_pos h]; rfl

theorem dglenp {m : Nat} : decide (((dg m).length : Int) > 0) = decide (m ≠ 0) := by
 by_cases h : m = 0
 · subst h; rw [dg_zero]; rfl
 · rw [dg_pos h]; simp [h]

theorem add118 {α : Type} {n : Nat} {a b : List Int} (ha : Cn a) (hb : Cn b) (hN : a.length ≤ 1099511627776) (hNb : b.length ≤ 1099511627776) {k0 : List Int → Option α} : ∀ (m i : Nat) (c : Int) (o : List Int), o.length = i → Lm o → 0 ≤ c → c ≤ 1 →
  vl o + 10000 ^ i * c = vl (a.take i) + vl (b.take i) → (i ≤ max a.length b.length ∨ (i = max a.length b.length + 1 ∧ c = 0 ∧ o.getD (i - 1) 0 ≠ 0)) → max a.length b.length + 2 ≤ i + m →
  f152_L3 n m a b c (i : Int) o k0 = k0 (dg (vl a + vl b).toNat)
 | 0, i, c, o, ho, hlo, hc0, hc1, hv, hq, hm => by omega
 | m + 1, i, c, o, ho, hlo, hc0, hc1, hv, hq, hm => by
  rw [f152_L3_s]
  unfold f152_L3B
  dsimp only
  have fin : a.length ≤ i → b.length ≤ i → c = 0 → o = dg (vl a + vl b).toNat := fun h1 h2 h3 => by
   rw [take_le a h1, take_le b h2, h3] at hv
   have hv' : vl o = vl a + vl b := by simpa using hv
   have : Cn o := Cn.of_ge hlo fun hn => by
    have hl : 0 < o.length := List.length_pos_iff.2 hn
    rcases hq with hq | ⟨hq1, _, hq3⟩
    · have hmx : i = max a.length b.length := by omega
      rw [ho, hv']
      rcases Nat.le_total a.length b.length with hab | hab
      · have h4 := hb.ge (List.length_pos_iff.1 (by omega))
        have h5 := vl_nonneg ha.1
        rw [show i - 1 = b.length - 1 by omega]; omega
      · have h4 := ha.ge (List.length_pos_iff.1 (by omega))
        have h5 := vl_nonneg hb.1
        rw [show i - 1 = a.length - 1 by omega]; omega
    · have h1 := vl_take_suc o (o.length - 1)
      rw [show o.length - 1 + 1 = o.length by omega, List.take_length] at h1
      have h2 := vl_nonneg (hlo.take (o.length - 1))
      have h3 := hlo.get (o.length - 1)
      rw [← ho] at hq3
      have h4 := pw_pos (o.length - 1)
      have h5 : (10000 : Int) ^ (o.length - 1) * 1 ≤ 10000 ^ (o.length - 1) * o.getD (o.length - 1) 0 := Int.mul_le_mul_of_nonneg_left (by omega) (by omega)
      omega
   rw [← hv', dg_vl this]
  have go : ∀ (y : Int), y = c + a.getD i 0 + b.getD i 0 → (i < max a.length b.length ∨ (i = max a.length b.length ∧ 0 < c)) → f152_L3 n m a b (W (Int.tdiv y 10000)) (W ((i : Int) + 1)) (o ++ [Int.tmod y 10000]) k0 = k0 (dg (vl a + vl b).toNat) := by
   intro y hy hi
   have h1 := ha.1.get i
   have h2 := hb.1.get i
   rw [tdv (by omega), tmd (by omega), W_id (by omega) (by omega), W_id (by omega) (by omega)]
   have ta := vl_take_suc a i
   have tb := vl_take_suc b i
   have hyy : y = 10000 * (y / 10000) + y % 10000 := by omega
   refine add118 (n := n) ha hb hN hNb m (i + 1) _ _ (by simp [ho]) (hlo.app (Lm.cons (by omega) Lm.nil)) (by omega) (by omega) ?_ ?_ (by omega)
   · rw [vl_snoc, ho, ta, tb, pw_succ]
     generalize y / 10000 = q at *
     generalize y % 10000 = r at *
     generalize (10000 : Int) ^ i = P at *
     grind
   · rcases hi with hi | ⟨hi, hc⟩
     · exact .inl (by omega)
     · right
       have e1 : a.getD i 0 = 0 := getD_out (by omega)
       have e2 : b.getD i 0 = 0 := getD_out (by omega)
       have e3 : y = 1 := by omega
       subst e3
       refine ⟨by omega, by rfl, ?_⟩
       rw [Nat.add_sub_cancel, ← ho, List.getD_eq_getElem?_getD]
       simp
  have hcases : (i < a.length ∨ i < b.length ∨ 0 < c) → (i < max a.length b.length ∨ (i = max a.length b.length ∧ 0 < c)) := fun h => by
   rcases h with h | h | h
   · exact .inl (by omega)
   · exact .inl (by omega)
   · rcases hq with hq | ⟨_, h0, _⟩
     · omega
     · omega
  have ho2 : (decide ((o.length + 1) * 8 ≤ 140737488355328)) = true := by
   rw [decide_eq_true_eq]
   rcases hq with hq | ⟨hq, _⟩ <;> omega
  have h1 := ha.1.get i
  have h2 := hb.1.get i
  by_cases hA : i < a.length
  · have dA : decide ((i : Int) < (a.length : Int)) = true := by rw [decide_eq_true_eq]; omega
    have dM : decide ((i : Int) < max (a.length : Int) (b.length : Int)) = true := by rw [decide_eq_true_eq]; omega
    simp only [dM, dA, cond_true, Int.toNat_natCast]
    rw [gd_pos (by simp; try omega), W_id (x := c + a.getD i 0) (by omega) (by omega)]
    by_cases hB : i < b.length
    · have dB : decide ((i : Int) < (b.length : Int)) = true := by rw [decide_eq_true_eq]; omega
      simp only [dB, cond_true]
      rw [gd_pos (by simp; try omega), gd_pos ho2, W_id (x := c + a.getD i 0 + b.getD i 0) (by omega) (by omega)]
      exact go _ rfl (hcases (.inl hA))
    · have dB : decide ((i : Int) < (b.length : Int)) = false := by rw [decide_eq_false_iff_not]; omega
      simp only [dB, cond_false]
      rw [gd_pos ho2]
      exact go _ (by rw [getD_out (l := b) (by omega)]; omega) (hcases (.inl hA))
  · have dA : decide ((i : Int) < (a.length : Int)) = false := by rw [decide_eq_false_iff_not]; omega
    by_cases hB : i < b.length
    · have dB : decide ((i : Int) < (b.length : Int)) = true := by rw [decide_eq_true_eq]; omega
      have dM : decide ((i : Int) < max (a.length : Int) (b.length : Int)) = true := by rw [decide_eq_true_eq]; omega
      simp only [dM, dA, dB, cond_true, cond_false, Int.toNat_natCast]
      rw [gd_pos (by simp; try omega), gd_pos ho2, W_id (x := c + b.getD i 0) (by omega) (by omega)]
      exact go _ (by rw [getD_out (l := a) (by omega)]; omega) (hcases (.inr (.inl hB)))
    · have dB : decide ((i : Int) < (b.length : Int)) = false := by rw [decide_eq_false_iff_not]; omega
      have dM : decide ((i : Int) < max (a.length : Int) (b.length : Int)) = false := by rw [decide_eq_false_iff_not]; omega
      simp only [dM, dA, dB, cond_false]
      rw [Bool.cond_decide]
      by_cases hc : 0 < c
      · rw [if_pos (by omega), gd_pos ho2]
        exact go _ (by rw [getD_out (l := a) (by omega), getD_out (l := b) (by omega)]; omega) (hcases (.inr (.inr hc)))
      · rw [if_neg (by omega), fin (by omega) (by omega) (by omega)]

theorem i_add {n a b : Nat} (h : (dg a).length ≤ 1099511627776) (h' : (dg b).length ≤ 1099511627776) (hn : max (dg a).length (dg b).length + 2 ≤ n) : f152 n (dg a) (dg b) = some (dg (a + b)) := by
 unfold f152
 have := add118 (n := n) (Cn_dg a) (Cn_dg b) h h' (k0 := fun z_6 => some z_6) n 0 0 [] rfl Lm.nil (by omega) (by omega) (by simp [vl]) (.inl (by omega)) (by omega)
 have this : f152_L3 n n (dg a) (dg b) 0 0 [] _ = _ := this
 rw [this, vl_dg, vl_dg]
 congr 1

theorem less_step {o P c wi bi v' T y d r : Int} (h : o - P * (c + (bi + 10000 * v')) = T) (hy : y = wi - c - bi) (hd : y = r - 10000 * d) : o + P * (r - wi) - 10000 * P * (d + v') = T := by
 grind

theorem sub120 {α : Type} {n : Nat} {b : List Int} (hb : Lm b) {N : Nat} (hN : N ≤ 1099511627776) {T : Int} {k0 : List Int → Option α} : ∀ (m i : Nat) (c : Int) (o : List Int), o.length = N → Lm o → 0 ≤ c → c ≤ 1 → i ≤ N →
  vl o - 10000 ^ i * (c + vl (b.drop i)) = T → N + 1 ≤ i + m →
  ∃ o' c', f153_L3 n m b c (N : Int) (i : Int) o k0 = k0 o' ∧ o'.length = N ∧ Lm o' ∧ 0 ≤ c' ∧ c' ≤ 1 ∧ vl o' - 10000 ^ N * (c' + vl (b.drop N)) = T
 | 0, i, c, o, ho, hlo, hc0, hc1, hi, hv, hm => by omega
 | m + 1, i, c, o, ho, hlo, hc0, hc1, hi, hv, hm => by
  rw [f153_L3_s]
  unfold f153_L3B
  dsimp only
  by_cases hA : i < N
  · rw [Bool.cond_decide, if_pos (by omega), gd_pos (by simp; try omega), gd_pos (by simp; try omega)]
    have h1 := hlo.get i
    have h2 := hb.get i
    simp only [Int.toNat_natCast]
    have go : ∀ (d r : Int), d = (if o.getD i 0 - c - b.getD i 0 < 0 then 1 else 0) → r = o.getD i 0 - c - b.getD i 0 + 10000 * d → ∃ o' c', f153_L3 n m b d (N : Int) (W ((i : Int) + 1)) (o.set i r) k0 = k0 o' ∧ o'.length = N ∧ Lm o' ∧ 0 ≤ c' ∧ c' ≤ 1 ∧ vl o' - 10000 ^ N * (c' + vl (b.drop N)) = T := by
     intro d r hd hr
     have hd1 : 0 ≤ d ∧ d ≤ 1 ∧ 0 ≤ r ∧ r < 10000 := by
      rw [hr, hd]
      split <;> omega
     rw [W_id (x := (i : Int) + 1) (by omega) (by omega)]
     refine sub120 (n := n) hb hN m (i + 1) d _ (by simpa using ho) (hlo.set _ (by omega)) (by omega) (by omega) (by omega) ?_ (by omega)
     rw [vl_set _ (by omega), pw_succ]
     refine less_step (bi := b.getD i 0) (y := o.getD i 0 - c - b.getD i 0) ?_ rfl (by omega)
     rw [← vl_drop']; exact hv
    have go2 : ∀ y : Int, y = o.getD i 0 - c - b.getD i 0 → ∃ o' c', (bif (decide (y < 0)) then
          gd (decide (0 ≤ (i : Int)) && decide ((i : Int) < (o.length : Int))) (
           gd (decide (i < o.length)) (
            f153_L3 n m b 1 (N : Int) (W ((i : Int) + 1)) (o.set i (W (y + 10000))) k0))
      else
       gd (decide (0 ≤ (i : Int)) && decide ((i : Int) < (o.length : Int))) (
        gd (decide (i < o.length)) (
         f153_L3 n m b 0 (N : Int) (W ((i : Int) + 1)) (o.set i y) k0))) = k0 o' ∧ o'.length = N ∧ Lm o' ∧ 0 ≤ c' ∧ c' ≤ 1 ∧ vl o' - 10000 ^ N * (c' + vl (b.drop N)) = T := by
     intro y hy
     rw [Bool.cond_decide]
     by_cases hneg : y < 0
     · rw [if_pos hneg, gd_pos (by simp; try omega), gd_pos (by simp; try omega), W_id (x := y + 10000) (by omega) (by omega)]
       exact go 1 _ (by rw [if_pos (by omega)]) (by omega)
     · rw [if_neg hneg, gd_pos (by simp; try omega), gd_pos (by simp; try omega)]
       exact go 0 _ (by rw [if_neg (by omega)]) (by omega)
    by_cases hB : i < b.length
    · have dB : decide ((i : Int) < (b.length : Int)) = true := by rw [decide_eq_true_eq]; omega
      simp only [dB, cond_true]
      rw [gd_pos (by simp; try omega)]
      simp only [W_id (x := o.getD i 0 - c) (by omega) (by omega), W_id (x := o.getD i 0 - c - b.getD i 0) (by omega) (by omega)]
      exact go2 _ rfl
    · have dB : decide ((i : Int) < (b.length : Int)) = false := by rw [decide_eq_false_iff_not]; omega
      simp only [dB, cond_false]
      simp only [W_id (x := o.getD i 0 - c) (by omega) (by omega)]
      exact go2 _ (by rw [getD_out (l := b) (by omega)]; omega)
  · rw [Bool.cond_decide, if_neg (by omega)]
    obtain rfl : i = N := by omega
    exact ⟨o, c, rfl, ho, hlo, hc0, hc1, hv⟩

theorem i_sub {n a b : Nat} (h : (dg a).length ≤ 1099511627000) (hn : (dg a).length + 1 ≤ n) (hab : b ≤ a) (ha : 0 < a) : f153 n (dg a) (dg b) = some (dg (a - b)) := by
 have hlab := len_mono hab
 unfold f153
 rw [f132B_eq n (by omega) (fun e => by have := dg_nil.1 e; omega), ob_some]
 obtain ⟨o, c, h1, h2, h3, h4, h5, h6⟩ := sub120 (n := n) (Lm_dg b) (N := (dg a).length) (by omega) (T := (a : Int) - b) (k0 := fun z_4 => (
   ob (f186 n z_4) fun r_5 =>
   some r_5)) n 0 0 (dg a) rfl (Lm_dg a) (by omega) (by omega) (by omega) (by rw [List.drop_zero, vl_dg, vl_dg, Int.pow_zero, Int.one_mul, Int.zero_add]) (by omega)
 have h1 : f153_L3 n n (dg b) 0 ((dg a).length : Int) 0 (dg a) _ = _ := h1
 rw [List.drop_of_length_le (by omega)] at h6
 have h7 := vl_lt h3
 rw [h2] at h7
 have h8 := vl_nonneg h3
 have : c = 0 := by
  rcases Int.lt_or_eq_of_le h4 with h | h
  · have : c = 1 := by omega
    rw [this] at h6
    simp only [vl, Int.add_zero, Int.mul_one] at h6
    generalize (10000 : Int) ^ (dg a).length = P at *
    omega
  · exact h.symm
 rw [this] at h6
 simp only [vl, Int.add_zero, Int.mul_zero, Int.sub_zero] at h6
 rw [h1, f186_eq h3 (by omega) (by omega), ob_some, h6, show ((a : Int) - (b : Int)).toNat = a - b by omega]

def rq (x : Rat) : Rt := (decide (x.num < 0), dg x.num.natAbs, dg x.den)

def mq (s : Bool) (a d : Nat) : Rat := mkRat (if s = true then -(a : Int) else a) d

def Sz (x : Rat) (L : Nat) : Prop := (dg x.num.natAbs).length ≤ L ∧ (dg x.den).length ≤ L

theorem natAbs_sg (s : Bool) (a : Nat) : (if s = true then -(a : Int) else a).natAbs = a := by cases s <;> simp

theorem mq_num {s : Bool} {a d : Nat} (hd : 0 < d) : (mq s a d).num = if s = true then -((a / Nat.gcd a d : Nat) : Int) else ((a / Nat.gcd a d : Nat) : Int) := by
 unfold mq
 rw [Rat.num_mkRat, if_neg (by omega), natAbs_sg, Nat.gcd_comm d a]
 cases s with
 | false => simp
 | true =>
  simp only [if_true]
  rw [Int.neg_ediv_of_dvd (by exact_mod_cast Nat.gcd_dvd_left a d)]
  simp

theorem mq_den {s : Bool} {a d : Nat} (hd : 0 < d) : (mq s a d).den = d / Nat.gcd a d := by
 unfold mq
 rw [Rat.den_mkRat, if_neg (by omega), natAbs_sg, Nat.gcd_comm d a]

theorem rq_mq {s : Bool} {a d : Nat} (hd : 0 < d) : rq (mq s a d) = (s && decide (a / Nat.gcd a d ≠ 0), dg (a / Nat.gcd a d), dg (d / Nat.gcd a d)) := by
 unfold rq
 rw [mq_num hd, mq_den hd]
 generalize a / Nat.gcd a d = q
 cases s with
 | false => simp
 | true =>
  simp only [if_true, Bool.true_and, Int.natAbs_neg, Int.natAbs_natCast]
  congr 1
  apply decide_eq_decide.2
  omega

theorem Sz_mq {s : Bool} {a d L : Nat} (hd : 0 < d) (h1 : (dg a).length ≤ L) (h2 : (dg d).length ≤ L) : Sz (mq s a d) L := by
 unfold Sz
 rw [mq_num hd, mq_den hd, natAbs_sg]
 exact ⟨Nat.le_trans (len_mono (Nat.div_le_self _ _)) h1, Nat.le_trans (len_mono (Nat.div_le_self _ _)) h2⟩

theorem s_make {n L x d : Nat} {s : Bool} (hd : 0 < d) (hx : (dg x).length ≤ L) (hdl : (dg d).length ≤ L) (hL : L ≤ 1099511627000) (hn : 28 * L + 10040 ≤ n) : f146 n s (dg x) (dg d) = some (rq (mq s x d)) := by
 have hg : 0 < Nat.gcd x d := Nat.gcd_pos_of_pos_right x hd
 have hgl : (dg (Nat.gcd x d)).length ≤ L := Nat.le_trans (len_mono (Nat.gcd_le_right x hd)) hdl
 rw [rq_mq hd]
 unfold f146
 rw [s_gcd hL hn hx hdl, ob_some, s_div hg hx hgl hL (by omega), ob_some, s_div hg hdl hgl hL (by omega), ob_some]
 dsimp only
 rw [dglenp]
 cases s <;> rfl

theorem i_make {n L x d : Nat} {s : Bool} (hd : 0 < d) (hx : (dg x).length ≤ L) (hdl : (dg d).length ≤ L) (hL : L ≤ 1099511627000) (hn : 28 * L + 10040 ≤ n) : f151 n s (dg x) (dg d) = some (rq (mq s x d)) := by
 have hg : 0 < Nat.gcd x d := Nat.gcd_pos_of_pos_right x hd
 have hgl : (dg (Nat.gcd x d)).length ≤ L := Nat.le_trans (len_mono (Nat.gcd_le_right x hd)) hdl
 have hq1 : (dg (x / Nat.gcd x d)).length ≤ L := Nat.le_trans (len_mono (Nat.div_le_self _ _)) hx
 have hq2 : (dg (d / Nat.gcd x d)).length ≤ L := Nat.le_trans (len_mono (Nat.div_le_self _ _)) hdl
 rw [rq_mq hd]
 unfold f151
 dsimp only
 rw [i_gcd hL hn hx hdl, ob_some, show f138 n = some [1] from rfl, ob_some, ← dg_one, i_cmp (by omega), ob_some]
 have fin : ∀ y z : List Int, y = dg (x / Nat.gcd x d) → z = dg (d / Nat.gcd x d) → (bif s then
   ob (f132 n y) fun r_8 =>
   ob (f132 n z) fun r_9 =>
   some ((decide ((y.length : Int) > 0)), r_8, r_9)
  else
   ob (f132 n y) fun r_10 =>
   ob (f132 n z) fun r_11 =>
   some (false, r_10, r_11)) = some (s && decide (x / Nat.gcd x d ≠ 0), dg (x / Nat.gcd x d), dg (d / Nat.gcd x d)) := by
  rintro y z rfl rfl
  rw [f132_eq n (by omega), ob_some, f132_eq n (by omega), ob_some, dglenp]
  cases s <;> rfl
 by_cases h1 : Nat.gcd x d = 1
 · have e : (cm ((Nat.gcd x d : Nat) : Int) ((1 : Nat) : Int) != 0) = false := by rw [h1, cm_eq rfl]; rfl
   rw [e, cond_false]
   exact fin _ _ (by rw [h1, Nat.div_one]) (by rw [h1, Nat.div_one])
 · have e : (cm ((Nat.gcd x d : Nat) : Int) ((1 : Nat) : Int) != 0) = true := by
    rw [bne, cm_one, decide_eq_false h1]; rfl
   rw [e, cond_true, i_div hg hx hgl hL (by omega), ob_some, i_div hg hdl hgl hL (by omega), ob_some]
   exact fin _ _ rfl rfl

theorem num_sg (x : Rat) : x.num = if decide (x.num < 0) = true then -(x.num.natAbs : Int) else x.num.natAbs := by
 by_cases h : x.num < 0
 · rw [decide_eq_true h, if_pos rfl]; omega
 · rw [decide_eq_false h, if_neg (by decide)]; omega

theorem add_same {x y : Rat} (h : decide (x.num < 0) = decide (y.num < 0)) : x + y = mq (decide (x.num < 0)) (x.num.natAbs * y.den + y.num.natAbs * x.den) (x.den * y.den) := by
 rw [Rat.add_def']
 unfold mq
 congr 1
 have hx := num_sg x
 have hy := num_sg y
 rw [← h] at hy
 generalize decide (x.num < 0) = s at *
 generalize x.num.natAbs = p at *
 generalize y.num.natAbs = q at *
 rw [hx, hy]
 cases s with
 | true => simp only [if_true, Int.natCast_add, Int.natCast_mul]; grind
 | false => simp

theorem add_ge {x y : Rat} (h : decide (x.num < 0) ≠ decide (y.num < 0)) (hle : y.num.natAbs * x.den ≤ x.num.natAbs * y.den) : x + y = mq (decide (x.num < 0)) (x.num.natAbs * y.den - y.num.natAbs * x.den) (x.den * y.den) := by
 rw [Rat.add_def']
 unfold mq
 congr 1
 have hx := num_sg x
 have hy := num_sg y
 have h' : decide (y.num < 0) = !decide (x.num < 0) := by
  generalize decide (x.num < 0) = s at h
  generalize decide (y.num < 0) = t at h
  cases s <;> cases t <;> first | rfl | exact absurd rfl h
 rw [h'] at hy
 generalize decide (x.num < 0) = s at *
 generalize x.num.natAbs = p at *
 generalize y.num.natAbs = q at *
 rw [hx, hy, Int.natCast_sub hle]
 cases s with
 | true => simp only [if_true, Int.natCast_mul, Bool.not_true]; simp; grind
 | false => simp only [Int.natCast_mul, Bool.not_false, if_true]; simp; grind

theorem s_plus {n L : Nat} {x y : Rat} (hx : Sz x L) (hy : Sz y L) (hL : 2 * L + 1 ≤ 1099511627000) (hn : 28 * (2 * L + 1) + 10040 ≤ n) : f157 n (rq x) (rq y) = some (rq (x + y)) := by
 obtain ⟨x1, x2⟩ := hx
 obtain ⟨y1, y2⟩ := hy
 have l1 := len_mul x.num.natAbs y.den
 have l2 := len_mul y.num.natAbs x.den
 have l3 := len_mul x.den y.den
 have l4 := len_add (x.num.natAbs * y.den) (y.num.natAbs * x.den)
 have hd : 0 < x.den * y.den := Nat.mul_pos (Nat.pos_of_ne_zero x.den_nz) (Nat.pos_of_ne_zero y.den_nz)
 unfold f157 rq
 dsimp only
 rw [s_mul (by omega) (by omega), ob_some, s_mul (by omega) (by omega), ob_some, s_mul (by omega) (by omega), ob_some, Bool.cond_eq_ite]
 by_cases hs : decide (x.num < 0) = decide (y.num < 0)
 · rw [if_pos (by rw [hs]; simp), s_add (by omega) (by omega) (by omega), ob_some, s_make hd (L := 2 * L + 1) (by omega) (by omega) hL hn, ob_some, add_same hs]; rfl
 · rw [if_neg (by simpa using hs), s_cmp (by omega) (by omega), ob_some, Bool.cond_decide]
   by_cases hle : y.num.natAbs * x.den ≤ x.num.natAbs * y.den
   · have l5 := len_mono (Nat.sub_le (x.num.natAbs * y.den) (y.num.natAbs * x.den))
     rw [if_pos (by
      rcases Nat.lt_or_eq_of_le hle with h | h
      · rw [cm_gt (by omega)]; omega
      · rw [cm_eq (by omega)]; omega), s_sub (by omega) (by omega) hle, ob_some, s_make hd (L := 2 * L + 1) (by omega) (by omega) hL hn, ob_some, add_ge hs hle]; rfl
   · have l5 := len_mono (Nat.sub_le (y.num.natAbs * x.den) (x.num.natAbs * y.den))
     rw [if_neg (by rw [cm_lt (by omega)]; omega), s_sub (by omega) (by omega) (by omega), ob_some, s_make hd (L := 2 * L + 1) (by omega) (by omega) hL hn, ob_some, Rat.add_comm, add_ge (fun e => hs e.symm) (by omega), Nat.mul_comm y.den x.den]; rfl

theorem i_plus {n L : Nat} {x y : Rat} (hx : Sz x L) (hy : Sz y L) (hL : 2 * L + 1 ≤ 1099511627000) (hn : 28 * (2 * L + 1) + 10040 ≤ n) : f90 n (rq x) (rq y) = some (rq (x + y)) := by
 obtain ⟨x1, x2⟩ := hx
 obtain ⟨y1, y2⟩ := hy
 have l1 := len_mul x.num.natAbs y.den
 have l2 := len_mul y.num.natAbs x.den
 have l3 := len_mul x.den y.den
 have l4 := len_add (x.num.natAbs * y.den) (y.num.natAbs * x.den)
 have hd : 0 < x.den * y.den := Nat.mul_pos (Nat.pos_of_ne_zero x.den_nz) (Nat.pos_of_ne_zero y.den_nz)
 unfold f90 rq
 dsimp only
 rw [i_mul (by omega) (by omega), ob_some, i_mul (by omega) (by omega), ob_some, i_mul (by omega) (by omega), ob_some, Bool.cond_eq_ite]
 by_cases hs : decide (x.num < 0) = decide (y.num < 0)
 · rw [if_pos (by rw [hs]; simp), i_add (by omega) (by omega) (by omega), ob_some, i_make hd (L := 2 * L + 1) (by omega) (by omega) hL hn, ob_some, add_same hs]; rfl
 · rw [if_neg (by simpa using hs), i_cmp (by omega), ob_some, Bool.cond_decide]
   by_cases hle : y.num.natAbs * x.den ≤ x.num.natAbs * y.den
   · have l5 := len_mono (Nat.sub_le (x.num.natAbs * y.den) (y.num.natAbs * x.den))
     have hp : 0 < x.num.natAbs * y.den := by
      rcases Nat.eq_zero_or_pos (x.num.natAbs * y.den) with h | h
      · exfalso
        have hyd := y.den_nz
        have hxd := x.den_nz
        have h2 : y.num.natAbs * x.den = 0 := by omega
        have e1 : x.num = 0 := by rcases Nat.mul_eq_zero.1 h with h | h <;> omega
        have e2 : y.num = 0 := by rcases Nat.mul_eq_zero.1 h2 with h | h <;> omega
        exact hs (by rw [e1, e2])
      · exact h
     rw [if_pos (by
      rcases Nat.lt_or_eq_of_le hle with h | h
      · rw [cm_gt (by omega)]; omega
      · rw [cm_eq (by omega)]; omega), i_sub (by omega) (by omega) hle hp, ob_some, i_make hd (L := 2 * L + 1) (by omega) (by omega) hL hn, ob_some, add_ge hs hle]; rfl
   · have l5 := len_mono (Nat.sub_le (y.num.natAbs * x.den) (x.num.natAbs * y.den))
     rw [if_neg (by rw [cm_lt (by omega)]; omega), i_sub (by omega) (by omega) (by omega) (by omega), ob_some, i_make hd (L := 2 * L + 1) (by omega) (by omega) hL hn, ob_some, Rat.add_comm, add_ge (fun e => hs e.symm) (by omega), Nat.mul_comm y.den x.den]; rfl

theorem mul_mq (x y : Rat) : x * y = mq (!(decide (x.num < 0) == decide (y.num < 0))) (x.num.natAbs * y.num.natAbs) (x.den * y.den) := by
 rw [Rat.mul_def']
 unfold mq
 congr 1
 have hx := num_sg x
 have hy := num_sg y
 generalize decide (x.num < 0) = s at *
 generalize decide (y.num < 0) = t at *
 generalize x.num.natAbs = p at *
 generalize y.num.natAbs = q at *
 rw [hx, hy]
 cases s <;> cases t <;> simp [Int.neg_mul, Int.mul_neg]

theorem s_times {n L : Nat} {x y : Rat} (hx : Sz x L) (hy : Sz y L) (hL : 2 * L + 1 ≤ 1099511627000) (hn : 28 * (2 * L + 1) + 10040 ≤ n) : f94 n (rq x) (rq y) = some (rq (x * y)) := by
 obtain ⟨x1, x2⟩ := hx
 obtain ⟨y1, y2⟩ := hy
 have l1 := len_mul x.num.natAbs y.num.natAbs
 have l3 := len_mul x.den y.den
 have hd : 0 < x.den * y.den := Nat.mul_pos (Nat.pos_of_ne_zero x.den_nz) (Nat.pos_of_ne_zero y.den_nz)
 unfold f94 rq
 dsimp only
 rw [s_mul (by omega) (by omega), ob_some, s_mul (by omega) (by omega), ob_some, s_make hd (L := 2 * L + 1) (by omega) (by omega) hL hn, ob_some, mul_mq]; rfl

theorem i_times {n L : Nat} {x y : Rat} (hx : Sz x L) (hy : Sz y L) (hL : 2 * L + 1 ≤ 1099511627000) (hn : 28 * (2 * L + 1) + 10040 ≤ n) : f91 n (rq x) (rq y) = some (rq (x * y)) := by
 obtain ⟨x1, x2⟩ := hx
 obtain ⟨y1, y2⟩ := hy
 have l1 := len_mul x.num.natAbs y.num.natAbs
 have l3 := len_mul x.den y.den
 have hd : 0 < x.den * y.den := Nat.mul_pos (Nat.pos_of_ne_zero x.den_nz) (Nat.pos_of_ne_zero y.den_nz)
 unfold f91 rq
 dsimp only
 rw [i_mul (by omega) (by omega), ob_some, i_mul (by omega) (by omega), ob_some, i_make hd (L := 2 * L + 1) (by omega) (by omega) hL hn, ob_some, mul_mq]; rfl

theorem Sz.mono {x : Rat} {L M : Nat} (h : Sz x L) (hLM : L ≤ M) : Sz x M := ⟨Nat.le_trans h.1 hLM, Nat.le_trans h.2 hLM⟩

theorem Sz_add {x y : Rat} {L : Nat} (hx : Sz x L) (hy : Sz y L) : Sz (x + y) (2 * L + 1) := by
 obtain ⟨x1, x2⟩ := hx
 obtain ⟨y1, y2⟩ := hy
 have l1 := len_mul x.num.natAbs y.den
 have l2 := len_mul y.num.natAbs x.den
 have l3 := len_mul x.den y.den
 have l4 := len_add (x.num.natAbs * y.den) (y.num.natAbs * x.den)
 have hd : 0 < x.den * y.den := Nat.mul_pos (Nat.pos_of_ne_zero x.den_nz) (Nat.pos_of_ne_zero y.den_nz)
 by_cases hs : decide (x.num < 0) = decide (y.num < 0)
 · rw [add_same hs]; exact Sz_mq hd (by omega) (by omega)
 · by_cases hle : y.num.natAbs * x.den ≤ x.num.natAbs * y.den
   · have l5 := len_mono (Nat.sub_le (x.num.natAbs * y.den) (y.num.natAbs * x.den))
     rw [add_ge hs hle]; exact Sz_mq hd (by omega) (by omega)
   · have l5 := len_mono (Nat.sub_le (y.num.natAbs * x.den) (x.num.natAbs * y.den))
     rw [Rat.add_comm, add_ge (fun e => hs e.symm) (by omega), Nat.mul_comm y.den x.den]; exact Sz_mq hd (by omega) (by omega)

theorem Sz_mul {x y : Rat} {L : Nat} (hx : Sz x L) (hy : Sz y L) : Sz (x * y) (2 * L + 1) := by
 obtain ⟨x1, x2⟩ := hx
 obtain ⟨y1, y2⟩ := hy
 have l1 := len_mul x.num.natAbs y.num.natAbs
 have l3 := len_mul x.den y.den
 rw [mul_mq]
 exact Sz_mq (Nat.mul_pos (Nat.pos_of_ne_zero x.den_nz) (Nat.pos_of_ne_zero y.den_nz)) (by omega) (by omega)

theorem rok_rq {r : Rt} (h : rok r = true) : ∃ x : Rat, r = rq x ∧ Sz x 40 := by
 obtain ⟨s, N, D, rfl, h1, h2, h3, h4⟩ := rok_nat h
 have hg : Nat.gcd N D = 1 := by
  unfold rok at h
  simp only [Bool.and_eq_true, decide_eq_true_eq, vl_dg, Int.toNat_natCast] at h
  exact h.2
 refine ⟨mq s N D, ?_, Sz_mq h3 h1 h2⟩
 rw [rq_mq h3, hg, Nat.div_one, Nat.div_one]
 congr 1
 cases s with
 | false => rfl
 | true => have := h4 rfl; rw [decide_eq_true (by omega)]; rfl

def vq (x : List Rat) : List Rt := x.map rq

def Sv (x : List Rat) (L : Nat) : Prop := ∀ a ∈ x, Sz a L

def dotF (acc : Rat) : List Rat → List Rat → Rat
 | a :: x, b :: y => dotF (acc + a * b) x y
 | _, _ => acc

def fitR (x : Rat) : Bool := decide ((dg x.num.natAbs).length ≤ 40) && decide ((dg x.den).length ≤ 40)

theorem fitR_iff {x : Rat} : fitR x = true ↔ Sz x 40 := by unfold fitR Sz; simp

@[simp] theorem vq_len (x : List Rat) : (vq x).length = x.length := by simp [vq]

theorem vq_get {x : List Rat} {i : Nat} (h : i < x.length) : (vq x).getD i (false, [], []) = rq (x.getD i 0) := by
 unfold vq
 rw [List.getD_eq_getElem?_getD, List.getElem?_map, List.getD_eq_getElem?_getD, List.getElem?_eq_getElem h]; rfl

theorem rdrop {x : List Rat} {i : Nat} (h : i < x.length) : x.drop i = x.getD i 0 :: x.drop (i + 1) := by
 rw [List.drop_eq_getElem_cons h, List.getD_eq_getElem?_getD, List.getElem?_eq_getElem h]; rfl

theorem Sv.get {x : List Rat} {L i : Nat} (hs : Sv x L) (h : i < x.length) : Sz (x.getD i 0) L := by
 refine hs _ ?_
 rw [List.getD_eq_getElem?_getD, List.getElem?_eq_getElem h]; exact List.getElem_mem h

theorem Sv.mono {x : List Rat} {L M : Nat} (h : Sv x L) (hLM : L ≤ M) : Sv x M := fun a ha => (h a ha).mono hLM

theorem f103_loop {α : Type} {n : Nat} {x y : List Rat} (hx : Sv x 40) (hy : Sv y 40) (hl : x.length = y.length) (h4 : x.length ≤ 4) (hn : 1048577 ≤ n) {f : Bool} {k0 : Bool → Bool → List Int → List Int → Option α} : ∀ (m i : Nat) (acc : Rat), Sz acc (82 * 2 ^ i - 1) → i ≤ x.length → x.length < i + m →
  f103_L3 n m (vq y) (vq x) (x.length : Int) (i : Int) f (rq acc).1 (rq acc).2.1 (rq acc).2.2 k0 = k0 f (rq (dotF acc (x.drop i) (y.drop i))).1 (rq (dotF acc (x.drop i) (y.drop i))).2.1 (rq (dotF acc (x.drop i) (y.drop i))).2.2
 | 0, i, acc, ho, hi, hm => by omega
 | m + 1, i, acc, ho, hi, hm => by
  rw [f103_L3_s]
  unfold f103_L3B
  dsimp only
  rw [Bool.cond_decide]
  by_cases h : i < x.length
  · rw [if_pos (by omega), gd_pos (by simp; omega), gd_pos (by simp; omega)]
    have hp : 2 ^ i ≤ 2 ^ 3 := Nat.pow_le_pow_right (by omega) (by omega)
    have hp1 : 1 ≤ 2 ^ i := Nat.one_le_two_pow
    rw [show (2 : Nat) ^ 3 = 8 from rfl] at hp
    have h1 : Sz (x.getD i 0 * y.getD i 0) 81 := Sz_mul (hx.get h) (hy.get (by omega))
    have h2 : Sz (acc + x.getD i 0 * y.getD i 0) (82 * 2 ^ (i + 1) - 1) := (Sz_add ho (h1.mono (by omega))).mono (by rw [Nat.pow_succ]; omega)
    have e2 := i_plus (n := n) ho (h1.mono (show 81 ≤ 82 * 2 ^ i - 1 by omega)) (by omega) (by omega)
    have e2 : f90 n ((rq acc).1, (rq acc).2.1, (rq acc).2.2) _ = _ := e2
    rw [Int.toNat_natCast, vq_get h, vq_get (by omega), i_times (hx.get h) (hy.get (by omega)) (by omega) (by omega), ob_some, e2, ob_some, W_id (x := (i : Int) + 1) (by omega) (by omega)]
    have := f103_loop hx hy hl h4 hn (f := f) (k0 := k0) m (i + 1) _ h2 (by omega) (by omega)
    rw [rdrop h, rdrop (x := y) (by omega)]
    rw [show (i : Int) + 1 = ((i + 1 : Nat) : Int) from rfl, this]
    rfl
  · rw [if_neg (by omega), List.drop_of_length_le (by omega), List.drop_of_length_le (by omega)]
    rfl

theorem rq_zero : rq 0 = (false, [], dg 1) := by
 unfold rq
 rw [show (0 : Rat).num = 0 from rfl, show (0 : Rat).den = 1 from rfl, show (0 : Int).natAbs = 0 from rfl, dg_zero]; rfl

theorem Sz_zero : Sz 0 1 := by
 refine ⟨?_, ?_⟩
 · rw [show (0 : Rat).num = 0 from rfl, show (0 : Int).natAbs = 0 from rfl, dg_zero]; simp
 · rw [show (0 : Rat).den = 1 from rfl, dg_one]; simp

theorem i_dot {n : Nat} {x y : List Rat} (hx : Sv x 40) (hy : Sv y 40) (hl : x.length = y.length) (h4 : x.length ≤ 4) (hn : 1048577 ≤ n) : f103 n (vq x) (vq y) = some (rq (dotF 0 x y)) := by
 unfold f103
 have e0 : f112 n 0 = some (rq 0) := by
  unfold f112
  rw [decide_eq_false (by omega), cond_false, show (0 : Int) = ((0 : Nat) : Int) from rfl, f163_eq (by omega) (by omega), ob_some, rq_zero, dg_zero, dg_one]
  rfl
 rw [e0, ob_some]
 have h1 := f103_loop (n := n) hx hy hl h4 hn (f := false) (k0 := fun z_6 z_7 z_8 z_9 => some (z_7, z_8, z_9)) n 0 0 (Sz_zero.mono (by simp)) (by omega) (by omega)
 have h1 : f103_L3 n n (vq y) (vq x) (x.length : Int) 0 _ _ _ _ _ = _ := h1
 rw [vq_len, h1, List.drop_zero, List.drop_zero]

theorem f177c155_loop {n : Nat} {x : List Rat} (hl : x.length ≤ 1048576) : ∀ (m i : Nat), i ≤ x.length → x.length < i + m →
  ∃ r, f177c155_L2 n m (vq x) (x.length : Int) (i : Int) (fun z_3 => some z_3) (fun (_ : Unit) => some (-1)) = some r ∧ decide (r ≥ 0) = !(x.drop i).all fitR
 | 0, i, hi, hm => by omega
 | m + 1, i, hi, hm => by
  rw [f177c155_L2_s]
  unfold f177c155_L2B
  dsimp only
  rw [Bool.cond_decide]
  by_cases h : i < x.length
  · rw [if_pos (by omega), gd_pos (by simp; omega), Int.toNat_natCast, vq_get h, rdrop h, List.all_cons]
    have e : f155 n (rq (x.getD i 0)) = some (!fitR (x.getD i 0)) := by
     unfold f155 f156 rq fitR
     dsimp only
     generalize (dg (x.getD i 0).num.natAbs).length = p
     generalize (dg (x.getD i 0).den).length = q
     rw [Bool.cond_decide]
     by_cases c : p ≤ 40
     · rw [if_pos (by omega), ob_some, decide_eq_true c, Bool.true_and]; congr 2; exact decide_eq_decide.2 (by omega)
     · rw [if_neg (by omega), ob_some, decide_eq_false c, Bool.false_and]
    rw [e, ob_some]
    cases hf : fitR (x.getD i 0) with
    | false => exact ⟨(i : Int), by simp, by simp⟩
    | true =>
     rw [Bool.not_true, cond_false, W_id (x := (i : Int) + 1) (by omega) (by omega), Bool.true_and]
     exact f177c155_loop hl m (i + 1) (by omega) (by omega)
  · rw [if_neg (by omega), List.drop_of_length_le (by omega)]
    exact ⟨-1, rfl, rfl⟩

theorem i_full {n : Nat} {x : List Rat} (hl : x.length ≤ 1048576) (hn : 1048577 ≤ n) : f96 n (vq x) = some (if x.all fitR = true then (vq x, 0) else ([], 7)) := by
 unfold f96 f130c155 f177c155
 obtain ⟨r, h1, h2⟩ := f177c155_loop (n := n) hl n 0 (by omega) (by omega)
 have h1 : f177c155_L2 n n (vq x) (x.length : Int) 0 _ _ = _ := h1
 rw [vq_len, h1, ob_some, ob_some, h2, List.drop_zero]
 cases x.all fitR <;> rfl

theorem f79_loop {n : Nat} {x : List Rat} (hl : x.length ≤ 4096) (hs : Sv x 100000) {k1 : List Rt → Option (List Rt × Int)} : ∀ (m i : Nat) (o : List Rt), o.length ≤ i → i ≤ x.length → x.length < i + m →
  f79_L3 n m (vq x) (i : Int) o (fun z_5 z_6 => some (z_6, z_5)) k1 = if (x.drop i).all fitR = true then k1 (o ++ vq (x.drop i)) else some ([], 7)
 | 0, i, o, ho, hi, hm => by omega
 | m + 1, i, o, ho, hi, hm => by
  rw [f79_L3_s]
  unfold f79_L3B
  dsimp only
  rw [Bool.cond_decide, vq_len]
  by_cases h : i < x.length
  · rw [if_pos (by omega), gd_pos (by simp; omega), Int.toNat_natCast, vq_get h, rdrop h, List.all_cons]
    have hz := hs.get h
    have e : f139 n (rq (x.getD i 0)) = some (fitR (x.getD i 0)) := by
     unfold f139 rq fitR
     dsimp only
     generalize (dg (x.getD i 0).num.natAbs).length = p
     generalize (dg (x.getD i 0).den).length = q
     rw [Bool.cond_decide]
     by_cases c : p ≤ 40
     · rw [if_pos (by omega), decide_eq_true c, Bool.true_and]; congr 1; exact decide_eq_decide.2 (by omega)
     · rw [if_neg (by omega), decide_eq_false c, Bool.false_and]
    have e2 : f70 n (rq (x.getD i 0)) = some (rq (x.getD i 0)) := by
     obtain ⟨z1, z2⟩ := hz
     unfold f70
     rw [gd_pos (by simp only [decide_eq_true_eq]; show (0 + (dg (x.getD i 0).num.natAbs).length) * 8 ≤ _; omega), gd_pos (by simp only [decide_eq_true_eq]; show (0 + (dg (x.getD i 0).den).length) * 8 ≤ _; omega)]
    rw [e, ob_some]
    cases hf : fitR (x.getD i 0) with
    | false => simp
    | true =>
     rw [Bool.not_true, cond_false, gd_pos (by simp; omega), e2, ob_some, gd_pos (by simp; omega), W_id (x := (i : Int) + 1) (by omega) (by omega), Bool.true_and]
     have := f79_loop hl hs (n := n) (k1 := k1) m (i + 1) (o ++ [rq (x.getD i 0)]) (by simp; omega) (by omega) (by omega)
     rw [show (i : Int) + 1 = ((i + 1 : Nat) : Int) from rfl, this, List.append_assoc]
     rfl
  · rw [if_neg (by omega), List.drop_of_length_le (by omega)]
    simp [vq]

theorem s_full {n : Nat} {x : List Rat} (hl : x.length ≤ 4096) (hs : Sv x 100000) (hn : 1048577 ≤ n) : f79 n (vq x) = some (if x.all fitR = true then (vq x, 0) else ([], 7)) := by
 unfold f79
 have h1 := f79_loop (n := n) hl hs (k1 := fun z_7 => some (z_7, 0)) n 0 [] (by simp) (by omega) (by omega)
 have h1 : f79_L3 n n (vq x) 0 [] _ _ = _ := h1
 rw [h1, List.drop_zero]
 split <;> rfl

def Bq (x : Rat) (N D : Nat) : Prop := x.num.natAbs ≤ N ∧ x.den ≤ D

def Bv (x : List Rat) (N D : Nat) : Prop := ∀ a ∈ x, Bq a N D

theorem Bq.mono {x : Rat} {N D N' D' : Nat} (h : Bq x N D) (h1 : N ≤ N') (h2 : D ≤ D') : Bq x N' D' := ⟨Nat.le_trans h.1 h1, Nat.le_trans h.2 h2⟩

theorem Bv.get {x : List Rat} {N D i : Nat} (hs : Bv x N D) (h : i < x.length) : Bq (x.getD i 0) N D := by
 refine hs _ ?_
 rw [List.getD_eq_getElem?_getD, List.getElem?_eq_getElem h]; exact List.getElem_mem h

theorem f71B_loop {α : Type} {n : Nat} {l : List Int} (hl : l.length ≤ 1048576) {k0 : List Int → Option α} : ∀ (m i : Nat) (z : List Int), z.length = l.length - i → i ≤ l.length → l.length < i + m → f71B_L3 n m l (i : Int) (l.take i ++ z) k0 = k0 l
 | 0, i, z, hz, hi, hm => by omega
 | m + 1, i, z, hz, hi, hm => by
  rw [f71B_L3_s]
  unfold f71B_L3B
  dsimp only
  rw [Bool.cond_decide]
  by_cases h : i < l.length
  · rw [if_pos (by omega)]
    simp only [Int.toNat_natCast]
    rw [gd_pos (by simp; try omega), gd_pos (by simp [hz]; omega), gd_pos (by simp [hz]; omega), copy_set h hz, W_id (x := (i : Int) + 1) (by omega) (by omega)]
    exact f71B_loop hl m (i + 1) _ (by simp [hz]; omega) (by omega) (by omega)
  · rw [if_neg (by omega)]
    obtain rfl : z = [] := List.eq_nil_of_length_eq_zero (by omega)
    rw [List.take_of_length_le (by omega), List.append_nil]

theorem f71B_eq {n : Nat} {l : List Int} (hl : l.length ≤ 1048576) (hn : 1048577 ≤ n) : f71B n l = some l := by
 unfold f71B
 rw [gd_pos (by simp; try omega)]
 have := f71B_loop (n := n) hl (k0 := fun z_1 => some z_1) n 0 (List.replicate l.length 0) (by simp) (by omega) (by omega)
 simpa using this

theorem f22B_eq {n : Nat} {x : Rt} (h : Sm x) (hn : 1048577 ≤ n) : f22B n x = some x := by
 unfold f22B
 rw [f71B_eq h.1 hn, ob_some, f71B_eq h.2 hn, ob_some]

theorem f17B_loop {α : Type} {n : Nat} {l : List Rt} (hl : l.length ≤ 1048576) (hs : ∀ x ∈ l, Sm x) (hn : 1048577 ≤ n) {k0 : List Rt → Option α} : ∀ (m i : Nat) (z : List Rt), z.length = l.length - i → i ≤ l.length → l.length < i + m → f17B_L3 n m l (i : Int) (l.take i ++ z) k0 = k0 l
 | 0, i, z, hz, hi, hm => by omega
 | m + 1, i, z, hz, hi, hm => by
  rw [f17B_L3_s]
  unfold f17B_L3B
  dsimp only
  rw [Bool.cond_decide]
  by_cases h : i < l.length
  · rw [if_pos (by omega)]
    simp only [Int.toNat_natCast]
    rw [gd_pos (by simp; try omega), f22B_eq (Sm.get hs i) hn, ob_some, gd_pos (by simp [hz]; omega), gd_pos (by simp [hz]; omega), copy_set h hz, W_id (x := (i : Int) + 1) (by omega) (by omega)]
    exact f17B_loop hl hs hn m (i + 1) _ (by simp [hz]; omega) (by omega) (by omega)
  · rw [if_neg (by omega)]
    obtain rfl : z = [] := List.eq_nil_of_length_eq_zero (by omega)
    rw [List.take_of_length_le (by omega), List.append_nil]

theorem f17B_eq {n : Nat} {l : List Rt} (h : SmL l) (hn : 1048577 ≤ n) : f17B n l = some l := by
 obtain ⟨hl, hs⟩ := h
 unfold f17B
 rw [gd_pos (by simp; try omega)]
 have := f17B_loop (n := n) hl hs hn (k0 := fun z_1 => some z_1) n 0 (List.replicate l.length rt0) (by simp) (by omega) (by omega)
 simpa using this

def upto (k : Int) : Nat → List Int
 | 0 => []
 | m + 1 => k :: upto (k + 1) m

theorem upto_len : ∀ (m : Nat) (k : Int), (upto k m).length = m
 | 0, _ => rfl
 | m + 1, k => by simp [upto, upto_len m]

theorem mid_setU {β : Type} {pre r : List β} {x y : β} : (pre ++ x :: r).set pre.length y = pre ++ y :: r := by
 rw [List.set_append_right _ _ (Nat.le_refl _)]; simp

theorem mid_getU {β : Type} {pre r : List β} {x d : β} : (pre ++ x :: r).getD pre.length d = x := by simp

theorem mid_appU {β : Type} {pre r : List β} {x : β} : pre ++ x :: r = (pre ++ [x]) ++ r := by simp

theorem f74B_loop {α : Type} {n : Nat} {k0 : Int → List Int → Option α} : ∀ (r : List Int) (m : Nat) (pre : List Int) (k : Int), pre.length + r.length ≤ 1048576 → r.length < m → 0 ≤ k → k + r.length ≤ 1152921504606846976 →
  f74B_L2 n m k (pre.length : Int) (pre ++ r) k0 = k0 (k + r.length) (pre ++ upto k r.length)
 | [], m + 1, pre, k, hN, hm, h0, hk => by
  rw [f74B_L2_s]
  unfold f74B_L2B
  rw [Bool.cond_decide, if_neg (by simp)]
  simp [upto]
 | x :: r, m + 1, pre, k, hN, hm, h0, hk => by
  simp only [List.length_cons] at hN hm hk
  rw [f74B_L2_s]
  unfold f74B_L2B
  rw [Bool.cond_decide, if_pos (by simp; omega), gd_pos (by simp; omega), gd_pos (by simp)]
  rw [Int.toNat_natCast, mid_setU, W_id (x := k + 1) (by omega) (by omega), W_id (x := (pre.length : Int) + 1) (by omega) (by omega), mid_appU]
  have ih := f74B_loop (n := n) (k0 := k0) r m (pre ++ [k]) (k + 1) (by simp; omega) (by omega) (by omega) (by omega)
  simp only [List.length_append, List.length_cons, List.length_nil, Nat.zero_add] at ih
  refine Eq.trans ih ?_
  rw [show k + 1 + (r.length : Int) = k + ((r.length + 1 : Nat) : Int) by omega]
  simp [upto]

theorem f74B_eq {n : Nat} {l : List Int} {k : Int} (hl : l.length ≤ 1048576) (h0 : 0 ≤ k) (hk : k + l.length ≤ 1152921504606846976) (hn : 1048577 ≤ n) : f74B n l k = some (k + l.length, upto k l.length) := by
 unfold f74B
 exact f74B_loop (n := n) (k0 := fun z w => some (z, w)) l n [] k (by simpa using hl) (by omega) h0 hk

theorem f74_nil {n : Nat} {k : Int} (hn : 1048577 ≤ n) : f74 n [] k = some k := by
 unfold f74
 obtain ⟨m, rfl⟩ : ∃ m, n = m + 1 := ⟨n - 1, by omega⟩
 rw [f74_L2_s]
 rfl

theorem f75_loop {α : Type} {n : Nat} {l : List Int} {k0 k1 : Int → Option α} (hl : l.length ≤ 1048576) : ∀ (q m i : Nat) (k : Int), l.drop i = upto k q → i + q = l.length → q < m → 0 ≤ k → k + q ≤ 1152921504606846976 →
  f75_L2 n m l k (i : Int) k0 k1 = k1 (k + q)
 | 0, m + 1, i, k, hd, hq, hm, h0, hk => by
  rw [f75_L2_s]
  unfold f75_L2B
  rw [Bool.cond_decide, if_neg (by omega)]
  simp
 | q + 1, m + 1, i, k, hd, hq, hm, h0, hk => by
  have hlt : i < l.length := by omega
  have hx : l.drop i = l.getD i 0 :: l.drop (i + 1) := by
   rw [List.drop_eq_getElem_cons hlt]; simp [List.getD_eq_getElem?_getD, hlt]
  rw [hx] at hd
  simp only [upto, List.cons.injEq] at hd
  rw [f75_L2_s]
  unfold f75_L2B
  rw [Bool.cond_decide, if_pos (by omega), gd_pos (by simp; omega), Int.toNat_natCast, hd.1, bne_self_eq_false, cond_false, W_id (x := k + 1) (by omega) (by omega), W_id (x := (i : Int) + 1) (by omega) (by omega)]
  refine (f75_loop (n := n) (k0 := k0) (k1 := k1) hl q m (i + 1) (k + 1) hd.2 (by omega) (by omega) (by omega) (by omega)).trans ?_
  rw [show k + 1 + (q : Int) = k + ((q + 1 : Nat) : Int) by omega]

theorem f75_eq {n m : Nat} {k : Int} (hm : m ≤ 1048576) (h0 : 0 ≤ k) (hk : k + m ≤ 1152921504606846976) (hn : 1048577 ≤ n) : f75 n (upto k m) k = some (k + m) := by
 unfold f75
 exact f75_loop (n := n) (k0 := fun z => some z) (k1 := fun z => some z) (by rw [upto_len]; exact hm) m n 0 k rfl (by rw [upto_len]; omega) (by omega) h0 hk

def markL : List Rt → Int → Int × List Rt
 | [], k => (k, [])
 | x :: r, k => ((markL r (k + 1 + x.2.1.length + x.2.2.length)).1, (Int.tmod k 3 == 0, upto (k + 1) x.2.1.length, upto (k + 1 + x.2.1.length) x.2.2.length) :: (markL r (k + 1 + x.2.1.length + x.2.2.length)).2)

theorem markL_len : ∀ (l : List Rt) (k : Int), (markL l k).2.length = l.length
 | [], _ => rfl
 | x :: r, k => by simp [markL, markL_len r]

theorem markL_le : ∀ (l : List Rt) (k : Int), k ≤ (markL l k).1
 | [], k => Int.le_refl k
 | x :: r, k => by have := markL_le r (k + 1 + x.2.1.length + x.2.2.length); simp only [markL]; omega

theorem f34B_loop {α : Type} {n : Nat} (hn : 1048577 ≤ n) {k0 : Int → List Rt → Option α} : ∀ (r : List Rt) (m : Nat) (pre : List Rt) (k : Int), pre.length + r.length ≤ 1048576 → (∀ x ∈ r, Sm x) → r.length < m → 0 ≤ k → k + 2097153 * r.length ≤ 1125899906842624 →
  f34B_L2 n m k (pre.length : Int) (pre ++ r) k0 = k0 (markL r k).1 (pre ++ (markL r k).2)
 | [], m + 1, pre, k, hN, hs, hm, h0, hk => by
  rw [f34B_L2_s]
  unfold f34B_L2B
  rw [Bool.cond_decide, if_neg (by simp)]
  simp [markL]
 | x :: r, m + 1, pre, k, hN, hs, hm, h0, hk => by
  simp only [List.length_cons] at hN hm hk
  obtain ⟨s, a, b⟩ := x
  obtain ⟨h1, h2⟩ := hs (s, a, b) (by simp)
  simp only at h1 h2
  have ih := fun y => f34B_loop hn (k0 := k0) r m (pre ++ [y]) (k + 1 + a.length + b.length) (by simp; omega) (fun z hz => hs z (by simp [hz])) (by omega) (by omega) (by omega)
  simp only [List.length_append, List.length_cons, List.length_nil, Nat.zero_add] at ih
  have ea : ∀ (l : List Int) (k : Int), l.isEmpty = true → upto k l.length = l ∧ k + (l.length : Int) = k := fun l k h => by
   rw [List.isEmpty_iff] at h; subst h; simp [upto]
  rw [f34B_L2_s]
  unfold f34B_L2B
  rw [Bool.cond_decide, if_pos (by simp; omega), gd_pos (by simp; omega), gd_pos (by simp)]
  simp only [Int.toNat_natCast, mid_setU, mid_getU]
  have g1 : ∀ (y : Rt), (decide (0 ≤ (pre.length : Int)) && decide ((pre.length : Int) < ((pre ++ y :: r).length : Int))) = true := fun y => by simp; omega
  have g2 : ∀ (y : Rt), decide (pre.length < (pre ++ y :: r).length) = true := fun y => by simp
  have w1 : W (k + 1) = k + 1 := W_id (by omega) (by omega)
  have w2 : W ((pre.length : Int) + 1) = ((pre.length + 1 : Nat) : Int) := by rw [W_id (by omega) (by omega)]; rfl
  simp only [g1, g2, gd_true, w1, w2, f74_nil hn, f74B_eq h1 (show 0 ≤ k + 1 by omega) (show k + 1 + (a.length : Int) ≤ 1152921504606846976 by omega) hn, ob_some, upto_len, Nat.beq_refl, Bool.and_true]
  have fin : ∀ (y : Rt), f34B_L2 n m (k + 1 + a.length + b.length) ((pre.length + 1 : Nat) : Int) (pre ++ y :: r) k0 = k0 (markL r (k + 1 + a.length + b.length)).1 (pre ++ y :: (markL r (k + 1 + a.length + b.length)).2) := fun y => by
   have := ih y
   rw [List.append_assoc, List.append_assoc] at this
   exact this
  show _ = k0 (markL r (k + 1 + a.length + b.length)).1 (pre ++ (Int.tmod k 3 == 0, upto (k + 1) a.length, upto (k + 1 + a.length) b.length) :: (markL r (k + 1 + a.length + b.length)).2)
  rw [← fin]
  cases ha : a.isEmpty with
  | true =>
   obtain rfl := List.isEmpty_iff.1 ha
   cases hb : b.isEmpty with
   | true =>
    obtain rfl := List.isEmpty_iff.1 hb
    simp [upto]
   | false =>
    simp only [cond_true, cond_false, f74B_eq h2 (show 0 ≤ k + 1 by omega) (show k + 1 + (b.length : Int) ≤ 1152921504606846976 by omega) hn, ob_some, upto_len, Nat.beq_refl, Bool.and_true, gd_true]
    simp [upto]
  | false =>
   cases hb : b.isEmpty with
   | true =>
    obtain rfl := List.isEmpty_iff.1 hb
    simp [upto]
   | false =>
    simp only [cond_false, f74B_eq h2 (show 0 ≤ k + 1 + (a.length : Int) by omega) (show k + 1 + (a.length : Int) + (b.length : Int) ≤ 1152921504606846976 by omega) hn, ob_some, upto_len, Nat.beq_refl, Bool.and_true, gd_true]

theorem f34B_eq {n : Nat} {l : List Rt} {k : Int} (hl : SmL l) (h0 : 0 ≤ k) (hk : k ≤ 8796093022208) (hn : 1048577 ≤ n) : f34B n l k = some (markL l k) := by
 unfold f34B
 refine (f34B_loop (n := n) hn (k0 := fun z w => some (z, w)) l n [] k (by simpa using hl.1) hl.2 (by have := hl.1; omega) h0 ?_).trans ?_
 · have := hl.1; omega
 · simp

theorem f35_loop {α : Type} {n : Nat} {l : List Rt} {k0 k1 : Int → Option α} (hl : l.length ≤ 1048576) (hn : 1048577 ≤ n) : ∀ (r : List Rt) (m i : Nat) (k : Int), l.drop i = (markL r k).2 → i + r.length = l.length → (∀ x ∈ r, Sm x) → r.length < m → 0 ≤ k → k + 2097153 * r.length ≤ 1125899906842624 →
  f35_L2 n m l k (i : Int) k0 k1 = k1 (markL r k).1
 | [], m + 1, i, k, hd, hq, hs, hm, h0, hk => by
  rw [f35_L2_s]
  unfold f35_L2B
  rw [Bool.cond_decide, if_neg (by simp at hq; omega)]
  rfl
 | x :: r, m + 1, i, k, hd, hq, hs, hm, h0, hk => by
  simp only [List.length_cons] at hq hm hk
  obtain ⟨h1, h2⟩ := hs x (by simp)
  have hlt : i < l.length := by omega
  have hx : l.drop i = l.getD i (false, [], []) :: l.drop (i + 1) := by
   rw [List.drop_eq_getElem_cons hlt]; simp [List.getD_eq_getElem?_getD, hlt]
  rw [hx] at hd
  simp only [markL, List.cons.injEq] at hd
  rw [f35_L2_s]
  unfold f35_L2B
  rw [Bool.cond_decide, if_pos (by omega), gd_pos (by simp; omega)]
  simp only [Int.toNat_natCast, hd.1, BEq.rfl, Bool.not_true, cond_false]
  rw [gd_pos (by simp; omega), W_id (x := k + 1) (by omega) (by omega), f75_eq h1 (by omega) (by omega) hn, ob_some, Bool.cond_decide, if_neg (by omega), gd_pos (by simp; omega), f75_eq h2 (by omega) (by omega) hn, ob_some, Bool.cond_decide, if_neg (by omega),
   W_id (x := (i : Int) + 1) (by omega) (by omega)]
  exact f35_loop (n := n) (k0 := k0) (k1 := k1) hl hn r m (i + 1) _ hd.2 (by omega) (fun z hz => hs z (by simp [hz])) (by omega) (by omega) (by omega)

theorem f35_eq {n : Nat} {l : List Rt} {k : Int} (hl : SmL l) (h0 : 0 ≤ k) (hk : k ≤ 8796093022208) (hn : 1048577 ≤ n) : f35 n (markL l k).2 k = some (markL l k).1 := by
 unfold f35
 have := hl.1
 exact f35_loop (n := n) (k0 := fun z => some z) (k1 := fun z => some z) (by rw [markL_len]; exact hl.1) hn l n 0 k rfl (by rw [markL_len]; omega) hl.2 (by omega) h0 (by omega)

theorem f34_nil {n : Nat} {k : Int} (hn : 1048577 ≤ n) : f34 n [] k = some k := by
 unfold f34
 obtain ⟨m, rfl⟩ : ∃ m, n = m + 1 := ⟨n - 1, by omega⟩
 rw [f34_L2_s]
 rfl

theorem f35_nil {n : Nat} {k : Int} (hn : 1048577 ≤ n) : f35 n [] k = some k := by
 unfold f35
 obtain ⟨m, rfl⟩ : ∃ m, n = m + 1 := ⟨n - 1, by omega⟩
 rw [f35_L2_s]
 rfl

theorem f132B1_eq {n : Nat} {l : List Int} (h : l.length ≤ 17592186044416) : f132B1 n l = some (if l = [] then .inr () else .inl l) := by
 unfold f132B1 f132B
 cases l with
 | nil => rfl
 | cons a r =>
  simp only [List.isEmpty_cons, cond_false, Bool.not_false, gd_true]
  rw [gd_pos (by simp at h ⊢; omega)]
  rfl

def fstC : List Int → Int
 | [] => 0
 | c :: r => if c = 0 then fstC r else c

theorem f95_loop {n : Nat} {l : List Int} (hl : l.length ≤ 1048576) : ∀ (m i : Nat), i ≤ l.length → l.length < i + m → f95_L2 n m l (l.length : Int) (i : Int) (fun z => some z) (fun (_ : Unit) => some 0) = some (fstC (l.drop i))
 | 0, i, hi, hm => by omega
 | m + 1, i, hi, hm => by
  rw [f95_L2_s]
  unfold f95_L2B
  rw [Bool.cond_decide]
  by_cases h : i < l.length
  · have hx : l.drop i = l.getD i 0 :: l.drop (i + 1) := by
     rw [List.drop_eq_getElem_cons h]; simp [List.getD_eq_getElem?_getD, h]
    rw [if_pos (by omega), gd_pos (by simp; try omega), Int.toNat_natCast, hx]
    unfold fstC
    by_cases c : l.getD i 0 = 0
    · rw [c, bne_self_eq_false, cond_false, if_pos rfl, W_id (x := (i : Int) + 1) (by omega) (by omega)]
      exact f95_loop hl m (i + 1) (by omega) (by omega)
    · rw [if_neg c, show (l.getD i 0 != 0) = true by rw [bne_iff_ne]; exact c, cond_true]
  · rw [if_neg (by omega), List.drop_of_length_le (by omega)]; rfl

theorem f95_eq {n : Nat} {l : List Int} (hl : l.length ≤ 1048576) (hn : 1048577 ≤ n) : f95 n l = some (fstC l) := by
 unfold f95
 have := f95_loop (n := n) hl n 0 (by omega) (by omega)
 simpa using this

def lngL (L : List (List Rt)) : Bool := L.any fun v => decide (4096 < v.length)

theorem f133_eqC {n : Nat} {L : List (List Rt)} (hl : L.length ≤ 1048576) (hn : 1048577 ≤ n) : f133 n L = some (if lngL L = true then 2 else 0) := by
 obtain ⟨c, h1, h2⟩ := f133_eq (n := n) hl hn
 rw [h1]
 rcases h2 with ⟨rfl, h⟩ | ⟨rfl, v, hv, h⟩
 · rw [if_neg]
   intro c
   obtain ⟨v, hv, h3⟩ := List.any_eq_true.1 c
   have := h v hv
   have := of_decide_eq_true h3
   omega
 · rw [if_pos]
   exact List.any_eq_true.2 ⟨v, hv, decide_eq_true h⟩

theorem vq_of : ∀ {l : List Rt}, l.all rok = true → ∃ X : List Rat, l = vq X ∧ Sv X 40
 | [], _ => ⟨[], rfl, fun a h => by simp at h⟩
 | r :: l, h => by
  simp only [List.all_cons, Bool.and_eq_true] at h
  obtain ⟨x, rfl, hx⟩ := rok_rq h.1
  obtain ⟨X, rfl, hX⟩ := vq_of h.2
  exact ⟨x :: X, rfl, fun a ha => by rcases List.mem_cons.1 ha with rfl | ha; exact hx; exact hX a ha⟩

theorem Sm_rq {x : Rat} {L : Nat} (h : Sz x L) (hL : L ≤ 1048576) : Sm (rq x) := ⟨Nat.le_trans h.1 hL, Nat.le_trans h.2 hL⟩

theorem SmL_vq {X : List Rat} {L : Nat} (h : Sv X L) (hL : L ≤ 1048576) (hl : X.length ≤ 1048576) : SmL (vq X) := ⟨by rw [vq_len]; exact hl, fun r hr => by
 obtain ⟨x, hx, rfl⟩ := List.mem_map.1 hr
 exact Sm_rq (h x hx) hL⟩

def fitV (X : List Rat) : List Rt × Int := if X.all fitR = true then (vq X, 0) else ([], 7)

theorem fitV_Sm {X : List Rat} (h : X.length ≤ 1048576) : SmL (fitV X).1 := by
 unfold fitV
 split
 · rename_i e
   exact SmL_vq (L := 40) (fun a ha => fitR_iff.1 (List.all_eq_true.1 e a ha)) (by omega) h
 · exact ⟨by simp, fun x h => by simp at h⟩

def ansV (r : List Rt × Int) : (List Rt × Int) ⊕ (Unit × Int) := if r.2 = 0 then .inl r else .inr ((), r.2)

theorem fitV_ans {X : List Rat} : ansV (fitV X) = if X.all fitR = true then .inl (vq X, 0) else .inr ((), 7) := by
 unfold ansV fitV
 split <;> rfl

theorem den_ne {x : Rat} : (rq x).2.2 ≠ [] := by
 unfold rq
 dsimp only
 intro h
 have h2 := dglen0 (m := x.den)
 rw [h] at h2
 have h3 := x.den_nz
 rw [decide_eq_false h3] at h2
 cases h2

theorem f72B_rq {n : Nat} {x : Rat} (h : Sz x 1000000) : f72B n (rq x) = some (if (rq x).2.1 = [] then .inr (.inl ((rq x).1, (), (rq x).2.2)) else .inl (rq x)) := by
 obtain ⟨h1, h2⟩ := h
 have h1 : (rq x).2.1.length ≤ 1000000 := h1
 have h2 : (rq x).2.2.length ≤ 1000000 := h2
 unfold f72B
 rw [f132B1_eq (by omega), ob_some, f132B1_eq (by omega), ob_some]
 rw [if_neg den_ne]
 by_cases c : (rq x).2.1 = []
 · rw [if_pos c, if_pos c]; rfl
 · rw [if_neg c, if_neg c]; rfl

theorem clone_put {α : Type} {n : Nat} {x : Rat} {b : List Rt} {k : List Rt → Option α} {z : Option α} (h : Sz x 1000000) (hb : b.length ≤ 1048576) :
  (ob (f72B n (rq x)) fun r_2 =>
  caseS r_2 (fun r_3 =>
   gd (decide ((b.length + 1) * 56 ≤ 140737488355328)) (
    k (b ++ [r_3]))) (fun r_4 =>
   caseS r_4 (fun r_5 =>
    gd (decide ((b.length + 1) * 56 ≤ 140737488355328)) (
     k (b ++ [(r_5.1, [], r_5.2.2)]))) (fun r_6 =>
    caseS r_6 (fun r_7 =>
     gd (decide ((b.length + 1) * 56 ≤ 140737488355328)) (
      k (b ++ [(r_7.1, r_7.2.1, [])]))) (fun r_8 => z)))) = k (b ++ [rq x]) := by
 rw [f72B_rq h, ob_some]
 have g : decide ((b.length + 1) * 56 ≤ 140737488355328) = true := by simp; omega
 by_cases c : (rq x).2.1 = []
 · rw [if_pos c]
   simp only [caseS, g, gd_true]
   congr 2
   rw [show rq x = ((rq x).1, (rq x).2.1, (rq x).2.2) from rfl, c]
 · rw [if_neg c]
   simp only [caseS, g, gd_true]

theorem f130c155_eq {n : Nat} {x : List Rat} (hl : x.length ≤ 1048576) (hn : 1048577 ≤ n) : f130c155 n (vq x) () = some (!x.all fitR) := by
 have h := i_full (n := n) (x := x) hl hn
 unfold f96 at h
 cases e : f130c155 n (vq x) () with
 | none => rw [e] at h; cases h
 | some r =>
  rw [e, ob_some] at h
  cases r with
  | true =>
   rw [cond_true] at h
   by_cases c : x.all fitR = true
   · rw [if_pos c] at h; simp at h
   · rw [Bool.eq_false_iff.2 c]; rfl
  | false =>
   rw [cond_false] at h
   by_cases c : x.all fitR = true
   · rw [c]; rfl
   · rw [if_neg c] at h; simp at h

theorem full_end {n : Nat} {x : List Rat} (hl : x.length ≤ 1048576) (hn : 1048577 ≤ n) :
  (ob (f96B n (vq x)) fun r_5 =>
  caseS r_5 (fun r_6 =>
   some (Sum.inl (r_6.2, r_6.1.2) : (List Rt × Int) ⊕ (Unit × Int))) (fun r_7 =>
   gd (Nat.beq r_7.2.length (vq x).length && true) (
    some (Sum.inr (r_7.1.1, r_7.1.2))))) = some (ansV (fitV x)) := by
 unfold f96B
 rw [f130c155_eq hl hn, ob_some, fitV_ans]
 cases x.all fitR with
 | true => rfl
 | false => simp [caseS]

theorem f72_rqB {n : Nat} {x : Rat} (h : Sz x 1000000) : f72 n (rq x) = some (rq x) := by
 obtain ⟨h1, h2⟩ := h
 unfold f72 rq
 dsimp only
 rw [f132_eq n (by omega), ob_some, f132_eq n (by omega), ob_some]

theorem f97c142_loopG {α : Type} {n : Nat} {s1 : List Rt × Int} {g : Nat → Rat} {N : Nat} (hN : N ≤ 4096) (hg : ∀ i, i < N → f142 n (i : Int) s1.1 s1.2 = some (rq (g i)) ∧ Sz (g i) 1000000) {k0 : List Rt → Option α} : ∀ (m i : Nat), i ≤ N → N < i + m →
  f97c142_L3 n m s1 (N : Int) (i : Int) (vq ((List.range i).map g)) k0 = k0 (vq ((List.range N).map g))
 | 0, i, hi, hm => by omega
 | m + 1, i, hi, hm => by
  rw [f97c142_L3_s]
  unfold f97c142_L3B
  rw [Bool.cond_decide]
  by_cases h : i < N
  · rw [if_pos (by omega), (hg i h).1, ob_some, f72_rqB (hg i h).2, ob_some, gd_pos (by simp [vq]; omega)]
    have e : vq ((List.range i).map g) ++ [rq (g i)] = vq ((List.range (i + 1)).map g) := by simp [vq, List.range_succ]
    rw [e, W_id (x := (i : Int) + 1) (by omega) (by omega)]
    exact f97c142_loopG hN hg m (i + 1) (by omega) (by omega)
  · obtain rfl : i = N := by omega
    rw [if_neg (by omega)]

theorem f97c142_eqG {n : Nat} {s1 : List Rt × Int} {g : Nat → Rat} {N : Nat} (hN : N ≤ 4096) (hg : ∀ i, i < N → f142 n (i : Int) s1.1 s1.2 = some (rq (g i)) ∧ Sz (g i) 1000000) (hn : 1048577 ≤ n) : f97c142 n (N : Int) s1 = some (vq ((List.range N).map g)) := by
 unfold f97c142
 exact f97c142_loopG (n := n) hN hg n 0 (by omega) (by omega)

theorem f97c102B_loop {α : Type} {n : Nat} {s1 : Int × List Rt × List Rt} {g : Nat → Rat} {N : Nat} (hN : N ≤ 4096) (hg : ∀ i, i < N → f102 n (i : Int) s1.1 s1.2.1 s1.2.2 = some (rq (g i)) ∧ Sz (g i) 1000000) {k0 : List Rt → Option α} : ∀ (m i : Nat), i ≤ N → N < i + m →
  f97c102B_L3 n m s1 (N : Int) (i : Int) (vq ((List.range i).map g)) k0 = k0 (vq ((List.range N).map g))
 | 0, i, hi, hm => by omega
 | m + 1, i, hi, hm => by
  rw [f97c102B_L3_s]
  unfold f97c102B_L3B
  rw [Bool.cond_decide]
  by_cases h : i < N
  · rw [if_pos (by omega), (hg i h).1, ob_some]
    refine (clone_put (k := fun l => f97c102B_L3 n m s1 (N : Int) (W ((i : Int) + 1)) l k0) (hg i h).2 (by simp [vq]; omega)).trans ?_
    have e : vq ((List.range i).map g) ++ [rq (g i)] = vq ((List.range (i + 1)).map g) := by simp [vq, List.range_succ]
    rw [e, W_id (x := (i : Int) + 1) (by omega) (by omega)]
    exact f97c102B_loop hN hg m (i + 1) (by omega) (by omega)
  · obtain rfl : i = N := by omega
    rw [if_neg (by omega)]

theorem f97c102B_eq {n : Nat} {s1 : Int × List Rt × List Rt} {g : Nat → Rat} {N : Nat} (hN : N ≤ 4096) (hg : ∀ i, i < N → f102 n (i : Int) s1.1 s1.2.1 s1.2.2 = some (rq (g i)) ∧ Sz (g i) 1000000) (hn : 1048577 ≤ n) : f97c102B n (N : Int) s1 = some (vq ((List.range N).map g)) := by
 unfold f97c102B
 exact f97c102B_loop (n := n) hN hg n 0 (by omega) (by omega)

theorem f97c102_loopG {α : Type} {n : Nat} {s1 : Int × List Rt × List Rt} {g : Nat → Rat} {N : Nat} (hN : N ≤ 4096) (hg : ∀ i, i < N → f102 n (i : Int) s1.1 s1.2.1 s1.2.2 = some (rq (g i)) ∧ Sz (g i) 1000000) {k0 : List Rt → Option α} : ∀ (m i : Nat), i ≤ N → N < i + m →
  f97c102_L3 n m s1 (N : Int) (i : Int) (vq ((List.range i).map g)) k0 = k0 (vq ((List.range N).map g))
 | 0, i, hi, hm => by omega
 | m + 1, i, hi, hm => by
  rw [f97c102_L3_s]
  unfold f97c102_L3B
  rw [Bool.cond_decide]
  by_cases h : i < N
  · rw [if_pos (by omega), (hg i h).1, ob_some, f72_rqB (hg i h).2, ob_some, gd_pos (by simp [vq]; omega)]
    have e : vq ((List.range i).map g) ++ [rq (g i)] = vq ((List.range (i + 1)).map g) := by simp [vq, List.range_succ]
    rw [e, W_id (x := (i : Int) + 1) (by omega) (by omega)]
    exact f97c102_loopG hN hg m (i + 1) (by omega) (by omega)
  · obtain rfl : i = N := by omega
    rw [if_neg (by omega)]

theorem f97c102_eqG {n : Nat} {s1 : Int × List Rt × List Rt} {g : Nat → Rat} {N : Nat} (hN : N ≤ 4096) (hg : ∀ i, i < N → f102 n (i : Int) s1.1 s1.2.1 s1.2.2 = some (rq (g i)) ∧ Sz (g i) 1000000) (hn : 1048577 ≤ n) : f97c102 n (N : Int) s1 = some (vq ((List.range N).map g)) := by
 unfold f97c102
 exact f97c102_loopG (n := n) hN hg n 0 (by omega) (by omega)

theorem fst2 {c d : Int} : fstC [c, d] = if c = 0 then d else c := by
 unfold fstC fstC fstC
 split
 · split
   · rename_i h; exact h.symm
   · rfl
 · rfl

theorem markL_up : ∀ (l : List Rt) (k : Int), (∀ x ∈ l, Sm x) → (markL l k).1 ≤ k + 2097153 * l.length
 | [], k, _ => by simp [markL]
 | x :: r, k, h => by
  obtain ⟨h1, h2⟩ := h x (by simp)
  have := markL_up r (k + 1 + x.2.1.length + x.2.2.length) fun y hy => h y (by simp [hy])
  simp only [markL, List.length_cons]
  omega

theorem f183c141_loop {n : Nat} {L : List (List Rt)} {a : Int} (hl : L.length ≤ 1048576) (hn : 1048577 ≤ n) : ∀ (m i : Nat), i ≤ L.length → L.length < i + m → ∃ r, f183c141_L2 n m L a (L.length : Int) (i : Int) (fun z => some z) (fun (_ : Unit) => some (-1)) = some r ∧ decide (r ≥ 0) = !((L.drop i).all fun v => mok v a)
 | 0, i, hi, hm => by omega
 | m + 1, i, hi, hm => by
  rw [f183c141_L2_s]
  unfold f183c141_L2B
  dsimp only
  rw [Bool.cond_decide]
  by_cases h : i < L.length
  · rw [if_pos (by omega), gd_pos (by simp; try omega)]
    simp only [Int.toNat_natCast]
    have e : f141 n (L.getD i []) a = some (!mok (L.getD i []) a) := by
     unfold f141
     rw [f18_eq hn, ob_some]
    rw [e, ob_some, alldrop h []]
    cases hp : mok (L.getD i []) a with
    | true =>
     rw [W_id (x := (i : Int) + 1) (by omega) (by omega)]
     simp only [Bool.not_true, cond_false, Bool.true_and]
     exact f183c141_loop hl hn m (i + 1) (by omega) (by omega)
    | false => exact ⟨i, rfl, by simp⟩
  · rw [if_neg (by omega), List.drop_of_length_le (by omega)]
    exact ⟨-1, rfl, rfl⟩

theorem f140c141_eq {n : Nat} {L : List (List Rt)} {a : Int} (hl : L.length ≤ 1048576) (hn : 1048577 ≤ n) : f140c141 n L a = some (!(L.all fun v => mok v a)) := by
 unfold f140c141 f183c141
 obtain ⟨r, h1, h2⟩ := f183c141_loop (n := n) (L := L) (a := a) hl hn n 0 (by omega) (by omega)
 have h1 : f183c141_L2 n n L a (L.length : Int) 0 _ _ = _ := h1
 rw [h1, ob_some, h2, List.drop_zero]

def matC (a : Int) (L : List (List Rt)) : Int := if lngL L = true then 2 else if (L.all fun v => mok v a) = true then 0 else 1

theorem f129_eqC {n : Nat} {b : Bool} {c : Int} : f129 n b c = some (if b = true then 0 else c) := by
 unfold f129; cases b <;> rfl

theorem f81_eqC {n : Nat} {L : List (List Rt)} {a : Int} (hl : L.length ≤ 1048576) (hn : 1048577 ≤ n) : f81 n a L = some (matC a L) := by
 unfold f81 matC
 rw [f133_eqC hl hn, ob_some, f140c141_eq hl hn, ob_some, f129_eqC, ob_some, f95_eq (by simp) hn, ob_some, fst2]
 by_cases e : lngL L = true
 · rw [if_pos e, if_pos e]; rfl
 · rw [if_neg e, if_neg e, if_pos rfl]
   cases L.all fun v => mok v a <;> rfl

theorem mat_of {l : List Rt} {a : Int} (h : mok l a = true) : ∃ (k : Nat) (X : List Rat), a = (k : Int) ∧ 1 ≤ k ∧ k ≤ 4 ∧ l = vq X ∧ Sv X 40 ∧ X.length = k * k := by
 unfold mok at h
 simp only [Bool.and_eq_true, decide_eq_true_eq, beq_iff_eq] at h
 obtain ⟨⟨h1, h2⟩, h3⟩ := h
 obtain ⟨X, rfl, hX⟩ := vq_of h3
 refine ⟨a.toNat, X, by omega, by omega, by omega, rfl, hX, ?_⟩
 rw [vq_len] at h2
 have e : a = (a.toNat : Int) := by omega
 rw [e, ← Int.natCast_mul] at h2
 omega

theorem Wn {a : Nat} (h : a ≤ 1000000) : W (a : Int) = (a : Int) := W_id (by omega) (by omega)

theorem Wm {a b : Nat} (h : a * b ≤ 1000000) : W ((a : Int) * (b : Int)) = ((a * b : Nat) : Int) := by
 rw [← Int.natCast_mul]; exact Wn h

theorem Wa {a b : Nat} (h : a + b ≤ 1000000) : W ((a : Int) + (b : Int)) = ((a + b : Nat) : Int) := by
 rw [← Int.natCast_add]; exact Wn h

theorem W1 {a : Nat} (h : a ≤ 1000000) : W ((a : Int) + 1) = ((a + 1 : Nat) : Int) := W_id (by omega) (by omega)

theorem idx_lt {k i j : Nat} (hi : i < k) (hj : j < k) : j * k + i < k * k := by
 have h1 : (j + 1) * k ≤ k * k := Nat.mul_le_mul_right k hj
 rw [Nat.succ_mul] at h1
 omega

theorem kk16 {k : Nat} (h : k ≤ 4) : k * k ≤ 16 := by have := Nat.mul_le_mul h h; omega

theorem dm {k i j : Nat} (hj : j < k) : (i * k + j) % k = j ∧ (i * k + j) / k = i := by
 have hk : 0 < k := by omega
 constructor
 · rw [Nat.add_comm, Nat.add_mul_mod_self_right, Nat.mod_eq_of_lt hj]
 · rw [Nat.add_comm, Nat.add_mul_div_right j i hk, Nat.div_eq_of_lt hj]; omega

theorem dmlt {k p : Nat} (h : p < k * k) : p % k < k ∧ p / k < k := by
 have hk : 0 < k := by
  rcases Nat.eq_zero_or_pos k with h0 | h0
  · subst h0; omega
  · exact h0
 exact ⟨Nat.mod_lt p hk, Nat.div_lt_of_lt_mul h⟩

theorem vq_getM {X : List Rat} {i : Nat} (h : i < X.length) : (vq X).getD i (false, [], []) = rq (X.getD i 0) := vq_get h

def mirR (X : List Rat) (k : Nat) : List Rat := (List.range (k * k)).map fun p => X.getD (p % k * k + p / k) 0

theorem mir_len (X : List Rat) (k : Nat) : (mirR X k).length = k * k := by simp [mirR]

theorem Sv_getD {X : List Rat} {L i : Nat} (h : Sv X L) : Sz (X.getD i 0) (L + 1) := by
 by_cases c : i < X.length
 · exact (h.get c).mono (by omega)
 · have : X.getD i 0 = 0 := by simp [List.getD_eq_getElem?_getD, List.getElem?_eq_none (Nat.le_of_not_lt c)]
   rw [this]
   exact Sz_zero.mono (by omega)

theorem Sv_mir {X : List Rat} {k : Nat} (h : Sv X 40) (hl : X.length = k * k) : Sv (mirR X k) 40 := by
 intro a ha
 obtain ⟨p, hp, rfl⟩ := List.mem_map.1 ha
 obtain ⟨h1, h2⟩ := dmlt (List.mem_range.1 hp)
 exact h.get (by rw [hl]; exact idx_lt h2 h1)

theorem f142_eq {n k p : Nat} {X : List Rat} (hX : Sv X 40) (hl : X.length = k * k) (hk : k ≤ 4) (hp : p < k * k) : f142 n (p : Int) (vq X) (k : Int) = some (rq (X.getD (p % k * k + p / k) 0)) := by
 obtain ⟨h1, h2⟩ := dmlt hp
 have h3 := idx_lt h2 h1
 have h4 := kk16 hk
 have hne : (k : Int) ≠ 0 := by omega
 unfold f142
 rw [gd_pos (by simpa using hne), gd_pos (by simpa using hne), ← Int.ofNat_tmod, ← Int.ofNat_tdiv]
 generalize p % k = u at *
 generalize p / k = v at *
 rw [Wm (by omega), Wn (by omega), Wa (by omega), gd_pos (by simp [vq_len]; omega), Int.toNat_natCast]
 dsimp only
 rw [vq_getM (by omega)]

theorem mir_g {n k : Nat} {X : List Rat} (hX : Sv X 40) (hl : X.length = k * k) (hk : k ≤ 4) : ∀ p, p < k * k → f142 n (p : Int) (vq X, (k : Int)).1 (vq X, (k : Int)).2 = some (rq (X.getD (p % k * k + p / k) 0)) ∧ Sz (X.getD (p % k * k + p / k) 0) 1000000 := fun p hp =>
 ⟨f142_eq hX hl hk hp, (Sv_getD hX).mono (by omega)⟩

theorem i_mirI {n k : Nat} {X : List Rat} (hX : Sv X 40) (hl : X.length = k * k) (hk : k ≤ 4) (hn : 1048577 ≤ n) : f82 n (vq X) (k : Int) = some (vq (mirR X k)) := by
 have h4 := kk16 hk
 unfold f82
 rw [Wm (by omega), f97c142_eqG (s1 := (vq X, (k : Int))) (by omega) (mir_g hX hl hk) hn]
 rfl

theorem s_mir_inner {α : Type} {n k i : Nat} {X : List Rat} (hl : X.length = k * k) (hk : k ≤ 4) (hi : i < k) {k0 : List Rt → Int → Int → List Rt → Option α} : ∀ (m j : Nat), j ≤ k → k < j + m →
  f80_L6 n m (vq X) (k : Int) (i : Int) (j : Int) (vq ((List.range (i * k + j)).map fun p => X.getD (p % k * k + p / k) 0)) k0 = k0 (vq X) (k : Int) (i : Int) (vq ((List.range ((i + 1) * k)).map fun p => X.getD (p % k * k + p / k) 0))
 | 0, j, hj, hm => by omega
 | m + 1, j, hj, hm => by
  rw [f80_L6_s]
  unfold f80_L6B
  rw [Bool.cond_decide]
  have h4 := kk16 hk
  by_cases h : j < k
  · have h3 := idx_lt hi h
    have h5 := idx_lt h hi
    rw [if_pos (by omega), Wm (by omega), Wa (by omega), gd_pos (by simp [vq_len]; omega), Int.toNat_natCast]
    dsimp only
    rw [vq_getM (by omega), gd_pos (by simp [vq]; omega), W1 (by omega)]
    obtain ⟨d1, d2⟩ := dm (i := i) h
    have e : vq ((List.range (i * k + j)).map fun p => X.getD (p % k * k + p / k) 0) ++ [rq (X.getD (j * k + i) 0)] = vq ((List.range (i * k + (j + 1))).map fun p => X.getD (p % k * k + p / k) 0) := by
     rw [← Nat.add_assoc, List.range_succ, List.map_append, List.map_singleton, d1, d2]
     simp [vq]
    rw [e]
    exact s_mir_inner hl hk hi m (j + 1) (by omega) (by omega)
  · obtain rfl : j = k := by omega
    rw [if_neg (by omega), show i * j + j = (i + 1) * j by rw [Nat.succ_mul]]

theorem s_mir_loop {α : Type} {n k : Nat} {X : List Rat} (hl : X.length = k * k) (hk : k ≤ 4) (hn : 1048577 ≤ n) {k0 : List Rt → Option α} : ∀ (m i : Nat), i ≤ k → k < i + m →
  f80_L3 n m (vq X) (k : Int) (i : Int) (vq ((List.range (i * k)).map fun p => X.getD (p % k * k + p / k) 0)) k0 = k0 (vq (mirR X k))
 | 0, i, hi, hm => by omega
 | m + 1, i, hi, hm => by
  rw [f80_L3_s]
  unfold f80_L3B
  rw [Bool.cond_decide]
  by_cases h : i < k
  · rw [if_pos (by omega)]
    refine (s_mir_inner hl hk h n 0 (by omega) (by omega)).trans ?_
    dsimp only
    rw [W1 (by omega)]
    exact s_mir_loop hl hk hn m (i + 1) (by omega) (by omega)
  · obtain rfl : i = k := by omega
    rw [if_neg (by omega)]; rfl

theorem s_mir {n k : Nat} {X : List Rat} (hl : X.length = k * k) (hk : k ≤ 4) (hn : 1048577 ≤ n) : f80 n (vq X) (k : Int) = some (vq (mirR X k)) := by
 unfold f80
 have := s_mir_loop (n := n) (k0 := fun z_5 => some z_5) hl hk hn n 0 (by omega) (by omega)
 rw [Nat.zero_mul] at this
 exact this

theorem nilSm : SmL ([] : List Rt) := ⟨by simp, fun x h => by simp at h⟩

theorem fitV_ne {X : List Rat} (h : (fitV X).2 ≠ 0) : (fitV X).1 = [] := by
 unfold fitV at h ⊢
 split
 · rename_i e; rw [if_pos e] at h; exact absurd rfl h
 · rfl

theorem f159_zero {n : Nat} (hn : 1048577 ≤ n) : f159 n 0 = some (rq 0) := by
 unfold f159
 rw [decide_eq_false (by omega), cond_false, show (0 : Int) = ((0 : Nat) : Int) from rfl, f190_eq (by omega) (by omega), ob_some, rq_zero, dg_zero, dg_one]

theorem f101_loop {α : Type} {n : Nat} {x y : List Rat} (hx : Sv x 40) (hy : Sv y 40) (hl : x.length = y.length) (h4 : x.length ≤ 4) (hn : 1048577 ≤ n) {f : Bool} {k0 : Bool → Bool → List Int → List Int → Option α} : ∀ (m i : Nat) (acc : Rat), Sz acc (82 * 2 ^ i - 1) → i ≤ x.length → x.length < i + m →
  f101_L3 n m (vq x) (vq y) (i : Int) f (rq acc).1 (rq acc).2.1 (rq acc).2.2 k0 = k0 f (rq (dotF acc (x.drop i) (y.drop i))).1 (rq (dotF acc (x.drop i) (y.drop i))).2.1 (rq (dotF acc (x.drop i) (y.drop i))).2.2
 | 0, i, acc, ho, hi, hm => by omega
 | m + 1, i, acc, ho, hi, hm => by
  rw [f101_L3_s]
  unfold f101_L3B
  dsimp only
  rw [Bool.cond_decide, vq_len]
  by_cases h : i < x.length
  · rw [if_pos (by omega), gd_pos (by simp; omega), gd_pos (by simp [vq_len]; omega)]
    have hp : 2 ^ i ≤ 2 ^ 3 := Nat.pow_le_pow_right (by omega) (by omega)
    have hp1 : 1 ≤ 2 ^ i := Nat.one_le_two_pow
    rw [show (2 : Nat) ^ 3 = 8 from rfl] at hp
    have h1 : Sz (x.getD i 0 * y.getD i 0) 81 := Sz_mul (hx.get h) (hy.get (by omega))
    have h2 : Sz (acc + x.getD i 0 * y.getD i 0) (82 * 2 ^ (i + 1) - 1) := (Sz_add ho (h1.mono (by omega))).mono (by rw [Nat.pow_succ]; omega)
    have e2 := s_plus (n := n) ho (h1.mono (show 81 ≤ 82 * 2 ^ i - 1 by omega)) (by omega) (by omega)
    have e2 : f157 n ((rq acc).1, (rq acc).2.1, (rq acc).2.2) _ = _ := e2
    rw [Int.toNat_natCast, vq_getM h, vq_getM (by omega), s_times (hx.get h) (hy.get (by omega)) (by omega) (by omega), ob_some, e2, ob_some, W_id (x := (i : Int) + 1) (by omega) (by omega)]
    have := f101_loop hx hy hl h4 hn (f := f) (k0 := k0) m (i + 1) _ h2 (by omega) (by omega)
    rw [rdrop h, rdrop (x := y) (by omega)]
    rw [show (i : Int) + 1 = ((i + 1 : Nat) : Int) from rfl, this]
    rfl
  · rw [if_neg (by omega), List.drop_of_length_le (by omega), List.drop_of_length_le (by omega)]
    rfl

theorem s_dot {n : Nat} {x y : List Rat} (hx : Sv x 40) (hy : Sv y 40) (hl : x.length = y.length) (h4 : x.length ≤ 4) (hn : 1048577 ≤ n) : f101 n (vq x) (vq y) = some (rq (dotF 0 x y)) := by
 unfold f101
 rw [f159_zero hn, ob_some]
 have h1 := f101_loop (n := n) hx hy hl h4 hn (f := false) (k0 := fun z_6 z_7 z_8 z_9 => some (z_7, z_8, z_9)) n 0 0 (Sz_zero.mono (by simp)) (by omega) (by omega)
 have h1 : f101_L3 n n (vq x) (vq y) 0 _ _ _ _ _ = _ := h1
 rw [h1, List.drop_zero, List.drop_zero]

theorem Sz_dotG : ∀ {x y : List Rat} {acc : Rat} {i : Nat}, Sv x 40 → Sv y 40 → Sz acc (82 * 2 ^ i - 1) → i + x.length ≤ 4 → Sz (dotF acc x y) 1311
 | [], _, acc, i, _, _, h, hl => by
  have hp : 2 ^ i ≤ 2 ^ 4 := Nat.pow_le_pow_right (by omega) (by simp at hl; omega)
  exact h.mono (by rw [show (2 : Nat) ^ 4 = 16 from rfl] at hp; omega)
 | p :: x, [], acc, i, _, _, h, hl => by
  have hp : 2 ^ i ≤ 2 ^ 4 := Nat.pow_le_pow_right (by omega) (by omega)
  exact h.mono (by rw [show (2 : Nat) ^ 4 = 16 from rfl] at hp; omega)
 | p :: x, q :: y, acc, i, hx, hy, h, hl => by
  have hp1 : 1 ≤ 2 ^ i := Nat.one_le_two_pow
  have h1 : Sz (p * q) 81 := Sz_mul (hx p (by simp)) (hy q (by simp))
  have h2 : Sz (acc + p * q) (82 * 2 ^ (i + 1) - 1) := (Sz_add h (h1.mono (by omega))).mono (by rw [Nat.pow_succ]; omega)
  simp only [List.length_cons] at hl
  exact Sz_dotG (x := x) (y := y) (fun a ha => hx a (by simp [ha])) (fun a ha => hy a (by simp [ha])) h2 (by omega)

theorem Sz_dot {x y : List Rat} (hx : Sv x 40) (hy : Sv y 40) (hl : x.length ≤ 4) : Sz (dotF 0 x y) 1311 := Sz_dotG (i := 0) hx hy (Sz_zero.mono (by omega)) (by omega)

def rowR (X : List Rat) (k i : Nat) : List Rat := (X.drop (i * k)).take k

theorem row_vq {X : List Rat} {k i : Nat} : ((vq X).drop (i * k)).take ((i + 1) * k - i * k) = vq (rowR X k i) := by
 rw [show (i + 1) * k - i * k = k by rw [Nat.succ_mul]; omega]
 simp [vq, rowR, List.map_drop, List.map_take]

theorem row_len {X : List Rat} {k i : Nat} (hl : X.length = k * k) (hi : i < k) : (rowR X k i).length = k := by
 have : (i + 1) * k ≤ k * k := Nat.mul_le_mul_right k hi
 rw [Nat.succ_mul] at this
 simp [rowR]; omega

theorem Sv_row {X : List Rat} {k i L : Nat} (h : Sv X L) : Sv (rowR X k i) L := fun a ha => h a (List.mem_of_mem_drop (List.mem_of_mem_take ha))

theorem row_le {k i : Nat} (hi : i < k) : (i + 1) * k ≤ k * k := Nat.mul_le_mul_right k hi

theorem mulgd {k i N : Nat} (hi : i < k) (hN : N = k * k) : (decide (0 ≤ ((i * k : Nat) : Int)) && decide (((i * k : Nat) : Int) ≤ (((i + 1) * k : Nat) : Int)) && decide ((((i + 1) * k : Nat) : Int) ≤ (N : Int))) = true := by
 have h1 := row_le hi
 have h2 : (i + 1) * k = i * k + k := Nat.succ_mul i k
 generalize (i + 1) * k = u at *
 generalize i * k = v at *
 generalize k * k = w at *
 simp; omega

def mmG (A C : List Rat) (k p : Nat) : Rat := dotF 0 (rowR A k (p / k)) (rowR C k (p % k))

def mmR (A B : List Rat) (k : Nat) : List Rat := (List.range (k * k)).map (mmG A (mirR B k) k)

theorem mm_len (A B : List Rat) (k : Nat) : (mmR A B k).length = k * k := by simp [mmR]

theorem Sz_mm {A C : List Rat} {k p : Nat} (hA : Sv A 40) (hC : Sv C 40) (hl : A.length = k * k) (hk : k ≤ 4) (hp : p < k * k) : Sz (mmG A C k p) 1311 :=
 Sz_dot (Sv_row hA) (Sv_row hC) (by rw [row_len hl (dmlt hp).2]; exact hk)

theorem f102_eq {n k p : Nat} {A C : List Rat} (hA : Sv A 40) (hC : Sv C 40) (hl : A.length = k * k) (hl2 : C.length = k * k) (hk : k ≤ 4) (hp : p < k * k) (hn : 1048577 ≤ n) : f102 n (p : Int) (k : Int) (vq A) (vq C) = some (rq (mmG A C k p)) := by
 obtain ⟨h1, h2⟩ := dmlt hp
 have h4 := kk16 hk
 have hne : (k : Int) ≠ 0 := by omega
 unfold f102 mmG
 rw [gd_pos (by simpa using hne), gd_pos (by simpa using hne), ← Int.ofNat_tmod, ← Int.ofNat_tdiv]
 generalize p % k = u at *
 generalize p / k = v at *
 have r1 := row_le h1
 have r2 := row_le h2
 have r3 : (u + 1) * k = u * k + k := Nat.succ_mul u k
 have r4 : (v + 1) * k = v * k + k := Nat.succ_mul v k
 rw [Wn (a := v) (by omega), W1 (by omega), W1 (by omega), Wm (by omega), Wm (by omega), Wm (by omega), Wm (by omega), vq_len, vq_len, gd_pos (mulgd h2 hl), gd_pos (mulgd h1 hl2)]
 simp only [Int.toNat_natCast]
 rw [row_vq, row_vq, i_dot (Sv_row hA) (Sv_row hC) (by rw [row_len hl h2, row_len hl2 h1]) (by rw [row_len hl h2]; exact hk) hn, ob_some]

theorem i_mm {n k : Nat} {A C : List Rat} (hA : Sv A 40) (hC : Sv C 40) (hl : A.length = k * k) (hl2 : C.length = k * k) (hk : k ≤ 4) (hn : 1048577 ≤ n) :
  f97c102 n (W ((k : Int) * (k : Int))) ((k : Int), vq A, vq C) = some (vq ((List.range (k * k)).map (mmG A C k))) ∧ f97c102B n (W ((k : Int) * (k : Int))) ((k : Int), vq A, vq C) = some (vq ((List.range (k * k)).map (mmG A C k))) := by
 have h4 := kk16 hk
 have g : ∀ p, p < k * k → f102 n (p : Int) ((k : Int), vq A, vq C).1 ((k : Int), vq A, vq C).2.1 ((k : Int), vq A, vq C).2.2 = some (rq (mmG A C k p)) ∧ Sz (mmG A C k p) 1000000 := fun p hp =>
  ⟨f102_eq hA hC hl hl2 hk hp hn, (Sz_mm hA hC hl hk hp).mono (by omega)⟩
 rw [Wm (by omega), f97c102_eqG (s1 := ((k : Int), vq A, vq C)) (by omega) g hn, f97c102B_eq (s1 := ((k : Int), vq A, vq C)) (by omega) g hn]
 exact ⟨rfl, rfl⟩

theorem s_mm_inner {α : Type} {n k i : Nat} {A C : List Rat} (hA : Sv A 40) (hC : Sv C 40) (hl : A.length = k * k) (hl2 : C.length = k * k) (hk : k ≤ 4) (hi : i < k) (hn : 1048577 ≤ n) {k0 : List Rt → Int → List Rt → Int → List Rt → Option α} : ∀ (m j : Nat), j ≤ k → k < j + m →
  f47_L11 n m (vq A) (k : Int) (vq C) (i : Int) (j : Int) (vq ((List.range (i * k + j)).map (mmG A C k))) k0 = k0 (vq A) (k : Int) (vq C) (i : Int) (vq ((List.range ((i + 1) * k)).map (mmG A C k)))
 | 0, j, hj, hm => by omega
 | m + 1, j, hj, hm => by
  rw [f47_L11_s]
  unfold f47_L11B
  rw [Bool.cond_decide]
  have h4 := kk16 hk
  by_cases h : j < k
  · have r1 := row_le h
    have r2 := row_le hi
    have r3 : (j + 1) * k = j * k + k := Nat.succ_mul j k
    have r4 : (i + 1) * k = i * k + k := Nat.succ_mul i k
    obtain ⟨d1, d2⟩ := dm (i := i) h
    have e : vq ((List.range (i * k + j)).map (mmG A C k)) ++ [rq (dotF 0 (rowR A k i) (rowR C k j))] = vq ((List.range (i * k + (j + 1))).map (mmG A C k)) := by
     rw [← Nat.add_assoc, List.range_succ, List.map_append, List.map_singleton]
     unfold mmG
     rw [d1, d2]
     simp [vq]
    have hb : ((vq ((List.range (i * k + j)).map (mmG A C k))).length + 1) * 56 ≤ 140737488355328 := by simp [vq]; omega
    rw [if_pos (by omega), W1 (by omega), W1 (by omega), Wm (by omega), Wm (by omega), Wm (by omega), Wm (by omega), vq_len, vq_len, gd_pos (mulgd hi hl), gd_pos (mulgd h hl2)]
    simp only [Int.toNat_natCast]
    rw [row_vq, row_vq, s_dot (Sv_row hA) (Sv_row hC) (by rw [row_len hl hi, row_len hl2 h]) (by rw [row_len hl hi]; exact hk) hn, ob_some, gd_pos (decide_eq_true hb), e]
    exact s_mm_inner hA hC hl hl2 hk hi hn m (j + 1) (by omega) (by omega)
  · obtain rfl : j = k := by omega
    rw [if_neg (by omega), show i * j + j = (i + 1) * j by rw [Nat.succ_mul]]

theorem s_mm_loop {α : Type} {n k : Nat} {A C : List Rat} (hA : Sv A 40) (hC : Sv C 40) (hl : A.length = k * k) (hl2 : C.length = k * k) (hk : k ≤ 4) (hn : 1048577 ≤ n) {k0 : List Rt → Option α} : ∀ (m i : Nat), i ≤ k → k < i + m →
  f47_L8 n m (vq A) (k : Int) (vq C) (i : Int) (vq ((List.range (i * k)).map (mmG A C k))) k0 = k0 (vq ((List.range (k * k)).map (mmG A C k)))
 | 0, i, hi, hm => by omega
 | m + 1, i, hi, hm => by
  rw [f47_L8_s]
  unfold f47_L8B
  rw [Bool.cond_decide]
  by_cases h : i < k
  · rw [if_pos (by omega)]
    refine (s_mm_inner hA hC hl hl2 hk h hn n 0 (by omega) (by omega)).trans ?_
    dsimp only
    rw [W1 (by omega)]
    exact s_mm_loop hA hC hl hl2 hk hn m (i + 1) (by omega) (by omega)
  · obtain rfl : i = k := by omega
    rw [if_neg (by omega)]

theorem mulmat_all {n : Nat} {x y : List Rt} {a : Int} (hn : 1048577 ≤ n) : ∃ R, f47 n x y a = some R ∧ f48 n x y a = some R ∧ f48B n x y a = some (ansV R) ∧ SmL R.1 ∧ (R.2 ≠ 0 → R.1 = []) := by
 unfold f47 f48 f48B
 rw [f81_eqC (by simp) hn, ob_some, ob_some, f16_eq hn, ob_some, f16_eq hn, ob_some]
 unfold matC lngL
 simp only [List.any_cons, List.any_nil, Bool.or_false, List.all_cons, List.all_nil, Bool.and_true, Bool.or_eq_true, decide_eq_true_eq]
 rw [Bool.cond_decide]
 by_cases hl : x.length ≤ 4096
 · rw [if_neg (by omega), Bool.cond_decide]
   by_cases hl2 : y.length ≤ 4096
   · rw [if_neg (by omega), if_neg (by omega)]
     cases hm : mok x a with
     | true =>
      cases hm2 : mok y a with
      | true =>
       obtain ⟨k, A, rfl, h1, h2, rfl, hA, hlen⟩ := mat_of hm
       obtain ⟨k2, B, e1, _, _, rfl, hB, hlen2⟩ := mat_of hm2
       obtain rfl : k2 = k := by omega
       have h16 := kk16 h2
       have e1 := i_mirI (n := n) hB hlen2 h2 hn
       have sC := Sv_mir hB hlen2
       have lC := mir_len B k2
       obtain ⟨e3, e4⟩ := i_mm (n := n) hA sC hlen lC h2 hn
       have s1 : Sv ((List.range (k2 * k2)).map (mmG A (mirR B k2) k2)) 1311 := fun a ha => by
        obtain ⟨p, hp, rfl⟩ := List.mem_map.1 ha
        exact Sz_mm hA sC hlen h2 (List.mem_range.1 hp)
       have e5 := s_mm_loop (n := n) (k0 := fun z_9 => ob (f79 n z_9) fun r_10 => some (r_10.1, r_10.2)) hA sC hlen lC h2 hn n 0 (by omega) (by omega)
       rw [Nat.zero_mul] at e5
       have e5 : f47_L8 n n (vq A) (k2 : Int) (vq (mirR B k2)) 0 [] _ = _ := e5
       have fe := full_end (n := n) (x := (List.range (k2 * k2)).map (mmG A (mirR B k2) k2)) (by simp; omega) hn
       simp only [Bool.and_true] at fe
       rw [Bool.not_true, cond_false, cond_false, Bool.and_self, if_pos rfl, bne_self_eq_false, cond_false, cond_false, s_mir hlen2 h2 hn, ob_some, e5, s_full (by simp; omega) (s1.mono (by omega)) hn, ob_some, e1, ob_some, ob_some, e3, ob_some, e4, ob_some, i_full (by simp; omega) hn, ob_some, fe]
       exact ⟨fitV (mmR A B k2), rfl, rfl, rfl, fitV_Sm (by rw [mm_len]; omega), fitV_ne⟩
      | false => exact ⟨([], 1), rfl, rfl, rfl, nilSm, fun _ => rfl⟩
     | false => exact ⟨([], 1), rfl, rfl, rfl, nilSm, fun _ => rfl⟩
   · rw [if_pos (by omega), if_pos (by omega)]
     exact ⟨([], 2), rfl, rfl, rfl, nilSm, fun _ => rfl⟩
 · rw [if_pos (by omega), if_pos (by omega)]
   exact ⟨([], 2), rfl, rfl, rfl, nilSm, fun _ => rfl⟩

theorem f10_eq {n : Nat} {x y : List Rt} {a : Int} (hx : BdL x) (hy : BdL y) (hn : 1048577 ≤ n) : f10 n x y a = some true := by
 unfold f10
 obtain ⟨r2, k1, k2⟩ := f15_eq' (n := n) (B := 1048576) (by omega) hx hn
 rw [k1, ob_some]
 rcases k2 with rfl | ⟨k2, sx⟩
 · rfl
 rw [Bool.cond_decide, if_neg (by omega)]
 obtain ⟨r3, l1, l2⟩ := f15_eq' (n := n) (B := r2) k2 hy hn
 rw [l1, ob_some]
 rcases l2 with rfl | ⟨l2, sy⟩
 · rfl
 obtain ⟨R, a1, a2, a3, a4, a5⟩ := mulmat_all (n := n) (x := x) (y := y) (a := a) hn
 have m6 := f34B_eq (n := n) (k := 1) sx (by omega) (by omega) hn
 have t1 := markL_le x 1
 have t2 := markL_up x 1 sx.2
 have sxl := sx.1
 have m9 := f34B_eq (n := n) (k := (markL x 1).1) sy (by omega) (by omega) hn
 have z6 : decide ((markL y (markL x 1).1).1 < 0) = false := by
  have := markL_le y (markL x 1).1
  simp; omega
 have c3 := f17_eq sx.1 sx.2 hn
 have c4 := f17B_eq sx hn
 have c3y := f17_eq sy.1 sy.2 hn
 have c4y := f17B_eq sy hn
 have c6 := f19_eq sx.1 sx.2 hn
 have c6y := f19_eq sy.1 sy.2 hn
 have c7 : f19 n R.1 R.1 = some true := f19_eq a4.1 a4.2 hn
 have m7 := f34B_eq (n := n) (k := 1) a4 (by omega) (by omega) hn
 have m8 := f35_eq (n := n) (k := 1) a4 (by omega) (by omega) hn
 have z8 : decide ((markL R.1 1).1 < 0) = false := by
  have := markL_le R.1 1
  simp; omega
 have z1 : decide ((1 : Int) < 0) = false := rfl
 rw [Bool.cond_decide, if_neg (by omega), c3, ob_some, c3y, ob_some, a1, ob_some, c4, ob_some, c4y, ob_some, a3, ob_some]
 unfold ansV
 by_cases e : R.2 = 0
 · rw [if_pos e]
   simp only [caseS, ob_some, c7, Bool.not_true, cond_false, bne_self_eq_false, c3, c3y, c6, c6y, m6, m9, m7, m8, upto_len, markL_len, Nat.beq_refl, Bool.and_true, gd_true, z6, z8, a2]
 · rw [if_neg e]
   have e0 := a5 e
   rw [e0] at c7
   simp only [caseS, ob_some, e0, c7, Bool.not_true, cond_false, bne_self_eq_false, c3, c3y, c6, c6y, m6, m9, f34_nil hn, f35_nil hn, upto_len, markL_len, Nat.beq_refl, Bool.and_true, gd_true, z6, z1, a2]

end Go.Ev
