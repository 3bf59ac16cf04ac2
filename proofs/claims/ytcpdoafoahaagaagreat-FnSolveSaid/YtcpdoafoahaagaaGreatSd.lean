/- DERIVED. The plain laws: what the models compute. -/
import Derived.Test.YtcpdoafoahaagaaGreatSc

set_option linter.all false
set_option linter.unusedVariables false
set_option linter.unusedSimpArgs false

namespace Go.Ev
open Go

theorem W_id {x : Int} (h : -9223372036854775808 ≤ x) (h' : x < 9223372036854775808) : W x = x := wrap64_id h h'

@[simp] theorem ob_some {α β : Type} (r : β) (k : β → Option α) : ob (some r) k = k r := rfl

@[simp] theorem ob_none {α β : Type} (k : β → Option α) : ob (none : Option β) k = none := rfl

@[simp] theorem gd_true {α : Type} (x : Option α) : gd true x = x := rfl

@[simp] theorem gd_false {α : Type} (x : Option α) : gd false x = none := rfl

theorem gd_pos {α : Type} {g : Bool} (h : g = true) (x : Option α) : gd g x = x := by rw [h]; rfl

theorem getD_append_left {α : Type} {l m : List α} {i : Nat} {d : α} (h : i < l.length) : (l ++ m).getD i d = l.getD i d := by
 simp [List.getD_eq_getElem?_getD, List.getElem?_append_left h]

theorem getD_append_last {α : Type} {l : List α} {x d : α} : (l ++ [x]).getD l.length d = x := by
 simp [List.getD_eq_getElem?_getD]

def vl : List Int → Int
 | [] => 0
 | x :: r => x + 10000 * vl r

def Lm (l : List Int) : Prop := ∀ x ∈ l, 0 ≤ x ∧ x < 10000

def dg (n : Nat) : List Int := if n = 0 then [] else ((n % 10000 : Nat) : Int) :: dg (n / 10000)
termination_by n
decreasing_by omega

theorem dg_zero : dg 0 = [] := by rw [dg]; rfl

theorem dg_pos {n : Nat} (h : n ≠ 0) : dg n = ((n % 10000 : Nat) : Int) :: dg (n / 10000) := by rw [dg, if_neg h]

theorem Lm.nil : Lm [] := fun _ h => by cases h

theorem Lm.cons {x : Int} {l : List Int} (hx : 0 ≤ x ∧ x < 10000) (hl : Lm l) : Lm (x :: l) := fun y hy => by
 rcases List.mem_cons.1 hy with rfl | hy
 · exact hx
 · exact hl y hy

theorem Lm.head {x : Int} {l : List Int} (h : Lm (x :: l)) : 0 ≤ x ∧ x < 10000 := h x (by simp)

theorem Lm.tail {x : Int} {l : List Int} (h : Lm (x :: l)) : Lm l := fun y hy => h y (by simp [hy])

theorem Lm.app {l m : List Int} (h : Lm l) (h' : Lm m) : Lm (l ++ m) := fun y hy => (List.mem_append.1 hy).elim (h y) (h' y)

theorem Lm.take {l : List Int} (h : Lm l) (k : Nat) : Lm (l.take k) := fun y hy => h y (List.mem_of_mem_take hy)

theorem Lm.drop {l : List Int} (h : Lm l) (k : Nat) : Lm (l.drop k) := fun y hy => h y (List.mem_of_mem_drop hy)

theorem Lm.set {l : List Int} (h : Lm l) (k : Nat) {x : Int} (hx : 0 ≤ x ∧ x < 10000) : Lm (l.set k x) := fun y hy => by
 rcases List.mem_or_eq_of_mem_set hy with hy | rfl
 · exact h y hy
 · exact hx

theorem Lm.get {l : List Int} (h : Lm l) (k : Nat) : 0 ≤ l.getD k 0 ∧ l.getD k 0 < 10000 := by
 rw [List.getD_eq_getElem?_getD]
 cases e : l[k]? with
 | none => simp
 | some x => exact h x (List.mem_of_getElem? e)

theorem Lm.rep (n : Nat) : Lm (List.replicate n 0) := fun y hy => by
 obtain rfl := (List.mem_replicate.1 hy).2
 omega

theorem Lm_dg (n : Nat) : Lm (dg n) := by
 induction n using Nat.strongRecOn with
 | _ n ih =>
  by_cases h : n = 0
  · subst h; rw [dg_zero]; exact Lm.nil
  · rw [dg_pos h]
    exact Lm.cons (by omega) (ih _ (by omega))

theorem vl_dg (n : Nat) : vl (dg n) = n := by
 induction n using Nat.strongRecOn with
 | _ n ih =>
  by_cases h : n = 0
  · subst h; rw [dg_zero]; rfl
  · rw [dg_pos h, vl, ih _ (by omega)]
    omega

theorem vl_nonneg {l : List Int} (h : Lm l) : 0 ≤ vl l := by
 induction l with
 | nil => exact Int.le_refl _
 | cons x r ih =>
  have := h.head
  have := ih h.tail
  simp only [vl]; omega

theorem pw_pos (k : Nat) : (0 : Int) < 10000 ^ k := Int.pow_pos (by omega)

theorem pw_succ (k : Nat) : (10000 : Int) ^ (k + 1) = 10000 * 10000 ^ k := by rw [Int.pow_succ, Int.mul_comm]

theorem pw_le {i j : Nat} (h : i ≤ j) : (10000 : Int) ^ i ≤ 10000 ^ j := by
 induction j with
 | zero => obtain rfl : i = 0 := by omega
           exact Int.le_refl _
 | succ j ih =>
  by_cases e : i = j + 1
  · subst e; exact Int.le_refl _
  · have := ih (by omega)
    have := pw_pos j
    rw [pw_succ]; omega

theorem pw_lt {i j : Nat} (h : (10000 : Int) ^ i < 10000 ^ j) : i < j := by
 rcases Nat.lt_or_ge i j with h' | h'
 · exact h'
 · have := pw_le h'; omega

theorem vl_lt {l : List Int} (h : Lm l) : vl l < 10000 ^ l.length := by
 induction l with
 | nil => simp [vl]
 | cons x r ih =>
  have := h.head
  have := ih h.tail
  simp only [vl, List.length_cons, pw_succ]; omega

theorem vl_app (l m : List Int) : vl (l ++ m) = vl l + 10000 ^ l.length * vl m := by
 induction l with
 | nil => simp [vl]
 | cons x r ih => simp only [List.cons_append, vl, ih, List.length_cons, pw_succ]; grind

theorem vl_snoc (l : List Int) (x : Int) : vl (l ++ [x]) = vl l + 10000 ^ l.length * x := by rw [vl_app]; simp [vl]

theorem vl_rep (n : Nat) : vl (List.replicate n 0) = 0 := by
 induction n with
 | zero => rfl
 | succ n ih => simp [List.replicate_succ, vl, ih]

theorem vl_take_succ {l : List Int} {k : Nat} (h : k < l.length) : vl (l.take (k + 1)) = vl (l.take k) + 10000 ^ k * l.getD k 0 := by
 rw [List.take_succ_eq_append_getElem h, vl_snoc, List.length_take, Nat.min_eq_left (by omega), List.getD_eq_getElem?_getD, List.getElem?_eq_getElem h]
 rfl

theorem vl_set {l : List Int} {k : Nat} (x : Int) (h : k < l.length) : vl (l.set k x) = vl l + 10000 ^ k * (x - l.getD k 0) := by
 induction l generalizing k with
 | nil => simp at h
 | cons y r ih =>
  cases k with
  | zero => simp [vl]; omega
  | succ k =>
   have := ih (k := k) (by simpa using h)
   simp only [List.set_cons_succ, vl, this, List.getD_cons_succ, pw_succ]
   grind

def Cn (l : List Int) : Prop := Lm l ∧ (l ≠ [] → l.getD (l.length - 1) 0 ≠ 0)

theorem Cn_dg (n : Nat) : Cn (dg n) := by
 refine ⟨Lm_dg n, ?_⟩
 induction n using Nat.strongRecOn with
 | _ n ih =>
  by_cases h : n = 0
  · subst h; rw [dg_zero]; exact fun h => absurd rfl h
  · rw [dg_pos h]
    intro _
    by_cases e : dg (n / 10000) = []
    · rw [e]
      have h0 : n / 10000 = 0 := by
       have := vl_dg (n / 10000)
       rw [e] at this
       simp only [vl] at this
       omega
      simp
      omega
    · have := ih (n / 10000) (by omega) e
      have hl : 0 < (dg (n / 10000)).length := List.length_pos_iff.2 e
      simp only [List.length_cons, Nat.add_sub_cancel]
      rw [show (dg (n / 10000)).length = ((dg (n / 10000)).length - 1) + 1 by omega, List.getD_cons_succ]
      exact this

theorem Cn.tail {x : Int} {l : List Int} (h : Cn (x :: l)) : Cn l := by
 refine ⟨h.1.tail, fun hn => ?_⟩
 have := h.2 (by simp)
 have hl : 0 < l.length := List.length_pos_iff.2 hn
 simp only [List.length_cons, Nat.add_sub_cancel] at this
 rw [show l.length = (l.length - 1) + 1 by omega, List.getD_cons_succ] at this
 exact this

theorem Cn.pos {l : List Int} (h : Cn l) (hn : l ≠ []) : 0 < vl l := by
 induction l with
 | nil => exact absurd rfl hn
 | cons x r ih =>
  have hx := h.1.head
  have hr := vl_nonneg h.1.tail
  by_cases e : r = []
  · subst e
    have := h.2 (by simp)
    simp at this
    simp only [vl]; omega
  · have := ih h.tail e
    simp only [vl]; omega

theorem dg_vl {l : List Int} (h : Cn l) : dg (vl l).toNat = l := by
 induction l with
 | nil => exact dg_zero
 | cons x r ih =>
  have hx := h.1.head
  have hr := vl_nonneg h.1.tail
  have hp := h.pos (by simp)
  have ih := ih h.tail
  simp only [vl] at hp ⊢
  rw [dg_pos (by omega)]
  congr 1
  · omega
  · rw [← ih]
    congr 1
    rw [ih]
    omega

theorem Cn.ge {l : List Int} (h : Cn l) (hn : l ≠ []) : (10000 : Int) ^ (l.length - 1) ≤ vl l := by
 have hl : 0 < l.length := List.length_pos_iff.2 hn
 have h1 := vl_take_succ (l := l) (k := l.length - 1) (by omega)
 rw [show l.length - 1 + 1 = l.length by omega, List.take_length] at h1
 have h2 := h.2 hn
 have h3 := h.1.get (l.length - 1)
 have h4 := vl_nonneg (h.1.take (l.length - 1))
 have h5 := pw_pos (l.length - 1)
 have h6 : (10000 : Int) ^ (l.length - 1) * 1 ≤ 10000 ^ (l.length - 1) * l.getD (l.length - 1) 0 := Int.mul_le_mul_of_nonneg_left (by omega) (by omega)
 omega

theorem dg_len {n k : Nat} : (dg n).length ≤ k ↔ (n : Int) < 10000 ^ k := by
 constructor
 · intro h
   have := vl_lt (Lm_dg n)
   rw [vl_dg] at this
   exact Int.lt_of_lt_of_le this (pw_le h)
 · intro h
   by_cases e : dg n = []
   · rw [e]; simp
   · have := (Cn_dg n).ge e
     rw [vl_dg] at this
     have := pw_lt (Int.lt_of_le_of_lt this h)
     have hl : 0 < (dg n).length := List.length_pos_iff.2 e
     omega

theorem dg_nil {n : Nat} : dg n = [] ↔ n = 0 := by
 constructor
 · intro h
   have := vl_dg n
   rw [h] at this
   simp only [vl] at this
   omega
 · rintro rfl; exact dg_zero

theorem dg_inj {a b : Nat} (h : dg a = dg b) : a = b := by
 have h1 := vl_dg a
 rw [h, vl_dg] at h1
 omega

theorem len_mono {a b : Nat} (h : a ≤ b) : (dg a).length ≤ (dg b).length := by
 refine dg_len.2 ?_
 have := vl_lt (Lm_dg b)
 rw [vl_dg] at this
 omega

def cm (x y : Int) : Int := if x < y then -1 else if x = y then 0 else 1

theorem cmp_take {a b : List Int} (ha : Lm a) (hb : Lm b) {k : Nat} (h1 : k < a.length) (h2 : k < b.length) (h : a.getD k 0 < b.getD k 0) : vl (a.take (k + 1)) < vl (b.take (k + 1)) := by
 rw [vl_take_succ h1, vl_take_succ h2]
 have q1 := vl_lt (ha.take k)
 rw [List.length_take, Nat.min_eq_left (by omega)] at q1
 have q2 := vl_nonneg (hb.take k)
 have q3 : (10000 : Int) ^ k * (a.getD k 0 + 1) ≤ 10000 ^ k * b.getD k 0 := Int.mul_le_mul_of_nonneg_left (by omega) (by have := pw_pos k; omega)
 rw [Int.mul_add, Int.mul_one] at q3
 omega

theorem Cn.lt_of_len {a b : List Int} (ha : Cn a) (hb : Cn b) (h : a.length < b.length) : vl a < vl b := by
 have h1 := vl_lt ha.1
 have h2 := hb.ge (by intro e; subst e; simp at h)
 have h3 : (10000 : Int) ^ a.length ≤ 10000 ^ (b.length - 1) := pw_le (by omega)
 omega

theorem Cn.of_take {l : List Int} (h : Lm l) {t : Nat} (ht : t ≤ l.length) (hl : t = 0 ∨ l.getD (t - 1) 0 ≠ 0) : Cn (l.take t) := by
 refine ⟨h.take t, fun hn => ?_⟩
 have hlen : (l.take t).length = t := by simp; omega
 rcases hl with rfl | hl
 · simp at hn
 · have ht0 : t ≠ 0 := by rintro rfl; simp at hn
   rw [hlen, List.getD_eq_getElem?_getD, List.getElem?_take, if_pos (by omega), ← List.getD_eq_getElem?_getD]
   exact hl

theorem tdv {x : Int} (h : 0 ≤ x) : Int.tdiv x 10000 = x / 10000 := Int.tdiv_eq_ediv_of_nonneg h

theorem tmd {x : Int} (h : 0 ≤ x) : Int.tmod x 10000 = x % 10000 := Int.tmod_eq_emod_of_nonneg h

theorem trim185 {α : Type} {n : Nat} {l : List Int} (hN : l.length ≤ 1099511627776) {k0 : List Int → Int → Option α} : ∀ (m k : Nat), k < m → k ≤ l.length →
  ∃ t, t ≤ k ∧ f203_L2 n m l (k : Int) k0 = k0 l (t : Int) ∧ vl (l.take t) = vl (l.take k) ∧ (t = 0 ∨ l.getD (t - 1) 0 ≠ 0)
 | 0, k, h, _ => by omega
 | m + 1, k, h, hk => by
  rw [f203_L2_s]
  unfold f203_L2B
  dsimp only
  by_cases h0 : k = 0
  · subst h0; exact ⟨0, Nat.le_refl _, rfl, rfl, .inl rfl⟩
  · rw [Bool.cond_decide, if_pos (by omega), W_id (by omega) (by omega), gd_pos (by simp; omega)]
    have e : ((k : Int) - 1).toNat = k - 1 := by omega
    rw [e, Bool.cond_eq_ite]
    by_cases hz : l.getD (k - 1) 0 = 0
    · rw [if_pos (by rw [hz]; rfl)]
      obtain ⟨t, h1, h2, h3, h4⟩ := trim185 (n := n) hN (k0 := k0) m (k - 1) (by omega) (by omega)
      refine ⟨t, by omega, ?_, ?_, h4⟩
      · rw [show (k : Int) - 1 = ((k - 1 : Nat) : Int) by omega]; exact h2
      · rw [h3]
        have := vl_take_succ (l := l) (k := k - 1) (by omega)
        rw [show k - 1 + 1 = k by omega, hz] at this
        rw [this]; simp
    · rw [if_neg (by simpa using hz)]
      exact ⟨k, Nat.le_refl _, rfl, rfl, .inr hz⟩

theorem f203_eq {n : Nat} {l : List Int} (hl : Lm l) (hN : l.length ≤ 1099511627776) (hn : l.length < n) : f203 n l = some (dg (vl l).toNat) := by
 unfold f203
 obtain ⟨t, h1, h2, h3, h4⟩ := trim185 (n := n) hN (k0 := fun z_1 z_2 => gd (decide (0 ≤ z_2) && decide (z_2 ≤ (z_1.length : Int))) (gd (decide ((0 + ((z_1.drop 0).take (z_2.toNat - 0)).length) * 8 ≤ 140737488355328)) (some ((z_1.drop 0).take (z_2.toNat - 0))))) n l.length hn (Nat.le_refl _)
 rw [h2, gd_pos (by simp; omega), gd_pos (by simp; omega)]
 simp only [List.drop_zero, Int.toNat_natCast, Nat.sub_zero]
 rw [List.take_length] at h3
 rw [← h3, dg_vl (Cn.of_take hl (by omega) h4)]

theorem trim186 {α : Type} {n : Nat} {l : List Int} (hN : l.length ≤ 1099511627776) {k0 : List Int → Int → Option α} : ∀ (m k : Nat), k < m → k ≤ l.length →
  ∃ t, t ≤ k ∧ f185_L2 n m l (k : Int) k0 = k0 l (t : Int) ∧ vl (l.take t) = vl (l.take k) ∧ (t = 0 ∨ l.getD (t - 1) 0 ≠ 0)
 | 0, k, h, _ => by omega
 | m + 1, k, h, hk => by
  rw [f185_L2_s]
  unfold f185_L2B
  dsimp only
  by_cases h0 : k = 0
  · subst h0; exact ⟨0, Nat.le_refl _, rfl, rfl, .inl rfl⟩
  · rw [Bool.cond_decide, if_pos (by omega), W_id (by omega) (by omega), gd_pos (by simp; omega)]
    have e : ((k : Int) - 1).toNat = k - 1 := by omega
    rw [e, Bool.cond_eq_ite]
    by_cases hz : l.getD (k - 1) 0 = 0
    · rw [if_pos (by rw [hz]; rfl)]
      obtain ⟨t, h1, h2, h3, h4⟩ := trim186 (n := n) hN (k0 := k0) m (k - 1) (by omega) (by omega)
      refine ⟨t, by omega, ?_, ?_, h4⟩
      · rw [show (k : Int) - 1 = ((k - 1 : Nat) : Int) by omega]; exact h2
      · rw [h3]
        have := vl_take_succ (l := l) (k := k - 1) (by omega)
        rw [show k - 1 + 1 = k by omega, hz] at this
        rw [this]; simp
    · rw [if_neg (by simpa using hz)]
      exact ⟨k, Nat.le_refl _, rfl, rfl, .inr hz⟩

theorem f185_eq {n : Nat} {l : List Int} (hl : Lm l) (hN : l.length ≤ 1099511627776) (hn : l.length < n) : f185 n l = some (dg (vl l).toNat) := by
 unfold f185
 obtain ⟨t, h1, h2, h3, h4⟩ := trim186 (n := n) hN (k0 := fun z_1 z_2 => gd (decide (0 ≤ z_2) && decide (z_2 ≤ (z_1.length : Int))) (some ((z_1.drop 0).take (z_2.toNat - 0)))) n l.length hn (Nat.le_refl _)
 rw [h2, gd_pos (by simp; omega)]
 simp only [List.drop_zero, Int.toNat_natCast, Nat.sub_zero]
 rw [List.take_length] at h3
 rw [← h3, dg_vl (Cn.of_take hl (by omega) h4)]

theorem small190 {α : Type} {n : Nat} {k0 : List Int → Option α} : ∀ (m x : Nat) (o : List Int), (x : Int) ≤ 9223372036854775807 → (dg x).length < m → o.length + (dg x).length ≤ 1099511627776 → f172_L2 n m (x : Int) o k0 = k0 (o ++ dg x)
 | 0, x, o, _, h, _ => by omega
 | m + 1, x, o, hx, h, hN => by
  rw [f172_L2_s]
  unfold f172_L2B
  dsimp only
  by_cases h0 : x = 0
  · subst h0; rw [dg_zero]; simp
  · rw [dg_pos h0] at h hN ⊢
    simp only [List.length_cons] at h hN
    rw [Bool.cond_decide, if_pos (by omega), gd_pos (by simp; omega), tdv (by omega), tmd (by omega), W_id (by omega) (by omega), show (x : Int) / 10000 = ((x / 10000 : Nat) : Int) by omega, show (x : Int) % 10000 = ((x % 10000 : Nat) : Int) by omega]
    rw [small190 (n := n) m (x / 10000) _ (by omega) (by omega) (by simp; omega)]
    simp

theorem f172_eq {n : Nat} {x : Nat} (hx : (x : Int) ≤ 9223372036854775807) (hn : 10 < n) : f172 n (x : Int) = some (dg x) := by
 have hl : (dg x).length ≤ 5 := dg_len.2 (by rw [show (10000 : Int) ^ 5 = 100000000000000000000 from rfl]; omega)
 unfold f172
 rw [small190 (n := n) n x [] hx (by omega) (by simp; omega)]
 simp

theorem small163 {α : Type} {n : Nat} {k0 : List Int → Option α} : ∀ (m x : Nat) (o : List Int), (x : Int) ≤ 9223372036854775807 → (dg x).length < m → o.length + (dg x).length ≤ 1099511627776 → f160_L2 n m (x : Int) o k0 = k0 (o ++ dg x)
 | 0, x, o, _, h, _ => by omega
 | m + 1, x, o, hx, h, hN => by
  rw [f160_L2_s]
  unfold f160_L2B
  dsimp only
  by_cases h0 : x = 0
  · subst h0; rw [dg_zero]; simp
  · rw [dg_pos h0] at h hN ⊢
    simp only [List.length_cons] at h hN
    rw [Bool.cond_decide, if_pos (by omega), gd_pos (by simp; omega), tdv (by omega), tmd (by omega), W_id (by omega) (by omega), show (x : Int) / 10000 = ((x / 10000 : Nat) : Int) by omega, show (x : Int) % 10000 = ((x % 10000 : Nat) : Int) by omega]
    rw [small163 (n := n) m (x / 10000) _ (by omega) (by omega) (by simp; omega)]
    simp

theorem f160_eq {n : Nat} {x : Nat} (hx : (x : Int) ≤ 9223372036854775807) (hn : 10 < n) : f160 n (x : Int) = some (dg x) := by
 have hl : (dg x).length ≤ 5 := dg_len.2 (by rw [show (10000 : Int) ^ 5 = 100000000000000000000 from rfl]; omega)
 unfold f160
 rw [small163 (n := n) n x [] hx (by omega) (by simp; omega)]
 simp

theorem f147_eq {n : Nat} {b : Bool} : f147 n b = some (if b = true then 1 else 0) := by cases b <;> rfl

theorem cm_lt {x y : Int} (h : x < y) : cm x y = -1 := by unfold cm; rw [if_pos h]

theorem cm_gt {x y : Int} (h : y < x) : cm x y = 1 := by unfold cm; rw [if_neg (by omega), if_neg (by omega)]

theorem cm_eq {x y : Int} (h : x = y) : cm x y = 0 := by unfold cm; rw [if_neg (by omega), if_pos h]

theorem cm_add (x y z : Int) : cm (x + z) (y + z) = cm x y := by
 rcases Int.lt_trichotomy x y with h | h | h
 · rw [cm_lt h, cm_lt (by omega)]
 · rw [cm_eq h, cm_eq (by omega)]
 · rw [cm_gt h, cm_gt (by omega)]

theorem cmp127 {α : Type} {n : Nat} {a b : List Int} (ha : Lm a) (hb : Lm b) (hab : a.length = b.length) (hN : a.length ≤ 1099511627776) {k0 : Int → Option α} {k1 : Unit → Option α} : ∀ (m k : Nat), k < m → k ≤ a.length →
  f187_L4 n m a b ((k : Int) - 1) k0 k1 = if vl (a.take k) = vl (b.take k) then k1 () else k0 (cm (vl (a.take k)) (vl (b.take k)))
 | 0, k, h, _ => by omega
 | m + 1, k, h, hk => by
  rw [f187_L4_s]
  unfold f187_L4B
  dsimp only
  by_cases h0 : k = 0
  · subst h0
    simp
  · rw [Bool.cond_decide, if_pos (by omega), gd_pos (by simp; omega), gd_pos (by simp; omega)]
    have e : ((k : Int) - 1).toNat = k - 1 := by omega
    rw [e, Bool.cond_eq_ite]
    have ta := vl_take_succ (l := a) (k := k - 1) (by omega)
    have tb := vl_take_succ (l := b) (k := k - 1) (by omega)
    rw [show k - 1 + 1 = k by omega] at ta tb
    by_cases hz : a.getD (k - 1) 0 = b.getD (k - 1) 0
    · rw [if_neg (by simpa using hz), W_id (by omega) (by omega)]
      rw [show (k : Int) - 1 - 1 = ((k - 1 : Nat) : Int) - 1 by omega, cmp127 (n := n) ha hb hab hN m (k - 1) (by omega) (by omega)]
      rw [ta, tb, hz]
      by_cases h1 : vl (a.take (k - 1)) = vl (b.take (k - 1))
      · rw [if_pos h1, if_pos (by omega)]
      · rw [if_neg h1, if_neg (by omega)]
        rw [cm_add]
    · rw [if_pos (by simpa using hz), gd_pos (by simp; omega), gd_pos (by simp; omega), f147_eq, ob_some]
      rcases Int.lt_or_gt_of_ne hz with h1 | h1
      · have := cmp_take ha hb (k := k - 1) (by omega) (by omega) h1
        rw [show k - 1 + 1 = k by omega] at this
        rw [show (if vl (a.take k) = vl (b.take k) then k1 () else k0 (cm (vl (a.take k)) (vl (b.take k)))) = k0 (-1) by rw [if_neg (by omega), cm_lt this], if_neg (by rw [decide_eq_true_eq]; omega)]
        rfl
      · have := cmp_take hb ha (k := k - 1) (by omega) (by omega) h1
        rw [show k - 1 + 1 = k by omega] at this
        rw [show (if vl (a.take k) = vl (b.take k) then k1 () else k0 (cm (vl (a.take k)) (vl (b.take k)))) = k0 1 by rw [if_neg (by omega), cm_gt this], if_pos (by rw [decide_eq_true_eq]; omega)]
        rfl

theorem f187_eq {n : Nat} {a b : List Int} (ha : Cn a) (hb : Cn b) (hN : a.length ≤ 1099511627776) (hn : a.length < n) : f187 n a b = some (cm (vl a) (vl b)) := by
 unfold f187
 rw [Bool.cond_eq_ite]
 by_cases h : a.length = b.length
 · rw [if_neg (by simp [h]), W_id (by omega) (by omega), cmp127 (n := n) ha.1 hb.1 h hN n a.length hn (Nat.le_refl _)]
   rw [List.take_length, h, List.take_length]
   by_cases h1 : vl a = vl b
   · rw [if_pos h1, cm_eq h1]
   · rw [if_neg h1]
 · rw [if_pos (by simp; omega), f147_eq, ob_some]
   rcases Nat.lt_or_gt_of_ne h with h1 | h1
   · rw [cm_lt (ha.lt_of_len hb h1), if_neg (by simp; omega)]; rfl
   · rw [cm_gt (hb.lt_of_len ha h1), if_pos (by simp; omega)]; rfl

theorem cmp136 {α : Type} {n : Nat} {a b : List Int} (ha : Lm a) (hb : Lm b) (hab : a.length = b.length) {k0 k1 : Int → Option α} : ∀ (k : Nat), k ≤ a.length →
  f170_L6R n a k a b 0 k0 k1 = if vl (a.take k) = vl (b.take k) then k0 0 else k1 (cm (vl (a.take k)) (vl (b.take k)))
 | 0, _ => by rw [f170_L6_0]; simp
 | k + 1, hk => by
  rw [f170_L6_s]
  unfold f170_L6B
  dsimp only
  rw [gd_pos (by simp; omega), Bool.cond_eq_ite]
  have ta := vl_take_succ (l := a) (k := k) (by omega)
  have tb := vl_take_succ (l := b) (k := k) (by omega)
  simp only [Int.toNat_natCast]
  by_cases hz : a.getD k 0 = b.getD k 0
  · rw [if_neg (by simpa using hz), gd_pos (by simp), cmp136 ha hb hab k (by omega)]
    rw [ta, tb, hz]
    by_cases h1 : vl (a.take k) = vl (b.take k)
    · rw [if_pos h1, if_pos (by omega)]
    · rw [if_neg h1, if_neg (by omega)]
      rw [cm_add]
  · rw [if_pos (by simpa using hz), gd_pos (by simp; omega), Bool.cond_decide]
    rcases Int.lt_or_gt_of_ne hz with h1 | h1
    · have := cmp_take ha hb (k := k) (by omega) (by omega) h1
      rw [show (if vl (a.take (k + 1)) = vl (b.take (k + 1)) then k0 0 else k1 (cm (vl (a.take (k + 1))) (vl (b.take (k + 1))))) = k1 (-1) by rw [if_neg (by omega), cm_lt this], if_pos h1]
    · have := cmp_take hb ha (k := k) (by omega) (by omega) h1
      rw [show (if vl (a.take (k + 1)) = vl (b.take (k + 1)) then k0 0 else k1 (cm (vl (a.take (k + 1))) (vl (b.take (k + 1))))) = k1 1 by rw [if_neg (by omega), cm_gt this], if_neg (by omega)]

theorem f170_eq {n : Nat} {a b : List Int} (ha : Cn a) (hb : Cn b) (hN : a.length ≤ 1099511627776) : f170 n a b = some (cm (vl a) (vl b)) := by
 unfold f170
 rw [Bool.cond_eq_ite]
 by_cases h : a.length = b.length
 · rw [if_neg (by simp [h])]
   rw [show f201 n a = some a from rfl, ob_some, f170_L6_e, gd_pos (by simp; omega), cmp136 ha.1 hb.1 h a.length (Nat.le_refl _)]
   rw [List.take_length, h, List.take_length]
   by_cases h1 : vl a = vl b
   · rw [if_pos h1, cm_eq h1]
   · rw [if_neg h1]
 · rw [if_pos (by simp; omega), Bool.cond_decide]
   rcases Nat.lt_or_gt_of_ne h with h1 | h1
   · rw [cm_lt (ha.lt_of_len hb h1), if_pos (by omega)]
   · rw [cm_gt (hb.lt_of_len ha h1), if_neg (by omega)]

theorem vl_take_suc (l : List Int) (k : Nat) : vl (l.take (k + 1)) = vl (l.take k) + 10000 ^ k * l.getD k 0 := by
 rcases Nat.lt_or_ge k l.length with h | h
 · exact vl_take_succ h
 · rw [List.take_of_length_le (by omega), List.take_of_length_le (by omega), List.getD_eq_getElem?_getD, List.getElem?_eq_none h]
   simp

theorem getD_out {l : List Int} {k : Nat} (h : l.length ≤ k) : l.getD k 0 = 0 := by
 rw [List.getD_eq_getElem?_getD, List.getElem?_eq_none h]; rfl

theorem Cn.of_ge {l : List Int} (h : Lm l) (hg : l ≠ [] → (10000 : Int) ^ (l.length - 1) ≤ vl l) : Cn l := by
 refine ⟨h, fun hn e => ?_⟩
 have hl : 0 < l.length := List.length_pos_iff.2 hn
 have h1 := vl_take_suc l (l.length - 1)
 rw [show l.length - 1 + 1 = l.length by omega, List.take_length, e] at h1
 have h2 := vl_lt (h.take (l.length - 1))
 rw [List.length_take, Nat.min_eq_left (by omega)] at h2
 have := hg hn
 omega

theorem take_le (l : List Int) {k : Nat} (h : l.length ≤ k) : l.take k = l := List.take_of_length_le h

theorem add188 {α : Type} {n : Nat} {a b : List Int} (ha : Cn a) (hb : Cn b) (hN : a.length ≤ 1099511627776) (hNb : b.length ≤ 1099511627776) {k0 : List Int → Option α} : ∀ (m i : Nat) (c : Int) (o : List Int), o.length = i → Lm o → 0 ≤ c → c ≤ 1 →
  vl o + 10000 ^ i * c = vl (a.take i) + vl (b.take i) → (i ≤ max a.length b.length ∨ (i = max a.length b.length + 1 ∧ c = 0 ∧ o.getD (i - 1) 0 ≠ 0)) → max a.length b.length + 2 ≤ i + m →
  f186_L4 n m a b c (i : Int) o k0 = k0 (dg (vl a + vl b).toNat)
 | 0, i, c, o, ho, hlo, hc0, hc1, hv, hq, hm => by omega
 | m + 1, i, c, o, ho, hlo, hc0, hc1, hv, hq, hm => by
  rw [f186_L4_s]
  unfold f186_L4B
  dsimp only
  have fin : a.length ≤ i → b.length ≤ i → c = 0 → o = dg (vl a + vl b).toNat := fun h1 h2 h3 => by
   rw [take_le a h1, take_le b h2, h3] at hv
   have hv' : vl o = vl a + vl b := by simpa using hv
   have : Cn o := Cn.of_ge hlo fun hn => by
    have hl : 0 < o.length := List.length_pos_iff.2 hn
    rcases hq with hq | ⟨hq1, _, hq3⟩
    · have hmx : i = max a.length b.length := by omega
      rw [ho, hv']
      rcases Nat.le_total a.length b.length with hab | hab
      · have h4 := hb.ge (List.length_pos_iff.1 (by omega))
        have h5 := vl_nonneg ha.1
        rw [show i - 1 = b.length - 1 by omega]; omega
      · have h4 := ha.ge (List.length_pos_iff.1 (by omega))
        have h5 := vl_nonneg hb.1
        rw [show i - 1 = a.length - 1 by omega]; omega
    · have h1 := vl_take_suc o (o.length - 1)
      rw [show o.length - 1 + 1 = o.length by omega, List.take_length] at h1
      have h2 := vl_nonneg (hlo.take (o.length - 1))
      have h3 := hlo.get (o.length - 1)
      rw [← ho] at hq3
      have h4 := pw_pos (o.length - 1)
      have h5 : (10000 : Int) ^ (o.length - 1) * 1 ≤ 10000 ^ (o.length - 1) * o.getD (o.length - 1) 0 := Int.mul_le_mul_of_nonneg_left (by omega) (by omega)
      omega
   rw [← hv', dg_vl this]
  have go : ∀ (y : Int), y = c + a.getD i 0 + b.getD i 0 → (i < max a.length b.length ∨ (i = max a.length b.length ∧ 0 < c)) → f186_L4 n m a b (W (Int.tdiv y 10000)) (W ((i : Int) + 1)) (o ++ [Int.tmod y 10000]) k0 = k0 (dg (vl a + vl b).toNat) := by
   intro y hy hi
   have h1 := ha.1.get i
   have h2 := hb.1.get i
   rw [tdv (by omega), tmd (by omega), W_id (by omega) (by omega), W_id (by omega) (by omega)]
   have ta := vl_take_suc a i
   have tb := vl_take_suc b i
   have hyy : y = 10000 * (y / 10000) + y % 10000 := by omega
   refine add188 (n := n) ha hb hN hNb m (i + 1) _ _ (by simp [ho]) (hlo.app (Lm.cons (by omega) Lm.nil)) (by omega) (by omega) ?_ ?_ (by omega)
   · rw [vl_snoc, ho, ta, tb, pw_succ]
     generalize y / 10000 = q at *
     generalize y % 10000 = r at *
     generalize (10000 : Int) ^ i = P at *
     grind
   · rcases hi with hi | ⟨hi, hc⟩
     · exact .inl (by omega)
     · right
       have e1 : a.getD i 0 = 0 := getD_out (by omega)
       have e2 : b.getD i 0 = 0 := getD_out (by omega)
       have e3 : y = 1 := by omega
       subst e3
       refine ⟨by omega, by rfl, ?_⟩
       rw [Nat.add_sub_cancel, ← ho, List.getD_eq_getElem?_getD]
       simp
  have hcases : (i < a.length ∨ i < b.length ∨ 0 < c) → (i < max a.length b.length ∨ (i = max a.length b.length ∧ 0 < c)) := fun h => by
   rcases h with h | h | h
   · exact .inl (by omega)
   · exact .inl (by omega)
   · rcases hq with hq | ⟨_, h0, _⟩
     · omega
     · omega
  have ho2 : (decide ((o.length + 1) * 8 ≤ 140737488355328)) = true := by
   rw [decide_eq_true_eq]
   rcases hq with hq | ⟨hq, _⟩ <;> omega
  have h1 := ha.1.get i
  have h2 := hb.1.get i
  by_cases hA : i < a.length
  · have dA : decide ((i : Int) < (a.length : Int)) = true := by rw [decide_eq_true_eq]; omega
    simp only [dA, cond_true, Int.toNat_natCast]
    rw [gd_pos (by simp; try omega), W_id (x := c + a.getD i 0) (by omega) (by omega)]
    by_cases hB : i < b.length
    · have dB : decide ((i : Int) < (b.length : Int)) = true := by rw [decide_eq_true_eq]; omega
      simp only [dB, cond_true]
      rw [gd_pos (by simp; try omega), gd_pos ho2, W_id (x := c + a.getD i 0 + b.getD i 0) (by omega) (by omega)]
      exact go _ rfl (hcases (.inl hA))
    · have dB : decide ((i : Int) < (b.length : Int)) = false := by rw [decide_eq_false_iff_not]; omega
      simp only [dB, cond_false]
      rw [gd_pos ho2]
      exact go _ (by rw [getD_out (l := b) (by omega)]; omega) (hcases (.inl hA))
  · have dA : decide ((i : Int) < (a.length : Int)) = false := by rw [decide_eq_false_iff_not]; omega
    simp only [dA, cond_false, Int.toNat_natCast]
    by_cases hB : i < b.length
    · have dB : decide ((i : Int) < (b.length : Int)) = true := by rw [decide_eq_true_eq]; omega
      simp only [dB, cond_true]
      rw [gd_pos (by simp; try omega), gd_pos ho2, W_id (x := c + b.getD i 0) (by omega) (by omega)]
      exact go _ (by rw [getD_out (l := a) (by omega)]; omega) (hcases (.inr (.inl hB)))
    · have dB : decide ((i : Int) < (b.length : Int)) = false := by rw [decide_eq_false_iff_not]; omega
      simp only [dB, cond_false]
      rw [Bool.cond_decide]
      by_cases hc : 0 < c
      · rw [if_pos (by omega), gd_pos ho2]
        exact go _ (by rw [getD_out (l := a) (by omega), getD_out (l := b) (by omega)]; omega) (hcases (.inr (.inr hc)))
      · rw [if_neg (by omega), fin (by omega) (by omega) (by omega)]

theorem f186_eq {n : Nat} {a b : List Int} (ha : Cn a) (hb : Cn b) (hN : a.length ≤ 1099511627776) (hNb : b.length ≤ 1099511627776) (hn : max a.length b.length + 2 ≤ n) : f186 n a b = some (dg (vl a + vl b).toNat) := by
 unfold f186
 have := add188 (n := n) ha hb hN hNb (k0 := fun z_6 => some z_6) n 0 0 [] rfl Lm.nil (by omega) (by omega) (by simp [vl]) (.inl (by omega)) (by omega)
 exact this

theorem sub189 {α : Type} {n : Nat} {a b : List Int} (ha : Lm a) (hb : Lm b) (hN : a.length ≤ 1099511627776) {k0 : List Int → Option α} : ∀ (m i : Nat) (c : Int) (o : List Int), o.length = i → Lm o → 0 ≤ c → c ≤ 1 → i ≤ a.length →
  vl o - 10000 ^ i * c = vl (a.take i) - vl (b.take i) → a.length + 1 ≤ i + m →
  ∃ o' c', f188_L4 n m a b c (i : Int) o k0 = k0 o' ∧ o'.length = a.length ∧ Lm o' ∧ 0 ≤ c' ∧ c' ≤ 1 ∧ vl o' - 10000 ^ a.length * c' = vl a - vl (b.take a.length)
 | 0, i, c, o, ho, hlo, hc0, hc1, hi, hv, hm => by omega
 | m + 1, i, c, o, ho, hlo, hc0, hc1, hi, hv, hm => by
  rw [f188_L4_s]
  unfold f188_L4B
  dsimp only
  by_cases hA : i < a.length
  · rw [Bool.cond_decide, if_pos (by omega), gd_pos (by simp; try omega)]
    have h1 := ha.get i
    have h2 := hb.get i
    have ta := vl_take_suc a i
    have tb := vl_take_suc b i
    have ho2 : (decide ((o.length + 1) * 8 ≤ 140737488355328)) = true := by
     rw [decide_eq_true_eq]; omega
    have go : ∀ y : Int, y = a.getD i 0 - c - b.getD i 0 → ∃ o' c', f188_L4 n m a b (if y < 0 then 1 else 0) (W ((i : Int) + 1)) (o ++ [W (y + W ((if y < 0 then 1 else 0) * 10000))]) k0 = k0 o' ∧ o'.length = a.length ∧ Lm o' ∧ 0 ≤ c' ∧ c' ≤ 1 ∧ vl o' - 10000 ^ a.length * c' = vl a - vl (b.take a.length) := by
     intro y hy
     obtain ⟨d, hd⟩ : ∃ d : Int, d = if y < 0 then 1 else 0 := ⟨_, rfl⟩
     have hd1 : 0 ≤ d ∧ d ≤ 1 ∧ 0 ≤ y + d * 10000 ∧ y + d * 10000 < 10000 := by
      rw [hd]
      split <;> omega
     rw [← hd, W_id (x := d * 10000) (by omega) (by omega), W_id (x := y + d * 10000) (by omega) (by omega), W_id (x := (i : Int) + 1) (by omega) (by omega)]
     refine sub189 (n := n) ha hb hN m (i + 1) d _ (by simp [ho]) (hlo.app (Lm.cons (by omega) Lm.nil)) (by omega) (by omega) (by omega) ?_ (by omega)
     rw [vl_snoc, ho, ta, tb, pw_succ]
     generalize (10000 : Int) ^ i = P at *
     grind
    simp only [Int.toNat_natCast]
    by_cases hB : i < b.length
    · have dB : decide ((i : Int) < (b.length : Int)) = true := by rw [decide_eq_true_eq]; omega
      simp only [dB, cond_true]
      rw [gd_pos (by simp; try omega)]
      simp only [W_id (x := a.getD i 0 - c) (by omega) (by omega), W_id (x := a.getD i 0 - c - b.getD i 0) (by omega) (by omega)]
      rw [f147_eq, ob_some, gd_pos ho2]
      simp only [decide_eq_true_eq]
      exact go _ rfl
    · have dB : decide ((i : Int) < (b.length : Int)) = false := by rw [decide_eq_false_iff_not]; omega
      simp only [dB, cond_false]
      simp only [W_id (x := a.getD i 0 - c) (by omega) (by omega)]
      rw [f147_eq, ob_some, gd_pos ho2]
      simp only [decide_eq_true_eq]
      exact go _ (by rw [getD_out (l := b) (by omega)]; omega)
  · rw [Bool.cond_decide, if_neg (by omega)]
    obtain rfl : i = a.length := by omega
    rw [List.take_length] at hv
    exact ⟨o, c, rfl, ho, hlo, hc0, hc1, hv⟩

theorem f188_eq {n : Nat} {a b : List Int} (ha : Cn a) (hb : Cn b) (hN : a.length ≤ 1099511627776) (hn : a.length + 1 ≤ n) (hab : vl b ≤ vl a) : f188 n a b = some (dg (vl a - vl b).toNat) := by
 have hl : b.length ≤ a.length := by
  rcases Nat.lt_or_ge a.length b.length with h | h
  · have := ha.lt_of_len hb h; omega
  · exact h
 unfold f188
 obtain ⟨o, c, h1, h2, h3, h4, h5, h6⟩ := sub189 (n := n) ha.1 hb.1 hN (k0 := fun z_4 => ob (f203 n z_4) fun r_5 => some r_5) n 0 0 [] rfl Lm.nil (by omega) (by omega) (by omega) (by simp [vl]) (by omega)
 have h1 : f188_L4 n n a b 0 0 [] (fun z_4 => ob (f203 n z_4) fun r_5 => some r_5) = _ := h1
 rw [h1, f203_eq h3 (by omega) (by omega), ob_some]
 rw [take_le b hl] at h6
 have h7 := vl_lt h3
 rw [h2] at h7
 have : c = 0 := by
  rcases Int.lt_or_eq_of_le h4 with h | h
  · have : c = 1 := by omega
    rw [this] at h6
    omega
  · exact h.symm
 rw [this] at h6
 rw [show vl o = vl a - vl b by simpa using h6]

theorem vl_drop {l : List Int} {k : Nat} (h : k < l.length) : vl (l.drop k) = l.getD k 0 + 10000 * vl (l.drop (k + 1)) := by
 rw [List.drop_eq_getElem_cons h, vl, List.getD_eq_getElem?_getD, List.getElem?_eq_getElem h]; rfl

theorem mul_step {P o ok y q r c ai bk v' T : Int} (h : o + P * (c + ai * (bk + 10000 * v')) = T) (hy : y = ok + c + ai * bk) (hq : y = 10000 * q + r) : o + P * (r - ok) + 10000 * P * (q + ai * v') = T := by
 grind

theorem limb_mul {x y : Int} (hx : 0 ≤ x ∧ x < 10000) (hy : 0 ≤ y ∧ y < 10000) : 0 ≤ x * y ∧ x * y ≤ 99980001 := by
 have h1 := Int.mul_nonneg hx.1 hy.1
 have h2 : x * y ≤ 9999 * y := Int.mul_le_mul_of_nonneg_right (by omega) hy.1
 omega

theorem mul154 {α : Type} {n : Nat} {a b : List Int} (ha : Lm a) (hb : Lm b) (i : Nat) (hi : i < a.length) {S : Nat} (hS : a.length + b.length < S) (hN : S ≤ 1099511627776) {T : Int} (hT : T < 10000 ^ S) {k0 : List Int → List Int → Int → List Int → Option α} :
  ∀ (m k : Nat) (c : Int) (o : List Int), Lm o → o.length = S → 0 ≤ c → c < 10000 → i + k ≤ S → vl o + 10000 ^ (i + k) * (c + a.getD i 0 * vl (b.drop k)) = T → S + 1 ≤ i + k + m →
  ∃ o', Lm o' ∧ o'.length = S ∧ vl o' = T ∧ f178_L7 n m a b (i : Int) c (k : Int) o k0 = k0 a b (i : Int) o'
 | 0, k, c, o, hlo, ho, hc0, hc1, hik, hv, hm => by omega
 | m + 1, k, c, o, hlo, ho, hc0, hc1, hik, hv, hm => by
  rw [f178_L7_s]
  unfold f178_L7B
  dsimp only
  have h1 := ha.get i
  have h2 := hb.get k
  have h3 := hlo.get (i + k)
  have h4 := limb_mul h1 h2
  have hvo := vl_nonneg hlo
  have go : ∀ y : Int, i + k < S → (k < b.length ∨ b.length ≤ k) → y = o.getD (i + k) 0 + c + a.getD i 0 * b.getD k 0 →
    ∃ o', Lm o' ∧ o'.length = S ∧ vl o' = T ∧ f178_L7 n m a b (i : Int) (W (Int.tdiv y 10000)) (W ((k : Int) + 1)) (o.set (i + k) (Int.tmod y 10000)) k0 = k0 a b (i : Int) o' := by
   intro y hlt hk hy
   rw [tdv (by omega), tmd (by omega), W_id (by omega) (by omega), W_id (by omega) (by omega)]
   refine mul154 (n := n) ha hb i hi hS hN hT m (k + 1) _ _ (hlo.set _ (by omega)) (by simpa using ho) (by omega) (by omega) (by omega) ?_ (by omega)
   rw [vl_set _ (by omega), show i + (k + 1) = (i + k) + 1 by omega, pw_succ]
   have hyy : y = 10000 * (y / 10000) + y % 10000 := by omega
   refine mul_step (bk := b.getD k 0) ?_ hy hyy
   rcases hk with hk | hk
   · rw [← vl_drop hk]; exact hv
   · rw [List.drop_of_length_le (by omega)] at hv ⊢
     rw [getD_out hk]
     simpa [vl] using hv
  by_cases hB : k < b.length
  · have dB : decide ((k : Int) < (b.length : Int)) = true := by rw [decide_eq_true_eq]; omega
    simp only [dB, cond_true, Int.toNat_natCast]
    rw [W_id (x := (i : Int) + (k : Int)) (by omega) (by omega)]
    have e : ((i : Int) + (k : Int)).toNat = i + k := by omega
    simp only [e]
    rw [gd_pos (by simp; try omega), gd_pos (by simp; try omega), gd_pos (by simp; try omega), gd_pos (by simp; try omega), W_id (x := a.getD i 0 * b.getD k 0) (by omega) (by omega), W_id (x := o.getD (i + k) 0 + c) (by omega) (by omega), W_id (x := o.getD (i + k) 0 + c + a.getD i 0 * b.getD k 0) (by omega) (by omega), gd_pos (by simp; try omega), gd_pos (by simp; try omega)]
    exact go _ (by omega) (.inl hB) rfl
  · have dB : decide ((k : Int) < (b.length : Int)) = false := by rw [decide_eq_false_iff_not]; omega
    simp only [dB, cond_false]
    rw [Bool.cond_decide]
    rw [List.drop_of_length_le (by omega)] at hv
    by_cases hc : 0 < c
    · have hlt : i + k < S := by
       refine pw_lt ?_
       have h5 : (10000 : Int) ^ (i + k) * 1 ≤ 10000 ^ (i + k) * c := Int.mul_le_mul_of_nonneg_left (by omega) (by have := pw_pos (i + k); omega)
       simp only [vl, Int.mul_zero, Int.add_zero] at hv
       omega
      rw [if_pos (by omega), W_id (x := (i : Int) + (k : Int)) (by omega) (by omega)]
      have e : ((i : Int) + (k : Int)).toNat = i + k := by omega
      simp only [e]
      rw [gd_pos (by simp; try omega), gd_pos (by simp; try omega), gd_pos (by simp; try omega), gd_pos (by simp; try omega), W_id (x := o.getD (i + k) 0 + c) (by omega) (by omega)]
      exact go _ hlt (.inr (by omega)) (by rw [getD_out (l := b) (by omega)]; omega)
    · rw [if_neg (by omega)]
      obtain rfl : c = 0 := by omega
      exact ⟨o, hlo, ho, by simpa [vl] using hv, rfl⟩

theorem mul_lt {a b : List Int} (ha : Lm a) (hb : Lm b) {i S : Nat} (hS : i + b.length ≤ S) : vl (a.take i) * vl b < 10000 ^ S := by
 have h1 := vl_lt (ha.take i)
 have h2 := vl_lt hb
 have h3 := vl_nonneg (ha.take i)
 have h4 := vl_nonneg hb
 have h5 : (10000 : Int) ^ (a.take i).length ≤ 10000 ^ i := pw_le (by simp; omega)
 have h6 := pw_pos i
 have h7 := pw_pos b.length
 have h8 : vl (a.take i) * vl b ≤ vl (a.take i) * 10000 ^ b.length := Int.mul_le_mul_of_nonneg_left (by omega) h3
 have h9 : vl (a.take i) * 10000 ^ b.length < 10000 ^ i * 10000 ^ b.length := Int.mul_lt_mul_of_pos_right (by omega) h7
 rw [← Int.pow_add] at h9
 have h10 : (10000 : Int) ^ (i + b.length) ≤ 10000 ^ S := pw_le hS
 omega

theorem mulo154 {α : Type} {n : Nat} {a b : List Int} (ha : Lm a) (hb : Lm b) {S : Nat} (hS : a.length + b.length < S) (hN : S ≤ 1099511627776) (hn : S + 1 ≤ n) {k0 : List Int → Option α} :
  ∀ (m i : Nat) (o : List Int), Lm o → o.length = S → i ≤ a.length → vl o = vl (a.take i) * vl b → a.length + 1 ≤ i + m →
  ∃ o', Lm o' ∧ o'.length = S ∧ vl o' = vl a * vl b ∧ f178_L3 n m a b (i : Int) o k0 = k0 o'
 | 0, i, o, hlo, ho, hi, hv, hm => by omega
 | m + 1, i, o, hlo, ho, hi, hv, hm => by
  rw [f178_L3_s]
  unfold f178_L3B
  dsimp only
  rw [Bool.cond_decide]
  by_cases hA : i < a.length
  · rw [if_pos (by omega)]
    have hT : vl (a.take (i + 1)) * vl b < 10000 ^ S := mul_lt ha hb (by omega)
    obtain ⟨o', q1, q2, q3, q4⟩ := mul154 (n := n) ha hb i hA hS hN hT (k0 := fun z_1 z_2 z_3 z_4 => f178_L3 n m z_1 z_2 (W (z_3 + 1)) z_4 k0) n 0 0 o hlo ho (by omega) (by omega) (by omega) (by
     rw [hv, vl_take_suc, List.drop_zero, Nat.add_zero]
     generalize (10000 : Int) ^ i = P
     grind) (by omega)
    have q4 : f178_L7 n n a b (i : Int) 0 0 o _ = _ := q4
    rw [q4, W_id (by omega) (by omega)]
    exact mulo154 (n := n) ha hb hS hN hn m (i + 1) o' q1 q2 (by omega) q3 (by omega)
  · rw [if_neg (by omega)]
    obtain rfl : i = a.length := by omega
    rw [List.take_length] at hv
    exact ⟨o, hlo, ho, hv, rfl⟩

theorem f178_eq {n : Nat} {a b : List Int} (ha : Lm a) (hb : Lm b) (hN : a.length + b.length ≤ 1099511627770) (hn : a.length + b.length + 2 ≤ n) : f178 n a b = some (dg (vl a * vl b).toNat) := by
 unfold f178
 rw [W_id (x := (a.length : Int) + (b.length : Int)) (by omega) (by omega), W_id (x := (a.length : Int) + (b.length : Int) + 1) (by omega) (by omega), gd_pos (by simp; try omega)]
 have e : ((a.length : Int) + (b.length : Int) + 1).toNat = a.length + b.length + 1 := by omega
 rw [e]
 obtain ⟨o, q1, q2, q3, q4⟩ := mulo154 (n := n) ha hb (S := a.length + b.length + 1) (by omega) (by omega) (by omega) (k0 := fun z_5 => ob (f203 n z_5) fun r_6 => some r_6) n 0 (List.replicate (a.length + b.length + 1) 0) (Lm.rep _) (by simp) (by omega) (by rw [vl_rep]; simp [vl]) (by omega)
 have q4 : f178_L3 n n a b 0 _ _ = _ := q4
 rw [q4, f203_eq q1 (by omega) (by omega), ob_some, q3]

theorem mul149 {α : Type} {n : Nat} {a b : List Int} (ha : Lm a) (hb : Lm b) (i : Nat) (hi : i < a.length) {S : Nat} (hS : a.length + b.length ≤ S) (hN : S ≤ 1099511627776) {T : Int} (hT : T < 10000 ^ S) (q1 : List Int) (q2 q3 : Int) {k0 : List Int → List Int → Int → Int → List Int → Option α} :
  ∀ (m k : Nat) (c : Int) (o : List Int), Lm o → o.length = S → 0 ≤ c → c < 10000 → i + k ≤ S → vl o + 10000 ^ (i + k) * (c + a.getD i 0 * vl (b.drop k)) = T → S + 1 ≤ i + k + m →
  ∃ o', Lm o' ∧ o'.length = S ∧ vl o' = T ∧ f143_L7 n m b (i : Int) (a.getD i 0) c (k : Int) q1 q2 q3 o k0 = k0 b q1 q2 q3 o'
 | 0, k, c, o, hlo, ho, hc0, hc1, hik, hv, hm => by omega
 | m + 1, k, c, o, hlo, ho, hc0, hc1, hik, hv, hm => by
  rw [f143_L7_s]
  unfold f143_L7B
  dsimp only
  have h1 := ha.get i
  have h2 := hb.get k
  have h3 := hlo.get (i + k)
  have h4 := limb_mul h1 h2
  have hvo := vl_nonneg hlo
  have go : ∀ y : Int, i + k < S → (k < b.length ∨ b.length ≤ k) → y = o.getD (i + k) 0 + c + a.getD i 0 * b.getD k 0 →
    ∃ o', Lm o' ∧ o'.length = S ∧ vl o' = T ∧ f143_L7 n m b (i : Int) (a.getD i 0) (W (Int.tdiv y 10000)) (W ((k : Int) + 1)) q1 q2 q3 (o.set (i + k) (Int.tmod y 10000)) k0 = k0 b q1 q2 q3 o' := by
   intro y hlt hk hy
   rw [tdv (by omega), tmd (by omega), W_id (by omega) (by omega), W_id (by omega) (by omega)]
   refine mul149 (n := n) ha hb i hi hS hN hT q1 q2 q3 m (k + 1) _ _ (hlo.set _ (by omega)) (by simpa using ho) (by omega) (by omega) (by omega) ?_ (by omega)
   rw [vl_set _ (by omega), show i + (k + 1) = (i + k) + 1 by omega, pw_succ]
   have hyy : y = 10000 * (y / 10000) + y % 10000 := by omega
   refine mul_step (bk := b.getD k 0) ?_ hy hyy
   rcases hk with hk | hk
   · rw [← vl_drop hk]; exact hv
   · rw [List.drop_of_length_le (by omega)] at hv ⊢
     rw [getD_out hk]
     simpa [vl] using hv
  by_cases hB : k < b.length
  · have dB : decide ((k : Int) < (b.length : Int)) = true := by rw [decide_eq_true_eq]; omega
    simp only [dB, cond_true, Int.toNat_natCast]
    rw [W_id (x := (i : Int) + (k : Int)) (by omega) (by omega)]
    have e : ((i : Int) + (k : Int)).toNat = i + k := by omega
    simp only [e]
    rw [gd_pos (by simp; try omega), W_id (x := a.getD i 0 * b.getD k 0) (by omega) (by omega), W_id (x := c + a.getD i 0 * b.getD k 0) (by omega) (by omega), gd_pos (by simp; try omega), gd_pos (by simp; try omega), gd_pos (by simp; try omega), gd_pos (by simp; try omega), W_id (x := c + a.getD i 0 * b.getD k 0 + o.getD (i + k) 0) (by omega) (by omega)]
    exact go _ (by omega) (.inl hB) (by omega)
  · have dB : decide ((k : Int) < (b.length : Int)) = false := by rw [decide_eq_false_iff_not]; omega
    simp only [dB, cond_false]
    rw [Bool.cond_decide]
    rw [List.drop_of_length_le (by omega)] at hv
    by_cases hc : 0 < c
    · have hlt : i + k < S := by
       refine pw_lt ?_
       have h5 : (10000 : Int) ^ (i + k) * 1 ≤ 10000 ^ (i + k) * c := Int.mul_le_mul_of_nonneg_left (by omega) (by have := pw_pos (i + k); omega)
       simp only [vl, Int.mul_zero, Int.add_zero] at hv
       omega
      rw [if_pos (by omega), W_id (x := (i : Int) + (k : Int)) (by omega) (by omega)]
      have e : ((i : Int) + (k : Int)).toNat = i + k := by omega
      simp only [e]
      rw [gd_pos (by simp; try omega), gd_pos (by simp; try omega), gd_pos (by simp; try omega), gd_pos (by simp; try omega), W_id (x := c + o.getD (i + k) 0) (by omega) (by omega)]
      exact go _ hlt (.inr (by omega)) (by rw [getD_out (l := b) (by omega)]; omega)
    · rw [if_neg (by omega)]
      obtain rfl : c = 0 := by omega
      exact ⟨o, hlo, ho, by simpa [vl] using hv, rfl⟩

theorem mulo149 {α : Type} {n : Nat} {a b : List Int} (ha : Lm a) (hb : Lm b) {S : Nat} (hS : a.length + b.length ≤ S) (hN : S ≤ 1099511627776) (hn : S + 1 ≤ n) {k0 : List Int → Option α} :
  ∀ (m i : Nat) (o : List Int), Lm o → o.length = S → i ≤ a.length → vl o = vl (a.take i) * vl b → a.length + 1 ≤ i + m →
  ∃ o', Lm o' ∧ o'.length = S ∧ vl o' = vl a * vl b ∧ f143_L3 n m b a (a.length : Int) (i : Int) o k0 = k0 o'
 | 0, i, o, hlo, ho, hi, hv, hm => by omega
 | m + 1, i, o, hlo, ho, hi, hv, hm => by
  rw [f143_L3_s]
  unfold f143_L3B
  dsimp only
  rw [Bool.cond_decide]
  by_cases hA : i < a.length
  · rw [if_pos (by omega), gd_pos (by simp; try omega)]
    simp only [Int.toNat_natCast]
    have hT : vl (a.take (i + 1)) * vl b < 10000 ^ S := mul_lt ha hb (by omega)
    obtain ⟨o', q1, q2, q3, q4⟩ := mul149 (n := n) ha hb i hA hS hN hT a (a.length : Int) (i : Int) (k0 := fun z_1 z_2 z_3 z_4 z_5 => f143_L3 n m z_1 z_2 z_3 (W (z_4 + 1)) z_5 k0) n 0 0 o hlo ho (by omega) (by omega) (by omega) (by
     rw [hv, vl_take_suc, List.drop_zero, Nat.add_zero]
     generalize (10000 : Int) ^ i = P
     grind) (by omega)
    have q4 : f143_L7 n n b (i : Int) (a.getD i 0) 0 0 a (a.length : Int) (i : Int) o _ = _ := q4
    rw [q4, W_id (by omega) (by omega)]
    exact mulo149 (n := n) ha hb hS hN hn m (i + 1) o' q1 q2 (by omega) q3 (by omega)
  · rw [if_neg (by omega)]
    obtain rfl : i = a.length := by omega
    rw [List.take_length] at hv
    exact ⟨o, hlo, ho, hv, rfl⟩

theorem f143_eq {n : Nat} {a b : List Int} (ha : Lm a) (hb : Lm b) (hN : a.length + b.length ≤ 1099511627770) (hn : a.length + b.length + 2 ≤ n) : f143 n a b = some (dg (vl a * vl b).toNat) := by
 unfold f143
 rw [W_id (x := (a.length : Int) + (b.length : Int)) (by omega) (by omega), gd_pos (by simp; try omega)]
 have e : ((a.length : Int) + (b.length : Int)).toNat = a.length + b.length := by omega
 rw [e]
 obtain ⟨o, q1, q2, q3, q4⟩ := mulo149 (n := n) ha hb (S := a.length + b.length) (by omega) (by omega) (by omega) (k0 := fun z_5 => ob (f185 n z_5) fun r_6 => some r_6) n 0 (List.replicate (a.length + b.length) 0) (Lm.rep _) (by simp) (by omega) (by rw [vl_rep]; simp [vl]) (by omega)
 have q4 : f143_L3 n n b a (a.length : Int) 0 _ _ = _ := q4
 rw [q4, f185_eq q1 (by omega) (by omega), ob_some, q3]

theorem pwc (k : Nat) : ((10000 ^ k : Nat) : Int) = (10000 : Int) ^ k := by rw [Int.natCast_pow]; rfl

theorem nc10 (Q : Nat) : ((10000 * Q : Nat) : Int) = 10000 * (Q : Int) := by omega

theorem nc10a (Q q : Nat) : ((10000 * Q + q : Nat) : Int) = 10000 * (Q : Int) + q := by omega

theorem nc10b (Q q : Nat) : ((q + 10000 * Q : Nat) : Int) = q + 10000 * (Q : Int) := by omega

theorem len_of {n k : Nat} (h : n < 10000 ^ k) : (dg n).length ≤ k := dg_len.2 (by rw [← pwc]; omega)

theorem lt_len (n : Nat) : n < 10000 ^ (dg n).length := by
 have := dg_len.1 (Nat.le_refl (dg n).length)
 rw [← pwc] at this
 omega

theorem lt_len' {n k : Nat} (h : (dg n).length ≤ k) : n < 10000 ^ k := by
 have := dg_len.1 h
 rw [← pwc] at this
 omega

theorem len_mul (a b : Nat) : (dg (a * b)).length ≤ (dg a).length + (dg b).length := by
 refine len_of ?_
 rw [Nat.pow_add]
 exact Nat.mul_lt_mul'' (lt_len a) (lt_len b)

theorem len_add (a b : Nat) : (dg (a + b)).length ≤ max (dg a).length (dg b).length + 1 := by
 refine len_of ?_
 have h1 : a < 10000 ^ max (dg a).length (dg b).length := lt_len' (by omega)
 have h2 : b < 10000 ^ max (dg a).length (dg b).length := lt_len' (by omega)
 rw [Nat.pow_succ]
 omega

theorem len_one {a : Nat} (h : a < 10000) : (dg a).length ≤ 1 := len_of (by simpa using h)

theorem len_ten (a : Nat) (x : Nat) (h : x < 10000) : (dg (x + 10000 * a)).length ≤ (dg a).length + 1 := by
 refine len_of ?_
 have := lt_len a
 rw [Nat.pow_succ]
 omega

theorem s_cmp {n a b : Nat} (h : (dg a).length ≤ 1099511627776) (hn : (dg a).length < n) : f187 n (dg a) (dg b) = some (cm a b) := by
 rw [f187_eq (Cn_dg a) (Cn_dg b) h hn, vl_dg, vl_dg]

theorem s_mul {n a b : Nat} (h : (dg a).length + (dg b).length ≤ 1099511627770) (hn : (dg a).length + (dg b).length + 2 ≤ n) : f178 n (dg a) (dg b) = some (dg (a * b)) := by
 rw [f178_eq (Lm_dg a) (Lm_dg b) h hn, vl_dg, vl_dg]; congr 1

theorem s_add {n a b : Nat} (h : (dg a).length ≤ 1099511627776) (h' : (dg b).length ≤ 1099511627776) (hn : max (dg a).length (dg b).length + 2 ≤ n) : f186 n (dg a) (dg b) = some (dg (a + b)) := by
 rw [f186_eq (Cn_dg a) (Cn_dg b) h h' hn, vl_dg, vl_dg]; congr 1

theorem s_sub {n a b : Nat} (h : (dg a).length ≤ 1099511627776) (hn : (dg a).length + 1 ≤ n) (hab : b ≤ a) : f188 n (dg a) (dg b) = some (dg (a - b)) := by
 rw [f188_eq (Cn_dg a) (Cn_dg b) h hn (by rw [vl_dg, vl_dg]; omega), vl_dg, vl_dg]
 congr 2
 omega

theorem i_mul {n a b : Nat} (h : (dg a).length + (dg b).length ≤ 1099511627770) (hn : (dg a).length + (dg b).length + 2 ≤ n) : f143 n (dg a) (dg b) = some (dg (a * b)) := by
 rw [f143_eq (Lm_dg a) (Lm_dg b) h hn, vl_dg, vl_dg]; congr 1

theorem i_cmp {n a b : Nat} (h : (dg a).length ≤ 1099511627776) : f170 n (dg a) (dg b) = some (cm a b) := by
 rw [f170_eq (Cn_dg a) (Cn_dg b) h, vl_dg, vl_dg]

theorem bis176 {α : Type} {n B R : Nat} (hBl : (dg B).length ≤ 1099511627700) (hn : (dg B).length + 20 ≤ n) (s0 : List Int) (s8 : Int) (b14 : List Int) {k0 : List Int → List Int → List Int → Int → Int → List Int → Option α} :
  ∀ (m lo hi : Nat), lo < hi → hi ≤ 10000 → lo * B ≤ R → R < hi * B → hi ≤ lo + m →
  f202_L10 n m s0 (dg B) (dg R) s8 (lo : Int) (hi : Int) b14 k0 = k0 s0 (dg B) (dg R) s8 ((R / B : Nat) : Int) b14
 | 0, lo, hi, h1, h2, h3, h4, h5 => by omega
 | m + 1, lo, hi, h1, h2, h3, h4, h5 => by
  rw [f202_L10_s]
  unfold f202_L10B
  dsimp only
  rw [W_id (x := (hi : Int) - (lo : Int)) (by omega) (by omega), W_id (x := (lo : Int) + (hi : Int)) (by omega) (by omega)]
  have e : Int.tdiv ((lo : Int) + (hi : Int)) 2 = (((lo + hi) / 2 : Nat) : Int) := by
   rw [Int.tdiv_eq_ediv_of_nonneg (by omega)]; omega
  rw [e, W_id (x := (((lo + hi) / 2 : Nat) : Int)) (by omega) (by omega)]
  generalize hmid : (lo + hi) / 2 = mid
  by_cases hc : lo + 1 < hi
  · rw [Bool.cond_decide, if_pos (by omega), f172_eq (by omega) (by omega), ob_some]
    have hl := len_one (a := mid) (by omega)
    have hm := len_mul B mid
    rw [s_mul (by omega) (by omega), ob_some, s_cmp (by omega) (by omega), ob_some, Bool.cond_decide]
    by_cases hle : B * mid ≤ R
    · have : cm ((B * mid : Nat) : Int) (R : Int) ≤ 0 := by
       rcases Nat.lt_or_eq_of_le hle with h | h
       · rw [cm_lt (by omega)]; omega
       · rw [cm_eq (by omega)]; omega
      rw [if_pos this]
      exact bis176 hBl hn s0 s8 b14 m mid hi (by omega) h2 (by rw [Nat.mul_comm]; exact hle) h4 (by omega)
    · have : ¬ cm ((B * mid : Nat) : Int) (R : Int) ≤ 0 := by
       rw [cm_gt (by omega)]; omega
      rw [if_neg this]
      exact bis176 hBl hn s0 s8 b14 m lo mid (by omega) (by omega) h3 (by rw [Nat.mul_comm]; omega) (by omega)
  · rw [Bool.cond_decide, if_neg (by omega)]
    obtain rfl : hi = lo + 1 := by omega
    have : R / B = lo := by
     rw [Nat.div_eq_iff (Nat.pos_of_ne_zero (by rintro rfl; simp at h4))]
     rw [Nat.add_mul] at h4
     omega
    rw [this]

theorem div176 {α : Type} {n L A B : Nat} (hB : 0 < B) (hA : (dg A).length ≤ L) (hBl : (dg B).length ≤ L) (hL : L ≤ 1099511627000) (hn : L + 10040 ≤ n) {k0 : List Int → List Int → Option α} :
  ∀ (k m Q R : Nat) (o : List Int), k < m → k ≤ (dg A).length → R < B → o.length = (dg A).length → Lm o → (∀ i, i < k → o.getD i 0 = 0) → vl o = 10000 ^ k * (Q : Int) → (Q : Int) * B + R = vl ((dg A).drop k) →
  ∃ o', Lm o' ∧ o'.length = (dg A).length ∧ vl o' = ((A / B : Nat) : Int) ∧ f202_L4 n m (dg A) (dg B) (dg R) ((k : Int) - 1) o k0 = k0 (dg (A % B)) o'
 | _, 0, _, _, _, h1, _, _, _, _, _, _, _ => by omega
 | 0, m + 1, Q, R, o, h1, h2, h3, h4, h5, h6, h7, h8 => by
  rw [f202_L4_s]
  unfold f202_L4B
  dsimp only
  rw [Bool.cond_decide, if_neg (by omega)]
  rw [List.drop_zero, vl_dg] at h8
  have h8 : Q * B + R = A := by
   have : ((Q * B + R : Nat) : Int) = A := by rw [Int.natCast_add, Int.natCast_mul]; exact h8
   omega
  have h9 : A / B = Q := by rw [← h8, Nat.add_comm, Nat.add_mul_div_right _ _ hB, Nat.div_eq_of_lt h3, Nat.zero_add]
  have h10 : A % B = R := by rw [← h8, Nat.mul_add_mod_self_right, Nat.mod_eq_of_lt h3]
  exact ⟨o, h5, h4, by rw [h7, h9]; simp, by rw [h10]⟩
 | k + 1, m + 1, Q, R, o, h1, h2, h3, h4, h5, h6, h7, h8 => by
  rw [f202_L4_s]
  unfold f202_L4B
  dsimp only
  rw [Bool.cond_decide, if_pos (by omega)]
  rw [show (((k + 1 : Nat) : Int) - 1) = (k : Int) by omega]
  simp only [Int.toNat_natCast]
  have hg := (Lm_dg A).get k
  obtain ⟨x, hx⟩ : ∃ x : Nat, (dg A).getD k 0 = (x : Int) := ⟨((dg A).getD k 0).toNat, by omega⟩
  have hlR : (dg R).length ≤ L := Nat.le_trans (len_mono (by omega)) hBl
  have hlRx := len_ten R x (by omega)
  have hRx : vl ((dg A).drop k) = (x : Int) + 10000 * ((Q : Int) * B + R) := by
   rw [vl_drop (by omega), hx, ← h8]
  have hR' : x + 10000 * R < 10000 * B := by omega
  rw [hx, gd_pos (by simp; try omega), gd_pos (by simp; try omega), f203_eq (Lm.app (Lm.cons (by omega) Lm.nil) (Lm_dg R)) (by simp; omega) (by simp; omega), ob_some]
  have e1 : (vl ([(x : Int)] ++ dg R)).toNat = x + 10000 * R := by
   rw [List.cons_append, List.nil_append, vl, vl_dg]; omega
  rw [e1, s_cmp (by omega) (by omega), ob_some, W_id (x := (k : Int) - 1) (by omega) (by omega), Bool.cond_decide]
  by_cases hlt : x + 10000 * R < B
  · rw [if_pos (by rw [cm_lt (by omega)]; omega)]
    refine div176 hB hA hBl hL hn k m (10000 * Q) (x + 10000 * R) o (by omega) (by omega) hlt h4 h5 (fun i hi => h6 i (by omega)) ?_ ?_
    · rw [h7, pw_succ, nc10]; grind
    · rw [hRx, nc10, nc10b]; grind
  · rw [if_neg (by
     rcases Nat.lt_or_eq_of_le (Nat.le_of_not_lt hlt) with h | h
     · rw [cm_gt (by omega)]; omega
     · rw [cm_eq (by omega)]; omega)]
    have hbis := bis176 (n := n) (B := B) (R := x + 10000 * R) (by omega) (by omega) (dg A) (k : Int) o (k0 := fun z_3 z_4 z_5 z_6 z_7 z_8 => (
            gd (decide (0 ≤ z_6) && decide (z_6 < (z_8.length : Int))) (
             gd (decide (z_6.toNat < z_8.length)) (
              ob (f172 n z_7) fun r_9 =>
              ob (f178 n z_4 r_9) fun r_10 =>
              ob (f188 n z_5 r_10) fun r_11 =>
              f202_L4 n m z_3 z_4 r_11 (W (z_6 - 1)) (z_8.set z_6.toNat z_7) k0)))) n 0 10000 (by omega) (by omega) (by omega) hR' (by omega)
    have hbis : f202_L10 n n (dg A) (dg B) (dg (x + 10000 * R)) (k : Int) 0 10000 o _ = _ := hbis
    rw [hbis]
    simp only [Int.toNat_natCast]
    have hq : (x + 10000 * R) / B < 10000 := by
     rw [Nat.div_lt_iff_lt_mul hB]; omega
    have hqr := Nat.div_add_mod (x + 10000 * R) B
    have hqm := Nat.mod_lt (x + 10000 * R) hB
    generalize hqq : (x + 10000 * R) / B = q at *
    generalize hrr : (x + 10000 * R) % B = r at *
    have hl1 := len_one hq
    have hl2 := len_mul B q
    rw [gd_pos (by simp; try omega), gd_pos (by simp; try omega), f172_eq (by omega) (by omega), ob_some, s_mul (by omega) (by omega), ob_some, s_sub (by omega) (by omega) (by omega), ob_some, W_id (x := (k : Int) - 1) (by omega) (by omega), show x + 10000 * R - B * q = r by omega]
    refine div176 hB hA hBl hL hn k m (10000 * Q + q) r _ (by omega) (by omega) hqm (by simpa using h4) (h5.set _ (by omega)) (fun i hi => ?_) ?_ ?_
    · rw [List.getD_eq_getElem?_getD, List.getElem?_set_ne (by omega), ← List.getD_eq_getElem?_getD]
      exact h6 i (by omega)
    · rw [vl_set _ (by omega), h7, h6 k (by omega), pw_succ, nc10a]
      generalize (10000 : Int) ^ k = P
      grind
    · rw [hRx]
      have : (B : Int) * q + r = x + 10000 * R := by
       rw [← nc10b, ← hqr, Int.natCast_add, Int.natCast_mul]
      rw [nc10a]
      grind

theorem s_div {n L A B : Nat} (hB : 0 < B) (hA : (dg A).length ≤ L) (hBl : (dg B).length ≤ L) (hL : L ≤ 1099511627000) (hn : L + 10040 ≤ n) : f202 n (dg A) (dg B) = some (dg (A / B), dg (A % B)) := by
 unfold f202
 rw [gd_pos (by simp; try omega), W_id (x := ((dg A).length : Int) - 1) (by omega) (by omega)]
 simp only [Int.toNat_natCast]
 obtain ⟨o, h1, h2, h3, h4⟩ := div176 (n := n) hB hA hBl hL hn (k0 := fun z_12 z_13 => (
       ob (f203 n z_13) fun r_14 =>
       some (r_14, z_12))) (dg A).length n 0 0 (List.replicate (dg A).length 0) (by omega) (Nat.le_refl _) hB (by simp) (Lm.rep _) (fun i hi => by simp [List.getD_eq_getElem?_getD, List.getElem?_replicate, hi]) (by rw [vl_rep]; simp) (by simp [vl])
 rw [dg_zero] at h4
 rw [h4, f203_eq h1 (by omega) (by omega), ob_some, h3]
 rfl

theorem gcd_half {a b : Nat} (hb : 0 < b) (hr : 0 < a % b) {j : Nat} (h : b < 2 ^ (j + 1)) : b % (a % b) < 2 ^ j := by
 have h1 := Nat.mod_lt a hb
 have h2 := Nat.mod_lt b hr
 have h3 := Nat.div_add_mod b (a % b)
 generalize a % b = r at *
 have h4 : 1 ≤ b / r := by rw [Nat.le_div_iff_mul_le hr]; omega
 have h5 : r * 1 ≤ r * (b / r) := Nat.mul_le_mul_left r h4
 rw [Nat.pow_succ] at h
 omega

theorem gcd128 {α : Type} {n L : Nat} (hL : L ≤ 1099511627000) (hn : L + 10040 ≤ n) {k0 : List Int → Option α} :
  ∀ (j m a b : Nat), b < 2 ^ j → 2 * j + 1 ≤ m → (dg a).length ≤ L → (dg b).length ≤ L → f190_L1 n m (dg a) (dg b) k0 = k0 (dg (Nat.gcd b a)) := by
 have stop : ∀ (m a : Nat), 0 < m → f190_L1 n m (dg a) (dg 0) k0 = k0 (dg (Nat.gcd 0 a)) := fun m a hm => by
  obtain ⟨m, rfl⟩ : ∃ m', m = m' + 1 := ⟨m - 1, by omega⟩
  rw [f190_L1_s, Nat.gcd_zero_left, dg_zero]; rfl
 have step : ∀ (m a b : Nat), 0 < b → (dg a).length ≤ L → (dg b).length ≤ L → f190_L1 n (m + 1) (dg a) (dg b) k0 = f190_L1 n m (dg b) (dg (a % b)) k0 := fun m a b hb ha hbl => by
  rw [f190_L1_s]
  unfold f190_L1B
  have : 0 < (dg b).length := by rw [dg_pos (by omega)]; simp
  rw [Bool.cond_decide, if_pos (by omega), s_div hb ha hbl hL hn, ob_some]
 intro j
 induction j with
 | zero =>
  intro m a b h1 h2 h3 h4
  obtain rfl : b = 0 := by simpa using h1
  exact stop m a (by omega)
 | succ j ih =>
  intro m a b h1 h2 h3 h4
  rcases Nat.eq_zero_or_pos b with rfl | hb
  · exact stop m a (by omega)
  obtain ⟨m, rfl⟩ : ∃ m', m = m' + 2 := ⟨m - 2, by omega⟩
  have h5 : (dg (a % b)).length ≤ L := Nat.le_trans (len_mono (Nat.le_of_lt (Nat.mod_lt a hb))) h4
  rw [step _ _ _ hb h3 h4, Nat.gcd_rec b a]
  rcases Nat.eq_zero_or_pos (a % b) with hr | hr
  · rw [hr]; exact stop _ _ (by omega)
  have h6 : (dg (b % (a % b))).length ≤ L := Nat.le_trans (len_mono (Nat.le_of_lt (Nat.mod_lt b hr))) h5
  rw [step _ _ _ hr h4 h5, Nat.gcd_rec (a % b) b]
  exact ih m _ _ (gcd_half hb hr h1) (by omega) h5 h6

theorem pow_two {b L : Nat} (h : b < 10000 ^ L) : b < 2 ^ (14 * L) := by
 rw [Nat.pow_mul]
 exact Nat.lt_of_lt_of_le h (Nat.pow_le_pow_left (by decide) L)

theorem s_gcd {n L a b : Nat} (hL : L ≤ 1099511627000) (hn : 28 * L + 10040 ≤ n) (ha : (dg a).length ≤ L) (hb : (dg b).length ≤ L) : f190 n (dg a) (dg b) = some (dg (Nat.gcd a b)) := by
 unfold f190
 have h1 : (dg (Nat.gcd b a)).length ≤ L := by
  rcases Nat.eq_zero_or_pos b with rfl | h
  · rw [Nat.gcd_zero_left]; exact ha
  · exact Nat.le_trans (len_mono (Nat.gcd_le_left a h)) hb
 rw [gcd128 hL (by omega) (14 * L) n a b (pow_two (lt_len' hb)) (by omega) ha hb, gd_pos (by simp; try omega), Nat.gcd_comm]

theorem mid_get {pre w post : List Int} {i : Nat} (h : i < w.length) : (pre ++ w ++ post).getD (pre.length + i) 0 = w.getD i 0 := by
 rw [List.append_assoc, List.getD_eq_getElem?_getD, List.getElem?_append_right (by omega), Nat.add_sub_cancel_left, List.getElem?_append_left h, ← List.getD_eq_getElem?_getD]

theorem mid_set {pre w post : List Int} {i : Nat} (h : i < w.length) (x : Int) : (pre ++ w ++ post).set (pre.length + i) x = pre ++ w.set i x ++ post := by
 rw [List.append_assoc, List.set_append_right _ _ (by omega), Nat.add_sub_cancel_left, List.set_append_left _ _ h, List.append_assoc]

theorem carry_neg {y : Int} (h : y < 0) (h' : -1099511627776 < y) : W (Int.tdiv (W (W (y - 10000) + 1)) 10000) = y / 10000 := by
 rw [W_id (x := y - 10000) (by omega) (by omega), W_id (x := y - 10000 + 1) (by omega) (by omega)]
 have : Int.tdiv (y - 10000 + 1) 10000 = y / 10000 := by
  rw [show y - 10000 + 1 = -(9999 - y) by omega, Int.neg_tdiv, Int.tdiv_eq_ediv_of_nonneg (by omega)]
  omega
 rw [this, W_id (by omega) (by omega)]

theorem sub_step {o P q c wi bi v' T y d r : Int} (h : o + P * (c - q * (bi + 10000 * v')) = T) (hy : y = wi + c - q * bi) (hd : y = 10000 * d + r) : o + P * (r - wi) + 10000 * P * (d - q * v') = T := by
 grind

theorem plus_step {o P c wi bi v' T y d r : Int} (h : o + P * (c + (bi + 10000 * v')) = T) (hy : y = wi + c + bi) (hd : y = 10000 * d + r) : o + P * (r - wi) + 10000 * P * (d + v') = T := by
 grind

theorem vl_drop' {l : List Int} (k : Nat) : vl (l.drop k) = l.getD k 0 + 10000 * vl (l.drop (k + 1)) := by
 rcases Nat.lt_or_ge k l.length with h | h
 · exact vl_drop h
 · rw [List.drop_of_length_le h, List.drop_of_length_le (by omega), getD_out h]; rfl

theorem sub197 {α : Type} {n N : Nat} {b pre post : List Int} (hb : Lm b) (hbN : b.length = N) (hN : pre.length + N + 1 + post.length ≤ 1099511627776) {q : Int} (hq : 0 ≤ q ∧ q < 10000) {T : Int} {k0 : Nat → Nat → List Int → Int → Int → Int → List Int → Option α} :
  ∀ (m i : Nat) (c : Int) (w : List Int), Lm w → w.length = N + 1 → -9999 ≤ c → c ≤ 0 → i ≤ N + 1 → vl w + 10000 ^ i * (c - q * vl (b.drop i)) = T → N + 2 ≤ i + m →
  ∃ w' c', Lm w' ∧ w'.length = N + 1 ∧ c' ≤ 0 ∧ vl w' + 10000 ^ (N + 1) * c' = T ∧ f204B_L6 n m pre.length (N + 1) b (b.length : Int) q c ((N + 1 : Nat) : Int) (i : Int) (pre ++ w ++ post) k0 = k0 pre.length (N + 1) b (b.length : Int) q c' (pre ++ w' ++ post)
 | 0, i, c, w, h1, h2, h3, h4, h5, h6, h7 => by omega
 | m + 1, i, c, w, h1, h2, h3, h4, h5, h6, h7 => by
  rw [f204B_L6_s]
  unfold f204B_L6B
  dsimp only
  by_cases hi : i < N + 1
  · rw [Bool.cond_decide, if_pos (by omega)]
    simp only [Int.toNat_natCast]
    rw [gd_pos (by simp; try omega), gd_pos (by simp; try omega)]
    simp only [mid_get (pre := pre) (post := post) (w := w) (i := i) (by omega)]
    have g1 := h1.get i
    have g2 := hb.get i
    have g3 := limb_mul hq g2
    have go : ∀ y : Int, y = w.getD i 0 + c - q * b.getD i 0 →
      ∃ w' c', Lm w' ∧ w'.length = N + 1 ∧ c' ≤ 0 ∧ vl w' + 10000 ^ (N + 1) * c' = T ∧ 
      (bif (decide (y < 0)) then (gd (decide (0 ≤ (i : Int)) && decide ((i : Int) < ((N + 1 : Nat) : Int))) (
        gd (decide ((pre.length + i) < (pre ++ w ++ post).length)) (
         f204B_L6 n m pre.length (N + 1) b (b.length : Int) q (W (Int.tdiv (W ((W (y - 10000)) + 1)) 10000)) ((N + 1 : Nat) : Int) (W ((i : Int) + 1)) ((pre ++ w ++ post).set (pre.length + i) (W (y - (W ((W (Int.tdiv (W ((W (y - 10000)) + 1)) 10000)) * 10000))))) k0)))
       else (gd (decide (0 ≤ (i : Int)) && decide ((i : Int) < ((N + 1 : Nat) : Int))) (
        gd (decide ((pre.length + i) < (pre ++ w ++ post).length)) (
         f204B_L6 n m pre.length (N + 1) b (b.length : Int) q 0 ((N + 1 : Nat) : Int) (W ((i : Int) + 1)) ((pre ++ w ++ post).set (pre.length + i) (W (y - (W (0 * 10000))))) k0)))) = k0 pre.length (N + 1) b (b.length : Int) q c' (pre ++ w' ++ post) := by
     intro y hy
     have hd : y = 10000 * (y / 10000) + y % 10000 := by omega
     have go2 : ∀ d : Int, d = y / 10000 → ∃ w' c', Lm w' ∧ w'.length = N + 1 ∧ c' ≤ 0 ∧ vl w' + 10000 ^ (N + 1) * c' = T ∧ (gd (decide (0 ≤ (i : Int)) && decide ((i : Int) < ((N + 1 : Nat) : Int))) (
           gd (decide ((pre.length + i) < (pre ++ w ++ post).length)) (
            f204B_L6 n m pre.length (N + 1) b (b.length : Int) q d ((N + 1 : Nat) : Int) (W ((i : Int) + 1)) ((pre ++ w ++ post).set (pre.length + i) (W (y - (W (d * 10000))))) k0))) = k0 pre.length (N + 1) b (b.length : Int) q c' (pre ++ w' ++ post) := by
      intro d hdd
      rw [gd_pos (by simp; try omega), gd_pos (by simp; try omega), mid_set (by omega), W_id (x := d * 10000) (by omega) (by omega), W_id (x := y - d * 10000) (by omega) (by omega), W_id (x := (i : Int) + 1) (by omega) (by omega)]
      refine sub197 (n := n) hb hbN hN hq m (i + 1) d _ (h1.set _ (by omega)) (by simpa using h2) (by omega) (by omega) (by omega) ?_ (by omega)
      rw [vl_set _ (by omega), pw_succ]
      refine sub_step (bi := b.getD i 0) ?_ hy (by omega)
      rw [← vl_drop']; exact h6
     rw [Bool.cond_decide]
     by_cases hneg : y < 0
     · rw [if_pos hneg]
       simp only [carry_neg hneg (by omega)]
       exact go2 _ rfl
     · rw [if_neg hneg]
       exact go2 0 (by omega)
    by_cases hB : i < b.length
    · have dB : decide ((i : Int) < (b.length : Int)) = true := by rw [decide_eq_true_eq]; omega
      simp only [dB, cond_true]
      rw [gd_pos (by simp; try omega)]
      simp only [W_id (x := q * b.getD i 0) (by omega) (by omega), W_id (x := w.getD i 0 + c) (by omega) (by omega), W_id (x := w.getD i 0 + c - q * b.getD i 0) (by omega) (by omega)]
      exact go _ rfl
    · have dB : decide ((i : Int) < (b.length : Int)) = false := by rw [decide_eq_false_iff_not]; omega
      simp only [dB, cond_false]
      simp only [W_id (x := w.getD i 0 + c) (by omega) (by omega)]
      exact go _ (by rw [getD_out (l := b) (by omega)]; omega)
  · rw [Bool.cond_decide, if_neg (by omega)]
    obtain rfl : i = N + 1 := by omega
    rw [List.drop_of_length_le (by omega)] at h6
    exact ⟨w, c, h1, h2, h4, by simpa [vl] using h6, rfl⟩

theorem plus197 {α : Type} {n N : Nat} {b pre post : List Int} (hb : Lm b) (hbN : b.length = N) (hN : pre.length + N + 1 + post.length ≤ 1099511627776) {q z : Int} {T : Int} {k0 : Nat → Nat → List Int → Int → Int → Int → Int → List Int → Option α} :
  ∀ (m i : Nat) (c : Int) (w : List Int), Lm w → w.length = N + 1 → 0 ≤ c → c ≤ 1 → i ≤ N + 1 → vl w + 10000 ^ i * (c + vl (b.drop i)) = T → N + 2 ≤ i + m →
  ∃ w' c', Lm w' ∧ w'.length = N + 1 ∧ 0 ≤ c' ∧ c' ≤ 1 ∧ vl w' + 10000 ^ (N + 1) * c' = T ∧ f204B_L20 n m pre.length (N + 1) b (b.length : Int) q z c ((N + 1 : Nat) : Int) (i : Int) (pre ++ w ++ post) k0 = k0 pre.length (N + 1) b (b.length : Int) q z c' (pre ++ w' ++ post)
 | 0, i, c, w, h1, h2, h3, h4, h5, h6, h7 => by omega
 | m + 1, i, c, w, h1, h2, h3, h4, h5, h6, h7 => by
  rw [f204B_L20_s]
  unfold f204B_L20B
  dsimp only
  by_cases hi : i < N + 1
  · rw [Bool.cond_decide, if_pos (by omega)]
    simp only [Int.toNat_natCast]
    rw [gd_pos (by simp; try omega), gd_pos (by simp; try omega), mid_get (by omega)]
    have g1 := h1.get i
    have g2 := hb.get i
    have go : ∀ y : Int, y = w.getD i 0 + c + b.getD i 0 → ∃ w' c', Lm w' ∧ w'.length = N + 1 ∧ 0 ≤ c' ∧ c' ≤ 1 ∧ vl w' + 10000 ^ (N + 1) * c' = T ∧ (gd (decide (0 ≤ (i : Int)) && decide ((i : Int) < ((N + 1 : Nat) : Int))) (
            gd (decide ((pre.length + i) < (pre ++ w ++ post).length)) (
             f204B_L20 n m pre.length (N + 1) b (b.length : Int) q z (W (Int.tdiv y 10000)) ((N + 1 : Nat) : Int) (W ((i : Int) + 1)) ((pre ++ w ++ post).set (pre.length + i) (Int.tmod y 10000)) k0))) = k0 pre.length (N + 1) b (b.length : Int) q z c' (pre ++ w' ++ post) := by
     intro y hy
     have hd : y = 10000 * (y / 10000) + y % 10000 := by omega
     rw [gd_pos (by simp; try omega), gd_pos (by simp; try omega), mid_set (by omega), tdv (by omega), tmd (by omega), W_id (x := y / 10000) (by omega) (by omega), W_id (x := (i : Int) + 1) (by omega) (by omega)]
     refine plus197 (n := n) hb hbN hN m (i + 1) _ _ (h1.set _ (by omega)) (by simpa using h2) (by omega) (by omega) (by omega) ?_ (by omega)
     rw [vl_set _ (by omega), pw_succ]
     refine plus_step (bi := b.getD i 0) ?_ hy hd
     rw [← vl_drop']; exact h6
    by_cases hB : i < b.length
    · have dB : decide ((i : Int) < (b.length : Int)) = true := by rw [decide_eq_true_eq]; omega
      simp only [dB, cond_true]
      rw [gd_pos (by simp; try omega)]
      simp only [W_id (x := w.getD i 0 + c) (by omega) (by omega), W_id (x := w.getD i 0 + c + b.getD i 0) (by omega) (by omega)]
      exact go _ rfl
    · have dB : decide ((i : Int) < (b.length : Int)) = false := by rw [decide_eq_false_iff_not]; omega
      simp only [dB, cond_false]
      simp only [W_id (x := w.getD i 0 + c) (by omega) (by omega)]
      exact go _ (by rw [getD_out (l := b) (by omega)]; omega)
  · rw [Bool.cond_decide, if_neg (by omega)]
    obtain rfl : i = N + 1 := by omega
    rw [List.drop_of_length_le (by omega)] at h6
    exact ⟨w, c, h1, h2, h3, h4, by simpa [vl] using h6, rfl⟩

theorem back_neg {P v c R qB : Int} (h1 : v < P) (hP : 0 < P) (h : v + P * c = R - qB) (hc : c < 0) : R - qB < 0 := by
 have : P * c ≤ P * (-1) := Int.mul_le_mul_of_nonneg_left (by omega) (by omega)
 omega

theorem back_low {P v c R q B : Int} (h0 : v < P) (h : v + P * c = R - q * B) (hB : 0 ≤ B) (hBP : B < P) (hR : 0 ≤ R) (hq : q < 10000) (hq0 : 0 ≤ q) : -10000 ≤ c := by
 have h9 : q * B ≤ 10000 * B := Int.mul_le_mul_of_nonneg_right (by omega) (by omega)
 rcases Int.lt_or_le c (-10000) with h1 | h1
 · have h8 : P * c ≤ P * (-10001) := Int.mul_le_mul_of_nonneg_left (by omega) (by omega)
   exfalso
   omega
 · exact h1

theorem back_new {v v' x x' R qB B : Int} (h : v + x = R - qB) (h' : v' + x' = v + B) : v' + (x + x') = R - (qB - B) := by omega

theorem back197 {α : Type} {n N R B : Nat} {pre post : List Int} (hB : 0 < B) (hbN : (dg B).length = N) (hN : pre.length + N + 1 + post.length ≤ 1099511627776) (hn : N + 2 ≤ n) {k0 : Int → List Int → Option α} :
  ∀ (m q : Nat) (c : Int) (w : List Int), Lm w → w.length = N + 1 → c ≤ 0 → vl w + 10000 ^ (N + 1) * c = (R : Int) - q * B → R / B ≤ q → q < 10000 → q < m →
  ∃ w', Lm w' ∧ w'.length = N + 1 ∧ vl w' = ((R % B : Nat) : Int) ∧ f204B_L16 n m pre.length (N + 1) (dg B) ((dg B).length : Int) (q : Int) c (pre ++ w ++ post) k0 = k0 ((R / B : Nat) : Int) (pre ++ w' ++ post)
 | 0, q, c, w, h1, h2, h3, h4, h5, h6, h7 => by omega
 | m + 1, q, c, w, h1, h2, h3, h4, h5, h6, h7 => by
  rw [f204B_L16_s]
  unfold f204B_L16B
  dsimp only
  have hw := vl_lt h1
  have hw0 := vl_nonneg h1
  rw [h2] at hw
  rw [Bool.cond_decide]
  have hP := pw_pos (N + 1)
  have hBP := lt_len B
  rw [hbN] at hBP
  have hdm := Nat.div_add_mod R B
  have hml := Nat.mod_lt R hB
  by_cases hc : c < 0
  · rw [if_pos hc]
    have hneg := back_neg hw hP h4 hc
    have hlt : R / B < q := by
     rw [Nat.div_lt_iff_lt_mul hB]
     have : ((q * B : Nat) : Int) = (q : Int) * B := Int.natCast_mul q B
     omega
    have hq0 : 0 < q := Nat.lt_of_le_of_lt (Nat.zero_le _) hlt
    have hBi : (B : Int) < 10000 ^ N := by rw [← pwc]; omega
    have hBP' : (B : Int) < 10000 ^ (N + 1) := by
     have := pw_le (show N ≤ N + 1 by omega)
     omega
    have hcm := back_low (q := (q : Int)) hw h4 (by omega) hBP' (by omega) (by omega) (by omega)
    rw [W_id (x := (q : Int) - 1) (by omega) (by omega), show (q : Int) - 1 = ((q - 1 : Nat) : Int) by omega]
    obtain ⟨w', c', q1, q2, q3, q4, q5, q6⟩ := plus197 (n := n) (Lm_dg B) hbN hN (q := ((q - 1 : Nat) : Int)) (z := c) (T := vl w + B) (k0 := fun z_12 z_13 z_14 z_15 z_16 z_17 z_18 z_19 => (
     f204B_L16 n m z_12 z_13 z_14 z_15 z_16 (W (z_17 + z_18)) z_19 k0)) n 0 0 w h1 h2 (by omega) (by omega) (by omega) (by rw [List.drop_zero, vl_dg, Int.pow_zero, Int.one_mul, Int.zero_add]) (by omega)
    have q6 : f204B_L20 n n pre.length (N + 1) (dg B) ((dg B).length : Int) ((q - 1 : Nat) : Int) c 0 ((N + 1 : Nat) : Int) 0 (pre ++ w ++ post) _ = _ := q6
    rw [q6]
    have hq1 : ((q - 1 : Nat) : Int) * B = q * B - B := by
     rw [show ((q - 1 : Nat) : Int) = (q : Int) - 1 by omega, Int.sub_mul, Int.one_mul]
    have hnew : vl w' + 10000 ^ (N + 1) * (c + c') = (R : Int) - ((q - 1 : Nat) : Int) * B := by
     rw [Int.mul_add, hq1]
     exact back_new h4 q5
    rw [W_id (x := c + c') (by omega) (by omega)]
    exact back197 hB hbN hN hn m (q - 1) (c + c') w' q1 q2 (by omega) hnew (by omega) (by omega) (by omega)
  · rw [if_neg hc]
    obtain rfl : c = 0 := by omega
    rw [Int.mul_zero, Int.add_zero] at h4
    have e : R / B = q := by
     refine Nat.le_antisymm h5 ?_
     rw [Nat.le_div_iff_mul_le hB]
     have : ((q * B : Nat) : Int) = (q : Int) * B := Int.natCast_mul q B
     omega
    refine ⟨w, h1, h2, ?_, by rw [e]⟩
    have : ((B * q : Nat) : Int) = (q : Int) * B := by rw [Int.natCast_mul, Int.mul_comm]
    rw [e] at hdm
    omega

theorem guess {P lowR lowB high top t R B : Int} (hR : R = lowR + P * high) (hB : B = lowB + P * top) (h1 : lowR < P) (h2 : 0 ≤ lowB) (hP : 0 < P) (ht : 0 ≤ t) (hle : t * B ≤ R) : t * top ≤ high := by
 have h3 : t * (P * top) ≤ t * B := Int.mul_le_mul_of_nonneg_left (by omega) ht
 have h4 : P * (t * top) < P * (high + 1) := by
  rw [Int.mul_add, Int.mul_one, show P * (t * top) = t * (P * top) by grind]; omega
 have := Int.lt_of_mul_lt_mul_left h4 (by omega)
 omega

theorem f204B_eq {n M R B : Nat} {pre w post : List Int} (hbN : (dg B).length = M + 2) (hN : pre.length + (M + 2) + 1 + post.length ≤ 1099511627776) (hn : M + 10010 ≤ n) (hw : Lm w) (hwl : w.length = M + 3) (hv : vl w = (R : Int)) (hR : R < 10000 * B) :
  ∃ w', Lm w' ∧ w'.length = M + 3 ∧ vl w' = ((R % B : Nat) : Int) ∧ f204B n (pre ++ w ++ post, pre.length, M + 3) (dg B) = some (((R / B : Nat) : Int), pre ++ w' ++ post) := by
 have hB : 0 < B := by omega
 unfold f204B
 dsimp only
 rw [hbN]
 rw [W_id (x := ((M + 2 : Nat) : Int) - 1) (by omega) (by omega), W_id (x := ((M + 2 : Nat) : Int) - 2) (by omega) (by omega), show ((M + 2 : Nat) : Int) - 1 = ((M + 1 : Nat) : Int) by omega, show ((M + 2 : Nat) : Int) - 2 = (M : Int) by omega]
 simp only [Int.toNat_natCast]
 have hb := Lm_dg B
 have g0 := hw.get (M + 2)
 have g1 := hw.get (M + 1)
 have g2 := hw.get M
 have b1 := hb.get (M + 1)
 have b2 := hb.get M
 have bt : (dg B).getD (M + 1) 0 ≠ 0 := by
  have := (Cn_dg B).2 (List.length_pos_iff.1 (by omega))
  rw [hbN] at this
  exact this
 rw [gd_pos (by simp; try omega), gd_pos (by simp; try omega), gd_pos (by simp; try omega), gd_pos (by simp; try omega), gd_pos (by simp; try omega), gd_pos (by simp; try omega), gd_pos (by simp; try omega), gd_pos (by simp; try omega)]
 simp only [mid_get (pre := pre) (post := post) (w := w) (i := M + 2) (by omega), mid_get (pre := pre) (post := post) (w := w) (i := M + 1) (by omega), mid_get (pre := pre) (post := post) (w := w) (i := M) (by omega)]
 simp only [W_id (x := (dg B).getD (M + 1) 0 * 10000) (by omega) (by omega), W_id (x := (dg B).getD (M + 1) 0 * 10000 + (dg B).getD M 0) (by omega) (by omega), W_id (x := w.getD (M + 2) 0 * 10000) (by omega) (by omega), W_id (x := w.getD (M + 2) 0 * 10000 + w.getD (M + 1) 0) (by omega) (by omega), W_id (x := (w.getD (M + 2) 0 * 10000 + w.getD (M + 1) 0) * 10000) (by omega) (by omega), W_id (x := (w.getD (M + 2) 0 * 10000 + w.getD (M + 1) 0) * 10000 + w.getD M 0) (by omega) (by omega)]
 rw [gd_pos (by simp only [decide_eq_true_eq]; omega)]
 have vw : (R : Int) = vl (w.take M) + 10000 ^ M * ((w.getD (M + 2) 0 * 10000 + w.getD (M + 1) 0) * 10000 + w.getD M 0) := by
  have t1 := vl_take_suc w (M + 2)
  have t2 := vl_take_suc w (M + 1)
  have t3 := vl_take_suc w M
  rw [take_le w (by omega), hv] at t1
  rw [t1, t2, t3, pw_succ, pw_succ]
  grind
 have vb : (B : Int) = vl ((dg B).take M) + 10000 ^ M * ((dg B).getD (M + 1) 0 * 10000 + (dg B).getD M 0) := by
  have t2 := vl_take_suc (dg B) (M + 1)
  have t3 := vl_take_suc (dg B) M
  rw [take_le (dg B) (by omega), vl_dg] at t2
  rw [t2, t3, pw_succ]
  grind
 have lw := vl_lt (hw.take M)
 rw [List.length_take, Nat.min_eq_left (by omega)] at lw
 have lb := vl_nonneg (hb.take M)
 generalize hhigh : (w.getD (M + 2) 0 * 10000 + w.getD (M + 1) 0) * 10000 + w.getD M 0 = high at *
 generalize htop : (dg B).getD (M + 1) 0 * 10000 + (dg B).getD M 0 = top at *
 have htop0 : 0 < top := by omega
 have hh0 : 0 ≤ high ∧ high < 1000000000000 := by omega
 rw [Int.tdiv_eq_ediv_of_nonneg (by omega)]
 have hd0 : 0 ≤ high / top := Int.ediv_nonneg (by omega) (by omega)
 have hd1 : high / top ≤ high := Int.ediv_le_self _ (by omega)
 rw [W_id (x := high / top) (by omega) (by omega)]
 obtain ⟨q, hq⟩ : ∃ q : Nat, min (high / top) 9999 = (q : Int) := ⟨(min (high / top) 9999).toNat, by omega⟩
 have hql : q < 10000 := by omega
 have hqr : R / B ≤ q := by
  have h1 : (((R / B : Nat) : Int)) * top ≤ high := by
   refine guess vw vb lw lb (pw_pos M) (Int.natCast_nonneg _) ?_
   have := Nat.div_mul_le_self R B
   rw [← Int.natCast_mul]; omega
  have h2 : ((R / B : Nat) : Int) ≤ high / top := by rw [Int.le_ediv_iff_mul_le htop0]; exact h1
  have h3 : R / B < 10000 := by rw [Nat.div_lt_iff_lt_mul hB]; omega
  omega
 rw [hq]
 obtain ⟨w1, c1, r1, r2, r3, r4, r5⟩ := sub197 (n := n) (N := M + 2) (b := dg B) (pre := pre) (post := post) hb hbN hN (q := (q : Int)) (by omega) (T := (R : Int) - q * B) (k0 := fun z_5 z_6 z_7 z_8 z_9 z_10 z_11 => (
                       f204B_L16 n n z_5 z_6 z_7 z_8 z_9 z_10 z_11
                        (fun z_20 z_21 => (
                         some (z_20, z_21))))) n 0 0 w hw hwl (by omega) (by omega) (by omega) (by rw [List.drop_zero, vl_dg, hv, Int.pow_zero, Int.one_mul, Int.zero_sub, Int.sub_eq_add_neg]) (by omega)
 obtain ⟨w2, s1, s2, s3, s4⟩ := back197 (n := n) (N := M + 2) (R := R) (B := B) (pre := pre) (post := post) hB hbN hN (by omega) (k0 := fun z_20 z_21 => (some (z_20, z_21))) n q c1 w1 r1 r2 r3 r4 hqr hql (by omega)
 refine ⟨w2, s1, s2, s3, ?_⟩
 rw [hbN] at r5 s4
 have r5 : f204B_L6 n n pre.length (M + 3) (dg B) ((M + 2 : Nat) : Int) (q : Int) 0 ((M + 3 : Nat) : Int) 0 (pre ++ w ++ post) _ = _ := r5
 rw [r5]
 exact s4

theorem tdivN (y b : Nat) : Int.tdiv (y : Int) (b : Int) = ((y / b : Nat) : Int) := by
 rw [Int.tdiv_eq_ediv_of_nonneg (by omega), Int.natCast_ediv]

theorem tmodN (y b : Nat) : Int.tmod (y : Int) (b : Int) = ((y % b : Nat) : Int) := by
 rw [Int.tmod_eq_emod_of_nonneg (by omega), Int.natCast_emod]

theorem set_low {o : List Int} {k i : Nat} {x : Int} (h : ∀ i, i < k + 1 → o.getD i 0 = 0) (hi : i < k) : (o.set k x).getD i 0 = 0 := by
 rw [List.getD_eq_getElem?_getD, List.getElem?_set_ne (by omega), ← List.getD_eq_getElem?_getD]
 exact h i (by omega)

theorem step_quo {Q B R x q r y : Nat} (hy : x + 10000 * R = y) (hqr : B * q + r = y) {V : Int} (hV : (Q : Int) * B + R = V) : ((10000 * Q + q : Nat) : Int) * B + r = x + 10000 * V := by
 have : (B : Int) * q + r = x + 10000 * R := by
  rw [← nc10b, hy, ← hqr, Int.natCast_add, Int.natCast_mul]
 rw [nc10a, ← hV]
 grind

theorem one182 {α : Type} {n A B : Nat} (hB : 0 < B) (hB1 : B < 10000) (hlA : (dg A).length ≤ 1099511627000) {k0 : Int → List Int → Option α} :
  ∀ (k Q R : Nat) (o : List Int), k ≤ (dg A).length → R < B → o.length = (dg A).length → Lm o → (∀ i, i < k → o.getD i 0 = 0) → vl o = 10000 ^ k * (Q : Int) → (Q : Int) * B + R = vl ((dg A).drop k) →
  ∃ o', Lm o' ∧ o'.length = (dg A).length ∧ vl o' = ((A / B : Nat) : Int) ∧ f184_L7R n (dg A) k (dg A) [(B : Int)] (R : Int) o k0 = k0 ((A % B : Nat) : Int) o'
 | 0, Q, R, o, h2, h3, h4, h5, h6, h7, h8 => by
  rw [f184_L7_0]
  rw [List.drop_zero, vl_dg] at h8
  have h8 : Q * B + R = A := by
   have : ((Q * B + R : Nat) : Int) = A := by rw [Int.natCast_add, Int.natCast_mul]; exact h8
   omega
  have h9 : A / B = Q := by rw [← h8, Nat.add_comm, Nat.add_mul_div_right _ _ hB, Nat.div_eq_of_lt h3, Nat.zero_add]
  have h10 : A % B = R := by rw [← h8, Nat.mul_add_mod_self_right, Nat.mod_eq_of_lt h3]
  exact ⟨o, h5, h4, by rw [h7, h9]; simp, by rw [h10]⟩
 | k + 1, Q, R, o, h2, h3, h4, h5, h6, h7, h8 => by
  rw [f184_L7_s]
  unfold f184_L7B
  dsimp only
  have hg := (Lm_dg A).get k
  obtain ⟨x, hx⟩ : ∃ x : Nat, (dg A).getD k 0 = (x : Int) := ⟨((dg A).getD k 0).toNat, by omega⟩
  have hRx : vl ((dg A).drop k) = (x : Int) + 10000 * vl ((dg A).drop (k + 1)) := by
   rw [vl_drop (by omega), hx]
  simp only [Int.toNat_natCast]
  rw [gd_pos (by simp; try omega), gd_pos (by simp; omega), gd_pos (by simp; try omega), gd_pos (by simp; omega), gd_pos (by simp; try omega), gd_pos (by simp; try omega), gd_pos (by simp), hx]
  rw [W_id (x := (R : Int) * 10000) (by omega) (by omega), W_id (x := (R : Int) * 10000 + (x : Int)) (by omega) (by omega), show (R : Int) * 10000 + (x : Int) = ((x + 10000 * R : Nat) : Int) by omega]
  have e0 : ([(B : Int)]).getD 0 0 = (B : Int) := rfl
  rw [e0, tdivN, tmodN]
  have hq : (x + 10000 * R) / B < 10000 := by
   rw [Nat.div_lt_iff_lt_mul hB]; omega
  have hqr := Nat.div_add_mod (x + 10000 * R) B
  have hqm := Nat.mod_lt (x + 10000 * R) hB
  generalize (x + 10000 * R) / B = q at *
  generalize (x + 10000 * R) % B = r at *
  rw [W_id (x := (q : Int)) (by omega) (by omega)]
  refine one182 hB hB1 hlA k (10000 * Q + q) r _ (by omega) hqm (by simpa using h4) (h5.set _ (by omega)) (fun i hi => set_low h6 hi) ?_ ?_
  · rw [vl_set _ (by omega), h7, h6 k (by omega), pw_succ, nc10a]
    generalize (10000 : Int) ^ k = P
    grind
  · rw [hRx, ← h8]
    exact step_quo rfl hqr rfl

theorem many182 {α : Type} {n A B M : Nat} (hM : (dg B).length = M + 2) (hla : (dg B).length ≤ (dg A).length) (hlA : (dg A).length ≤ 1099511627000) (hn : (dg A).length + 10040 ≤ n) {k0 : List Int → List Int → Option α} :
  ∀ (k m Q R : Nat) (o u : List Int), k < m → k ≤ (dg A).length - (M + 1) → R < B → o.length = (dg A).length - (M + 1) → Lm o → (∀ i, i < k → o.getD i 0 = 0) → vl o = 10000 ^ k * (Q : Int) →
  Lm u → u.length + k = (dg A).length + 1 → vl u = (R : Int) → (Q : Int) * B + R = vl ((dg A).drop k) →
  ∃ o' u', Lm o' ∧ o'.length = (dg A).length - (M + 1) ∧ vl o' = ((A / B : Nat) : Int) ∧ Lm u' ∧ u'.length = (dg A).length + 1 ∧ vl u' = ((A % B : Nat) : Int) ∧
   f184_L14 n m ((dg B).length : Int) ((k : Int) - 1) (dg B) o ((dg A).take k ++ u) k0 = k0 o' u'
 | _, 0, _, _, _, _, h1, _, _, _, _, _, _, _, _, _, _ => by omega
 | 0, m + 1, Q, R, o, u, h1, h2, h3, h4, h5, h6, h7, u1, u2, u3, h8 => by
  rw [f184_L14_s]
  unfold f184_L14B
  dsimp only
  rw [Bool.cond_decide, if_neg (by omega)]
  rw [List.drop_zero, vl_dg] at h8
  have h8 : Q * B + R = A := by
   have : ((Q * B + R : Nat) : Int) = A := by rw [Int.natCast_add, Int.natCast_mul]; exact h8
   omega
  have hB : 0 < B := by omega
  have h9 : A / B = Q := by rw [← h8, Nat.add_comm, Nat.add_mul_div_right _ _ hB, Nat.div_eq_of_lt h3, Nat.zero_add]
  have h10 : A % B = R := by rw [← h8, Nat.mul_add_mod_self_right, Nat.mod_eq_of_lt h3]
  exact ⟨o, u, h5, h4, by rw [h7, h9]; simp, u1, by omega, by rw [u3, h10], by simp⟩
 | k + 1, m + 1, Q, R, o, u, h1, h2, h3, h4, h5, h6, h7, u1, u2, u3, h8 => by
  rw [f184_L14_s]
  unfold f184_L14B
  dsimp only
  have hB : 0 < B := by omega
  rw [Bool.cond_decide, if_pos (by omega)]
  rw [show (((k + 1 : Nat) : Int) - 1) = (k : Int) by omega]
  have hg := (Lm_dg A).get k
  obtain ⟨x, hx⟩ : ∃ x : Nat, (dg A).getD k 0 = (x : Int) := ⟨((dg A).getD k 0).toNat, by omega⟩
  have hRx : vl ((dg A).drop k) = (x : Int) + 10000 * vl ((dg A).drop (k + 1)) := by
   rw [vl_drop (by omega), hx]
  have htk : (dg A).take (k + 1) ++ u = (dg A).take k ++ ((x : Int) :: u) := by
   rw [List.take_succ_eq_append_getElem (by omega), List.append_assoc]
   congr 1
   rw [← hx, List.getD_eq_getElem?_getD, List.getElem?_eq_getElem (by omega)]
   rfl
  have hL : Lm ((x : Int) :: u) := Lm.cons (by omega) u1
  have hv : vl ((x : Int) :: u) = ((x + 10000 * R : Nat) : Int) := by rw [vl, u3, nc10b]
  have hlt : x + 10000 * R < 10000 * B := by omega
  obtain ⟨w, post, hwp, hw, hp, hwl⟩ : ∃ w post, (x : Int) :: u = w ++ post ∧ Lm w ∧ Lm post ∧ w.length = M + 3 :=
   ⟨((x : Int) :: u).take (M + 3), ((x : Int) :: u).drop (M + 3), (List.take_append_drop _ _).symm, hL.take _, hL.drop _, by rw [List.length_take, List.length_cons]; omega⟩
  have hlp : w.length + post.length = u.length + 1 := by
   have := congrArg List.length hwp
   simpa using this.symm
  have hvp : vl post = 0 := by
   have e := hv
   rw [hwp, vl_app, hwl] at e
   have h10 : B < 10000 ^ (M + 2) := lt_len' (by omega)
   have h11 : ((x + 10000 * R : Nat) : Int) < 10000 ^ (M + 3) := by
    rw [pw_succ, ← pwc]; omega
   have h12 := vl_nonneg hw
   have h13 := vl_nonneg hp
   rcases Int.lt_or_eq_of_le h13 with h | h
   · exfalso
     have h14 : (10000 : Int) ^ (M + 3) * 1 ≤ 10000 ^ (M + 3) * vl post := Int.mul_le_mul_of_nonneg_left (by omega) (by have := pw_pos (M + 3); omega)
     generalize (10000 : Int) ^ (M + 3) * vl post = z at *
     generalize (10000 : Int) ^ (M + 3) = P at *
     omega
   · exact h.symm
  have hvw : vl w = ((x + 10000 * R : Nat) : Int) := by
   rw [← hv, hwp, vl_app, hvp]; simp
  rw [htk, hwp, ← List.append_assoc]
  have hpl : ((dg A).take k).length = k := by rw [List.length_take]; omega
  obtain ⟨w', q1, q2, q3, q4⟩ := f204B_eq (n := n) (pre := (dg A).take k) (post := post) hM (by omega) (by omega) hw hwl hvw hlt
  rw [hpl] at q4
  rw [W_id (x := (k : Int) + ((dg B).length : Int)) (by omega) (by omega), W_id (x := (k : Int) + ((dg B).length : Int) + 1) (by omega) (by omega)]
  rw [gd_pos (by simp only [Bool.and_eq_true, decide_eq_true_eq, List.length_append, hpl]; omega)]
  rw [show ((k : Int) + ((dg B).length : Int) + 1).toNat - (k : Int).toNat = M + 3 by omega]
  simp only [Int.toNat_natCast]
  rw [q4, ob_some]
  dsimp only
  have hqm := Nat.mod_lt (x + 10000 * R) hB
  have hqr := Nat.div_add_mod (x + 10000 * R) B
  have hq : (x + 10000 * R) / B < 10000 := by
   rw [Nat.div_lt_iff_lt_mul hB]; omega
  generalize (x + 10000 * R) / B = q at *
  generalize (x + 10000 * R) % B = r at *
  rw [gd_pos (by simp [hwl, q2]), gd_pos (by simp; try omega), gd_pos (by simp; try omega), W_id (x := (k : Int) - 1) (by omega) (by omega), List.append_assoc]
  refine many182 hM hla hlA hn k m (10000 * Q + q) r _ _ (by omega) (by omega) hqm (by simpa using h4) (h5.set _ (by omega)) (fun i hi => set_low h6 hi) ?_ (q1.app hp) ?_ ?_ ?_
  · rw [vl_set _ (by omega), h7, h6 k (by omega), pw_succ, nc10a]
    generalize (10000 : Int) ^ k = P
    grind
  · rw [List.length_append]; omega
  · rw [vl_app, hvp, q3]; simp
  · rw [hRx, ← h8]
    exact step_quo rfl hqr rfl

theorem f145_eq (n : Nat) {l : List Int} (h : l.length ≤ 17592186044416) : f145 n l = some l := by
 unfold f145
 cases l with
 | nil => rfl
 | cons x r =>
  unfold f145G
  rw [Bool.cond_eq_ite, if_neg (by simp), gd_pos (by rfl), gd_pos (by simp only [decide_eq_true_eq]; simp only [List.length_cons] at *; omega)]

theorem f145B_eq (n : Nat) {l : List Int} (h : l.length ≤ 17592186044416) (h0 : l ≠ []) : f145B n l = some l := by
 unfold f145B
 cases l with
 | nil => exact absurd rfl h0
 | cons x r => rw [gd_pos (by rfl), gd_pos (by simp only [decide_eq_true_eq]; simp only [List.length_cons] at *; omega)]

theorem i_div {n L A B : Nat} (hB : 0 < B) (hA : (dg A).length ≤ L) (hBl : (dg B).length ≤ L) (hL : L ≤ 1099511627000) (hn : L + 10040 ≤ n) : f184 n (dg A) (dg B) = some (dg (A / B), dg (A % B)) := by
 unfold f184
 rw [i_cmp (by omega), ob_some, Bool.cond_decide]
 by_cases hlt : A < B
 · rw [if_pos (by rw [cm_lt (by omega)]; omega), f145_eq n (by omega), ob_some, Nat.div_eq_of_lt hlt, Nat.mod_eq_of_lt hlt, dg_zero]
 · rw [if_neg (by
    rcases Nat.lt_or_eq_of_le (Nat.le_of_not_lt hlt) with h | h
    · rw [cm_gt (by omega)]; omega
    · rw [cm_eq (by omega)]; omega)]
   have hmn : (dg B).length ≤ (dg A).length := len_mono (by omega)
   have hb0 : 0 < (dg B).length := by rw [dg_pos (by omega)]; simp
   rw [Bool.cond_eq_ite]
   by_cases h1 : (dg B).length = 1
   · rw [if_pos (by simp [h1])]
     have hB1 : B < 10000 := by have := lt_len' (n := B) (k := 1) (by omega); simpa using this
     have hBd : dg B = [(B : Int)] := by
      rw [dg_pos (by omega), Nat.mod_eq_of_lt hB1, Nat.div_eq_of_lt hB1, dg_zero]
     rw [gd_pos (by simp; try omega), show f201 n (dg A) = some (dg A) from rfl, ob_some, f184_L7_e, gd_pos (by simp; try omega), hBd]
     simp only [Int.toNat_natCast]
     obtain ⟨o, q1, q2, q3, q4⟩ := one182 (n := n) (A := A) hB hB1 (by omega) (k0 := fun z_4 z_5 => (
           ob (f185 n z_5) fun r_6 =>
           ob (f160 n z_4) fun r_7 =>
           some (r_6, r_7))) (dg A).length 0 0 (List.replicate (dg A).length 0) (Nat.le_refl _) hB (by simp) (Lm.rep _) (fun i hi => by simp [List.getD_eq_getElem?_getD, List.getElem?_replicate, hi]) (by rw [vl_rep]; simp) (by simp [vl])
     have q4 : f184_L7R n (dg A) (dg A).length (dg A) [(B : Int)] 0 _ _ = _ := q4
     have hm := Nat.mod_lt A hB
     rw [q4, f185_eq q1 (by omega) (by omega), ob_some, f160_eq (by omega) (by omega), ob_some, q3]
     rfl
   · rw [if_neg (by simp; omega)]
     obtain ⟨M, hM⟩ : ∃ M, (dg B).length = M + 2 := ⟨(dg B).length - 2, by omega⟩
     rw [f145B_eq n (by omega) (List.length_pos_iff.1 (by omega)), ob_some, gd_pos (by simp; try omega)]
     rw [W_id (x := ((dg A).length : Int) - ((dg B).length : Int)) (by omega) (by omega), W_id (x := ((dg A).length : Int) - ((dg B).length : Int) + 1) (by omega) (by omega), gd_pos (by simp; try omega)]
     rw [show (((dg A).length : Int) - ((dg B).length : Int) + 1).toNat = (dg A).length - (M + 1) by omega]
     have hR0 := vl_nonneg ((Lm_dg A).drop ((dg A).length - (M + 1)))
     obtain ⟨R, hR⟩ : ∃ R : Nat, vl ((dg A).drop ((dg A).length - (M + 1))) = (R : Int) := ⟨_, (Int.toNat_of_nonneg hR0).symm⟩
     have hRB : R < B := by
      have := vl_lt ((Lm_dg A).drop ((dg A).length - (M + 1)))
      rw [List.length_drop, show (dg A).length - ((dg A).length - (M + 1)) = M + 1 by omega, hR] at this
      have h2 := (Cn_dg B).ge (List.length_pos_iff.1 (by omega))
      rw [hM, vl_dg] at h2
      have h2 : (10000 : Int) ^ (M + 1) ≤ B := h2
      generalize (10000 : Int) ^ (M + 1) = P at *
      omega
     obtain ⟨o, u, q1, q2, q3, q4, q5, q6, q7⟩ := many182 (n := n) (A := A) (B := B) hM hmn (by omega) (by omega) (k0 := fun z_10 z_11 => (
             ob (f185 n z_10) fun r_12 =>
             ob (f185 n z_11) fun r_13 =>
             some (r_12, r_13))) ((dg A).length - (M + 1)) n 0 R (List.replicate ((dg A).length - (M + 1)) 0) ((dg A).drop ((dg A).length - (M + 1)) ++ [0]) (by omega) (Nat.le_refl _) hRB (by simp) (Lm.rep _) (fun i hi => by simp [List.getD_eq_getElem?_getD, List.getElem?_replicate, hi]) (by rw [vl_rep]; simp) (((Lm_dg A).drop _).app (Lm.cons (by omega) Lm.nil)) (by simp; omega) (by rw [vl_snoc, hR]; simp) (by rw [hR]; simp)
     rw [← List.append_assoc, List.take_append_drop] at q7
     rw [show ((dg A).length : Int) - ((dg B).length : Int) = (((dg A).length - (M + 1) : Nat) : Int) - 1 by omega, q7, f185_eq q1 (by omega) (by omega), ob_some, f185_eq q4 (by omega) (by omega), ob_some, q3, q6]
     rfl

theorem gcd137 {α : Type} {n L : Nat} (hL : L ≤ 1099511627000) (hn : L + 10040 ≤ n) {k0 : List Int → Option α} :
  ∀ (j m a b : Nat), b < 2 ^ j → 2 * j + 1 ≤ m → (dg a).length ≤ L → (dg b).length ≤ L → f183_L1 n m (dg a) (dg b) k0 = k0 (dg (Nat.gcd b a)) := by
 have stop : ∀ (m a : Nat), 0 < m → f183_L1 n m (dg a) (dg 0) k0 = k0 (dg (Nat.gcd 0 a)) := fun m a hm => by
  obtain ⟨m, rfl⟩ : ∃ m', m = m' + 1 := ⟨m - 1, by omega⟩
  rw [f183_L1_s, Nat.gcd_zero_left, dg_zero]; rfl
 have step : ∀ (m a b : Nat), 0 < b → (dg a).length ≤ L → (dg b).length ≤ L → f183_L1 n (m + 1) (dg a) (dg b) k0 = f183_L1 n m (dg b) (dg (a % b)) k0 := fun m a b hb ha hbl => by
  rw [f183_L1_s]
  unfold f183_L1B
  have : 0 < (dg b).length := by rw [dg_pos (by omega)]; simp
  rw [Bool.cond_decide, if_pos (by omega), i_div hb ha hbl hL hn, ob_some]
 intro j
 induction j with
 | zero =>
  intro m a b h1 h2 h3 h4
  obtain rfl : b = 0 := by simpa using h1
  exact stop m a (by omega)
 | succ j ih =>
  intro m a b h1 h2 h3 h4
  rcases Nat.eq_zero_or_pos b with rfl | hb
  · exact stop m a (by omega)
  obtain ⟨m, rfl⟩ : ∃ m', m = m' + 2 := ⟨m - 2, by omega⟩
  have h5 : (dg (a % b)).length ≤ L := Nat.le_trans (len_mono (Nat.le_of_lt (Nat.mod_lt a hb))) h4
  rw [step _ _ _ hb h3 h4, Nat.gcd_rec b a]
  rcases Nat.eq_zero_or_pos (a % b) with hr | hr
  · rw [hr]; exact stop _ _ (by omega)
  have h6 : (dg (b % (a % b))).length ≤ L := Nat.le_trans (len_mono (Nat.le_of_lt (Nat.mod_lt b hr))) h5
  rw [step _ _ _ hr h4 h5, Nat.gcd_rec (a % b) b]
  exact ih m _ _ (gcd_half hb hr h1) (by omega) h5 h6

theorem i_gcd {n L a b : Nat} (hL : L ≤ 1099511627000) (hn : 28 * L + 10040 ≤ n) (ha : (dg a).length ≤ L) (hb : (dg b).length ≤ L) : f183 n (dg a) (dg b) = some (dg (Nat.gcd a b)) := by
 unfold f183
 rw [gcd137 hL (by omega) (14 * L) n a b (pow_two (lt_len' hb)) (by omega) ha hb, Nat.gcd_comm]

abbrev Rt := Bool × List Int × List Int

abbrev rt0 : Rt := (false, [], [])

def Sm (x : Rt) : Prop := x.2.1.length ≤ 1048576 ∧ x.2.2.length ≤ 1048576

theorem Sm.get {l : List Rt} (h : ∀ x ∈ l, Sm x) (i : Nat) : Sm (l.getD i rt0) := by
 rw [List.getD_eq_getElem?_getD]
 cases e : l[i]? with
 | none => exact ⟨by simp, by simp⟩
 | some x => exact h x (List.mem_of_getElem? e)

def limb (x : Int) : Bool := decide (0 ≤ x ∧ x ≤ 9999)

def nok (l : List Int) : Bool := decide (l.length ≤ 40) && l.all limb && (l.isEmpty || decide (0 < l.getD (l.length - 1) 0))

theorem nok_Cn {l : List Int} (h : nok l = true) : Cn l ∧ l.length ≤ 40 := by
 unfold nok at h
 simp only [Bool.and_eq_true, decide_eq_true_eq, Bool.or_eq_true, List.all_eq_true, List.isEmpty_iff] at h
 obtain ⟨⟨h1, h2⟩, h3⟩ := h
 refine ⟨⟨fun x hx => ?_, fun hn => ?_⟩, h1⟩
 · have := h2 x hx
   unfold limb at this
   rw [decide_eq_true_eq] at this
   omega
 · rcases h3 with h3 | h3
   · exact absurd h3 hn
   · omega

theorem alldrop {α : Type} {l : List α} {p : α → Bool} {i : Nat} (h : i < l.length) (d : α) : (l.drop i).all p = (p (l.getD i d) && (l.drop (i + 1)).all p) := by
 rw [List.drop_eq_getElem_cons h, List.all_cons, List.getD_eq_getElem?_getD, List.getElem?_eq_getElem h]; rfl

theorem f65_eq {n : Nat} {a lo hi : Int} : f65 n a lo hi = some (decide (lo ≤ a ∧ a ≤ hi)) := by
 unfold f65; by_cases h : lo ≤ a <;> simp [h]

theorem f70_eq {n : Nat} {a lo hi : Int} : f70 n a lo hi = some (decide (lo ≤ a ∧ a ≤ hi)) := by
 unfold f70; by_cases h : lo ≤ a <;> simp [h]

theorem f189_loop {α : Type} {n : Nat} {l : List Int} (hl : l.length ≤ 1048576) {k0 : Bool → Option α} {k1 : List Int → Option α} : ∀ (m i : Nat), i ≤ l.length → l.length < i + m → f189_L4 n m l (i : Int) k0 k1 = if (l.drop i).all limb = true then k1 l else k0 false
 | 0, i, hi, hm => by omega
 | m + 1, i, hi, hm => by
  rw [f189_L4_s]
  unfold f189_L4B
  dsimp only
  rw [Bool.cond_decide]
  by_cases h : i < l.length
  · rw [if_pos (by omega), gd_pos (by simp; try omega)]
    simp only [Int.toNat_natCast]
    rw [f65_eq, ob_some, alldrop h 0]
    cases hp : limb (l.getD i 0) with
    | true =>
     unfold limb at hp
     rw [hp, W_id (x := (i : Int) + 1) (by omega) (by omega)]
     simp only [Bool.not_true, cond_false, Bool.true_and]
     exact f189_loop hl m (i + 1) (by omega) (by omega)
    | false =>
     unfold limb at hp
     rw [hp]
     simp
  · rw [if_neg (by omega), List.drop_of_length_le (by omega)]
    rfl

theorem f189_eq {n : Nat} {l : List Int} (hn : 1048577 ≤ n) : f189 n l = some (nok l) := by
 unfold f189 nok
 rw [Bool.cond_decide]
 by_cases h : l.length ≤ 4096
 · rw [if_neg (by omega)]
   have := f189_loop (n := n) (l := l) (by omega) (k0 := fun z_2 => some z_2) (k1 := fun z_3 => (
     bif (decide ((z_3.length : Int) ≤ 40)) then
      bif ((z_3.length : Int) == 0) then
       some true
      else
       gd (decide (0 ≤ (W ((z_3.length : Int) - 1))) && decide ((W ((z_3.length : Int) - 1)) < (z_3.length : Int))) (
        some (decide ((z_3.getD ((W ((z_3.length : Int) - 1)).toNat) 0) > 0)))
     else
      some false)) n 0 (by omega) (by omega)
   have this : f189_L4 n n l 0 _ _ = _ := this
   rw [this, List.drop_zero]
   cases l.all limb with
   | false => simp
   | true =>
    rw [if_pos rfl, Bool.cond_decide]
    by_cases h40 : l.length ≤ 40
    · rw [if_pos (by omega)]
      cases l with
      | nil => rfl
      | cons x r =>
       rw [Bool.cond_eq_ite, if_neg (by simp; omega), W_id (x := ((x :: r).length : Int) - 1) (by omega) (by omega), gd_pos (by simp; omega), show (((x :: r).length : Int) - 1).toNat = (x :: r).length - 1 by omega]
       have h41 : r.length ≤ 39 := by simpa using h40
       simp [h41]
    · rw [if_neg (by omega)]
      simp [h40]
 · rw [if_pos (by omega), decide_eq_false (by omega)]
   rfl

theorem f224c211_loop {n : Nat} {l : List Int} (hl : l.length ≤ 1048576) : ∀ (m i : Nat), i ≤ l.length → l.length < i + m → ∃ r, f224c211_L2 n m l (l.length : Int) (i : Int) (fun z => some z) (fun (_ : Unit) => some (-1)) = some r ∧ decide (r ≥ 0) = !(l.drop i).all limb
 | 0, i, hi, hm => by omega
 | m + 1, i, hi, hm => by
  rw [f224c211_L2_s]
  unfold f224c211_L2B
  dsimp only
  rw [Bool.cond_decide]
  by_cases h : i < l.length
  · rw [if_pos (by omega), gd_pos (by simp; try omega)]
    simp only [Int.toNat_natCast]
    have e : f211 n (l.getD i 0) = some (!limb (l.getD i 0)) := by
     unfold f211 limb
     rw [Bool.cond_decide]
     generalize l.getD i 0 = x
     by_cases h1 : x < 0
     · rw [if_pos h1, decide_eq_false (by omega)]; rfl
     · rw [if_neg h1]
       by_cases h2 : x ≤ 9999
       · rw [decide_eq_false (by omega), decide_eq_true (by omega)]; rfl
       · rw [decide_eq_true (by omega), decide_eq_false (by omega)]; rfl
    rw [e, ob_some, alldrop h 0]
    cases hp : limb (l.getD i 0) with
    | true =>
     rw [W_id (x := (i : Int) + 1) (by omega) (by omega)]
     simp only [Bool.not_true, cond_false, Bool.true_and]
     exact f224c211_loop hl m (i + 1) (by omega) (by omega)
    | false =>
     exact ⟨i, rfl, by simp⟩
  · rw [if_neg (by omega), List.drop_of_length_le (by omega)]
    exact ⟨-1, rfl, rfl⟩

theorem f210c211_eq {n : Nat} {l : List Int} (hl : l.length ≤ 1048576) (hn : 1048577 ≤ n) : f210c211 n l () = some (!l.all limb) := by
 unfold f210c211 f224c211
 obtain ⟨r, h1, h2⟩ := f224c211_loop (n := n) hl n 0 (by omega) (by omega)
 have h1 : f224c211_L2 n n l (l.length : Int) 0 _ _ = _ := h1
 rw [h1, ob_some, h2, List.drop_zero]

theorem f197_eq {n : Nat} {l : List Int} (hn : 1048577 ≤ n) : f197 n l = some (nok l) := by
 unfold f197 nok
 rw [Bool.cond_decide]
 by_cases h : l.length ≤ 40
 · rw [if_neg (by omega), decide_eq_true h, Bool.true_and, Bool.cond_decide]
   cases l with
   | nil => rw [if_neg (by simp), f210c211_eq (by omega) hn]; rfl
   | cons x r =>
    rw [if_pos (by simp), W_id (x := ((x :: r).length : Int) - 1) (by omega) (by omega), gd_pos (by simp; omega), show (((x :: r).length : Int) - 1).toNat = (x :: r).length - 1 by omega]
    rw [f210c211_eq (by omega) hn, ob_some, Bool.not_not, Bool.cond_eq_ite]
    by_cases hz : (x :: r).getD ((x :: r).length - 1) 0 = 0
    · rw [if_pos (by rw [hz]; rfl), hz]; simp
    · rw [if_neg (by rw [beq_iff_eq]; exact hz)]
      cases ha : (x :: r).all limb with
      | false => rfl
      | true =>
       have : limb ((x :: r).getD ((x :: r).length - 1) 0) = true := by
        rw [List.all_eq_true] at ha
        apply ha
        rw [List.getD_eq_getElem?_getD, List.getElem?_eq_getElem (by simp)]
        simp only [Option.getD_some]
        exact List.getElem_mem _
       unfold limb at this
       rw [decide_eq_true_eq] at this
       rw [decide_eq_true (by omega)]
       simp
 · rw [if_pos (by omega), decide_eq_false h]; rfl

theorem len0 {α : Type} (l : List α) : ((l.length : Int) == 0) = l.isEmpty := by
 cases l with
 | nil => rfl
 | cons x r => rw [beq_eq_false_iff_ne.2 (by simp; omega)]; rfl

def rok (x : Rt) : Bool := nok x.2.1 && nok x.2.2 && !x.2.2.isEmpty && !(x.2.1.isEmpty && x.1) && decide (Nat.gcd (vl x.2.1).toNat (vl x.2.2).toNat = 1)

theorem dg_one : dg 1 = [1] := by rw [dg_pos (by omega), show 1 / 10000 = 0 from rfl, dg_zero]; rfl

theorem cm_one {g : Nat} : (cm (g : Int) ((1 : Nat) : Int) == 0) = decide (g = 1) := by
 unfold cm
 by_cases h : g = 1
 · subst h; rfl
 · rw [decide_eq_false h]
   by_cases h2 : (g : Int) < (1 : Nat)
   · rw [if_pos h2]; rfl
   · rw [if_neg h2, if_neg (by omega)]; rfl

theorem gcd_len {a b : Nat} (ha : (dg a).length ≤ 40) (hb : (dg b).length ≤ 40) : (dg (Nat.gcd a b)).length ≤ 40 := by
 rcases Nat.eq_zero_or_pos a with rfl | h
 · rw [Nat.gcd_zero_left]; exact hb
 · exact Nat.le_trans (len_mono (Nat.gcd_le_left b h)) ha

theorem f148_eq {n : Nat} {x : Rt} (hn : 1048577 ≤ n) : f148 n x = some (rok x) := by
 obtain ⟨s, a, b⟩ := x
 unfold f148 rok
 dsimp only
 simp only [len0]
 rw [f189_eq hn, ob_some, f189_eq hn, ob_some]
 cases ha : nok a with
 | false => rfl
 | true =>
  cases hb : nok b with
  | false => rfl
  | true =>
   obtain ⟨ca, la⟩ := nok_Cn ha
   obtain ⟨cb, lb⟩ := nok_Cn hb
   have ea := dg_vl ca
   have eb := dg_vl cb
   have hg : f190 n a b = some (dg (Nat.gcd (vl a).toNat (vl b).toNat)) := by
    conv => lhs; rw [← ea, ← eb]
    exact s_gcd (L := 40) (by omega) (by omega) (by rw [ea]; exact la) (by rw [eb]; exact lb)
   have hgl := gcd_len (a := (vl a).toNat) (b := (vl b).toNat) (by rw [ea]; exact la) (by rw [eb]; exact lb)
   rw [hg, ob_some, ← dg_one, s_cmp (by omega) (by omega), ob_some, cm_one]
   cases b <;> cases a <;> cases s <;> simp

theorem f163_eq {n : Nat} {x : Rt} (hn : 1048577 ≤ n) : f163 n x = some (rok x) := by
 obtain ⟨s, a, b⟩ := x
 unfold f163 rok
 dsimp only
 rw [f197_eq hn, ob_some, f197_eq hn, ob_some]
 cases ha : nok a with
 | false => rfl
 | true =>
  cases hb : nok b with
  | false => rfl
  | true =>
   obtain ⟨ca, la⟩ := nok_Cn ha
   obtain ⟨cb, lb⟩ := nok_Cn hb
   have ea := dg_vl ca
   have eb := dg_vl cb
   have hg : f183 n a b = some (dg (Nat.gcd (vl a).toNat (vl b).toNat)) := by
    conv => lhs; rw [← ea, ← eb]
    exact i_gcd (L := 40) (by omega) (by omega) (by rw [ea]; exact la) (by rw [eb]; exact lb)
   have hgl := gcd_len (a := (vl a).toNat) (b := (vl b).toNat) (by rw [ea]; exact la) (by rw [eb]; exact lb)
   rw [hg, ob_some, show f161 n = some [1] from rfl, ob_some, ← dg_one, i_cmp (by omega), ob_some, cm_one, show f74 n (s, a, b) = some ((a.length : Int) == 0) from rfl, ob_some, len0, len0]
   cases b <;> cases a <;> cases s <;> simp

theorem f79_loop {α : Type} {n : Nat} {l : List Rt} (hl : l.length ≤ 1048576) (hn : 1048577 ≤ n) {k0 : Bool → Option α} {k1 : Unit → Option α} : ∀ (m i : Nat), i ≤ l.length → l.length < i + m → f79_L6 n m l (i : Int) k0 k1 = if (l.drop i).all rok = true then k1 () else k0 false
 | 0, i, hi, hm => by omega
 | m + 1, i, hi, hm => by
  rw [f79_L6_s]
  unfold f79_L6B
  dsimp only
  rw [Bool.cond_decide]
  by_cases h : i < l.length
  · rw [if_pos (by omega), gd_pos (by simp; try omega)]
    simp only [Int.toNat_natCast]
    rw [f148_eq hn, ob_some, alldrop h rt0]
    cases hp : rok (l.getD i rt0) with
    | true =>
     rw [W_id (x := (i : Int) + 1) (by omega) (by omega)]
     simp only [Bool.not_true, cond_false, Bool.true_and]
     exact f79_loop hl hn m (i + 1) (by omega) (by omega)
    | false => simp
  · rw [if_neg (by omega), List.drop_of_length_le (by omega)]
    rfl

theorem f175c162_loop {n : Nat} {l : List Rt} (hl : l.length ≤ 1048576) (hn : 1048577 ≤ n) : ∀ (m i : Nat), i ≤ l.length → l.length < i + m → ∃ r, f175c162_L2 n m l (l.length : Int) (i : Int) (fun z => some z) (fun (_ : Unit) => some (-1)) = some r ∧ decide (r ≥ 0) = !(l.drop i).all rok
 | 0, i, hi, hm => by omega
 | m + 1, i, hi, hm => by
  rw [f175c162_L2_s]
  unfold f175c162_L2B
  dsimp only
  rw [Bool.cond_decide]
  by_cases h : i < l.length
  · rw [if_pos (by omega), gd_pos (by simp; try omega)]
    simp only [Int.toNat_natCast]
    have e : f162 n (l.getD i rt0) = some (!rok (l.getD i rt0)) := by
     unfold f162
     rw [f163_eq hn, ob_some]
    rw [e, ob_some, alldrop h rt0]
    cases hp : rok (l.getD i rt0) with
    | true =>
     rw [W_id (x := (i : Int) + 1) (by omega) (by omega)]
     simp only [Bool.not_true, cond_false, Bool.true_and]
     exact f175c162_loop hl hn m (i + 1) (by omega) (by omega)
    | false => exact ⟨i, rfl, by simp⟩
  · rw [if_neg (by omega), List.drop_of_length_le (by omega)]
    exact ⟨-1, rfl, rfl⟩

theorem f111c162_eq {n : Nat} {l : List Rt} (hl : l.length ≤ 1048576) (hn : 1048577 ≤ n) : f111c162 n l () = some (!l.all rok) := by
 unfold f111c162 f175c162
 obtain ⟨r, h1, h2⟩ := f175c162_loop (n := n) hl hn n 0 (by omega) (by omega)
 have h1 : f175c162_L2 n n l (l.length : Int) 0 _ _ = _ := h1
 rw [h1, ob_some, h2, List.drop_zero]

theorem f94_eq {n : Nat} {l : List Rt} (hl : l.length ≤ 1048576) (hn : 1048577 ≤ n) : f94 n l = some (if l.all rok = true then 0 else 1) := by
 unfold f94
 rw [f111c162_eq hl hn, ob_some]
 cases l.all rok <;> rfl

theorem sq_le {a : Int} (h : 1 ≤ a ∧ a ≤ 4) : 0 ≤ a * a ∧ a * a ≤ 16 := by
 obtain ⟨h1, h2⟩ := h
 have h3 := Int.mul_nonneg (a := a) (b := a) (by omega) (by omega)
 have h4 : a * a ≤ 4 * a := Int.mul_le_mul_of_nonneg_right (by omega) (by omega)
 omega

def mok (l : List Rt) (a : Int) : Bool := decide (1 ≤ a ∧ a ≤ 4) && ((l.length : Int) == a * a) && l.all rok

theorem f79_eq {n : Nat} {l : List Rt} {a : Int} (hn : 1048577 ≤ n) : f79 n l a = some (mok l a) := by
 unfold f79 mok
 rw [Bool.cond_decide, f65_eq, ob_some]
 by_cases ha : 1 ≤ a ∧ a ≤ 4
 · rw [decide_eq_true ha]
   have := sq_le ha
   rw [W_id (x := a * a) (by omega) (by omega)]
   by_cases hl : (l.length : Int) = a * a
   · rw [if_neg (by omega), hl]
     simp only [Bool.not_true, cond_false, bne_self_eq_false, BEq.rfl, Bool.true_and]
     have h := f79_loop (n := n) (l := l) (by omega) hn (k0 := fun z_4 => some z_4) (k1 := fun (_ : Unit) => some true) n 0 (by omega) (by omega)
     have h : f79_L6 n n l 0 _ _ = _ := h
     rw [h, List.drop_zero]
     cases l.all rok <;> rfl
   · have : ((l.length : Int) == a * a) = false := by rw [beq_eq_false_iff_ne]; exact hl
     rw [this, show ((l.length : Int) != a * a) = true by rw [bne_iff_ne]; exact hl]
     split <;> rfl
 · rw [decide_eq_false ha]
   split <;> rfl

theorem f125_eq {n : Nat} {l : List Rt} {a : Int} (hn : 1048577 ≤ n) : f125 n l a = some (mok l a) := by
 unfold f125 mok
 rw [f70_eq, ob_some]
 by_cases ha : 1 ≤ a ∧ a ≤ 4
 · rw [decide_eq_true ha]
   have := sq_le ha
   rw [W_id (x := a * a) (by omega) (by omega)]
   by_cases hl : (l.length : Int) = a * a
   · rw [f94_eq (by omega) hn, hl]
     cases l.all rok <;> simp
   · have : ((l.length : Int) == a * a) = false := by rw [beq_eq_false_iff_ne]; exact hl
     rw [this]; rfl
 · rw [decide_eq_false ha]; rfl

def vok (l : List Rt) : Bool := decide (1 ≤ l.length ∧ l.length ≤ 4) && l.all rok

theorem f114_loop {α : Type} {n : Nat} {l : List Rt} (hl : l.length ≤ 1048576) (hn : 1048577 ≤ n) {k0 : Bool → Option α} {k1 : List Rt → Option α} : ∀ (m i : Nat), i ≤ l.length → l.length < i + m → f114_L4 n m l (i : Int) k0 k1 = if (l.drop i).all rok = true then k1 l else k0 false
 | 0, i, hi, hm => by omega
 | m + 1, i, hi, hm => by
  rw [f114_L4_s]
  unfold f114_L4B
  dsimp only
  rw [Bool.cond_decide]
  by_cases h : i < l.length
  · rw [if_pos (by omega), gd_pos (by simp; try omega)]
    simp only [Int.toNat_natCast]
    rw [f148_eq hn, ob_some, alldrop h rt0]
    cases hp : rok (l.getD i rt0) with
    | true =>
     rw [W_id (x := (i : Int) + 1) (by omega) (by omega)]
     simp only [Bool.not_true, cond_false, Bool.true_and]
     exact f114_loop hl hn m (i + 1) (by omega) (by omega)
    | false => simp
  · rw [if_neg (by omega), List.drop_of_length_le (by omega)]
    rfl

theorem f114_eq {n : Nat} {l : List Rt} (hn : 1048577 ≤ n) : f114 n l = some (vok l) := by
 unfold f114 vok
 rw [Bool.cond_decide]
 by_cases h : l.length ≤ 4096
 · rw [if_neg (by omega)]
   have h1 := f114_loop (n := n) (l := l) (by omega) hn (k0 := fun z_3 => some z_3) (k1 := fun z_4 => (
     ob (f65 n (z_4.length : Int) 1 4) fun r_5 =>
     some r_5)) n 0 (by omega) (by omega)
   have h1 : f114_L4 n n l 0 _ _ = _ := h1
   rw [h1, List.drop_zero, f65_eq, ob_some]
   have e : decide ((1 : Int) ≤ (l.length : Int) ∧ (l.length : Int) ≤ 4) = decide (1 ≤ l.length ∧ l.length ≤ 4) := by
    apply decide_eq_decide.2; omega
   rw [e]
   cases l.all rok <;> simp
 · rw [if_pos (by omega), decide_eq_false (by omega)]; rfl

theorem f109_eq {n : Nat} {l : List Rt} (hn : 1048577 ≤ n) : f109 n l = some (vok l) := by
 unfold f109 vok
 rw [Bool.cond_decide, Bool.cond_decide]
 by_cases h : 1 ≤ l.length ∧ l.length ≤ 4
 · rw [if_pos (by omega), if_pos (by omega), f94_eq (by omega) hn, decide_eq_true h, ob_some]
   cases l.all rok <;> rfl
 · rw [decide_eq_false h]
   split
   · rw [if_neg (by omega)]; rfl
   · rfl

theorem f167_loop {n : Nat} {l : List Int} (hl : l.length ≤ 1048576) : ∀ (m i : Nat), i ≤ l.length → l.length < i + m → ∃ c, f167_L2 n m 4096 l (l.length : Int) (i : Int) (fun z => some z) (fun (_ : Unit) => some 0) = some c ∧ ((c = 0 ∧ ∀ x ∈ l.drop i, x ≤ 4096) ∨ (c = 2 ∧ ∃ x ∈ l, 4096 < x))
 | 0, i, hi, hm => by omega
 | m + 1, i, hi, hm => by
  rw [f167_L2_s]
  unfold f167_L2B
  dsimp only
  rw [Bool.cond_decide]
  by_cases h : i < l.length
  · rw [if_pos (by omega), gd_pos (by simp; try omega)]
    simp only [Int.toNat_natCast]
    rw [Bool.cond_decide]
    by_cases hx : 4096 < l.getD i 0
    · rw [if_pos hx]
      refine ⟨2, rfl, .inr ⟨rfl, l.getD i 0, ?_, hx⟩⟩
      rw [List.getD_eq_getElem?_getD, List.getElem?_eq_getElem h]
      exact List.getElem_mem h
    · rw [if_neg hx, W_id (x := (i : Int) + 1) (by omega) (by omega)]
      obtain ⟨c, h1, h2⟩ := f167_loop (n := n) hl m (i + 1) (by omega) (by omega)
      refine ⟨c, h1, h2.imp (fun ⟨e, h3⟩ => ⟨e, fun x hx' => ?_⟩) (fun h => h)⟩
      rw [List.drop_eq_getElem_cons h] at hx'
      rcases List.mem_cons.1 hx' with rfl | hx'
      · rw [List.getD_eq_getElem?_getD, List.getElem?_eq_getElem h] at hx
        exact Int.not_lt.1 hx
      · exact h3 x hx'
  · rw [if_neg (by omega)]
    refine ⟨0, rfl, .inl ⟨rfl, fun x hx => ?_⟩⟩
    rw [List.drop_of_length_le (by omega)] at hx
    cases hx

theorem f98_loop {α : Type} {n : Nat} {L : List (List Rt)} (hl : L.length ≤ 1048576) {k0 : List Int → Option α} : ∀ (m i : Nat) (o : List Int), o.length ≤ i → i ≤ L.length → L.length < i + m → f98_L3 n m L (L.length : Int) (i : Int) o k0 = k0 (o ++ (L.drop i).map fun v => (v.length : Int))
 | 0, i, o, ho, hi, hm => by omega
 | m + 1, i, o, ho, hi, hm => by
  rw [f98_L3_s]
  unfold f98_L3B
  dsimp only
  rw [Bool.cond_decide]
  by_cases h : i < L.length
  · rw [if_pos (by omega), gd_pos (by simp; try omega), gd_pos (by simp only [decide_eq_true_eq]; omega)]
    simp only [Int.toNat_natCast]
    rw [W_id (x := (i : Int) + 1) (by omega) (by omega), show (i : Int) + 1 = ((i + 1 : Nat) : Int) from rfl, f98_loop hl m (i + 1) _ (by simp; omega) (by omega) (by omega), List.drop_eq_getElem_cons h, List.getD_eq_getElem?_getD, List.getElem?_eq_getElem h, List.append_assoc]
    rfl
  · rw [if_neg (by omega), List.drop_of_length_le (by omega)]
    simp

theorem f98_eq {n : Nat} {L : List (List Rt)} (hl : L.length ≤ 1048576) (hn : 1048577 ≤ n) : ∃ c, f98 n L = some c ∧ ((c = 0 ∧ ∀ v ∈ L, v.length ≤ 4096) ∨ (c = 2 ∧ ∃ v ∈ L, 4096 < v.length)) := by
 unfold f98
 have h1 := f98_loop (n := n) (L := L) hl (k0 := fun z_1 => (
   ob (f167 n 4096 z_1) fun r_2 =>
   some r_2)) n 0 [] (by simp) (by omega) (by omega)
 have h1 : f98_L3 n n L (L.length : Int) 0 [] _ = _ := h1
 rw [h1, List.drop_zero, List.nil_append]
 unfold f167
 obtain ⟨c, h2, h3⟩ := f167_loop (n := n) (l := L.map fun v => (v.length : Int)) (by simpa using hl) n 0 (by omega) (by simp; omega)
 have h2 : f167_L2 n n 4096 _ _ 0 _ _ = _ := h2
 refine ⟨c, by rw [h2, ob_some], h3.imp (fun ⟨e, h⟩ => ⟨e, fun v hv => by have := h _ (by rw [List.drop_zero]; exact List.mem_map.2 ⟨v, hv, rfl⟩); omega⟩) fun ⟨e, x, hx, hx'⟩ => ⟨e, ?_⟩⟩
 obtain ⟨v, hv, rfl⟩ := List.mem_map.1 hx
 exact ⟨v, hv, by omega⟩

abbrev Nod := Int × Int × Int × Int

def kidsP (op : Int) : Int := if op = 3 ∨ op = 4 ∨ op = 5 ∨ op = 6 then 2 else if op = 7 ∨ op = 8 then 1 else 0

def numP (x : Nod) : Prop := if x.1 = 1 then 0 ≤ x.2.2.2 ∧ x.2.2.2 ≤ 999999999 else if x.1 = 2 then 0 ≤ x.2.2.2 ∧ x.2.2.2 ≤ 3 else if x.1 = 8 then 0 ≤ x.2.2.2 ∧ x.2.2.2 ≤ 8 else x.2.2.2 = 0

instance (x : Nod) : Decidable (numP x) := by unfold numP; infer_instance

def plainP (x : Nod) (i : Int) : Prop := (1 ≤ x.1 ∧ x.1 ≤ 8) ∧ numP x ∧ (if kidsP x.1 > 0 then 0 ≤ x.2.1 ∧ x.2.1 ≤ i - 1 else x.2.1 = 0) ∧ (if kidsP x.1 > 1 then 0 ≤ x.2.2.1 ∧ x.2.2.1 ≤ i - 1 else x.2.2.1 = 0)

instance (x : Nod) (i : Int) : Decidable (plainP x i) := by unfold plainP; infer_instance

def nodeP (x : Nod) (i : Int) : Prop := (1 ≤ x.1 ∧ x.1 ≤ 8) ∧ (if 3 ≤ x.1 ∧ x.1 ≤ 6 then (0 ≤ x.2.1 ∧ x.2.1 ≤ i - 1) ∧ (x.2.1 + 1 ≤ x.2.2.1 ∧ x.2.2.1 ≤ i - 1) ∧ x.2.2.2 = 0
 else if x.1 = 7 ∨ x.1 = 8 then x.2.1 = i - 1 ∧ 0 < i ∧ x.2.2.1 = 0 ∧ 0 ≤ x.2.2.2 ∧ x.2.2.2 ≤ (if x.1 = 8 then 8 else 0)
 else if x.1 = 2 then x.2.1 = 0 ∧ x.2.2.1 = 0 ∧ 0 ≤ x.2.2.2 ∧ x.2.2.2 ≤ 3 else x.2.1 = 0 ∧ x.2.2.1 = 0 ∧ 0 ≤ x.2.2.2 ∧ x.2.2.2 ≤ 999999999)

instance (x : Nod) (i : Int) : Decidable (nodeP x i) := by unfold nodeP; infer_instance

def okP (bs : List Int) (x : Nod) (i : Int) : Prop := nodeP x i ∧ (3 ≤ x.1 ∧ x.1 ≤ 6 → x.2.2.1 = i - 1 ∧ bs.getD x.2.2.1.toNat 0 = x.2.1 + 1)

instance (bs : List Int) (x : Nod) (i : Int) : Decidable (okP bs x i) := by unfold okP; infer_instance

def nb (bs : List Int) (x : Nod) (i : Int) : Int := if 3 ≤ x.1 ∧ x.1 ≤ 8 then bs.getD x.2.1.toNat 0 else i

def nd (ds : List Int) (x : Nod) : Int := if 3 ≤ x.1 ∧ x.1 ≤ 6 then 1 + max (ds.getD x.2.1.toNat 0) (ds.getD x.2.2.1.toNat 0) else if x.1 = 7 ∨ x.1 = 8 then 1 + ds.getD x.2.1.toNat 0 else 1

structure InvE (bs ds : List Int) : Prop where
 len : ds.length = bs.length
 small : bs.length ≤ 1048576
 b : ∀ j, j < bs.length → 0 ≤ bs.getD j 0 ∧ bs.getD j 0 ≤ j
 d : ∀ j, j < ds.length → 1 ≤ ds.getD j 0 ∧ ds.getD j 0 ≤ j + 1

theorem toNat_lt {a : Int} {k : Nat} (h0 : 0 ≤ a) (h : a ≤ (k : Int) - 1) : a.toNat < k := by omega

theorem InvE.step {bs ds : List Int} (h : InvE bs ds) {x : Nod} (hx : okP bs x bs.length) (hs : bs.length + 1 ≤ 1048576) : InvE (bs ++ [nb bs x bs.length]) (ds ++ [nd ds x]) := by
 obtain ⟨h1, h2, h3, h4⟩ := h
 have hn := hx.1
 unfold nodeP at hn
 refine ⟨by simp [h1], by simpa using hs, fun j hj => ?_, fun j hj => ?_⟩
 · simp only [List.length_append, List.length_cons, List.length_nil] at hj
   rcases Nat.lt_or_ge j bs.length with hlt | hge
   · rw [getD_append_left hlt]; exact h3 j hlt
   · obtain rfl : j = bs.length := by omega
     rw [getD_append_last]
     unfold nb
     split
     · have ha : 0 ≤ x.2.1 ∧ x.2.1 ≤ (bs.length : Int) - 1 := by
        split at hn
        · omega
        · split at hn
          · omega
          · omega
       have := h3 _ (toNat_lt ha.1 ha.2)
       omega
     · omega
 · simp only [List.length_append, List.length_cons, List.length_nil] at hj
   rcases Nat.lt_or_ge j ds.length with hlt | hge
   · rw [getD_append_left hlt]; exact h4 j hlt
   · obtain rfl : j = ds.length := by omega
     rw [getD_append_last]
     unfold nd
     split
     · rename_i h2'
       rw [if_pos h2'] at hn
       have ha := h4 _ (by rw [h1]; exact toNat_lt (k := bs.length) (a := x.2.1) (by omega) (by omega))
       have hb := h4 _ (by rw [h1]; exact toNat_lt (k := bs.length) (a := x.2.2.1) (by omega) (by omega))
       omega
     · rename_i h2'
       rw [if_neg h2'] at hn
       split
       · rename_i h3'
         rw [if_pos h3'] at hn
         have ha := h4 _ (by rw [h1]; exact toNat_lt (k := bs.length) (a := x.2.1) (by omega) (by omega))
         omega
       · omega

def Ran (e : List Nod) (bs : List Int) : Prop := ∀ j, j < bs.length → okP (bs.take j) (e.getD j (0, 0, 0, 0)) j ∧ bs.getD j 0 = nb (bs.take j) (e.getD j (0, 0, 0, 0)) j

theorem Ran.step {e : List Nod} {bs : List Int} (h : Ran e bs) {x : Nod} (hx : e.getD bs.length (0, 0, 0, 0) = x) (hok : okP bs x bs.length) : Ran e (bs ++ [nb bs x bs.length]) := by
 intro j hj
 simp only [List.length_append, List.length_cons, List.length_nil] at hj
 rcases Nat.lt_or_ge j bs.length with hlt | hge
 · rw [getD_append_left hlt, List.take_append_of_le_length (by omega)]
   exact h j hlt
 · obtain rfl : j = bs.length := by omega
   rw [getD_append_last, List.take_left', hx]
   · exact ⟨hok, rfl⟩
   · rfl

theorem dglen0 {m : Nat} : (((dg m).length : Int) == 0) = decide (m = 0) := by
 rw [len0]
 by_cases h : m = 0
 · subst h; rw [dg_zero]; rfl
 · rw [decide_eq_false h, dg_pos h]; rfl

theorem dglenp {m : Nat} : decide (((dg m).length : Int) > 0) = decide (m ≠ 0) := by
 by_cases h : m = 0
 · subst h; rw [dg_zero]; rfl
 · rw [dg_pos h]; simp [h]

theorem add118 {α : Type} {n : Nat} {a b : List Int} (ha : Cn a) (hb : Cn b) (hN : a.length ≤ 1099511627776) (hNb : b.length ≤ 1099511627776) {k0 : List Int → Option α} : ∀ (m i : Nat) (c : Int) (o : List Int), o.length = i → Lm o → 0 ≤ c → c ≤ 1 →
  vl o + 10000 ^ i * c = vl (a.take i) + vl (b.take i) → (i ≤ max a.length b.length ∨ (i = max a.length b.length + 1 ∧ c = 0 ∧ o.getD (i - 1) 0 ≠ 0)) → max a.length b.length + 2 ≤ i + m →
  f169_L3 n m a b c (i : Int) o k0 = k0 (dg (vl a + vl b).toNat)
 | 0, i, c, o, ho, hlo, hc0, hc1, hv, hq, hm => by omega
 | m + 1, i, c, o, ho, hlo, hc0, hc1, hv, hq, hm => by
  rw [f169_L3_s]
  unfold f169_L3B
  dsimp only
  have fin : a.length ≤ i → b.length ≤ i → c = 0 → o = dg (vl a + vl b).toNat := fun h1 h2 h3 => by
   rw [take_le a h1, take_le b h2, h3] at hv
   have hv' : vl o = vl a + vl b := by simpa using hv
   have : Cn o := Cn.of_ge hlo fun hn => by
    have hl : 0 < o.length := List.length_pos_iff.2 hn
    rcases hq with hq | ⟨hq1, _, hq3⟩
    · have hmx : i = max a.length b.length := by omega
      rw [ho, hv']
      rcases Nat.le_total a.length b.length with hab | hab
      · have h4 := hb.ge (List.length_pos_iff.1 (by omega))
        have h5 := vl_nonneg ha.1
        rw [show i - 1 = b.length - 1 by omega]; omega
      · have h4 := ha.ge (List.length_pos_iff.1 (by omega))
        have h5 := vl_nonneg hb.1
        rw [show i - 1 = a.length - 1 by omega]; omega
    · have h1 := vl_take_suc o (o.length - 1)
      rw [show o.length - 1 + 1 = o.length by omega, List.take_length] at h1
      have h2 := vl_nonneg (hlo.take (o.length - 1))
      have h3 := hlo.get (o.length - 1)
      rw [← ho] at hq3
      have h4 := pw_pos (o.length - 1)
      have h5 : (10000 : Int) ^ (o.length - 1) * 1 ≤ 10000 ^ (o.length - 1) * o.getD (o.length - 1) 0 := Int.mul_le_mul_of_nonneg_left (by omega) (by omega)
      omega
   rw [← hv', dg_vl this]
  have go : ∀ (y : Int), y = c + a.getD i 0 + b.getD i 0 → (i < max a.length b.length ∨ (i = max a.length b.length ∧ 0 < c)) → f169_L3 n m a b (W (Int.tdiv y 10000)) (W ((i : Int) + 1)) (o ++ [Int.tmod y 10000]) k0 = k0 (dg (vl a + vl b).toNat) := by
   intro y hy hi
   have h1 := ha.1.get i
   have h2 := hb.1.get i
   rw [tdv (by omega), tmd (by omega), W_id (by omega) (by omega), W_id (by omega) (by omega)]
   have ta := vl_take_suc a i
   have tb := vl_take_suc b i
   have hyy : y = 10000 * (y / 10000) + y % 10000 := by omega
   refine add118 (n := n) ha hb hN hNb m (i + 1) _ _ (by simp [ho]) (hlo.app (Lm.cons (by omega) Lm.nil)) (by omega) (by omega) ?_ ?_ (by omega)
   · rw [vl_snoc, ho, ta, tb, pw_succ]
     generalize y / 10000 = q at *
     generalize y % 10000 = r at *
     generalize (10000 : Int) ^ i = P at *
     grind
   · rcases hi with hi | ⟨hi, hc⟩
     · exact .inl (by omega)
     · right
       have e1 : a.getD i 0 = 0 := getD_out (by omega)
       have e2 : b.getD i 0 = 0 := getD_out (by omega)
       have e3 : y = 1 := by omega
       subst e3
       refine ⟨by omega, by rfl, ?_⟩
       rw [Nat.add_sub_cancel, ← ho, List.getD_eq_getElem?_getD]
       simp
  have hcases : (i < a.length ∨ i < b.length ∨ 0 < c) → (i < max a.length b.length ∨ (i = max a.length b.length ∧ 0 < c)) := fun h => by
   rcases h with h | h | h
   · exact .inl (by omega)
   · exact .inl (by omega)
   · rcases hq with hq | ⟨_, h0, _⟩
     · omega
     · omega
  have ho2 : (decide ((o.length + 1) * 8 ≤ 140737488355328)) = true := by
   rw [decide_eq_true_eq]
   rcases hq with hq | ⟨hq, _⟩ <;> omega
  have h1 := ha.1.get i
  have h2 := hb.1.get i
  by_cases hA : i < a.length
  · have dA : decide ((i : Int) < (a.length : Int)) = true := by rw [decide_eq_true_eq]; omega
    have dM : decide ((i : Int) < max (a.length : Int) (b.length : Int)) = true := by rw [decide_eq_true_eq]; omega
    simp only [dM, dA, cond_true, Int.toNat_natCast]
    rw [gd_pos (by simp; try omega), W_id (x := c + a.getD i 0) (by omega) (by omega)]
    by_cases hB : i < b.length
    · have dB : decide ((i : Int) < (b.length : Int)) = true := by rw [decide_eq_true_eq]; omega
      simp only [dB, cond_true]
      rw [gd_pos (by simp; try omega), gd_pos ho2, W_id (x := c + a.getD i 0 + b.getD i 0) (by omega) (by omega)]
      exact go _ rfl (hcases (.inl hA))
    · have dB : decide ((i : Int) < (b.length : Int)) = false := by rw [decide_eq_false_iff_not]; omega
      simp only [dB, cond_false]
      rw [gd_pos ho2]
      exact go _ (by rw [getD_out (l := b) (by omega)]; omega) (hcases (.inl hA))
  · have dA : decide ((i : Int) < (a.length : Int)) = false := by rw [decide_eq_false_iff_not]; omega
    by_cases hB : i < b.length
    · have dB : decide ((i : Int) < (b.length : Int)) = true := by rw [decide_eq_true_eq]; omega
      have dM : decide ((i : Int) < max (a.length : Int) (b.length : Int)) = true := by rw [decide_eq_true_eq]; omega
      simp only [dM, dA, dB, cond_true, cond_false, Int.toNat_natCast]
      rw [gd_pos (by simp; try omega), gd_pos ho2, W_id (x := c + b.getD i 0) (by omega) (by omega)]
      exact go _ (by rw [getD_out (l := a) (by omega)]; omega) (hcases (.inr (.inl hB)))
    · have dB : decide ((i : Int) < (b.length : Int)) = false := by rw [decide_eq_false_iff_not]; omega
      have dM : decide ((i : Int) < max (a.length : Int) (b.length : Int)) = false := by rw [decide_eq_false_iff_not]; omega
      simp only [dM, dA, dB, cond_false]
      rw [Bool.cond_decide]
      by_cases hc : 0 < c
      · rw [if_pos (by omega), gd_pos ho2]
        exact go _ (by rw [getD_out (l := a) (by omega), getD_out (l := b) (by omega)]; omega) (hcases (.inr (.inr hc)))
      · rw [if_neg (by omega), fin (by omega) (by omega) (by omega)]

theorem i_add {n a b : Nat} (h : (dg a).length ≤ 1099511627776) (h' : (dg b).length ≤ 1099511627776) (hn : max (dg a).length (dg b).length + 2 ≤ n) : f169 n (dg a) (dg b) = some (dg (a + b)) := by
 unfold f169
 have := add118 (n := n) (Cn_dg a) (Cn_dg b) h h' (k0 := fun z_6 => some z_6) n 0 0 [] rfl Lm.nil (by omega) (by omega) (by simp [vl]) (.inl (by omega)) (by omega)
 have this : f169_L3 n n (dg a) (dg b) 0 0 [] _ = _ := this
 rw [this, vl_dg, vl_dg]
 congr 1

theorem less_step {o P c wi bi v' T y d r : Int} (h : o - P * (c + (bi + 10000 * v')) = T) (hy : y = wi - c - bi) (hd : y = r - 10000 * d) : o + P * (r - wi) - 10000 * P * (d + v') = T := by
 grind

theorem sub120 {α : Type} {n : Nat} {b : List Int} (hb : Lm b) {N : Nat} (hN : N ≤ 1099511627776) {T : Int} {k0 : List Int → Option α} : ∀ (m i : Nat) (c : Int) (o : List Int), o.length = N → Lm o → 0 ≤ c → c ≤ 1 → i ≤ N →
  vl o - 10000 ^ i * (c + vl (b.drop i)) = T → N + 1 ≤ i + m →
  ∃ o' c', f171_L3 n m b c (N : Int) (i : Int) o k0 = k0 o' ∧ o'.length = N ∧ Lm o' ∧ 0 ≤ c' ∧ c' ≤ 1 ∧ vl o' - 10000 ^ N * (c' + vl (b.drop N)) = T
 | 0, i, c, o, ho, hlo, hc0, hc1, hi, hv, hm => by omega
 | m + 1, i, c, o, ho, hlo, hc0, hc1, hi, hv, hm => by
  rw [f171_L3_s]
  unfold f171_L3B
  dsimp only
  by_cases hA : i < N
  · rw [Bool.cond_decide, if_pos (by omega), gd_pos (by simp; try omega), gd_pos (by simp; try omega)]
    have h1 := hlo.get i
    have h2 := hb.get i
    simp only [Int.toNat_natCast]
    have go : ∀ (d r : Int), d = (if o.getD i 0 - c - b.getD i 0 < 0 then 1 else 0) → r = o.getD i 0 - c - b.getD i 0 + 10000 * d → ∃ o' c', f171_L3 n m b d (N : Int) (W ((i : Int) + 1)) (o.set i r) k0 = k0 o' ∧ o'.length = N ∧ Lm o' ∧ 0 ≤ c' ∧ c' ≤ 1 ∧ vl o' - 10000 ^ N * (c' + vl (b.drop N)) = T := by
     intro d r hd hr
     have hd1 : 0 ≤ d ∧ d ≤ 1 ∧ 0 ≤ r ∧ r < 10000 := by
      rw [hr, hd]
      split <;> omega
     rw [W_id (x := (i : Int) + 1) (by omega) (by omega)]
     refine sub120 (n := n) hb hN m (i + 1) d _ (by simpa using ho) (hlo.set _ (by omega)) (by omega) (by omega) (by omega) ?_ (by omega)
     rw [vl_set _ (by omega), pw_succ]
     refine less_step (bi := b.getD i 0) (y := o.getD i 0 - c - b.getD i 0) ?_ rfl (by omega)
     rw [← vl_drop']; exact hv
    have go2 : ∀ y : Int, y = o.getD i 0 - c - b.getD i 0 → ∃ o' c', (bif (decide (y < 0)) then
          gd (decide (0 ≤ (i : Int)) && decide ((i : Int) < (o.length : Int))) (
           gd (decide (i < o.length)) (
            f171_L3 n m b 1 (N : Int) (W ((i : Int) + 1)) (o.set i (W (y + 10000))) k0))
      else
       gd (decide (0 ≤ (i : Int)) && decide ((i : Int) < (o.length : Int))) (
        gd (decide (i < o.length)) (
         f171_L3 n m b 0 (N : Int) (W ((i : Int) + 1)) (o.set i y) k0))) = k0 o' ∧ o'.length = N ∧ Lm o' ∧ 0 ≤ c' ∧ c' ≤ 1 ∧ vl o' - 10000 ^ N * (c' + vl (b.drop N)) = T := by
     intro y hy
     rw [Bool.cond_decide]
     by_cases hneg : y < 0
     · rw [if_pos hneg, gd_pos (by simp; try omega), gd_pos (by simp; try omega), W_id (x := y + 10000) (by omega) (by omega)]
       exact go 1 _ (by rw [if_pos (by omega)]) (by omega)
     · rw [if_neg hneg, gd_pos (by simp; try omega), gd_pos (by simp; try omega)]
       exact go 0 _ (by rw [if_neg (by omega)]) (by omega)
    by_cases hB : i < b.length
    · have dB : decide ((i : Int) < (b.length : Int)) = true := by rw [decide_eq_true_eq]; omega
      simp only [dB, cond_true]
      rw [gd_pos (by simp; try omega)]
      simp only [W_id (x := o.getD i 0 - c) (by omega) (by omega), W_id (x := o.getD i 0 - c - b.getD i 0) (by omega) (by omega)]
      exact go2 _ rfl
    · have dB : decide ((i : Int) < (b.length : Int)) = false := by rw [decide_eq_false_iff_not]; omega
      simp only [dB, cond_false]
      simp only [W_id (x := o.getD i 0 - c) (by omega) (by omega)]
      exact go2 _ (by rw [getD_out (l := b) (by omega)]; omega)
  · rw [Bool.cond_decide, if_neg (by omega)]
    obtain rfl : i = N := by omega
    exact ⟨o, c, rfl, ho, hlo, hc0, hc1, hv⟩

theorem i_sub {n a b : Nat} (h : (dg a).length ≤ 1099511627000) (hn : (dg a).length + 1 ≤ n) (hab : b ≤ a) (ha : 0 < a) : f171 n (dg a) (dg b) = some (dg (a - b)) := by
 have hlab := len_mono hab
 unfold f171
 rw [f145B_eq n (by omega) (fun e => by have := dg_nil.1 e; omega), ob_some]
 obtain ⟨o, c, h1, h2, h3, h4, h5, h6⟩ := sub120 (n := n) (Lm_dg b) (N := (dg a).length) (by omega) (T := (a : Int) - b) (k0 := fun z_4 => (
   ob (f185 n z_4) fun r_5 =>
   some r_5)) n 0 0 (dg a) rfl (Lm_dg a) (by omega) (by omega) (by omega) (by rw [List.drop_zero, vl_dg, vl_dg, Int.pow_zero, Int.one_mul, Int.zero_add]) (by omega)
 have h1 : f171_L3 n n (dg b) 0 ((dg a).length : Int) 0 (dg a) _ = _ := h1
 rw [List.drop_of_length_le (by omega)] at h6
 have h7 := vl_lt h3
 rw [h2] at h7
 have h8 := vl_nonneg h3
 have : c = 0 := by
  rcases Int.lt_or_eq_of_le h4 with h | h
  · have : c = 1 := by omega
    rw [this] at h6
    simp only [vl, Int.add_zero, Int.mul_one] at h6
    generalize (10000 : Int) ^ (dg a).length = P at *
    omega
  · exact h.symm
 rw [this] at h6
 simp only [vl, Int.add_zero, Int.mul_zero, Int.sub_zero] at h6
 rw [h1, f185_eq h3 (by omega) (by omega), ob_some, h6, show ((a : Int) - (b : Int)).toNat = a - b by omega]

def rq (x : Rat) : Rt := (decide (x.num < 0), dg x.num.natAbs, dg x.den)

def mq (s : Bool) (a d : Nat) : Rat := mkRat (if s = true then -(a : Int) else a) d

def Sz (x : Rat) (L : Nat) : Prop := (dg x.num.natAbs).length ≤ L ∧ (dg x.den).length ≤ L

theorem natAbs_sg (s : Bool) (a : Nat) : (if s = true then -(a : Int) else a).natAbs = a := by cases s <;> simp

theorem mq_num {s : Bool} {a d : Nat} (hd : 0 < d) : (mq s a d).num = if s = true then -((a / Nat.gcd a d : Nat) : Int) else ((a / Nat.gcd a d : Nat) : Int) := by
 unfold mq
 rw [Rat.num_mkRat, if_neg (by omega), natAbs_sg, Nat.gcd_comm d a]
 cases s with
 | false => simp
 | true =>
  simp only [if_true]
  rw [Int.neg_ediv_of_dvd (by exact_mod_cast Nat.gcd_dvd_left a d)]
  simp

theorem mq_den {s : Bool} {a d : Nat} (hd : 0 < d) : (mq s a d).den = d / Nat.gcd a d := by
 unfold mq
 rw [Rat.den_mkRat, if_neg (by omega), natAbs_sg, Nat.gcd_comm d a]

theorem rq_mq {s : Bool} {a d : Nat} (hd : 0 < d) : rq (mq s a d) = (s && decide (a / Nat.gcd a d ≠ 0), dg (a / Nat.gcd a d), dg (d / Nat.gcd a d)) := by
 unfold rq
 rw [mq_num hd, mq_den hd]
 generalize a / Nat.gcd a d = q
 cases s with
 | false => simp
 | true =>
  simp only [if_true, Bool.true_and, Int.natAbs_neg, Int.natAbs_natCast]
  congr 1
  apply decide_eq_decide.2
  omega

theorem Sz_mq {s : Bool} {a d L : Nat} (hd : 0 < d) (h1 : (dg a).length ≤ L) (h2 : (dg d).length ≤ L) : Sz (mq s a d) L := by
 unfold Sz
 rw [mq_num hd, mq_den hd, natAbs_sg]
 exact ⟨Nat.le_trans (len_mono (Nat.div_le_self _ _)) h1, Nat.le_trans (len_mono (Nat.div_le_self _ _)) h2⟩

theorem s_make {n L x d : Nat} {s : Bool} (hd : 0 < d) (hx : (dg x).length ≤ L) (hdl : (dg d).length ≤ L) (hL : L ≤ 1099511627000) (hn : 28 * L + 10040 ≤ n) : f177 n s (dg x) (dg d) = some (rq (mq s x d)) := by
 have hg : 0 < Nat.gcd x d := Nat.gcd_pos_of_pos_right x hd
 have hgl : (dg (Nat.gcd x d)).length ≤ L := Nat.le_trans (len_mono (Nat.gcd_le_right x hd)) hdl
 rw [rq_mq hd]
 unfold f177
 rw [s_gcd hL hn hx hdl, ob_some, s_div hg hx hgl hL (by omega), ob_some, s_div hg hdl hgl hL (by omega), ob_some]
 dsimp only
 rw [dglenp]
 cases s <;> rfl

theorem i_make {n L x d : Nat} {s : Bool} (hd : 0 < d) (hx : (dg x).length ≤ L) (hdl : (dg d).length ≤ L) (hL : L ≤ 1099511627000) (hn : 28 * L + 10040 ≤ n) : f142 n s (dg x) (dg d) = some (rq (mq s x d)) := by
 have hg : 0 < Nat.gcd x d := Nat.gcd_pos_of_pos_right x hd
 have hgl : (dg (Nat.gcd x d)).length ≤ L := Nat.le_trans (len_mono (Nat.gcd_le_right x hd)) hdl
 have hq1 : (dg (x / Nat.gcd x d)).length ≤ L := Nat.le_trans (len_mono (Nat.div_le_self _ _)) hx
 have hq2 : (dg (d / Nat.gcd x d)).length ≤ L := Nat.le_trans (len_mono (Nat.div_le_self _ _)) hdl
 rw [rq_mq hd]
 unfold f142
 dsimp only
 rw [i_gcd hL hn hx hdl, ob_some, show f161 n = some [1] from rfl, ob_some, ← dg_one, i_cmp (by omega), ob_some]
 have fin : ∀ y z : List Int, y = dg (x / Nat.gcd x d) → z = dg (d / Nat.gcd x d) → (bif s then
   ob (f145 n y) fun r_8 =>
   ob (f145 n z) fun r_9 =>
   some ((decide ((y.length : Int) > 0)), r_8, r_9)
  else
   ob (f145 n y) fun r_10 =>
   ob (f145 n z) fun r_11 =>
   some (false, r_10, r_11)) = some (s && decide (x / Nat.gcd x d ≠ 0), dg (x / Nat.gcd x d), dg (d / Nat.gcd x d)) := by
  rintro y z rfl rfl
  rw [f145_eq n (by omega), ob_some, f145_eq n (by omega), ob_some, dglenp]
  cases s <;> rfl
 by_cases h1 : Nat.gcd x d = 1
 · have e : (cm ((Nat.gcd x d : Nat) : Int) ((1 : Nat) : Int) != 0) = false := by rw [h1, cm_eq rfl]; rfl
   rw [e, cond_false]
   exact fin _ _ (by rw [h1, Nat.div_one]) (by rw [h1, Nat.div_one])
 · have e : (cm ((Nat.gcd x d : Nat) : Int) ((1 : Nat) : Int) != 0) = true := by
    rw [bne, cm_one, decide_eq_false h1]; rfl
   rw [e, cond_true, i_div hg hx hgl hL (by omega), ob_some, i_div hg hdl hgl hL (by omega), ob_some]
   exact fin _ _ rfl rfl

theorem num_sg (x : Rat) : x.num = if decide (x.num < 0) = true then -(x.num.natAbs : Int) else x.num.natAbs := by
 by_cases h : x.num < 0
 · rw [decide_eq_true h, if_pos rfl]; omega
 · rw [decide_eq_false h, if_neg (by decide)]; omega

theorem add_same {x y : Rat} (h : decide (x.num < 0) = decide (y.num < 0)) : x + y = mq (decide (x.num < 0)) (x.num.natAbs * y.den + y.num.natAbs * x.den) (x.den * y.den) := by
 rw [Rat.add_def']
 unfold mq
 congr 1
 have hx := num_sg x
 have hy := num_sg y
 rw [← h] at hy
 generalize decide (x.num < 0) = s at *
 generalize x.num.natAbs = p at *
 generalize y.num.natAbs = q at *
 rw [hx, hy]
 cases s with
 | true => simp only [if_true, Int.natCast_add, Int.natCast_mul]; grind
 | false => simp

theorem add_ge {x y : Rat} (h : decide (x.num < 0) ≠ decide (y.num < 0)) (hle : y.num.natAbs * x.den ≤ x.num.natAbs * y.den) : x + y = mq (decide (x.num < 0)) (x.num.natAbs * y.den - y.num.natAbs * x.den) (x.den * y.den) := by
 rw [Rat.add_def']
 unfold mq
 congr 1
 have hx := num_sg x
 have hy := num_sg y
 have h' : decide (y.num < 0) = !decide (x.num < 0) := by
  generalize decide (x.num < 0) = s at h
  generalize decide (y.num < 0) = t at h
  cases s <;> cases t <;> first | rfl | exact absurd rfl h
 rw [h'] at hy
 generalize decide (x.num < 0) = s at *
 generalize x.num.natAbs = p at *
 generalize y.num.natAbs = q at *
 rw [hx, hy, Int.natCast_sub hle]
 cases s with
 | true => simp only [if_true, Int.natCast_mul, Bool.not_true]; simp; grind
 | false => simp only [Int.natCast_mul, Bool.not_false, if_true]; simp; grind

theorem s_plus {n L : Nat} {x y : Rat} (hx : Sz x L) (hy : Sz y L) (hL : 2 * L + 1 ≤ 1099511627000) (hn : 28 * (2 * L + 1) + 10040 ≤ n) : f146 n (rq x) (rq y) = some (rq (x + y)) := by
 obtain ⟨x1, x2⟩ := hx
 obtain ⟨y1, y2⟩ := hy
 have l1 := len_mul x.num.natAbs y.den
 have l2 := len_mul y.num.natAbs x.den
 have l3 := len_mul x.den y.den
 have l4 := len_add (x.num.natAbs * y.den) (y.num.natAbs * x.den)
 have hd : 0 < x.den * y.den := Nat.mul_pos (Nat.pos_of_ne_zero x.den_nz) (Nat.pos_of_ne_zero y.den_nz)
 unfold f146 rq
 dsimp only
 rw [s_mul (by omega) (by omega), ob_some, s_mul (by omega) (by omega), ob_some, s_mul (by omega) (by omega), ob_some, Bool.cond_eq_ite]
 by_cases hs : decide (x.num < 0) = decide (y.num < 0)
 · rw [if_pos (by rw [hs]; simp), s_add (by omega) (by omega) (by omega), ob_some, s_make hd (L := 2 * L + 1) (by omega) (by omega) hL hn, ob_some, add_same hs]; rfl
 · rw [if_neg (by simpa using hs), s_cmp (by omega) (by omega), ob_some, Bool.cond_decide]
   by_cases hle : y.num.natAbs * x.den ≤ x.num.natAbs * y.den
   · have l5 := len_mono (Nat.sub_le (x.num.natAbs * y.den) (y.num.natAbs * x.den))
     rw [if_pos (by
      rcases Nat.lt_or_eq_of_le hle with h | h
      · rw [cm_gt (by omega)]; omega
      · rw [cm_eq (by omega)]; omega), s_sub (by omega) (by omega) hle, ob_some, s_make hd (L := 2 * L + 1) (by omega) (by omega) hL hn, ob_some, add_ge hs hle]; rfl
   · have l5 := len_mono (Nat.sub_le (y.num.natAbs * x.den) (x.num.natAbs * y.den))
     rw [if_neg (by rw [cm_lt (by omega)]; omega), s_sub (by omega) (by omega) (by omega), ob_some, s_make hd (L := 2 * L + 1) (by omega) (by omega) hL hn, ob_some, Rat.add_comm, add_ge (fun e => hs e.symm) (by omega), Nat.mul_comm y.den x.den]; rfl

theorem i_plus {n L : Nat} {x y : Rat} (hx : Sz x L) (hy : Sz y L) (hL : 2 * L + 1 ≤ 1099511627000) (hn : 28 * (2 * L + 1) + 10040 ≤ n) : f104 n (rq x) (rq y) = some (rq (x + y)) := by
 obtain ⟨x1, x2⟩ := hx
 obtain ⟨y1, y2⟩ := hy
 have l1 := len_mul x.num.natAbs y.den
 have l2 := len_mul y.num.natAbs x.den
 have l3 := len_mul x.den y.den
 have l4 := len_add (x.num.natAbs * y.den) (y.num.natAbs * x.den)
 have hd : 0 < x.den * y.den := Nat.mul_pos (Nat.pos_of_ne_zero x.den_nz) (Nat.pos_of_ne_zero y.den_nz)
 unfold f104 rq
 dsimp only
 rw [i_mul (by omega) (by omega), ob_some, i_mul (by omega) (by omega), ob_some, i_mul (by omega) (by omega), ob_some, Bool.cond_eq_ite]
 by_cases hs : decide (x.num < 0) = decide (y.num < 0)
 · rw [if_pos (by rw [hs]; simp), i_add (by omega) (by omega) (by omega), ob_some, i_make hd (L := 2 * L + 1) (by omega) (by omega) hL hn, ob_some, add_same hs]; rfl
 · rw [if_neg (by simpa using hs), i_cmp (by omega), ob_some, Bool.cond_decide]
   by_cases hle : y.num.natAbs * x.den ≤ x.num.natAbs * y.den
   · have l5 := len_mono (Nat.sub_le (x.num.natAbs * y.den) (y.num.natAbs * x.den))
     have hp : 0 < x.num.natAbs * y.den := by
      rcases Nat.eq_zero_or_pos (x.num.natAbs * y.den) with h | h
      · exfalso
        have hyd := y.den_nz
        have hxd := x.den_nz
        have h2 : y.num.natAbs * x.den = 0 := by omega
        have e1 : x.num = 0 := by rcases Nat.mul_eq_zero.1 h with h | h <;> omega
        have e2 : y.num = 0 := by rcases Nat.mul_eq_zero.1 h2 with h | h <;> omega
        exact hs (by rw [e1, e2])
      · exact h
     rw [if_pos (by
      rcases Nat.lt_or_eq_of_le hle with h | h
      · rw [cm_gt (by omega)]; omega
      · rw [cm_eq (by omega)]; omega), i_sub (by omega) (by omega) hle hp, ob_some, i_make hd (L := 2 * L + 1) (by omega) (by omega) hL hn, ob_some, add_ge hs hle]; rfl
   · have l5 := len_mono (Nat.sub_le (y.num.natAbs * x.den) (x.num.natAbs * y.den))
     rw [if_neg (by rw [cm_lt (by omega)]; omega), i_sub (by omega) (by omega) (by omega) (by omega), ob_some, i_make hd (L := 2 * L + 1) (by omega) (by omega) hL hn, ob_some, Rat.add_comm, add_ge (fun e => hs e.symm) (by omega), Nat.mul_comm y.den x.den]; rfl

theorem mul_mq (x y : Rat) : x * y = mq (!(decide (x.num < 0) == decide (y.num < 0))) (x.num.natAbs * y.num.natAbs) (x.den * y.den) := by
 rw [Rat.mul_def']
 unfold mq
 congr 1
 have hx := num_sg x
 have hy := num_sg y
 generalize decide (x.num < 0) = s at *
 generalize decide (y.num < 0) = t at *
 generalize x.num.natAbs = p at *
 generalize y.num.natAbs = q at *
 rw [hx, hy]
 cases s <;> cases t <;> simp [Int.neg_mul, Int.mul_neg]

theorem s_times {n L : Nat} {x y : Rat} (hx : Sz x L) (hy : Sz y L) (hL : 2 * L + 1 ≤ 1099511627000) (hn : 28 * (2 * L + 1) + 10040 ≤ n) : f176 n (rq x) (rq y) = some (rq (x * y)) := by
 obtain ⟨x1, x2⟩ := hx
 obtain ⟨y1, y2⟩ := hy
 have l1 := len_mul x.num.natAbs y.num.natAbs
 have l3 := len_mul x.den y.den
 have hd : 0 < x.den * y.den := Nat.mul_pos (Nat.pos_of_ne_zero x.den_nz) (Nat.pos_of_ne_zero y.den_nz)
 unfold f176 rq
 dsimp only
 rw [s_mul (by omega) (by omega), ob_some, s_mul (by omega) (by omega), ob_some, s_make hd (L := 2 * L + 1) (by omega) (by omega) hL hn, ob_some, mul_mq]; rfl

theorem i_times {n L : Nat} {x y : Rat} (hx : Sz x L) (hy : Sz y L) (hL : 2 * L + 1 ≤ 1099511627000) (hn : 28 * (2 * L + 1) + 10040 ≤ n) : f103 n (rq x) (rq y) = some (rq (x * y)) := by
 obtain ⟨x1, x2⟩ := hx
 obtain ⟨y1, y2⟩ := hy
 have l1 := len_mul x.num.natAbs y.num.natAbs
 have l3 := len_mul x.den y.den
 have hd : 0 < x.den * y.den := Nat.mul_pos (Nat.pos_of_ne_zero x.den_nz) (Nat.pos_of_ne_zero y.den_nz)
 unfold f103 rq
 dsimp only
 rw [i_mul (by omega) (by omega), ob_some, i_mul (by omega) (by omega), ob_some, i_make hd (L := 2 * L + 1) (by omega) (by omega) hL hn, ob_some, mul_mq]; rfl

theorem div_mq {x y : Rat} (hy : y ≠ 0) : x / y = mq (!(decide (x.num < 0) == decide (y.num < 0))) (x.num.natAbs * y.den) (x.den * y.num.natAbs) := by
 have hyn : y.num ≠ 0 := fun e => hy (Rat.num_eq_zero.1 e)
 have key : mq (!(decide (x.num < 0) == decide (y.num < 0))) (x.num.natAbs * y.den) (x.den * y.num.natAbs) * y = x := by
  conv => lhs; rhs; rw [← Rat.mkRat_self y]
  conv => rhs; rw [← Rat.mkRat_self x]
  unfold mq
  rw [Rat.mkRat_mul_mkRat, Rat.mkRat_eq_iff (Nat.mul_ne_zero (Nat.mul_ne_zero x.den_nz (by omega)) y.den_nz) x.den_nz]
  have hx := num_sg x
  have hy := num_sg y
  generalize decide (x.num < 0) = s at *
  generalize decide (y.num < 0) = t at *
  generalize x.num.natAbs = p at *
  generalize y.num.natAbs = q at *
  rw [hx, hy]
  simp only [Int.natCast_mul]
  cases s <;> cases t <;> simp <;> grind
 conv => lhs; rw [← key]
 exact Rat.mul_div_cancel hy

theorem s_over {n L : Nat} {x y : Rat} (hx : Sz x L) (hy : Sz y L) (hy0 : y ≠ 0) (hL : 2 * L + 1 ≤ 1099511627000) (hn : 28 * (2 * L + 1) + 10040 ≤ n) : f118 n (rq x) (rq y) = some (rq (x / y)) := by
 obtain ⟨x1, x2⟩ := hx
 obtain ⟨y1, y2⟩ := hy
 have l1 := len_mul x.num.natAbs y.den
 have l3 := len_mul x.den y.num.natAbs
 have hyn : y.num ≠ 0 := fun e => hy0 (Rat.num_eq_zero.1 e)
 have hd : 0 < x.den * y.num.natAbs := Nat.mul_pos (Nat.pos_of_ne_zero x.den_nz) (by omega)
 unfold f118 rq
 dsimp only
 rw [s_mul (by omega) (by omega), ob_some, s_mul (by omega) (by omega), ob_some, s_make hd (L := 2 * L + 1) (by omega) (by omega) hL hn, ob_some, div_mq hy0]; rfl

theorem i_over {n L : Nat} {x y : Rat} (hx : Sz x L) (hy : Sz y L) (hy0 : y ≠ 0) (hL : 2 * L + 1 ≤ 1099511627000) (hn : 28 * (2 * L + 1) + 10040 ≤ n) : f75 n (rq x) (rq y) = some (rq (x / y)) := by
 obtain ⟨x1, x2⟩ := hx
 obtain ⟨y1, y2⟩ := hy
 have l1 := len_mul x.num.natAbs y.den
 have l3 := len_mul x.den y.num.natAbs
 have hyn : y.num ≠ 0 := fun e => hy0 (Rat.num_eq_zero.1 e)
 have hd : 0 < x.den * y.num.natAbs := Nat.mul_pos (Nat.pos_of_ne_zero x.den_nz) (by omega)
 unfold f75 rq
 dsimp only
 rw [i_mul (by omega) (by omega), ob_some, i_mul (by omega) (by omega), ob_some, i_make hd (L := 2 * L + 1) (by omega) (by omega) hL hn, ob_some, div_mq hy0]; rfl

theorem s_neg {n : Nat} {x : Rat} : f138 n (rq x) = some (rq (-x)) := by
 unfold f138 rq
 dsimp only
 rw [Rat.neg_num, Rat.neg_den, Int.natAbs_neg, dglenp]
 by_cases h : x.num < 0
 · rw [decide_eq_true h, decide_eq_false (show ¬ -x.num < 0 by omega)]; rfl
 · rw [decide_eq_false h]
   have : decide (x.num.natAbs ≠ 0) = decide (-x.num < 0) := decide_eq_decide.2 (by omega)
   rw [this]; rfl

theorem i_neg {n L : Nat} {x : Rat} (hx : Sz x L) (hL : L ≤ 1099511627000) : f77 n (rq x) = some (rq (-x)) := by
 obtain ⟨x1, x2⟩ := hx
 unfold f77 rq
 dsimp only
 rw [Rat.neg_num, Rat.neg_den, Int.natAbs_neg, show f74 n (decide (x.num < 0), dg x.num.natAbs, dg x.den) = some (((dg x.num.natAbs).length : Int) == 0) from rfl, ob_some, f145_eq n (by omega), ob_some, f145_eq n (by omega), ob_some, dglen0]
 by_cases h : x.num < 0
 · rw [decide_eq_true h, decide_eq_false (show ¬ -x.num < 0 by omega)]; rfl
 · rw [decide_eq_false h]
   have : (!decide (x.num.natAbs = 0)) = decide (-x.num < 0) := by
    by_cases h2 : x.num.natAbs = 0
    · rw [decide_eq_true h2, decide_eq_false (by omega)]; rfl
    · rw [decide_eq_false h2, decide_eq_true (by omega)]; rfl
   rw [this]; rfl

theorem Sz_neg {x : Rat} {L : Nat} (h : Sz x L) : Sz (-x) L := by
 unfold Sz at *
 rw [Rat.neg_num, Rat.neg_den, Int.natAbs_neg]; exact h

theorem Sz.mono {x : Rat} {L M : Nat} (h : Sz x L) (hLM : L ≤ M) : Sz x M := ⟨Nat.le_trans h.1 hLM, Nat.le_trans h.2 hLM⟩

theorem s_less {n L : Nat} {x y : Rat} (hx : Sz x L) (hy : Sz y L) (hL : 2 * L + 1 ≤ 1099511627000) (hn : 28 * (2 * L + 1) + 10040 ≤ n) : f119 n (rq x) (rq y) = some (rq (x - y)) := by
 unfold f119
 rw [s_neg, ob_some, s_plus hx (Sz_neg hy) hL hn, ob_some, Rat.sub_eq_add_neg]

theorem Sz_add {x y : Rat} {L : Nat} (hx : Sz x L) (hy : Sz y L) : Sz (x + y) (2 * L + 1) := by
 obtain ⟨x1, x2⟩ := hx
 obtain ⟨y1, y2⟩ := hy
 have l1 := len_mul x.num.natAbs y.den
 have l2 := len_mul y.num.natAbs x.den
 have l3 := len_mul x.den y.den
 have l4 := len_add (x.num.natAbs * y.den) (y.num.natAbs * x.den)
 have hd : 0 < x.den * y.den := Nat.mul_pos (Nat.pos_of_ne_zero x.den_nz) (Nat.pos_of_ne_zero y.den_nz)
 by_cases hs : decide (x.num < 0) = decide (y.num < 0)
 · rw [add_same hs]; exact Sz_mq hd (by omega) (by omega)
 · by_cases hle : y.num.natAbs * x.den ≤ x.num.natAbs * y.den
   · have l5 := len_mono (Nat.sub_le (x.num.natAbs * y.den) (y.num.natAbs * x.den))
     rw [add_ge hs hle]; exact Sz_mq hd (by omega) (by omega)
   · have l5 := len_mono (Nat.sub_le (y.num.natAbs * x.den) (x.num.natAbs * y.den))
     rw [Rat.add_comm, add_ge (fun e => hs e.symm) (by omega), Nat.mul_comm y.den x.den]; exact Sz_mq hd (by omega) (by omega)

theorem Sz_sub {x y : Rat} {L : Nat} (hx : Sz x L) (hy : Sz y L) : Sz (x - y) (2 * L + 1) := by
 rw [Rat.sub_eq_add_neg]; exact Sz_add hx (Sz_neg hy)

theorem Sz_mul {x y : Rat} {L : Nat} (hx : Sz x L) (hy : Sz y L) : Sz (x * y) (2 * L + 1) := by
 obtain ⟨x1, x2⟩ := hx
 obtain ⟨y1, y2⟩ := hy
 have l1 := len_mul x.num.natAbs y.num.natAbs
 have l3 := len_mul x.den y.den
 rw [mul_mq]
 exact Sz_mq (Nat.mul_pos (Nat.pos_of_ne_zero x.den_nz) (Nat.pos_of_ne_zero y.den_nz)) (by omega) (by omega)

theorem Sz_div {x y : Rat} {L : Nat} (hx : Sz x L) (hy : Sz y L) (hy0 : y ≠ 0) : Sz (x / y) (2 * L + 1) := by
 obtain ⟨x1, x2⟩ := hx
 obtain ⟨y1, y2⟩ := hy
 have l1 := len_mul x.num.natAbs y.den
 have l3 := len_mul x.den y.num.natAbs
 have hyn : y.num ≠ 0 := fun e => hy0 (Rat.num_eq_zero.1 e)
 rw [div_mq hy0]
 exact Sz_mq (Nat.mul_pos (Nat.pos_of_ne_zero x.den_nz) (by omega)) (by omega) (by omega)

theorem s_zero {n : Nat} {x : Rat} : f116 n (rq x) = some (decide (x = 0)) := by
 unfold f116 rq
 dsimp only
 rw [dglen0]
 congr 1
 exact decide_eq_decide.2 ⟨fun h => Rat.num_eq_zero.1 (by omega), fun h => by rw [h]; rfl⟩

theorem i_zero {n : Nat} {x : Rat} : f74 n (rq x) = some (decide (x = 0)) := by
 unfold f74 rq
 dsimp only
 rw [dglen0]
 congr 1
 exact decide_eq_decide.2 ⟨fun h => Rat.num_eq_zero.1 (by omega), fun h => by rw [h]; rfl⟩

theorem rq_inj {x y : Rat} (h : rq x = rq y) : x = y := by
 unfold rq at h
 simp only [Prod.mk.injEq] at h
 obtain ⟨h1, h2, h3⟩ := h
 have e2 := dg_inj h2
 have e3 := dg_inj h3
 refine Rat.ext ?_ e3
 rw [num_sg x, num_sg y, h1, e2]

abbrev Src := List Int × Int × Int

def SrcOK (P : Int) (s : Src) : Prop := (∀ x ∈ s.1, 0 ≤ x ∧ x ≤ 255) ∧ s.1.length ≤ 1048576 ∧ (0 ≤ s.2.1 ∧ s.2.1 ≤ P) ∧ 0 ≤ s.2.2 ∧ s.2.2 < 2147483648

theorem byte_get {l : List Int} (h : ∀ x ∈ l, 0 ≤ x ∧ x ≤ 255) (k : Nat) : 0 ≤ l.getD k 0 ∧ l.getD k 0 ≤ 255 := by
 rw [List.getD_eq_getElem?_getD]
 cases e : l[k]? with
 | none => simp
 | some x => exact h x (List.mem_of_getElem? e)

theorem tmodB {x m : Int} (h : 0 ≤ x) : Int.tmod x m = x % m := Int.tmod_eq_emod_of_nonneg h

theorem f173_eq {n : Nat} {P : Int} {s : Src} (h : SrcOK P s) (hP : P ≤ 1099511627776) : ∃ b s', f173B n s = some (b, s') ∧ (0 ≤ b ∧ b ≤ 255) ∧ SrcOK (P + 1) s' := by
 obtain ⟨l, p, d⟩ := s
 obtain ⟨h1, h2, ⟨h3, h4⟩, h5, h6⟩ := h
 dsimp only at h1 h2 h3 h4 h5 h6
 unfold f173B
 dsimp only
 rw [W_id (x := p + 1) (by omega) (by omega), W_id (x := p + 1 - 1) (by omega) (by omega), Bool.cond_decide]
 have hb := byte_get h1 (p + 1 - 1).toNat
 by_cases hc : p + 1 ≤ (l.length : Int)
 · rw [if_pos hc, gd_pos (by simp; omega), gd_pos (by simp; omega)]
   generalize l.getD (p + 1 - 1).toNat 0 = b at *
   rw [W_id (x := b) (by omega) (by omega), W_id (x := d * 31) (by omega) (by omega), W_id (x := d * 31 + b) (by omega) (by omega), W_id (x := d * 31 + b + 7) (by omega) (by omega), tmodB (by omega)]
   exact ⟨_, _, rfl, by omega, h1, h2, by dsimp only; omega, by dsimp only; omega, by dsimp only; omega⟩
 · rw [if_neg hc, Bool.cond_decide]
   by_cases hc2 : p + 1 > 3000
   · rw [if_pos hc2]
     exact ⟨_, _, rfl, by omega, h1, h2, by dsimp only; omega, h5, h6⟩
   · rw [if_neg hc2, W_id (x := d * 1103515245) (by omega) (by omega), W_id (x := d * 1103515245 + 12345) (by omega) (by omega), tmodB (x := d * 1103515245 + 12345) (by omega)]
     generalize hz : (d * 1103515245 + 12345) % 2147483648 = z
     have hz2 : 0 ≤ z ∧ z < 2147483648 := by omega
     rw [Int.tdiv_eq_ediv_of_nonneg (a := z) (by omega), W_id (x := z / 65536) (by omega) (by omega), tmodB (x := z / 65536) (by omega)]
     exact ⟨_, _, rfl, by omega, h1, h2, by dsimp only; omega, by dsimp only; omega, by dsimp only; omega⟩

theorem f107_eq {n : Nat} {P k : Int} {s : Src} (h : SrcOK P s) (hP : P ≤ 1099511627000) (hk : 1 < k) (hk' : k ≤ 1048576) : ∃ v s', f107B n s k = some (v, s') ∧ (0 ≤ v ∧ v < k) ∧ SrcOK (P + 3) s' := by
 unfold f107B
 rw [Bool.cond_decide, if_neg (by omega), Bool.cond_decide]
 obtain ⟨b1, s1, e1, r1, o1⟩ := f173_eq (n := n) h (by omega)
 rw [e1]
 by_cases hc : k ≤ 256
 · rw [if_pos hc, ob_some, gd_pos (by simp; omega), tmodB r1.1]
   have := Int.emod_nonneg b1 (show k ≠ 0 by omega)
   have := Int.emod_lt_of_pos b1 (show 0 < k by omega)
   exact ⟨_, _, rfl, by omega, o1.1, o1.2.1, ⟨o1.2.2.1.1, by have := o1.2.2.1.2; show s1.2.1 ≤ P + 3; omega⟩, o1.2.2.2⟩
 · rw [if_neg hc, ob_some]
   obtain ⟨b2, s2, e2, r2, o2⟩ := f173_eq (n := n) o1 (by omega)
   rw [e2, ob_some]
   obtain ⟨b3, s3, e3, r3, o3⟩ := f173_eq (n := n) o2 (by omega)
   rw [e3, ob_some]
   dsimp only
   rw [gd_pos (by simp; omega), W_id (x := b1 * 65536) (by omega) (by omega), W_id (x := b2 * 256) (by omega) (by omega), W_id (x := b1 * 65536 + b2 * 256) (by omega) (by omega), W_id (x := b1 * 65536 + b2 * 256 + b3) (by omega) (by omega), tmodB (by omega)]
   have := Int.emod_nonneg (b1 * 65536 + b2 * 256 + b3) (show k ≠ 0 by omega)
   have := Int.emod_lt_of_pos (b1 * 65536 + b2 * 256 + b3) (show 0 < k by omega)
   exact ⟨_, _, rfl, by omega, o3.1, o3.2.1, ⟨o3.2.2.1.1, by have := o3.2.2.1.2; show s3.2.1 ≤ P + 3; omega⟩, o3.2.2.2⟩

theorem f106_eq {n : Nat} {a : Int} (h : -1000000000 ≤ a ∧ a ≤ 1000000000) (hn : 1048577 ≤ n) : f106 n a = some (decide (a < 0), dg a.natAbs, dg 1) := by
 unfold f106
 rw [Bool.cond_decide, dg_one]
 by_cases hc : a < 0
 · rw [if_pos hc, W_id (x := 0 - a) (by omega) (by omega), show 0 - a = (a.natAbs : Int) by omega, f172_eq (by omega) (by omega), ob_some, decide_eq_true hc]
 · rw [if_neg hc]
   conv => lhs; rw [show a = (a.natAbs : Int) by omega]
   rw [f172_eq (by omega) (by omega), ob_some, decide_eq_false hc]

theorem nok_dg {N : Nat} (h : (dg N).length ≤ 40) : nok (dg N) = true := by
 unfold nok
 have hc := Cn_dg N
 rw [decide_eq_true h, Bool.true_and, Bool.and_eq_true, List.all_eq_true]
 refine ⟨fun x hx => ?_, ?_⟩
 · have := hc.1 x hx
   unfold limb
   rw [decide_eq_true_eq]; omega
 · by_cases hn : dg N = []
   · rw [hn]; rfl
   · have h1 := hc.2 hn
     have h2 := hc.1.get ((dg N).length - 1)
     rw [Bool.or_eq_true]
     right
     rw [decide_eq_true_eq]; omega

theorem rq_rok {x : Rat} (h : Sz x 40) : rok (rq x) = true := by
 obtain ⟨h1, h2⟩ := h
 unfold rok rq
 dsimp only
 have hd : (dg x.den).isEmpty = false := by
  rw [dg_pos x.den_nz]; rfl
 rw [nok_dg h1, nok_dg h2, hd, vl_dg, vl_dg]
 have hg : Nat.gcd (x.num.natAbs : Int).toNat (x.den : Int).toNat = 1 := by
  rw [Int.toNat_natCast, Int.toNat_natCast]; exact x.reduced
 rw [decide_eq_true hg]
 by_cases hz : x.num.natAbs = 0
 · rw [hz, dg_zero, decide_eq_false (by omega)]; rfl
 · rw [dg_pos hz]; rfl

theorem f105_loop {α : Type} {n : Nat} {a b : List Int} (hab : a.length = b.length) (hl : a.length ≤ 1048576) {k0 : Bool → Option α} {k1 : Unit → Option α} : ∀ (m i : Nat), i ≤ a.length → a.length < i + m → f105_L4 n m a b (i : Int) k0 k1 = if a.drop i = b.drop i then k1 () else k0 false
 | 0, i, hi, hm => by omega
 | m + 1, i, hi, hm => by
  rw [f105_L4_s]
  unfold f105_L4B
  rw [Bool.cond_decide]
  by_cases h : i < a.length
  · rw [if_pos (by omega), gd_pos (by simp; omega), gd_pos (by simp; omega)]
    simp only [Int.toNat_natCast]
    have da : a.drop i = a.getD i 0 :: a.drop (i + 1) := by
     rw [List.drop_eq_getElem_cons h, List.getD_eq_getElem?_getD, List.getElem?_eq_getElem h]; rfl
    have db : b.drop i = b.getD i 0 :: b.drop (i + 1) := by
     rw [List.drop_eq_getElem_cons (by omega), List.getD_eq_getElem?_getD, List.getElem?_eq_getElem (by omega)]; rfl
    rw [da, db]
    by_cases hz : a.getD i 0 = b.getD i 0
    · rw [hz, bne_self_eq_false, cond_false, W_id (x := (i : Int) + 1) (by omega) (by omega), show (i : Int) + 1 = ((i + 1 : Nat) : Int) from rfl, f105_loop hab hl m (i + 1) (by omega) (by omega)]
      simp
    · rw [show (a.getD i 0 != b.getD i 0) = true by rw [bne_iff_ne]; exact hz, cond_true, if_neg (fun e => hz (List.cons.inj e).1)]
  · rw [if_neg (by omega), List.drop_of_length_le (by omega), List.drop_of_length_le (by omega), if_pos rfl]

theorem f105_eq {n : Nat} {a b : List Int} (hl : a.length ≤ 1048576) (hn : 1048577 ≤ n) : f105 n a b = some (decide (a = b)) := by
 unfold f105
 rw [Bool.cond_eq_ite]
 by_cases h : a.length = b.length
 · rw [if_neg (by simp [h])]
   have h1 := f105_loop (n := n) h hl (k0 := fun z_1 => some z_1) (k1 := fun (_ : Unit) => some true) n 0 (by omega) (by omega)
   have h1 : f105_L4 n n a b 0 _ _ = _ := h1
   rw [h1, List.drop_zero, List.drop_zero]
   by_cases e : a = b
   · rw [if_pos e, decide_eq_true e]
   · rw [if_neg e, decide_eq_false e]
 · rw [if_pos (by rw [bne_iff_ne]; omega), decide_eq_false (fun e => h (by rw [e]))]

theorem f45_eq {n : Nat} {x y : Rat} (hx : Sz x 1000) (hn : 1048577 ≤ n) : f45 n (rq x) (rq y) = some (decide (x = y)) := by
 obtain ⟨h1, h2⟩ := hx
 unfold f45
 have key : (rq x).1 = (rq y).1 → (rq x).2.1 = (rq y).2.1 → (rq x).2.2 = (rq y).2.2 → x = y := fun a b c => rq_inj (by
  rw [show rq x = ((rq x).1, (rq x).2.1, (rq x).2.2) from rfl, a, b, c])
 rw [Bool.cond_eq_ite]
 by_cases e1 : (rq x).1 = (rq y).1
 · rw [if_pos (by rw [e1]; simp), f105_eq (by show (dg x.num.natAbs).length ≤ _; omega) hn, ob_some, Bool.cond_decide]
   by_cases e2 : (rq x).2.1 = (rq y).2.1
   · rw [if_pos e2, f105_eq (by show (dg x.den).length ≤ _; omega) hn, ob_some]
     by_cases e3 : (rq x).2.2 = (rq y).2.2
     · rw [decide_eq_true e3, decide_eq_true (key e1 e2 e3)]
     · rw [decide_eq_false e3, decide_eq_false (fun e => e3 (by rw [e]))]
   · rw [if_neg e2, decide_eq_false (fun e => e2 (by rw [e]))]
 · rw [if_neg (by simpa using e1), decide_eq_false (fun e => e1 (by rw [e]))]

def vq (x : List Rat) : List Rt := x.map rq

def Sv (x : List Rat) (L : Nat) : Prop := ∀ a ∈ x, Sz a L

def dotF (acc : Rat) : List Rat → List Rat → Rat
 | a :: x, b :: y => dotF (acc + a * b) x y
 | _, _ => acc

def fitR (x : Rat) : Bool := decide ((dg x.num.natAbs).length ≤ 40) && decide ((dg x.den).length ≤ 40)

theorem fitR_iff {x : Rat} : fitR x = true ↔ Sz x 40 := by unfold fitR Sz; simp

@[simp] theorem vq_len (x : List Rat) : (vq x).length = x.length := by simp [vq]

theorem vq_get {x : List Rat} {i : Nat} (h : i < x.length) : (vq x).getD i (false, [], []) = rq (x.getD i 0) := by
 unfold vq
 rw [List.getD_eq_getElem?_getD, List.getElem?_map, List.getD_eq_getElem?_getD, List.getElem?_eq_getElem h]; rfl

theorem rdrop {x : List Rat} {i : Nat} (h : i < x.length) : x.drop i = x.getD i 0 :: x.drop (i + 1) := by
 rw [List.drop_eq_getElem_cons h, List.getD_eq_getElem?_getD, List.getElem?_eq_getElem h]; rfl

theorem Sv.get {x : List Rat} {L i : Nat} (hs : Sv x L) (h : i < x.length) : Sz (x.getD i 0) L := by
 refine hs _ ?_
 rw [List.getD_eq_getElem?_getD, List.getElem?_eq_getElem h]; exact List.getElem_mem h

theorem Sv.mono {x : List Rat} {L M : Nat} (h : Sv x L) (hLM : L ≤ M) : Sv x M := fun a ha => (h a ha).mono hLM

theorem f73_loop {α : Type} {n : Nat} {x y : List Rat} (hx : Sv x 40) (hy : Sv y 40) (hl : x.length = y.length) (h4 : x.length ≤ 4) (hn : 1048577 ≤ n) {f : Bool} {k0 : Bool → Bool → List Int → List Int → Option α} : ∀ (m i : Nat) (acc : Rat), Sz acc (82 * 2 ^ i - 1) → i ≤ x.length → x.length < i + m →
  f73_L3 n m (vq y) (vq x) (x.length : Int) (i : Int) f (rq acc).1 (rq acc).2.1 (rq acc).2.2 k0 = k0 f (rq (dotF acc (x.drop i) (y.drop i))).1 (rq (dotF acc (x.drop i) (y.drop i))).2.1 (rq (dotF acc (x.drop i) (y.drop i))).2.2
 | 0, i, acc, ho, hi, hm => by omega
 | m + 1, i, acc, ho, hi, hm => by
  rw [f73_L3_s]
  unfold f73_L3B
  dsimp only
  rw [Bool.cond_decide]
  by_cases h : i < x.length
  · rw [if_pos (by omega), gd_pos (by simp; omega), gd_pos (by simp; omega)]
    have hp : 2 ^ i ≤ 2 ^ 3 := Nat.pow_le_pow_right (by omega) (by omega)
    have hp1 : 1 ≤ 2 ^ i := Nat.one_le_two_pow
    rw [show (2 : Nat) ^ 3 = 8 from rfl] at hp
    have h1 : Sz (x.getD i 0 * y.getD i 0) 81 := Sz_mul (hx.get h) (hy.get (by omega))
    have h2 : Sz (acc + x.getD i 0 * y.getD i 0) (82 * 2 ^ (i + 1) - 1) := (Sz_add ho (h1.mono (by omega))).mono (by rw [Nat.pow_succ]; omega)
    have e2 := i_plus (n := n) ho (h1.mono (show 81 ≤ 82 * 2 ^ i - 1 by omega)) (by omega) (by omega)
    have e2 : f104 n ((rq acc).1, (rq acc).2.1, (rq acc).2.2) _ = _ := e2
    rw [Int.toNat_natCast, vq_get h, vq_get (by omega), i_times (hx.get h) (hy.get (by omega)) (by omega) (by omega), ob_some, e2, ob_some, W_id (x := (i : Int) + 1) (by omega) (by omega)]
    have := f73_loop hx hy hl h4 hn (f := f) (k0 := k0) m (i + 1) _ h2 (by omega) (by omega)
    rw [rdrop h, rdrop (x := y) (by omega)]
    rw [show (i : Int) + 1 = ((i + 1 : Nat) : Int) from rfl, this]
    rfl
  · rw [if_neg (by omega), List.drop_of_length_le (by omega), List.drop_of_length_le (by omega)]
    rfl

theorem rq_zero : rq 0 = (false, [], dg 1) := by
 unfold rq
 rw [show (0 : Rat).num = 0 from rfl, show (0 : Rat).den = 1 from rfl, show (0 : Int).natAbs = 0 from rfl, dg_zero]; rfl

theorem Sz_zero : Sz 0 1 := by
 refine ⟨?_, ?_⟩
 · rw [show (0 : Rat).num = 0 from rfl, show (0 : Int).natAbs = 0 from rfl, dg_zero]; simp
 · rw [show (0 : Rat).den = 1 from rfl, dg_one]; simp

theorem i_dot {n : Nat} {x y : List Rat} (hx : Sv x 40) (hy : Sv y 40) (hl : x.length = y.length) (h4 : x.length ≤ 4) (hn : 1048577 ≤ n) : f73 n (vq x) (vq y) = some (rq (dotF 0 x y)) := by
 unfold f73
 have e0 : f92 n 0 = some (rq 0) := by
  unfold f92
  rw [decide_eq_false (by omega), cond_false, show (0 : Int) = ((0 : Nat) : Int) from rfl, f160_eq (by omega) (by omega), ob_some, rq_zero, dg_zero, dg_one]
  rfl
 rw [e0, ob_some]
 have h1 := f73_loop (n := n) hx hy hl h4 hn (f := false) (k0 := fun z_6 z_7 z_8 z_9 => some (z_7, z_8, z_9)) n 0 0 (Sz_zero.mono (by simp)) (by omega) (by omega)
 have h1 : f73_L3 n n (vq y) (vq x) (x.length : Int) 0 _ _ _ _ _ = _ := h1
 rw [vq_len, h1, List.drop_zero, List.drop_zero]

theorem f175c112_loop {n : Nat} {x : List Rat} (hl : x.length ≤ 1048576) : ∀ (m i : Nat), i ≤ x.length → x.length < i + m →
  ∃ r, f175c112_L2 n m (vq x) (x.length : Int) (i : Int) (fun z_3 => some z_3) (fun (_ : Unit) => some (-1)) = some r ∧ decide (r ≥ 0) = !(x.drop i).all fitR
 | 0, i, hi, hm => by omega
 | m + 1, i, hi, hm => by
  rw [f175c112_L2_s]
  unfold f175c112_L2B
  dsimp only
  rw [Bool.cond_decide]
  by_cases h : i < x.length
  · rw [if_pos (by omega), gd_pos (by simp; omega), Int.toNat_natCast, vq_get h, rdrop h, List.all_cons]
    have e : f112 n (rq (x.getD i 0)) = some (!fitR (x.getD i 0)) := by
     unfold f112 f113 rq fitR
     dsimp only
     generalize (dg (x.getD i 0).num.natAbs).length = p
     generalize (dg (x.getD i 0).den).length = q
     rw [Bool.cond_decide]
     by_cases c : p ≤ 40
     · rw [if_pos (by omega), ob_some, decide_eq_true c, Bool.true_and]; congr 2; exact decide_eq_decide.2 (by omega)
     · rw [if_neg (by omega), ob_some, decide_eq_false c, Bool.false_and]
    rw [e, ob_some]
    cases hf : fitR (x.getD i 0) with
    | false => exact ⟨(i : Int), by simp, by simp⟩
    | true =>
     rw [Bool.not_true, cond_false, W_id (x := (i : Int) + 1) (by omega) (by omega), Bool.true_and]
     exact f175c112_loop hl m (i + 1) (by omega) (by omega)
  · rw [if_neg (by omega), List.drop_of_length_le (by omega)]
    exact ⟨-1, rfl, rfl⟩

theorem i_full {n : Nat} {x : List Rat} (hl : x.length ≤ 1048576) (hn : 1048577 ≤ n) : f51 n (vq x) = some (if x.all fitR = true then (vq x, 0) else ([], 7)) := by
 unfold f51 f111c112 f175c112
 obtain ⟨r, h1, h2⟩ := f175c112_loop (n := n) hl n 0 (by omega) (by omega)
 have h1 : f175c112_L2 n n (vq x) (x.length : Int) 0 _ _ = _ := h1
 rw [vq_len, h1, ob_some, ob_some, h2, List.drop_zero]
 cases x.all fitR <;> rfl

theorem f16_loop {α : Type} {n : Nat} {x y : List Rat} (hl : x.length = y.length) (h4 : x.length ≤ 4096) (hs : Sv x 1000) (hn : 1048577 ≤ n) {k0 : Bool → Option α} {k1 : Unit → Option α} : ∀ (m i : Nat), i ≤ x.length → x.length < i + m →
  f16_L4 n m (vq x) (vq y) (i : Int) k0 k1 = if x.drop i = y.drop i then k1 () else k0 false
 | 0, i, hi, hm => by omega
 | m + 1, i, hi, hm => by
  rw [f16_L4_s]
  unfold f16_L4B
  dsimp only
  rw [Bool.cond_decide, vq_len]
  by_cases h : i < x.length
  · rw [if_pos (by omega), gd_pos (by simp; omega), gd_pos (by simp; omega), Int.toNat_natCast, vq_get h, vq_get (by omega), f45_eq (hs.get h) hn, ob_some, rdrop h, rdrop (x := y) (by omega)]
    by_cases e : x.getD i 0 = y.getD i 0
    · rw [decide_eq_true e, Bool.not_true, cond_false, W_id (x := (i : Int) + 1) (by omega) (by omega), e]
      rw [show (i : Int) + 1 = ((i + 1 : Nat) : Int) from rfl, f16_loop hl h4 hs hn m (i + 1) (by omega) (by omega)]
      simp
    · rw [decide_eq_false e, Bool.not_false, cond_true, if_neg (fun q => e (List.cons.inj q).1)]
  · rw [if_neg (by omega), List.drop_of_length_le (by omega), List.drop_of_length_le (by omega), if_pos rfl]

theorem l_same {n : Nat} {x y : List Rat} (hl : x.length = y.length) (h4 : x.length ≤ 4096) (hs : Sv x 1000) (hn : 1048577 ≤ n) : f16 n (vq x) (vq y) = some (decide (x = y)) := by
 unfold f16
 have h1 := f16_loop (n := n) hl h4 hs hn (k0 := fun z_4 => some z_4) (k1 := fun (_ : Unit) => some true) n 0 (by omega) (by omega)
 have h1 : f16_L4 n n (vq x) (vq y) 0 _ _ = _ := h1
 rw [vq_len, vq_len, hl, bne_self_eq_false, cond_false, h1, List.drop_zero, List.drop_zero]
 by_cases e : x = y
 · rw [if_pos e, decide_eq_true e]
 · rw [if_neg e, decide_eq_false e]

theorem allfit {x : List Rat} (h : Sv x 40) : x.all fitR = true := List.all_eq_true.2 fun a ha => fitR_iff.2 (h a ha)

def Bq (x : Rat) (N D : Nat) : Prop := x.num.natAbs ≤ N ∧ x.den ≤ D

def Bv (x : List Rat) (N D : Nat) : Prop := ∀ a ∈ x, Bq a N D

theorem Bq.sz {x : Rat} {N D : Nat} (h : Bq x N D) {L : Nat} (h1 : N < 10000 ^ L) (h2 : D < 10000 ^ L) : Sz x L := ⟨len_of (by have := h.1; omega), len_of (by have := h.2; omega)⟩

theorem Bv.sz {x : List Rat} {N D : Nat} (h : Bv x N D) {L : Nat} (h1 : N < 10000 ^ L) (h2 : D < 10000 ^ L) : Sv x L := fun a ha => (h a ha).sz h1 h2

theorem Bq.mono {x : Rat} {N D N' D' : Nat} (h : Bq x N D) (h1 : N ≤ N') (h2 : D ≤ D') : Bq x N' D' := ⟨Nat.le_trans h.1 h1, Nat.le_trans h.2 h2⟩

theorem Bq_mq {s : Bool} {a d N D : Nat} (hd : 0 < d) (h1 : a ≤ N) (h2 : d ≤ D) : Bq (mq s a d) N D := by
 unfold Bq
 rw [mq_num hd, mq_den hd]
 have e1 : a / Nat.gcd a d ≤ a := Nat.div_le_self _ _
 have e2 : d / Nat.gcd a d ≤ d := Nat.div_le_self _ _
 generalize a / Nat.gcd a d = q at *
 refine ⟨?_, by omega⟩
 cases s <;> simp <;> omega

theorem Bq_mul {x y : Rat} {N D N' D' : Nat} (hx : Bq x N D) (hy : Bq y N' D') : Bq (x * y) (N * N') (D * D') := by
 rw [mul_mq]
 exact Bq_mq (Nat.mul_pos (Nat.pos_of_ne_zero x.den_nz) (Nat.pos_of_ne_zero y.den_nz)) (Nat.mul_le_mul hx.1 hy.1) (Nat.mul_le_mul hx.2 hy.2)

theorem Bq_add {x y : Rat} {N D N' D' : Nat} (hx : Bq x N D) (hy : Bq y N' D') : Bq (x + y) (N * D' + N' * D) (D * D') := by
 have hd : 0 < x.den * y.den := Nat.mul_pos (Nat.pos_of_ne_zero x.den_nz) (Nat.pos_of_ne_zero y.den_nz)
 have l1 := Nat.mul_le_mul hx.1 hy.2
 have l2 := Nat.mul_le_mul hy.1 hx.2
 have l3 := Nat.mul_le_mul hx.2 hy.2
 by_cases hs : decide (x.num < 0) = decide (y.num < 0)
 · rw [add_same hs]; exact Bq_mq hd (by omega) l3
 · by_cases hle : y.num.natAbs * x.den ≤ x.num.natAbs * y.den
   · rw [add_ge hs hle]; exact Bq_mq hd (by omega) l3
   · rw [Rat.add_comm, add_ge (fun e => hs e.symm) (by omega)]; exact Bq_mq (by rw [Nat.mul_comm]; exact hd) (by omega) (by rw [Nat.mul_comm]; exact l3)

theorem Bv.get {x : List Rat} {N D i : Nat} (hs : Bv x N D) (h : i < x.length) : Bq (x.getD i 0) N D := by
 refine hs _ ?_
 rw [List.getD_eq_getElem?_getD, List.getElem?_eq_getElem h]; exact List.getElem_mem h

theorem f174_bq {n : Nat} {a b : Int} (ha : -10 ≤ a ∧ a ≤ 10) (hb : 1 ≤ b ∧ b ≤ 9) (hn : 1048577 ≤ n) : ∃ x : Rat, f174 n a b = some (rq x, 0) ∧ Bq x 10 9 := by
 unfold f174
 have la : (dg a.natAbs).length ≤ 4 := len_of (by omega)
 have lb : (dg b.natAbs).length ≤ 4 := len_of (by omega)
 rw [f65_eq, ob_some, decide_eq_true (by omega), f65_eq, ob_some, decide_eq_true (by omega), show (b == 0) = false by rw [beq_eq_false_iff_ne]; omega, f106_eq (by omega) hn, ob_some, f106_eq (by omega) hn, ob_some]
 dsimp only
 rw [s_make (L := 4) (show 0 < b.natAbs by omega) la lb (by omega) (by omega), ob_some]
 exact ⟨_, rfl, Bq_mq (by omega) (by omega) (by omega)⟩

theorem f108_eq {n : Nat} {P : Int} {s : Src} (h : SrcOK P s) (hP : P ≤ 1099511620000) (hn : 1048577 ≤ n) : ∃ (x : Rat) (s' : Src), f108B n s = some (rq x, s') ∧ Bq x 10 9 ∧ SrcOK (P + 6) s' := by
 unfold f108B
 obtain ⟨a, s1, e1, r1, o1⟩ := f107_eq (n := n) (k := 21) h (by omega) (by omega) (by omega)
 rw [e1, ob_some]
 obtain ⟨b, s2, e2, r2, o2⟩ := f107_eq (n := n) (k := 6) o1 (by omega) (by omega) (by omega)
 rw [e2, ob_some]
 dsimp only
 rw [W_id (x := a - 10) (by omega) (by omega), W_id (x := 1 + b) (by omega) (by omega)]
 obtain ⟨x, e3, z⟩ := f174_bq (n := n) (a := a - 10) (b := 1 + b) (by omega) (by omega) hn
 rw [e3, ob_some]
 exact ⟨x, s2, rfl, z, o2.1, o2.2.1, ⟨o2.2.2.1.1, by have := o2.2.2.1.2; show s2.2.1 ≤ P + 6; omega⟩, o2.2.2.2⟩

theorem src0 {l : List Int} (h : ∀ x ∈ l, 0 ≤ x ∧ x ≤ 255) (hl : l.length ≤ 1048576) : SrcOK 0 (l, 0, Int.tmod (l.length : Int) 1000) :=
 ⟨h, hl, ⟨Int.le_refl _, Int.le_refl _⟩, by rw [tmodB (by omega)]; dsimp only; omega, by rw [tmodB (by omega)]; dsimp only; omega⟩

theorem f48_loop {α : Type} {n k : Nat} (hk : k ≤ 1000) (hn : 1048577 ≤ n) {k0 : List Rt → List Int → Int → Int → Option α} : ∀ (m i : Nat) (P : Int) (o : List Rat) (s : Src), SrcOK P s → P + 6 * (k - i : Nat) ≤ 1099511620000 → o.length = i → i ≤ k → k < i + m → Bv o 10 9 →
  ∃ (x : List Rat) (s' : Src), x.length = k ∧ Bv x 10 9 ∧ SrcOK (P + 6 * (k - i : Nat)) s' ∧ f48B_L3 n m (k : Int) (i : Int) (vq o) s.1 s.2.1 s.2.2 k0 = k0 (vq x) s'.1 s'.2.1 s'.2.2
 | 0, i, P, o, s, h1, h2, h3, h4, h5, h6 => by omega
 | m + 1, i, P, o, s, h1, h2, h3, h4, h5, h6 => by
  rw [f48B_L3_s]
  unfold f48B_L3B
  rw [Bool.cond_decide]
  by_cases h : i < k
  · rw [if_pos (by omega)]
    obtain ⟨a, s1, e1, r1, o1⟩ := f108_eq (n := n) h1 (by omega) hn
    have e1 : f108B n (s.1, s.2.1, s.2.2) = _ := e1
    rw [e1, ob_some, gd_pos (by simp; omega), W_id (x := (i : Int) + 1) (by omega) (by omega)]
    dsimp only
    obtain ⟨x, s', q1, q2, q3, q4⟩ := f48_loop hk hn (k0 := k0) m (i + 1) (P + 6) (o ++ [a]) s1 o1 (by omega) (by simp; omega) (by omega) (by omega) (fun c hc => by
     rcases List.mem_append.1 hc with hc | hc
     · exact h6 c hc
     · rw [List.mem_singleton.1 hc]; exact r1)
    refine ⟨x, s', q1, q2, ?_, ?_⟩
    · rw [show P + 6 * ((k - i : Nat) : Int) = P + 6 + 6 * ((k - (i + 1) : Nat) : Int) by omega]; exact q3
    · rw [← q4]; simp [vq]
  · rw [if_neg (by omega)]
    exact ⟨o, s, by omega, h6, by rw [show ((k - i : Nat) : Int) = 0 by omega]; simpa using h1, rfl⟩

theorem f12_eq {n k : Nat} {l : List Int} (h : ∀ x ∈ l, 0 ≤ x ∧ x ≤ 255) (hl : l.length ≤ 1048576) (hk : k ≤ 1000) (hn : 1048577 ≤ n) : ∃ x : List Rat, f12 n l (k : Int) = some (vq x) ∧ x.length = k ∧ Bv x 10 9 := by
 unfold f12 f46B
 rw [ob_some]
 unfold f48B
 obtain ⟨x, s', q1, q2, _, q4⟩ := f48_loop (k := k) hk hn (k0 := fun z_2 z_3 z_4 z_5 => some (z_2, (z_3, z_4, z_5))) n 0 0 [] _ (src0 h hl) (by omega) rfl (by omega) (by omega) (fun c hc => by simp at hc)
 have q4 : f48B_L3 n n (k : Int) 0 [] _ _ _ _ = _ := q4
 rw [q4, ob_some]
 exact ⟨x, rfl, q1, q2⟩

theorem f10_eq {n : Nat} {l : List Int} (h : ∀ x ∈ l, 0 ≤ x ∧ x ≤ 255) (hl : l.length ≤ 1048576) {c : Int} (hc : 2 ≤ c ∧ c ≤ 100) : ∃ v : Nat, f10 n l 0 c = some (v : Int) ∧ (v : Int) < c := by
 unfold f10
 rw [decide_eq_false (by omega), cond_false]
 by_cases e : l.length = 0
 · rw [e, show ((((0 : Nat) : Int)) == 0) = true from rfl, cond_true, gd_pos (by simp; omega)]
   refine ⟨0, ?_, by omega⟩
   rw [W_id (x := 0 * 7) (by omega) (by omega), show Int.tmod (0 * 7) c = 0 from Int.zero_tmod _]; rfl
 · rw [show ((l.length : Int) == 0) = false by rw [beq_eq_false_iff_ne]; omega, cond_false]
   have hm := Int.emod_lt_of_pos (W (0 + 1)) (show (0 : Int) < l.length by omega)
   have hm2 := Int.emod_nonneg (W (0 + 1)) (show (l.length : Int) ≠ 0 by omega)
   have w1 : W (0 + 1) = 1 := W_id (by omega) (by omega)
   rw [w1] at hm hm2
   have z1 : Int.tmod 0 (l.length : Int) = 0 := Int.zero_tmod _
   have hg : (decide (0 ≤ 1 % (l.length : Int)) && decide (1 % (l.length : Int) < (l.length : Int))) = true := by rw [decide_eq_true hm2, decide_eq_true hm]; rfl
   rw [z1, w1, tmodB (x := 1) (by omega), gd_pos (by simp only [Bool.and_eq_true, decide_eq_true_eq]; omega), gd_pos (by simp only [Bool.and_eq_true, decide_eq_true_eq]; omega), gd_pos (by simp only [Bool.and_eq_true, decide_eq_true_eq]; omega), gd_pos hg, gd_pos (by simp only [Bool.and_eq_true, decide_eq_true_eq]; omega), gd_pos (by simp only [Bool.and_eq_true, decide_eq_true_eq]; omega)]
   have b1 := byte_get h (Int.toNat 0)
   have b2 := byte_get h (Int.toNat (1 % (l.length : Int)))
   generalize l.getD (Int.toNat 0) 0 = p at *
   generalize l.getD (Int.toNat (1 % (l.length : Int))) 0 = q at *
   rw [show Int.tdiv 0 (l.length : Int) = 0 from Int.zero_tdiv _, W_id (x := p) (by omega) (by omega), W_id (x := q) (by omega) (by omega), W_id (x := 0) (by omega) (by omega), W_id (x := p * 31) (by omega) (by omega), W_id (x := p * 31 + q) (by omega) (by omega), W_id (x := p * 31 + q + 0) (by omega) (by omega), tmodB (by omega)]
   have := Int.emod_nonneg (p * 31 + q + 0) (show c ≠ 0 by omega)
   have := Int.emod_lt_of_pos (p * 31 + q + 0) (show 0 < c by omega)
   exact ⟨((p * 31 + q + 0) % c).toNat, by rw [Int.toNat_of_nonneg (by omega)], by omega⟩

theorem rq_nat (c : Nat) : rq (c : Rat) = (false, dg c, dg 1) := by
 unfold rq
 rw [Rat.num_natCast, Rat.den_natCast, Int.natAbs_natCast, decide_eq_false (by omega)]

theorem f92_eq {n c : Nat} (hc : c ≤ 100) (hn : 1048577 ≤ n) : f92 n (c : Int) = some (rq (c : Rat)) := by
 unfold f92
 rw [decide_eq_false (by omega), cond_false, f160_eq (by omega) (by omega), ob_some, rq_nat, dg_one]
 rfl

theorem Sz_nat {c : Nat} (hc : c ≤ 100) : Sz (c : Rat) 1 := by
 unfold Sz
 rw [Rat.num_natCast, Rat.den_natCast, Int.natAbs_natCast]
 exact ⟨len_of (by omega), len_of (by omega)⟩

def fstC : List Int → Int
 | [] => 0
 | c :: r => if c = 0 then fstC r else c

theorem f68_loop {n : Nat} {l : List Int} (hl : l.length ≤ 1048576) : ∀ (m i : Nat), i ≤ l.length → l.length < i + m → f68_L2 n m l (l.length : Int) (i : Int) (fun z => some z) (fun (_ : Unit) => some 0) = some (fstC (l.drop i))
 | 0, i, hi, hm => by omega
 | m + 1, i, hi, hm => by
  rw [f68_L2_s]
  unfold f68_L2B
  rw [Bool.cond_decide]
  by_cases h : i < l.length
  · have hx : l.drop i = l.getD i 0 :: l.drop (i + 1) := by
     rw [List.drop_eq_getElem_cons h]; simp [List.getD_eq_getElem?_getD, h]
    rw [if_pos (by omega), gd_pos (by simp; try omega), Int.toNat_natCast, hx]
    unfold fstC
    by_cases c : l.getD i 0 = 0
    · rw [c, bne_self_eq_false, cond_false, if_pos rfl, W_id (x := (i : Int) + 1) (by omega) (by omega)]
      exact f68_loop hl m (i + 1) (by omega) (by omega)
    · rw [if_neg c, show (l.getD i 0 != 0) = true by rw [bne_iff_ne]; exact c, cond_true]
  · rw [if_neg (by omega), List.drop_of_length_le (by omega)]; rfl

theorem f68_eq {n : Nat} {l : List Int} (hl : l.length ≤ 1048576) (hn : 1048577 ≤ n) : f68 n l = some (fstC l) := by
 unfold f68
 have := f68_loop (n := n) hl n 0 (by omega) (by omega)
 simpa using this

def lngL (L : List (List Rt)) : Bool := L.any fun v => decide (4096 < v.length)

theorem f98_eqC {n : Nat} {L : List (List Rt)} (hl : L.length ≤ 1048576) (hn : 1048577 ≤ n) : f98 n L = some (if lngL L = true then 2 else 0) := by
 obtain ⟨c, h1, h2⟩ := f98_eq (n := n) hl hn
 rw [h1]
 rcases h2 with ⟨rfl, h⟩ | ⟨rfl, v, hv, h⟩
 · rw [if_neg]
   intro c
   obtain ⟨v, hv, h3⟩ := List.any_eq_true.1 c
   have := h v hv
   have := of_decide_eq_true h3
   omega
 · rw [if_pos]
   exact List.any_eq_true.2 ⟨v, hv, decide_eq_true h⟩

def fitV (X : List Rat) : List Rt × Int := if X.all fitR = true then (vq X, 0) else ([], 7)

theorem f97_rqB {n : Nat} {x : Rat} (h : Sz x 1000000) : f97 n (rq x) = some (rq x) := by
 obtain ⟨h1, h2⟩ := h
 unfold f97 rq
 dsimp only
 rw [f145_eq n (by omega), ob_some, f145_eq n (by omega), ob_some]

theorem f129c130_loopG {α : Type} {n : Nat} {s1 : List Rt × Int × List Rt} {g : Nat → Rat} {N : Nat} (hN : N ≤ 4096) (hg : ∀ i, i < N → f130 n (i : Int) s1.1 s1.2.1 s1.2.2 = some (rq (g i)) ∧ Sz (g i) 1000000) {k0 : List Rt → Option α} : ∀ (m i : Nat), i ≤ N → N < i + m →
  f129c130_L3 n m s1 (N : Int) (i : Int) (vq ((List.range i).map g)) k0 = k0 (vq ((List.range N).map g))
 | 0, i, hi, hm => by omega
 | m + 1, i, hi, hm => by
  rw [f129c130_L3_s]
  unfold f129c130_L3B
  rw [Bool.cond_decide]
  by_cases h : i < N
  · rw [if_pos (by omega), (hg i h).1, ob_some, f97_rqB (hg i h).2, ob_some, gd_pos (by simp [vq]; omega)]
    have e : vq ((List.range i).map g) ++ [rq (g i)] = vq ((List.range (i + 1)).map g) := by simp [vq, List.range_succ]
    rw [e, W_id (x := (i : Int) + 1) (by omega) (by omega)]
    exact f129c130_loopG hN hg m (i + 1) (by omega) (by omega)
  · obtain rfl : i = N := by omega
    rw [if_neg (by omega)]

theorem f129c130_eqG {n : Nat} {s1 : List Rt × Int × List Rt} {g : Nat → Rat} {N : Nat} (hN : N ≤ 4096) (hg : ∀ i, i < N → f130 n (i : Int) s1.1 s1.2.1 s1.2.2 = some (rq (g i)) ∧ Sz (g i) 1000000) (hn : 1048577 ≤ n) : f129c130 n (N : Int) s1 = some (vq ((List.range N).map g)) := by
 unfold f129c130
 exact f129c130_loopG (n := n) hN hg n 0 (by omega) (by omega)

theorem fst2 {c d : Int} : fstC [c, d] = if c = 0 then d else c := by
 unfold fstC fstC fstC
 split
 · split
   · rename_i h; exact h.symm
   · rfl
 · rfl

theorem f126c124_loop {n : Nat} {L : List (List Rt)} {a : Int} (hl : L.length ≤ 1048576) (hn : 1048577 ≤ n) : ∀ (m i : Nat), i ≤ L.length → L.length < i + m → ∃ r, f126c124_L2 n m L a (L.length : Int) (i : Int) (fun z => some z) (fun (_ : Unit) => some (-1)) = some r ∧ decide (r ≥ 0) = !((L.drop i).all fun v => mok v a)
 | 0, i, hi, hm => by omega
 | m + 1, i, hi, hm => by
  rw [f126c124_L2_s]
  unfold f126c124_L2B
  dsimp only
  rw [Bool.cond_decide]
  by_cases h : i < L.length
  · rw [if_pos (by omega), gd_pos (by simp; try omega)]
    simp only [Int.toNat_natCast]
    have e : f124 n (L.getD i []) a = some (!mok (L.getD i []) a) := by
     unfold f124
     rw [f125_eq hn, ob_some]
    rw [e, ob_some, alldrop h []]
    cases hp : mok (L.getD i []) a with
    | true =>
     rw [W_id (x := (i : Int) + 1) (by omega) (by omega)]
     simp only [Bool.not_true, cond_false, Bool.true_and]
     exact f126c124_loop hl hn m (i + 1) (by omega) (by omega)
    | false => exact ⟨i, rfl, by simp⟩
  · rw [if_neg (by omega), List.drop_of_length_le (by omega)]
    exact ⟨-1, rfl, rfl⟩

theorem f123c124_eq {n : Nat} {L : List (List Rt)} {a : Int} (hl : L.length ≤ 1048576) (hn : 1048577 ≤ n) : f123c124 n L a = some (!(L.all fun v => mok v a)) := by
 unfold f123c124 f126c124
 obtain ⟨r, h1, h2⟩ := f126c124_loop (n := n) (L := L) (a := a) hl hn n 0 (by omega) (by omega)
 have h1 : f126c124_L2 n n L a (L.length : Int) 0 _ _ = _ := h1
 rw [h1, ob_some, h2, List.drop_zero]

def matC (a : Int) (L : List (List Rt)) : Int := if lngL L = true then 2 else if (L.all fun v => mok v a) = true then 0 else 1

theorem f69_eqC {n : Nat} {b : Bool} {c : Int} : f69 n b c = some (if b = true then 0 else c) := by
 unfold f69; cases b <;> rfl

theorem f55_eqC {n : Nat} {L : List (List Rt)} {a : Int} (hl : L.length ≤ 1048576) (hn : 1048577 ≤ n) : f55 n a L = some (matC a L) := by
 unfold f55 matC
 rw [f98_eqC hl hn, ob_some, f123c124_eq hl hn, ob_some, f69_eqC, ob_some, f68_eq (by simp) hn, ob_some, fst2]
 by_cases e : lngL L = true
 · rw [if_pos e, if_pos e]; rfl
 · rw [if_neg e, if_neg e, if_pos rfl]
   cases L.all fun v => mok v a <;> rfl

theorem Wn {a : Nat} (h : a ≤ 1000000) : W (a : Int) = (a : Int) := W_id (by omega) (by omega)

theorem Wm {a b : Nat} (h : a * b ≤ 1000000) : W ((a : Int) * (b : Int)) = ((a * b : Nat) : Int) := by
 rw [← Int.natCast_mul]; exact Wn h

theorem Wa {a b : Nat} (h : a + b ≤ 1000000) : W ((a : Int) + (b : Int)) = ((a + b : Nat) : Int) := by
 rw [← Int.natCast_add]; exact Wn h

theorem W1 {a : Nat} (h : a ≤ 1000000) : W ((a : Int) + 1) = ((a + 1 : Nat) : Int) := W_id (by omega) (by omega)

theorem kk16 {k : Nat} (h : k ≤ 4) : k * k ≤ 16 := by have := Nat.mul_le_mul h h; omega

theorem dm {k i j : Nat} (hj : j < k) : (i * k + j) % k = j ∧ (i * k + j) / k = i := by
 have hk : 0 < k := by omega
 constructor
 · rw [Nat.add_comm, Nat.add_mul_mod_self_right, Nat.mod_eq_of_lt hj]
 · rw [Nat.add_comm, Nat.add_mul_div_right j i hk, Nat.div_eq_of_lt hj]; omega

theorem vq_getM {X : List Rat} {i : Nat} (h : i < X.length) : (vq X).getD i (false, [], []) = rq (X.getD i 0) := vq_get h

theorem fit_all {X : List Rat} (h : Sv X 40) : fitV X = (vq X, 0) := by
 unfold fitV; rw [if_pos (allfit h)]

theorem f106_zero {n : Nat} (hn : 1048577 ≤ n) : f106 n 0 = some (rq 0) := by
 unfold f106
 rw [decide_eq_false (by omega), cond_false, show (0 : Int) = ((0 : Nat) : Int) from rfl, f172_eq (by omega) (by omega), ob_some, rq_zero, dg_zero, dg_one]

theorem Sz_dotG : ∀ {x y : List Rat} {acc : Rat} {i : Nat}, Sv x 40 → Sv y 40 → Sz acc (82 * 2 ^ i - 1) → i + x.length ≤ 4 → Sz (dotF acc x y) 1311
 | [], _, acc, i, _, _, h, hl => by
  have hp : 2 ^ i ≤ 2 ^ 4 := Nat.pow_le_pow_right (by omega) (by simp at hl; omega)
  exact h.mono (by rw [show (2 : Nat) ^ 4 = 16 from rfl] at hp; omega)
 | p :: x, [], acc, i, _, _, h, hl => by
  have hp : 2 ^ i ≤ 2 ^ 4 := Nat.pow_le_pow_right (by omega) (by omega)
  exact h.mono (by rw [show (2 : Nat) ^ 4 = 16 from rfl] at hp; omega)
 | p :: x, q :: y, acc, i, hx, hy, h, hl => by
  have hp1 : 1 ≤ 2 ^ i := Nat.one_le_two_pow
  have h1 : Sz (p * q) 81 := Sz_mul (hx p (by simp)) (hy q (by simp))
  have h2 : Sz (acc + p * q) (82 * 2 ^ (i + 1) - 1) := (Sz_add h (h1.mono (by omega))).mono (by rw [Nat.pow_succ]; omega)
  simp only [List.length_cons] at hl
  exact Sz_dotG (x := x) (y := y) (fun a ha => hx a (by simp [ha])) (fun a ha => hy a (by simp [ha])) h2 (by omega)

theorem Sz_dot {x y : List Rat} (hx : Sv x 40) (hy : Sv y 40) (hl : x.length ≤ 4) : Sz (dotF 0 x y) 1311 := Sz_dotG (i := 0) hx hy (Sz_zero.mono (by omega)) (by omega)

def rowR (X : List Rat) (k i : Nat) : List Rat := (X.drop (i * k)).take k

theorem row_vq {X : List Rat} {k i : Nat} : ((vq X).drop (i * k)).take ((i + 1) * k - i * k) = vq (rowR X k i) := by
 rw [show (i + 1) * k - i * k = k by rw [Nat.succ_mul]; omega]
 simp [vq, rowR, List.map_drop, List.map_take]

theorem row_len {X : List Rat} {k i : Nat} (hl : X.length = k * k) (hi : i < k) : (rowR X k i).length = k := by
 have : (i + 1) * k ≤ k * k := Nat.mul_le_mul_right k hi
 rw [Nat.succ_mul] at this
 simp [rowR]; omega

theorem Sv_row {X : List Rat} {k i L : Nat} (h : Sv X L) : Sv (rowR X k i) L := fun a ha => h a (List.mem_of_mem_drop (List.mem_of_mem_take ha))

theorem row_le {k i : Nat} (hi : i < k) : (i + 1) * k ≤ k * k := Nat.mul_le_mul_right k hi

theorem mulgd {k i N : Nat} (hi : i < k) (hN : N = k * k) : (decide (0 ≤ ((i * k : Nat) : Int)) && decide (((i * k : Nat) : Int) ≤ (((i + 1) * k : Nat) : Int)) && decide ((((i + 1) * k : Nat) : Int) ≤ (N : Int))) = true := by
 have h1 := row_le hi
 have h2 : (i + 1) * k = i * k + k := Nat.succ_mul i k
 generalize (i + 1) * k = u at *
 generalize i * k = v at *
 generalize k * k = w at *
 simp; omega

def mvR (A X : List Rat) : List Rat := (List.range X.length).map fun i => dotF 0 (rowR A X.length i) X

theorem f130_eq {n i : Nat} {A X : List Rat} (hA : Sv A 40) (hX : Sv X 40) (hl : A.length = X.length * X.length) (h4 : X.length ≤ 4) (hi : i < X.length) (hn : 1048577 ≤ n) :
  f130 n (i : Int) (vq A) (X.length : Int) (vq X) = some (rq (dotF 0 (rowR A X.length i) X)) := by
 have h16 := kk16 h4
 have h1 := row_le hi
 have h2 : (i + 1) * X.length = i * X.length + X.length := Nat.succ_mul i _
 unfold f130
 rw [W1 (by omega), Wm (by omega), Wm (by omega), vq_len, gd_pos (mulgd hi hl), Int.toNat_natCast, Int.toNat_natCast, row_vq, i_dot (Sv_row hA) hX (row_len hl hi) (by rw [row_len hl hi]; exact h4) hn, ob_some]

def mvC (A x : List Rt) : Int := if lngL [A, x] = true then 2 else if (vok x && mok A (x.length : Int)) = true then 0 else 1

theorem fst3 {a b c : Int} : fstC [a, b, c] = if a = 0 then (if b = 0 then c else b) else a := by
 rw [← fst2 (c := b) (d := c)]; rfl

theorem f49_eq {n : Nat} {A x : List Rt} (hn : 1048577 ≤ n) : f49 n A x = some (mvC A x) := by
 unfold f49 mvC
 rw [f98_eqC (by simp) hn, ob_some, f109_eq hn, ob_some, f69_eqC, ob_some, f55_eqC (by simp) hn, ob_some, f68_eq (by simp) hn, ob_some, fst3]
 by_cases e : lngL [A, x] = true
 · rw [if_pos e, if_pos e]; rfl
 · have e2 : ¬ lngL [A] = true := by
    unfold lngL at e ⊢
    simp at e ⊢
    omega
   rw [if_neg e, if_neg e, if_pos rfl]
   unfold matC
   rw [if_neg e2]
   cases vok x <;> cases hm : mok A (x.length : Int) <;> simp [hm]

theorem f52_eq {n : Nat} {A x : List Rt} (hn : 1048577 ≤ n) : f52 n A x = some (mvC A x) := by
 unfold f52 mvC lngL
 dsimp only
 simp only [List.any_cons, List.any_nil, Bool.or_false]
 rw [Bool.cond_decide]
 by_cases a : A.length ≤ 4096
 · rw [if_neg (by omega), decide_eq_false (show ¬ 4096 < A.length by omega), Bool.false_or]
   by_cases b : x.length ≤ 4096
   · rw [decide_eq_false (by omega), decide_eq_false (by omega), cond_false, f114_eq hn, ob_some, if_neg (by simp)]
     cases hx : vok x with
     | false => rfl
     | true =>
      rw [Bool.not_true, cond_false, f79_eq hn, ob_some]
      cases hm : mok A (x.length : Int) <;> simp
   · rw [decide_eq_true (by omega), decide_eq_true (by omega), cond_true, if_pos rfl]
 · rw [if_pos (by omega), decide_eq_true (show 4096 < A.length by omega), Bool.true_or, cond_true, if_pos rfl]

def RowAt (w : Nat) (row : List Rt) (v : Nat → Rat) : Prop := row.length = w ∧ ∀ c, c < w → row.getD c rt0 = rq (v c)

def RowRep (m w : Nat) (R : List (List Rt)) (M : Nat → Nat → Rat) : Prop := R.length = m ∧ ∀ r, r < m → RowAt w (R.getD r []) (M r)

def SzM (M : Nat → Nat → Rat) (L : Nat) : Prop := ∀ r c, Sz (M r c) L

theorem i_clone {n L : Nat} {x : Rat} (hx : Sz x L) (hL : L ≤ 1099511627000) : f97 n (rq x) = some (rq x) := by
 obtain ⟨x1, x2⟩ := hx
 unfold f97 rq
 dsimp only
 rw [f145_eq n (by omega), ob_some, f145_eq n (by omega), ob_some]

theorem getD_app_left {α : Type} {l m : List α} {i : Nat} {d : α} (h : i < l.length) : (l ++ m).getD i d = l.getD i d := by
 simp [List.getD_eq_getElem?_getD, List.getElem?_append_left h]

theorem getD_app_last {α : Type} {l : List α} {x d : α} {i : Nat} (h : l.length = i) : (l ++ [x]).getD i d = x := by
 subst h
 simp [List.getD_eq_getElem?_getD]

theorem getD_set_ne {α : Type} {l : List α} {i j : Nat} {x d : α} (h : i ≠ j) : (l.set i x).getD j d = l.getD j d := by
 rw [List.getD_eq_getElem?_getD, List.getElem?_set_ne h, ← List.getD_eq_getElem?_getD]

theorem getD_set_eq {α : Type} {l : List α} {i : Nat} {x d : α} (h : i < l.length) : (l.set i x).getD i d = x := by
 rw [List.getD_eq_getElem?_getD, List.getElem?_set_self h]; rfl

theorem axpy_loop {α : Type} {n L w : Nat} {t : Rat} {u v : Nat → Rat} {x y : List Rt} (ht : Sz t L) (hu : ∀ c, Sz (u c) L) (hv : ∀ c, Sz (v c) L) (hx : RowAt w x u) (hy : RowAt w y v) (hw : w ≤ 100) (hL : 4 * L + 3 ≤ 1099511627000) (hn : 28 * (4 * L + 3) + 10040 ≤ n) {k0 : List Rt → Option α} :
  ∀ (m i : Nat) (o : List Rt), o.length = i → (∀ c, c < i → o.getD c rt0 = rq (t * u c + v c)) → i ≤ w → w < i + m →
  ∃ z, RowAt w z (fun c => t * u c + v c) ∧ f129c144_L3 n m (rq t, x, y) (w : Int) (i : Int) o k0 = k0 z
 | 0, i, o, ho, hc, hi, hm => by omega
 | m + 1, i, o, ho, hc, hi, hm => by
  rw [f129c144_L3_s]
  unfold f129c144_L3B
  dsimp only
  rw [Bool.cond_decide]
  by_cases h : i < w
  · have e : f144 n (i : Int) (rq t) x y = some (rq (t * u i + v i)) := by
     unfold f144
     dsimp only
     rw [gd_pos (by rw [hx.1]; simp; omega)]
     simp only [Int.toNat_natCast]
     rw [hx.2 i h, i_times ht (hu i) (by omega) (by omega), ob_some, gd_pos (by rw [hy.1]; simp; omega), hy.2 i h, i_plus (Sz_mul ht (hu i)) ((hv i).mono (by omega)) (by omega) (by omega), ob_some]
    have hs : Sz (t * u i + v i) (4 * L + 3) := (Sz_add (Sz_mul ht (hu i)) ((hv i).mono (show L ≤ 2 * L + 1 by omega))).mono (by omega)
    rw [if_pos (by omega), e, ob_some, i_clone hs (by omega), ob_some, gd_pos (by simp only [decide_eq_true_eq]; omega), W_id (x := (i : Int) + 1) (by omega) (by omega)]
    refine axpy_loop ht hu hv hx hy hw hL hn m (i + 1) _ (by simp [ho]) (fun c hc' => ?_) (by omega) (by omega)
    rcases Nat.lt_or_ge c i with h1 | h1
    · rw [getD_app_left (by omega)]; exact hc c h1
    · obtain rfl : c = i := by omega
      rw [getD_app_last ho]
  · rw [if_neg (by omega)]
    obtain rfl : i = w := by omega
    exact ⟨o, ⟨ho, hc⟩, rfl⟩

theorem f76_eq {n L w : Nat} {t : Rat} {u v : Nat → Rat} {x y : List Rt} (ht : Sz t L) (hu : ∀ c, Sz (u c) L) (hv : ∀ c, Sz (v c) L) (hx : RowAt w x u) (hy : RowAt w y v) (hw : w ≤ 100) (hL : 4 * L + 3 ≤ 1099511627000) (hn : 28 * (4 * L + 3) + 10040 ≤ n) :
  ∃ z, f76 n (rq t) x y = some z ∧ RowAt w z (fun c => t * u c + v c) := by
 unfold f76 f129c144
 rw [hx.1]
 obtain ⟨z, h1, h2⟩ := axpy_loop ht hu hv hx hy hw hL hn (k0 := fun z_3 => some z_3) n 0 [] rfl (fun c h => by omega) (by omega) (by omega)
 have h2 : f129c144_L3 n n (rq t, x, y) (w : Int) 0 [] _ = _ := h2
 exact ⟨z, by rw [h2, ob_some], h1⟩

def elimTo (M : Nat → Nat → Rat) (k i : Nat) : Nat → Nat → Rat := fun r c => if k < r ∧ r < i then M r c - M r k / M k k * M k c else M r c

theorem rowset {m w : Nat} {R : List (List Rt)} {M : Nat → Nat → Rat} {i : Nat} {z : List Rt} {v : Nat → Rat} (h : RowRep m w R M) (hi : i < m) (hz : RowAt w z v) : RowRep m w (R.set i z) (fun r => if r = i then v else M r) := by
 refine ⟨by simpa using h.1, fun r hr => ?_⟩
 by_cases e : r = i
 · subst e
   rw [getD_set_eq (by rw [h.1]; exact hr)]
   simpa using hz
 · rw [getD_set_ne (fun e' => e e'.symm)]
   simp only [e, if_false]
   exact h.2 r hr

theorem elim_loop {α : Type} {n L m w k : Nat} {M : Nat → Nat → Rat} (hM : SzM M L) (hk : k < m) (hkw : k < w) (hp : M k k ≠ 0) (hm : m ≤ 100) (hw : w ≤ 100) (hL : 8 * L + 7 ≤ 1099511627000) (hn : 28 * (8 * L + 7) + 10040 ≤ n)
  (s9 s10 : Int) (c2 c3 : Bool) (c4 c5 : List Int) {k0 : Int → Int → Bool → Bool → List Int → List Int → List (List Rt) → Option α} :
  ∀ (fu i : Nat) (R : List (List Rt)), k < i → i ≤ m → RowRep m w R (elimTo M k i) → m < i + fu →
  ∃ R', RowRep m w R' (elimTo M k m) ∧ f57B_L13 n fu (i : Int) s9 s10 c2 c3 c4 c5 (k : Int) R k0 = k0 s9 s10 c2 c3 c4 c5 R'
 | 0, i, R, h1, h2, h3, h4 => by omega
 | fu + 1, i, R, h1, h2, h3, h4 => by
  rw [f57B_L13_s]
  unfold f57B_L13B
  dsimp only
  have hl := h3.1
  rw [Bool.cond_decide]
  by_cases h : i < m
  · have ri := h3.2 i h
    have rk := h3.2 k hk
    have ei : elimTo M k i i = M i := by
     funext c; unfold elimTo; rw [if_neg (by omega)]
    have ek : elimTo M k i k = M k := by
     funext c; unfold elimTo; rw [if_neg (by omega)]
    rw [ei] at ri
    rw [ek] at rk
    have cik := ri.2 k hkw
    have ckk := rk.2 k hkw
    have hmi : Sz (M i k / M k k) (2 * L + 1) := Sz_div (hM i k) (hM k k) hp
    obtain ⟨z, z1, z2⟩ := f76_eq (n := n) (L := 2 * L + 1) (w := w) (Sz_neg hmi) (fun c => (hM k c).mono (by omega)) (fun c => (hM i c).mono (by omega)) rk ri hw (by omega) (by omega)
    have hg1 : (decide (0 ≤ (i : Int)) && decide ((i : Int) < (R.length : Int))) = true := by rw [hl]; simp; omega
    have hg2 : (decide (0 ≤ (k : Int)) && decide ((k : Int) < (R.length : Int))) = true := by rw [hl]; simp; omega
    simp only [Int.toNat_natCast]
    have hg3 : decide (i < R.length) = true := by rw [hl]; simpa using h
    have hg4 : decide (k < R.length) = true := by rw [hl]; simpa using hk
    have hg5 : (decide (0 ≤ (k : Int)) && decide ((k : Int) < (((R.getD i []).length : Nat) : Int))) = true := by rw [ri.1]; simp; omega
    have hg6 : (decide (0 ≤ (k : Int)) && decide ((k : Int) < (((R.getD k []).length : Nat) : Int))) = true := by rw [rk.1]; simp; omega
    rw [if_pos (by omega)]
    simp only [gd_pos hg1, gd_pos hg2, gd_pos hg3, gd_pos hg4, gd_pos hg5, gd_pos hg6, cik, ckk]
    rw [i_over (hM i k) (hM k k) hp (by omega) (by omega), ob_some, i_neg hmi (by omega), ob_some, z1, ob_some, W_id (x := (i : Int) + 1) (by omega) (by omega)]
    refine elim_loop hM hk hkw hp hm hw hL hn s9 s10 c2 c3 c4 c5 fu (i + 1) (R.set i z) (by omega) (by omega) ?_ (by omega)
    have := rowset h3 h z2
    have e : (fun r => if r = i then (fun c => -(M i k / M k k) * M k c + M i c) else elimTo M k i r) = elimTo M k (i + 1) := by
     funext r c
     unfold elimTo
     by_cases hr : r = i
     · subst hr
       rw [if_pos rfl, if_pos (by omega)]
       rw [Rat.neg_mul, Rat.add_comm, Rat.sub_eq_add_neg]
     · rw [if_neg hr]
       by_cases hr2 : k < r ∧ r < i
       · rw [if_pos hr2, if_pos (by omega)]
       · rw [if_neg hr2, if_neg (by omega)]
    rw [e] at this
    exact this
  · rw [if_neg (by omega)]
    obtain rfl : i = m := by omega
    exact ⟨R, h3, rfl⟩

def updM (M : Nat → Nat → Rat) (r c : Nat) (x : Rat) : Nat → Nat → Rat := fun i j => if i = r ∧ j = c then x else M i j

def swapR (M : Nat → Nat → Rat) (k p : Nat) : Nat → Nat → Rat := fun r c => if r = k then M p c else if r = p then M k c else M r c

def pivF (M : Nat → Nat → Rat) (k m : Nat) : Nat → Nat → Nat
 | 0, p => p
 | f + 1, p => if p < m then (if M p k = 0 then pivF M k m f (p + 1) else p) else p

def piv (M : Nat → Nat → Rat) (k m : Nat) : Nat := pivF M k m (m - k) k

theorem pivF_le {M : Nat → Nat → Rat} {k m : Nat} : ∀ (f p : Nat), p ≤ m → p ≤ pivF M k m f p ∧ pivF M k m f p ≤ m
 | 0, p, h => ⟨Nat.le_refl _, h⟩
 | f + 1, p, h => by
  unfold pivF
  split
  · rename_i h1
    split
    · obtain ⟨a, b⟩ := pivF_le (M := M) (k := k) (m := m) f (p + 1) (by omega)
      exact ⟨by omega, b⟩
    · exact ⟨Nat.le_refl _, h⟩
  · exact ⟨Nat.le_refl _, h⟩

theorem pivF_ne {M : Nat → Nat → Rat} {k m : Nat} : ∀ (f p : Nat), m ≤ p + f → pivF M k m f p < m → M (pivF M k m f p) k ≠ 0
 | 0, p, h, h2 => by unfold pivF at h2; omega
 | f + 1, p, h, h2 => by
  unfold pivF at h2 ⊢
  split
  · rename_i h1
    rw [if_pos h1] at h2
    split
    · rename_i h3
      rw [if_pos h3] at h2
      exact pivF_ne f (p + 1) (by omega) h2
    · rename_i h3; exact h3
  · rename_i h1
    rw [if_neg h1] at h2; omega

def gauss (m : Nat) : Nat → Nat → Rat → (Nat → Nat → Rat) → Rat × (Nat → Nat → Rat)
 | 0, _, d, M => (d, M)
 | f + 1, k, d, M => if piv M k m = m then (0, M) else
  gauss m f (k + 1) ((if piv M k m = k then d else -d) * swapR M k (piv M k m) k k) (elimTo (swapR M k (piv M k m)) k m)

def low (m k : Nat) (M : Nat → Nat → Rat) : Prop := ∀ r c, c < k → c < r → r < m → M r c = 0

theorem low_swap {m k p : Nat} {M : Nat → Nat → Rat} (h : low m k M) (hkp : k ≤ p) (hp : p < m) : low m k (swapR M k p) := by
 intro r c h1 h2 h3
 unfold swapR
 split
 · exact h p c h1 (by omega) hp
 · split
   · exact h k c h1 h1 (by omega)
   · exact h r c h1 h2 h3

theorem low_elim {m k : Nat} {M : Nat → Nat → Rat} (h : low m k M) (hk : k < m) (hp : M k k ≠ 0) : low m (k + 1) (elimTo M k m) := by
 intro r c h1 h2 h3
 unfold elimTo
 by_cases e : c = k
 · subst e
   rw [if_pos ⟨h2, h3⟩, Rat.div_mul_cancel hp, Rat.sub_self]
 · split
   · rename_i h4
     rw [h r c (by omega) h2 h3, h k c (by omega) (by omega) hk, Rat.mul_zero]
     grind
   · exact h r c (by omega) h2 h3

theorem SzM.mono {M : Nat → Nat → Rat} {L L' : Nat} (h : SzM M L) (hL : L ≤ L') : SzM M L' := fun r c => (h r c).mono hL

theorem SzM_swap {M : Nat → Nat → Rat} {L k p : Nat} (h : SzM M L) : SzM (swapR M k p) L := by
 intro r c
 unfold swapR
 split
 · exact h p c
 · split
   · exact h k c
   · exact h r c

theorem SzM_elim {M : Nat → Nat → Rat} {L k i : Nat} (h : SzM M L) (hp : M k k ≠ 0) : SzM (elimTo M k i) (8 * L + 7) := by
 intro r c
 unfold elimTo
 split
 · exact (Sz_sub (L := 4 * L + 3) ((h r c).mono (by omega)) ((Sz_mul (Sz_div (h r k) (h k k) hp) ((h k c).mono (show L ≤ 2 * L + 1 by omega))).mono (by omega))).mono (by omega)
 · exact (h r c).mono (by omega)

theorem RowAt.congr {w : Nat} {row : List Rt} {u v : Nat → Rat} (h : RowAt w row u) (e : ∀ c, c < w → u c = v c) : RowAt w row v := ⟨h.1, fun c hc => by rw [h.2 c hc, e c hc]⟩

theorem RowRep.congr {m w : Nat} {R : List (List Rt)} {M M' : Nat → Nat → Rat} (h : RowRep m w R M) (e : ∀ r c, r < m → c < w → M r c = M' r c) : RowRep m w R M' := ⟨h.1, fun r hr => (h.2 r hr).congr fun c hc => e r c hr hc⟩

theorem index_loop {α : Type} {n m w k : Nat} {R : List (List Rt)} {M : Nat → Nat → Rat} (h : RowRep m w R M) (hkw : k < w) (hk : k ≤ m) (hm : m ≤ 100) {k0 : Int → Option α} {k1 : Unit → Option α} : ∀ (f p fu : Nat), k ≤ p → p ≤ m → f = m - p → m < p + fu →
  f126c127_L2 n fu (R.drop k) (k : Int) ((m - k : Nat) : Int) ((p - k : Nat) : Int) k0 k1 = if pivF M k m f p = m then k1 () else k0 ((pivF M k m f p - k : Nat) : Int)
 | f, p, 0, h1, h2, h3, h4 => by omega
 | 0, p, fu + 1, h1, h2, h3, h4 => by
  rw [f126c127_L2_s]
  unfold f126c127_L2B pivF
  rw [Bool.cond_decide, if_neg (by omega), if_pos (by omega)]
 | f + 1, p, fu + 1, h1, h2, h3, h4 => by
  have hp : p < m := by omega
  rw [f126c127_L2_s]
  unfold f126c127_L2B
  have hl := h.1
  have hr := h.2 p hp
  have e : (R.drop k).getD (p - k) [] = R.getD p [] := by
   simp only [List.getD_eq_getElem?_getD, List.getElem?_drop]
   rw [show k + (p - k) = p by omega]
  rw [Bool.cond_decide, if_pos (by omega), gd_pos (by simp [hl]; omega), Int.toNat_natCast, e]
  unfold f127
  have hc := hr.2 k hkw
  have hc : (R.getD p []).getD k (false, [], []) = rq (M p k) := hc
  rw [gd_pos (by rw [hr.1]; simp; omega), Int.toNat_natCast]
  dsimp only
  rw [hc, i_zero, ob_some, ob_some]
  unfold pivF
  rw [if_pos hp]
  by_cases z : M p k = 0
  · rw [if_pos z, decide_eq_true z, Bool.not_true, cond_false, W_id (x := ((p - k : Nat) : Int) + 1) (by omega) (by omega)]
    have := index_loop (n := n) h hkw hk hm (k0 := k0) (k1 := k1) f (p + 1) fu (by omega) (by omega) (by omega) (by omega)
    rw [show (((p + 1 - k : Nat)) : Int) = ((p - k : Nat) : Int) + 1 by omega] at this
    exact this
  · rw [if_neg z, decide_eq_false z, Bool.not_false, cond_true, if_neg (by omega)]

theorem f126_eq {n m w k : Nat} {R : List (List Rt)} {M : Nat → Nat → Rat} (h : RowRep m w R M) (hkw : k < w) (hk : k ≤ m) (hm : m ≤ 100) (hn : 1048577 ≤ n) :
  f126c127 n (R.drop k) (k : Int) = some (if piv M k m = m then -1 else ((piv M k m - k : Nat) : Int)) := by
 unfold f126c127 piv
 have := index_loop (n := n) h hkw hk hm (k0 := fun z_2 => some z_2) (k1 := fun _ => some (-1)) (m - k) k n (by omega) hk rfl (by omega)
 rw [Nat.sub_self] at this
 rw [List.length_drop, h.1]
 refine Eq.trans this ?_
 split <;> rfl

theorem i_whole {n c : Nat} (hc : c ≤ 100) (hn : 1048577 ≤ n) : f92 n (c : Int) = some (rq (c : Rat)) := f92_eq hc hn

theorem rowswap {m w : Nat} {R : List (List Rt)} {M : Nat → Nat → Rat} {k p : Nat} (h : RowRep m w R M) (hk : k < m) (hp : p < m) : RowRep m w ((R.set k (R.getD p [])).set p (R.getD k [])) (swapR M k p) := by
 have h1 := rowset h hk (h.2 p hp)
 have h2 := rowset h1 hp (h.2 k hk)
 refine h2.congr fun r c hr hc => ?_
 unfold swapR
 by_cases a : r = p
 · subst a
   by_cases b : r = k
   · subst b; simp
   · simp [b]
 · by_cases b : r = k
   · subst b; simp [a]
   · simp [a, b]

theorem elimTo_start {M : Nat → Nat → Rat} {k : Nat} : elimTo M k (k + 1) = M := by
 funext r c
 unfold elimTo
 rw [if_neg (by omega)]

def lim (L : Nat) : Nat → Nat
 | 0 => L
 | f + 1 => lim (8 * L + 7) f

theorem lim_le : ∀ (f L : Nat), L ≤ lim L f
 | 0, _ => Nat.le_refl _
 | f + 1, L => by have := lim_le f (8 * L + 7); unfold lim; omega

theorem i_gauss {n m w : Nat} (hm : m ≤ 8) (hmw : m ≤ w) (hw : w ≤ 100) :
  ∀ (f k fu : Nat) (R : List (List Rt)) (M : Nat → Nat → Rat) (d : Rat) (L : Nat) (b : Bool), f = m - k → k ≤ m → m < k + fu → RowRep m w R M → SzM M L → Sz d L → 28 * (8 * lim L f + 7) + 10040 ≤ n → 8 * lim L f + 7 ≤ 1099511627000 → 1048577 ≤ n →
  ∃ R', RowRep m w R' (gauss m f k d M).2 ∧
  f57B_L3 n fu (m : Int) (k : Int) b (rq d).1 (rq d).2.1 (rq d).2.2 R (fun z_19 z_20 z_21 z_22 => some ((z_19, z_20, z_21), z_22)) (fun z_23 z_24 z_25 z_26 z_27 => some ((z_24, z_25, z_26), z_27)) = some (rq (gauss m f k d M).1, R')
 | f, k, 0, R, M, d, L, b, h1, h2, h3, h4, h5, h6, h7, h8, hn => by omega
 | 0, k, fu + 1, R, M, d, L, b, h1, h2, h3, h4, h5, h6, h7, h8, hn => by
  rw [f57B_L3_s]
  unfold f57B_L3B
  rw [Bool.cond_decide, if_neg (by omega)]
  exact ⟨R, h4, rfl⟩
 | f + 1, k, fu + 1, R, M, d, L, b, h1, h2, h3, h4, h5, h6, h7, h8, hn => by
  have hkm : k < m := by omega
  have hl := h4.1
  have hL8 := lim_le f (8 * L + 7)
  simp only [lim] at h7 h8
  have et : (R.drop k).take ((m : Int).toNat - k) = R.drop k := List.take_of_length_le (by simp [hl])
  rw [f57B_L3_s]
  unfold f57B_L3B
  rw [Bool.cond_decide, if_pos (by omega)]
  simp only [Int.toNat_natCast, hl]
  rw [gd_pos (by simp; omega), gd_pos (by simp; omega)]
  rw [Int.toNat_natCast] at et
  rw [et, f126_eq h4 (by omega) h2 (by omega) hn, ob_some]
  obtain ⟨p1, p2⟩ := pivF_le (M := M) (k := k) (m := m) (m - k) k h2
  have p1 : k ≤ piv M k m := p1
  have p2 : piv M k m ≤ m := p2
  by_cases hp : piv M k m = m
  · rw [if_pos hp]
    have eg : gauss m (f + 1) k d M = (0, M) := by unfold gauss; rw [if_pos hp]
    have e0 : f92 n 0 = some (rq 0) := i_whole (c := 0) (by omega) hn
    rw [eg, show decide ((-1 : Int) < 0) = true from rfl, cond_true, e0, ob_some]
    exact ⟨R, h4, rfl⟩
  have hpm : piv M k m < m := by omega
  have hne : M (piv M k m) k ≠ 0 := pivF_ne (m - k) k (by omega) hpm
  have eg : gauss m (f + 1) k d M = gauss m f (k + 1) ((if piv M k m = k then d else -d) * swapR M k (piv M k m) k k) (elimTo (swapR M k (piv M k m)) k m) := by
   conv => lhs; unfold gauss
   rw [if_neg hp]
  rw [eg, if_neg hp, Bool.cond_decide, if_neg (show ¬ ((piv M k m - k : Nat) : Int) < 0 by omega)]
  generalize hP : piv M k m = p at *
  have hs := SzM_swap (k := k) (p := p) h5
  have hkk : swapR M k p k k = M p k := by unfold swapR; rw [if_pos rfl]
  have hnz : swapR M k p k k ≠ 0 := by rw [hkk]; exact hne
  have go : ∀ (R1 : List (List Rt)) (d1 : Rat), RowRep m w R1 (swapR M k p) → Sz d1 L →
    ∃ R', RowRep m w R' (gauss m f (k + 1) (d1 * swapR M k p k k) (elimTo (swapR M k p) k m)).2 ∧
    (gd (decide (0 ≤ (k : Int)) && decide ((k : Int) < (R1.length : Int))) (gd (decide (k < R1.length)) (gd (decide (0 ≤ (k : Int)) && decide ((k : Int) < (((R1.getD k []).length : Nat) : Int)))
     (ob (f103 n ((rq d1).1, (rq d1).2.1, (rq d1).2.2) ((R1.getD k []).getD k (false, [], []))) fun r_10 =>
      f57B_L13 n n (W ((k : Int) + 1)) (m : Int) (k : Int) b r_10.1 r_10.2.1 r_10.2.2 (k : Int) R1 fun z_11 z_12 z_13 z_14 z_15 z_16 z_17 =>
       f57B_L3 n fu z_11 (W (z_12 + 1)) z_13 z_14 z_15 z_16 z_17 (fun z_19 z_20 z_21 z_22 => some ((z_19, z_20, z_21), z_22)) (fun z_23 z_24 z_25 z_26 z_27 => some ((z_24, z_25, z_26), z_27)))))) = some (rq (gauss m f (k + 1) (d1 * swapR M k p k k) (elimTo (swapR M k p) k m)).1, R') := by
   intro R1 d1 hR1 hd1
   have l1 := hR1.1
   have rk := hR1.2 k hkm
   have ck := rk.2 k (by omega)
   have ck : (R1.getD k []).getD k (false, [], []) = rq (swapR M k p k k) := ck
   rw [gd_pos (by simp [l1]; omega), gd_pos (by simp [l1]; omega), gd_pos (by rw [rk.1]; simp; omega), ck, show ((rq d1).1, (rq d1).2.1, (rq d1).2.2) = rq d1 from rfl,
    i_times (L := L) hd1 (hs k k) (by omega) (by omega), ob_some, W_id (x := (k : Int) + 1) (by omega) (by omega)]
   have hR1' : RowRep m w R1 (elimTo (swapR M k p) k (k + 1)) := by rw [elimTo_start]; exact hR1
   obtain ⟨R2, q1, q2⟩ := elim_loop (n := n) (L := L) (m := m) (w := w) (k := k) hs hkm (by omega) hnz (by omega) hw (by omega) (by omega) (m : Int) (k : Int) b (rq (d1 * swapR M k p k k)).1 (rq (d1 * swapR M k p k k)).2.1 (rq (d1 * swapR M k p k k)).2.2
    (k0 := fun z_11 z_12 z_13 z_14 z_15 z_16 z_17 => f57B_L3 n fu z_11 (W (z_12 + 1)) z_13 z_14 z_15 z_16 z_17 (fun z_19 z_20 z_21 z_22 => some ((z_19, z_20, z_21), z_22)) (fun z_23 z_24 z_25 z_26 z_27 => some ((z_24, z_25, z_26), z_27))) n (k + 1) R1 (by omega) (by omega) hR1' (by omega)
   have q2 : f57B_L13 n n ((k : Int) + 1) (m : Int) (k : Int) b _ _ _ (k : Int) R1 _ = _ := q2
   rw [q2, W_id (x := (k : Int) + 1) (by omega) (by omega)]
   exact i_gauss hm hmw hw f (k + 1) fu R2 (elimTo (swapR M k p) k m) (d1 * swapR M k p k k) (8 * L + 7) b (by omega) (by omega) (by omega) q1 (SzM_elim hs hnz) ((Sz_mul hd1 (hs k k)).mono (by omega)) h7 h8 hn
  by_cases hpk : p = k
  · rw [if_pos hpk]
    have hs0 : swapR M k p = M := by
     funext r c; unfold swapR; subst hpk
     split
     · rename_i e; rw [e]
     · rfl
    obtain ⟨R', r1, r2⟩ := go R d (by rw [hs0]; exact h4) h6
    refine ⟨R', r1, ?_⟩
    rw [show p - k = 0 by omega, Bool.cond_decide, if_neg (by omega)]
    rw [hl] at r2
    exact r2
  · rw [if_neg hpk, Bool.cond_decide, if_pos (by omega)]
    have hw1 : W ((k : Int) + ((p - k : Nat) : Int)) = (p : Int) := by rw [W_id (by omega) (by omega)]; omega
    have hrs := rowswap h4 hkm hpm
    obtain ⟨R', r1, r2⟩ := go _ (-d) hrs (Sz_neg h6)
    refine ⟨R', r1, ?_⟩
    simp only [hw1, Int.toNat_natCast, List.length_set, hl]
    rw [gd_pos (by simp; omega), gd_pos (by simp; omega), gd_pos (by simp; omega), gd_pos (by simp; omega), gd_pos (by simp; omega), gd_pos (by simp; omega), gd_pos (by simp; omega), gd_pos (by simp; omega),
     show ((rq d).1, (rq d).2.1, (rq d).2.2) = rq d from rfl, i_neg (L := L) h6 (by omega), ob_some]
    simp only [List.length_set, hl] at r2
    exact r2

theorem idxL {k i j : Nat} (hi : i < k) (hj : j < k) : i * k + j < k * k := by
 have h1 : (i + 1) * k ≤ k * k := Nat.mul_le_mul_right k hi
 rw [Nat.succ_mul] at h1
 omega

theorem idx_inj {k r r' c c' : Nat} (hc : c < k) (hc' : c' < k) (h : r * k + c = r' * k + c') : r = r' ∧ c = c' := by
 have a := dm (i := r) hc
 have b := dm (i := r') hc'
 rw [h] at a
 exact ⟨by rw [← a.2, b.2], by rw [← a.1, b.1]⟩

structure FlatRep (m : Nat) (a b : List Rt) (M : Nat → Nat → Rat) : Prop where
 la : a.length = m * m
 lb : b.length = m
 at_ : ∀ r c, r < m → c < m → a.getD (r * m + c) rt0 = rq (M r c)
 bt : ∀ r, r < m → b.getD r rt0 = rq (M r m)

theorem FlatRep.congr {m : Nat} {a b : List Rt} {M M' : Nat → Nat → Rat} (h : FlatRep m a b M) (e : ∀ r c, r < m → c ≤ m → M r c = M' r c) : FlatRep m a b M' :=
 ⟨h.la, h.lb, fun r c hr hc => by rw [h.at_ r c hr hc, e r c hr (by omega)], fun r hr => by rw [h.bt r hr, e r m hr (Nat.le_refl _)]⟩

theorem FlatRep.setA {m r c : Nat} {a b : List Rt} {M : Nat → Nat → Rat} {x : Rat} (h : FlatRep m a b M) (hr : r < m) (hc : c < m) : FlatRep m (a.set (r * m + c) (rq x)) b (updM M r c x) := by
 have hi := idxL hr hc
 refine ⟨by simp [h.la], h.lb, fun r' c' hr' hc' => ?_, fun r' hr' => ?_⟩
 · by_cases e : r' = r ∧ c' = c
   · obtain ⟨rfl, rfl⟩ := e
     rw [getD_set_eq (by rw [h.la]; exact hi)]
     unfold updM; rw [if_pos ⟨rfl, rfl⟩]
   · rw [getD_set_ne (fun e' => e (by have := idx_inj hc hc' e'; exact ⟨this.1.symm, this.2.symm⟩)), h.at_ r' c' hr' hc']
     unfold updM; rw [if_neg e]
 · rw [h.bt r' hr']
   unfold updM; rw [if_neg (by omega)]

theorem FlatRep.setB {m r : Nat} {a b : List Rt} {M : Nat → Nat → Rat} {x : Rat} (h : FlatRep m a b M) (hr : r < m) : FlatRep m a (b.set r (rq x)) (updM M r m x) := by
 refine ⟨h.la, by simp [h.lb], fun r' c' hr' hc' => ?_, fun r' hr' => ?_⟩
 · rw [h.at_ r' c' hr' hc']
   unfold updM; rw [if_neg (by omega)]
 · by_cases e : r' = r
   · subst e
     rw [getD_set_eq (by rw [h.lb]; exact hr)]
     unfold updM; rw [if_pos ⟨rfl, rfl⟩]
   · rw [getD_set_ne (fun e' => e e'.symm), h.bt r' hr']
     unfold updM; rw [if_neg (by omega)]

theorem Wix {r c m : Nat} (h : r * m + c ≤ 1000000) : W (W ((r : Int) * (m : Int)) + (c : Int)) = ((r * m + c : Nat) : Int) := by
 rw [Wm (by omega), Wa h]

theorem FlatRep.gA {m r c : Nat} {a b : List Rt} {M : Nat → Nat → Rat} (h : FlatRep m a b M) (hr : r < m) (hc : c < m) : a.getD (r * m + c) (false, [], []) = rq (M r c) := h.at_ r c hr hc

theorem FlatRep.gB {m r : Nat} {a b : List Rt} {M : Nat → Nat → Rat} (h : FlatRep m a b M) (hr : r < m) : b.getD r (false, [], []) = rq (M r m) := h.bt r hr

theorem mm64 {m : Nat} (h : m ≤ 8) : m * m ≤ 64 := by have := Nat.mul_le_mul h h; omega

theorem s_pivot {α : Type} {n m k : Nat} {a b : List Rt} {M : Nat → Nat → Rat} (h : FlatRep m a b M) (hm : m ≤ 8) (hk : k < m) (b1 b2 : Bool) (d1 d2 : List Int) {k0 : Int → Int → Int → Bool → Bool → List Int → List Int → List Rt → List Rt → Option α} : ∀ (f p fu : Nat), p ≤ m → f = m - p → m < p + fu →
  f115_L9 n fu (m : Int) (k : Int) (p : Int) b1 b2 d1 d2 a b k0 = k0 (m : Int) (k : Int) ((pivF M k m f p : Nat) : Int) b1 b2 d1 d2 a b
 | f, p, 0, h2, h3, h4 => by omega
 | 0, p, fu + 1, h2, h3, h4 => by
  rw [f115_L9_s]
  unfold f115_L9B pivF
  rw [Bool.cond_decide, if_neg (by omega)]
 | f + 1, p, fu + 1, h2, h3, h4 => by
  have hp : p < m := by omega
  have hi := idxL hp hk
  have h64 := mm64 hm
  rw [f115_L9_s]
  unfold f115_L9B
  rw [Bool.cond_decide, if_pos (by omega), Wix (by omega), gd_pos (by simp [h.la]; omega), gd_pos (by simp [h.la]; omega), Int.toNat_natCast]
  dsimp only
  rw [h.gA hp hk, s_zero, ob_some]
  unfold pivF
  rw [if_pos hp]
  by_cases z : M p k = 0
  · rw [if_pos z, decide_eq_true z, cond_true, W_id (x := (p : Int) + 1) (by omega) (by omega)]
    exact s_pivot h hm hk b1 b2 d1 d2 f (p + 1) fu (by omega) (by omega) (by omega)
  · rw [if_neg z, decide_eq_false z, cond_false]

def swTo (M : Nat → Nat → Rat) (k p i : Nat) : Nat → Nat → Rat := fun r c => if c < i then swapR M k p r c else M r c

theorem s_swap {α : Type} {n m k p : Nat} (hm : m ≤ 8) (hk : k < m) (hp : p < m) (hkp : k ≠ p) (b1 b2 : Bool) (d1 d2 : List Int) {M : Nat → Nat → Rat} {k0 : Int → Int → Int → Bool → Bool → List Int → List Int → List Rt → List Rt → Option α} : ∀ (fu i : Nat) (a b : List Rt), FlatRep m a b (swTo M k p i) → i ≤ m → m < i + fu →
  ∃ a', FlatRep m a' b (swTo M k p m) ∧ f115_L16 n fu (m : Int) (k : Int) (p : Int) (i : Int) b1 b2 d1 d2 a b k0 = k0 (m : Int) (k : Int) (p : Int) b1 b2 d1 d2 a' b
 | 0, i, a, b, h, h2, h4 => by omega
 | fu + 1, i, a, b, h, h2, h4 => by
  rw [f115_L16_s]
  unfold f115_L16B
  rw [Bool.cond_decide]
  by_cases hi : i < m
  · have h64 := mm64 hm
    have i1 := idxL hp hi
    have i2 := idxL hk hi
    rw [if_pos (by omega)]
    simp only [Wix (show p * m + i ≤ 1000000 by omega), Wix (show k * m + i ≤ 1000000 by omega), Int.toNat_natCast, List.length_set, h.la]
    rw [gd_pos (by simp; omega), gd_pos (by simp; omega), gd_pos (by simp; omega), gd_pos (by simp; omega), gd_pos (by simp; omega), gd_pos (by simp; omega), gd_pos (by simp; omega), gd_pos (by simp; omega), h.gA hp hi, h.gA hk hi, W_id (x := (i : Int) + 1) (by omega) (by omega)]
    have s1 := (h.setA (x := swTo M k p i k i) hp hi).setA (x := swTo M k p i p i) hk hi
    refine s_swap hm hk hp hkp b1 b2 d1 d2 fu (i + 1) _ b (s1.congr fun r c hr hc => ?_) (by omega) (by omega)
    have e1 : swTo M k p i k i = M k i := by unfold swTo; rw [if_neg (by omega)]
    have e2 : swTo M k p i p i = M p i := by unfold swTo; rw [if_neg (by omega)]
    rw [e1, e2]
    unfold updM swTo swapR
    by_cases c1 : c = i
    · subst c1
      by_cases r1 : r = k
      · subst r1; simp
      · by_cases r2 : r = p
        · subst r2; simp [r1]
        · simp [r1, r2]
    · have e3 : (c < i + 1) ↔ c < i := by omega
      simp [c1, e3]
  · obtain rfl : i = m := by omega
    rw [if_neg (by omega)]
    exact ⟨a, h, rfl⟩

def elRow (M : Nat → Nat → Rat) (k r : Nat) (t : Rat) (i : Nat) : Nat → Nat → Rat := fun r' c => if r' = r ∧ k ≤ c ∧ c < i then M r c - t * M k c else M r' c

theorem s_row {α : Type} {n m k r L : Nat} {t : Rat} {M : Nat → Nat → Rat} (hm : m ≤ 8) (hk : k < r) (hr : r < m) (hMr : ∀ c, Sz (M r c) L) (hMk : ∀ c, Sz (M k c) L) (ht : Sz t (2 * L + 1)) (hL : 28 * (8 * L + 7) + 10040 ≤ n) (hL2 : 8 * L + 7 ≤ 1099511627000) (b1 b2 : Bool) (d1 d2 : List Int)
  {k0 : Int → Int → Int → Bool → Bool → List Int → List Int → Bool → List Int → List Int → List Rt → List Rt → Option α} : ∀ (fu i : Nat) (a b : List Rt), FlatRep m a b (elRow M k r t i) → k ≤ i → i ≤ m → m < i + fu →
  ∃ a', FlatRep m a' b (elRow M k r t m) ∧ f115_L30 n fu (m : Int) (k : Int) (r : Int) (i : Int) b1 b2 d1 d2 (rq t).1 (rq t).2.1 (rq t).2.2 a b k0 = k0 (m : Int) (k : Int) (r : Int) b1 b2 d1 d2 (rq t).1 (rq t).2.1 (rq t).2.2 a' b
 | 0, i, a, b, h, h1, h2, h4 => by omega
 | fu + 1, i, a, b, h, h1, h2, h4 => by
  rw [f115_L30_s]
  unfold f115_L30B
  rw [Bool.cond_decide]
  by_cases hi : i < m
  · have h64 := mm64 hm
    have hkm : k < m := by omega
    have i1 := idxL hr hi
    have i2 := idxL hkm hi
    have e1 : elRow M k r t i r i = M r i := by unfold elRow; rw [if_neg (by omega)]
    have e2 : elRow M k r t i k i = M k i := by unfold elRow; rw [if_neg (by omega)]
    rw [if_pos (by omega)]
    simp only [Wix (show r * m + i ≤ 1000000 by omega), Wix (show k * m + i ≤ 1000000 by omega), Int.toNat_natCast, List.length_set, h.la]
    rw [gd_pos (by simp; omega), gd_pos (by simp; omega), gd_pos (by simp; omega), gd_pos (by simp; omega), h.gA hr hi, h.gA hkm hi, e1, e2, show ((rq t).1, (rq t).2.1, (rq t).2.2) = rq t from rfl,
     s_times (L := 2 * L + 1) ht ((hMk i).mono (by omega)) (by omega) (by omega), ob_some,
     s_less (L := 4 * L + 3) ((hMr i).mono (by omega)) ((Sz_mul ht ((hMk i).mono (show L ≤ 2 * L + 1 by omega))).mono (by omega)) (by omega) (by omega), ob_some, gd_pos (by simp; omega), gd_pos (by simp; omega), W_id (x := (i : Int) + 1) (by omega) (by omega)]
    have s1 := h.setA (x := M r i - t * M k i) hr hi
    refine s_row hm hk hr hMr hMk ht hL hL2 b1 b2 d1 d2 fu (i + 1) _ b (s1.congr fun r' c hr' hc => ?_) (by omega) (by omega) (by omega)
    unfold updM elRow
    by_cases c1 : r' = r ∧ c = i
    · rw [if_pos c1, if_pos ⟨c1.1, by omega, by omega⟩, c1.2]
    · rw [if_neg c1]
      by_cases c2 : r' = r ∧ k ≤ c ∧ c < i
      · rw [if_pos c2, if_pos ⟨c2.1, c2.2.1, by omega⟩]
      · rw [if_neg c2, if_neg (by omega)]
  · obtain rfl : i = m := by omega
    rw [if_neg (by omega)]
    exact ⟨a, h, rfl⟩

theorem s_elim {α : Type} {n m k L : Nat} {M : Nat → Nat → Rat} (hm : m ≤ 8) (hkm : k < m) (hM : SzM M L) (hp : M k k ≠ 0) (hlow : low m k M) (hL : 28 * (8 * L + 7) + 10040 ≤ n) (hL2 : 8 * L + 7 ≤ 1099511627000) (hn : 1048577 ≤ n) (b1 b2 : Bool) (d1 d2 : List Int)
  {k0 : Int → Int → Bool → Bool → List Int → List Int → List Rt → List Rt → Option α} : ∀ (fu r : Nat) (a b : List Rt), FlatRep m a b (elimTo M k r) → k < r → r ≤ m → m < r + fu →
  ∃ a' b', FlatRep m a' b' (elimTo M k m) ∧ f115_L26 n fu (m : Int) (k : Int) (r : Int) b1 b2 d1 d2 a b k0 = k0 (m : Int) (k : Int) b1 b2 d1 d2 a' b'
 | 0, r, a, b, h, h1, h2, h4 => by omega
 | fu + 1, r, a, b, h, h1, h2, h4 => by
  rw [f115_L26_s]
  unfold f115_L26B
  rw [Bool.cond_decide]
  by_cases hr : r < m
  · have h64 := mm64 hm
    have i1 := idxL hr hkm
    have i2 := idxL hkm hkm
    have e0 : ∀ c, elimTo M k r r c = M r c := fun c => by unfold elimTo; rw [if_neg (by omega)]
    have e1 : ∀ c, elimTo M k r k c = M k c := fun c => by unfold elimTo; rw [if_neg (by omega)]
    have sE : SzM (elimTo M k r) (8 * L + 7) := SzM_elim hM hp
    have ht := Sz_div (hM r k) (hM k k) hp
    rw [if_pos (by omega)]
    simp only [Wix (show r * m + k ≤ 1000000 by omega), Wix (show k * m + k ≤ 1000000 by omega), Int.toNat_natCast, h.la]
    rw [gd_pos (by simp; omega), gd_pos (by simp; omega), gd_pos (by simp; omega), gd_pos (by simp; omega), h.gA hr hkm, h.gA hkm hkm, e0, e1, s_over (L := L) (hM r k) (hM k k) hp (by omega) (by omega), ob_some]
    have hst : FlatRep m a b (elRow (elimTo M k r) k r (M r k / M k k) k) := h.congr fun r' c hr' hc => by
     unfold elRow; rw [if_neg (by omega)]
    obtain ⟨a', ha', hrow⟩ := s_row (α := α) (n := n) (m := m) (k := k) (r := r) (L := L) (t := M r k / M k k) (M := elimTo M k r) hm h1 hr (fun c => by rw [e0]; exact hM r c) (fun c => by rw [e1]; exact hM k c) ht hL hL2 b1 b2 d1 d2
     (k0 := fun z_39 z_40 z_41 z_42 z_43 z_44 z_45 z_46 z_47 z_48 z_49 z_50 =>
             gd (decide (0 ≤ z_41) && decide (z_41 < (z_50.length : Int))) (
              gd (decide (z_41.toNat < z_50.length)) (
               let x_51 := z_50.getD z_41.toNat (false, [], [])
               gd (decide (0 ≤ z_40) && decide (z_40 < (z_50.length : Int))) (
                gd (decide (z_40.toNat < z_50.length)) (
                 let x_52 := z_50.getD z_40.toNat (false, [], [])
                 ob (f176 n (z_46, z_47, z_48) x_52) fun r_53 =>
                 ob (f119 n x_51 r_53) fun r_54 =>
                 gd (decide (0 ≤ z_41) && decide (z_41 < (z_50.length : Int))) (
                  gd (decide (z_41.toNat < z_50.length)) (
                   f115_L26 n fu z_39 z_40 (W (z_41 + 1)) z_42 z_43 z_44 z_45 z_49 (z_50.set z_41.toNat r_54) k0)))))))
     n k a b hst (Nat.le_refl _) (by omega) (by omega)
    refine (fun (H : ∃ a' b', FlatRep m a' b' (elimTo M k m) ∧ _ = k0 (m : Int) (k : Int) b1 b2 d1 d2 a' b') => by
     obtain ⟨a2, b2', x1, x2⟩ := H
     exact ⟨a2, b2', x1, hrow.trans x2⟩) ?_
    have f1 : elRow (elimTo M k r) k r (M r k / M k k) m r m = M r m := by unfold elRow; rw [if_neg (by omega), e0]
    have f2 : elRow (elimTo M k r) k r (M r k / M k k) m k m = M k m := by unfold elRow; rw [if_neg (by omega), e1]
    simp only [Int.toNat_natCast, ha'.lb]
    rw [gd_pos (by simp; omega), gd_pos (by simp; omega), gd_pos (by simp; omega), gd_pos (by simp; omega), ha'.gB hr, ha'.gB hkm, f1, f2, show ((rq (M r k / M k k)).1, (rq (M r k / M k k)).2.1, (rq (M r k / M k k)).2.2) = rq (M r k / M k k) from rfl,
     s_times (L := 2 * L + 1) ht ((hM k m).mono (by omega)) (by omega) (by omega), ob_some,
     s_less (L := 4 * L + 3) ((hM r m).mono (by omega)) ((Sz_mul ht ((hM k m).mono (show L ≤ 2 * L + 1 by omega))).mono (by omega)) (by omega) (by omega), ob_some, gd_pos (by simp; omega), gd_pos (by simp; omega), W_id (x := (r : Int) + 1) (by omega) (by omega)]
    have s1 := ha'.setB (x := M r m - M r k / M k k * M k m) hr
    refine s_elim hm hkm hM hp hlow hL hL2 hn b1 b2 d1 d2 fu (r + 1) _ _ (s1.congr fun r' c hr' hc => ?_) (by omega) (by omega) (by omega)
    unfold updM
    by_cases c1 : r' = r ∧ c = m
    · obtain ⟨rfl, rfl⟩ := c1
      rw [if_pos ⟨rfl, rfl⟩]
      unfold elimTo
      rw [if_pos (by omega)]
    · rw [if_neg c1]
      unfold elRow
      by_cases c2 : r' = r
      · subst c2
        have c3 : c < m := by omega
        by_cases c4 : k ≤ c
        · rw [if_pos ⟨rfl, c4, c3⟩, e0, e1]
          unfold elimTo
          rw [if_pos (by omega)]
        · rw [if_neg (by omega), e0]
          unfold elimTo
          rw [if_pos (by omega), hlow r' c (by omega) (by omega) hr, hlow k c (by omega) (by omega) hkm, Rat.mul_zero]
          grind
      · rw [if_neg (by omega)]
        unfold elimTo
        by_cases c5 : k < r' ∧ r' < r
        · rw [if_pos c5, if_pos (by omega)]
        · rw [if_neg c5, if_neg (by omega)]
  · obtain rfl : r = m := by omega
    rw [if_neg (by omega)]
    exact ⟨a, b, h, rfl⟩

theorem s_int {n c : Nat} (hc : c ≤ 1000000) (hn : 1048577 ≤ n) : f106 n (c : Int) = some (rq (c : Rat)) := by
 unfold f106
 rw [decide_eq_false (by omega), cond_false, f172_eq (by omega) (by omega), ob_some, rq_nat, dg_one]

theorem swTo_zero {M : Nat → Nat → Rat} {k p : Nat} : swTo M k p 0 = M := by
 funext r c; unfold swTo; rw [if_neg (by omega)]

theorem s_gauss {n m : Nat} (hm : m ≤ 8) :
  ∀ (f k fu : Nat) (a b : List Rt) (M : Nat → Nat → Rat) (d : Rat) (L : Nat) (b1 : Bool), f = m - k → k ≤ m → m < k + fu → FlatRep m a b M → low m k M → SzM M L → Sz d L → 28 * (8 * lim L f + 7) + 10040 ≤ n → 8 * lim L f + 7 ≤ 1099511627000 → 1048577 ≤ n →
  ∃ a' b', FlatRep m a' b' (gauss m f k d M).2 ∧
  f115_L6 n fu (m : Int) (k : Int) b1 (rq d).1 (rq d).2.1 (rq d).2.2 a b (fun z_43 z_44 z_45 z_46 z_47 => some (z_46, z_47, (z_43, z_44, z_45))) (fun z_48 z_49 z_50 z_51 z_52 z_53 => some (z_52, z_53, (z_49, z_50, z_51))) = some (a', b', rq (gauss m f k d M).1)
 | f, k, 0, a, b, M, d, L, b1, h1, h2, h3, h4, hlow, h5, h6, h7, h8, hn => by omega
 | 0, k, fu + 1, a, b, M, d, L, b1, h1, h2, h3, h4, hlow, h5, h6, h7, h8, hn => by
  rw [f115_L6_s]
  unfold f115_L6B
  rw [Bool.cond_decide, if_neg (by omega)]
  exact ⟨a, b, h4, rfl⟩
 | f + 1, k, fu + 1, a, b, M, d, L, b1, h1, h2, h3, h4, hlow, h5, h6, h7, h8, hn => by
  have hkm : k < m := by omega
  have h64 := mm64 hm
  have hL8 := lim_le f (8 * L + 7)
  simp only [lim] at h7 h8
  obtain ⟨p1, p2⟩ := pivF_le (M := M) (k := k) (m := m) (m - k) k h2
  have p1 : k ≤ piv M k m := p1
  have p2 : piv M k m ≤ m := p2
  rw [f115_L6_s]
  unfold f115_L6B
  rw [Bool.cond_decide, if_pos (by omega)]
  rw [s_pivot h4 hm hkm b1 (rq d).1 (rq d).2.1 (rq d).2.2 (m - k) k n h2 rfl (by omega)]
  rw [show pivF M k m (m - k) k = piv M k m from rfl]
  by_cases hp : piv M k m = m
  · have eg : gauss m (f + 1) k d M = (0, M) := by unfold gauss; rw [if_pos hp]
    have e0 : f106 n 0 = some (rq 0) := s_int (c := 0) (by omega) hn
    rw [eg, hp, BEq.rfl, cond_true, e0, ob_some]
    exact ⟨a, b, h4, rfl⟩
  have hpm : piv M k m < m := by omega
  have hne : M (piv M k m) k ≠ 0 := pivF_ne (m - k) k (by omega) hpm
  have eg : gauss m (f + 1) k d M = gauss m f (k + 1) ((if piv M k m = k then d else -d) * swapR M k (piv M k m) k k) (elimTo (swapR M k (piv M k m)) k m) := by
   conv => lhs; unfold gauss
   rw [if_neg hp]
  rw [eg]
  generalize hP : piv M k m = p at *
  have hs := SzM_swap (k := k) (p := p) h5
  have hkk : swapR M k p k k = M p k := by unfold swapR; rw [if_pos rfl]
  have hnz : swapR M k p k k ≠ 0 := by rw [hkk]; exact hne
  have hls := low_swap hlow p1 hpm
  have i2 := idxL hkm hkm
  have go : ∀ (a1 b2 : List Rt) (d1 : Rat) (c1 : Bool), FlatRep m a1 b2 (swapR M k p) → Sz d1 L →
    ∃ a' b', FlatRep m a' b' (gauss m f (k + 1) (d1 * swapR M k p k k) (elimTo (swapR M k p) k m)).2 ∧
    (gd (decide (0 ≤ (W ((W ((k : Int) * (m : Int))) + (k : Int)))) && decide ((W ((W ((k : Int) * (m : Int))) + (k : Int))) < (a1.length : Int))) (
          gd (decide ((W ((W ((k : Int) * (m : Int))) + (k : Int))).toNat < a1.length)) (
           let x_32 := a1.getD ((W ((W ((k : Int) * (m : Int))) + (k : Int))).toNat) (false, [], [])
           ob (f176 n ((rq d1).1, (rq d1).2.1, (rq d1).2.2) x_32) fun r_33 =>
           f115_L26 n n (m : Int) (k : Int) (W ((k : Int) + 1)) c1 r_33.1 r_33.2.1 r_33.2.2 a1 b2
            (fun z_34 z_35 z_36 z_37 z_38 z_39 z_40 z_41 => (
             f115_L6 n fu z_34 (W (z_35 + 1)) z_36 z_37 z_38 z_39 z_40 z_41 (fun z_43 z_44 z_45 z_46 z_47 => some (z_46, z_47, (z_43, z_44, z_45))) (fun z_48 z_49 z_50 z_51 z_52 z_53 => some (z_52, z_53, (z_49, z_50, z_51)))))))) =
     some (a', b', rq (gauss m f (k + 1) (d1 * swapR M k p k k) (elimTo (swapR M k p) k m)).1) := by
   intro a1 b2 d1 c1 hR1 hd1
   rw [Wix (by omega), gd_pos (by simp [hR1.la]; omega), gd_pos (by simp [hR1.la]; omega), Int.toNat_natCast]
   dsimp only
   rw [hR1.gA hkm hkm, show ((rq d1).1, (rq d1).2.1, (rq d1).2.2) = rq d1 from rfl, s_times (L := L) hd1 (hs k k) (by omega) (by omega), ob_some, W_id (x := (k : Int) + 1) (by omega) (by omega)]
   obtain ⟨a2, b3, q1, q2⟩ := s_elim (n := n) hm hkm hs hnz hls (by omega) (by omega) hn c1 (rq (d1 * swapR M k p k k)).1 (rq (d1 * swapR M k p k k)).2.1 (rq (d1 * swapR M k p k k)).2.2
    (k0 := fun z_34 z_35 z_36 z_37 z_38 z_39 z_40 z_41 => f115_L6 n fu z_34 (W (z_35 + 1)) z_36 z_37 z_38 z_39 z_40 z_41 (fun z_43 z_44 z_45 z_46 z_47 => some (z_46, z_47, (z_43, z_44, z_45))) (fun z_48 z_49 z_50 z_51 z_52 z_53 => some (z_52, z_53, (z_49, z_50, z_51)))) n (k + 1) a1 b2 (by rw [elimTo_start]; exact hR1) (by omega) (by omega) (by omega)
   have q2 : f115_L26 n n (m : Int) (k : Int) ((k : Int) + 1) c1 _ _ _ a1 b2 _ = _ := q2
   rw [q2, W_id (x := (k : Int) + 1) (by omega) (by omega)]
   exact s_gauss hm f (k + 1) fu a2 b3 (elimTo (swapR M k p) k m) (d1 * swapR M k p k k) (8 * L + 7) c1 (by omega) (by omega) (by omega) q1 (low_elim hls hkm hnz) (SzM_elim hs hnz) ((Sz_mul hd1 (hs k k)).mono (by omega)) h7 h8 hn
  rw [show ((p : Int) == (m : Int)) = false by rw [beq_eq_false_iff_ne]; omega, cond_false]
  by_cases hpk : p = k
  · rw [if_pos hpk]
    have hs0 : swapR M k p = M := by
     funext r c; unfold swapR; subst hpk
     split
     · rename_i e; rw [e]
     · rfl
    obtain ⟨a', b', r1, r2⟩ := go a b d b1 (by rw [hs0]; exact h4) h6
    refine ⟨a', b', r1, ?_⟩
    rw [Bool.cond_decide, if_neg (by omega)]
    exact r2
  · rw [if_neg hpk, Bool.cond_decide, if_pos (by omega)]
    obtain ⟨a1, q1, q2⟩ := s_swap (n := n) hm hkm hpm (fun e => hpk e.symm) b1 (rq (-d)).1 (rq (-d)).2.1 (rq (-d)).2.2 (M := M)
     (k0 := fun z_13 z_14 z_15 z_16 z_17 z_18 z_19 z_20 z_21 => (
             gd (decide (0 ≤ z_15) && decide (z_15 < (z_21.length : Int))) (
              gd (decide (z_15.toNat < z_21.length)) (
               let x_22 := z_21.getD z_15.toNat (false, [], [])
               gd (decide (0 ≤ z_14) && decide (z_14 < (z_21.length : Int))) (
                gd (decide (z_14.toNat < z_21.length)) (
                 let x_23 := z_21.getD z_14.toNat (false, [], [])
                 gd (decide (0 ≤ z_15) && decide (z_15 < (z_21.length : Int))) (
                  gd (decide (z_15.toNat < z_21.length)) (
                   gd (decide (0 ≤ z_14) && decide (z_14 < (((z_21.set z_15.toNat x_23).length : Nat) : Int))) (
                    gd (decide (z_14.toNat < (z_21.set z_15.toNat x_23).length)) (
                     (fun (y_24 : Int) (y_25 : Int) (y_26 : Bool) (y_27 : Bool) (y_28 : List Int) (y_29 : List Int) (y_30 : List Rt) (y_31 : List Rt) => (
       gd (decide (0 ≤ (W ((W (y_25 * y_24)) + y_25))) && decide ((W ((W (y_25 * y_24)) + y_25)) < (y_30.length : Int))) (
        gd (decide ((W ((W (y_25 * y_24)) + y_25)).toNat < y_30.length)) (
         let x_32 := y_30.getD ((W ((W (y_25 * y_24)) + y_25)).toNat) (false, [], [])
         ob (f176 n (y_27, y_28, y_29) x_32) fun r_33 =>
         f115_L26 n n y_24 y_25 (W (y_25 + 1)) y_26 r_33.1 r_33.2.1 r_33.2.2 y_30 y_31
          (fun z_34 z_35 z_36 z_37 z_38 z_39 z_40 z_41 => (
           f115_L6 n fu z_34 (W (z_35 + 1)) z_36 z_37 z_38 z_39 z_40 z_41 (fun z_43 z_44 z_45 z_46 z_47 => some (z_46, z_47, (z_43, z_44, z_45))) (fun z_48 z_49 z_50 z_51 z_52 z_53 => some (z_52, z_53, (z_49, z_50, z_51)))))))))
                         z_13 z_14 z_16 z_17 z_18 z_19 z_20 ((z_21.set z_15.toNat x_23).set z_14.toNat x_22)))))))))))
     n 0 a b (by rw [swTo_zero]; exact h4) (by omega) (by omega)
    have q2 : f115_L16 n n (m : Int) (k : Int) (p : Int) 0 b1 _ _ _ a b _ = _ := q2
    have f1 : swTo M k p m p m = M p m := by unfold swTo; rw [if_neg (by omega)]
    have f2 : swTo M k p m k m = M k m := by unfold swTo; rw [if_neg (by omega)]
    have s1 := (q1.setB (x := M k m) hpm).setB (x := M p m) hkm
    obtain ⟨a', b', r1, r2⟩ := go a1 ((b.set p (rq (M k m))).set k (rq (M p m))) (-d) b1 (s1.congr fun r c hr hc => by
     unfold updM swTo swapR
     by_cases c1 : c = m
     · subst c1
       by_cases r1 : r = k
       · subst r1; simp
       · by_cases r2 : r = p
         · subst r2; simp [r1]
         · simp [r1, r2]
     · have : c < m := by omega
       simp [c1, this]) (Sz_neg h6)
    refine ⟨a', b', r1, ?_⟩
    rw [show ((rq d).1, (rq d).2.1, (rq d).2.2) = rq d from rfl, s_neg, ob_some, q2]
    simp only [Int.toNat_natCast, List.length_set, q1.lb]
    rw [gd_pos (by simp; omega), gd_pos (by simp; omega), gd_pos (by simp; omega), gd_pos (by simp; omega), gd_pos (by simp; omega), gd_pos (by simp; omega), gd_pos (by simp; omega), gd_pos (by simp; omega), q1.gB hpm, q1.gB hkm, f1, f2]
    exact r2

def detG (m : Nat) (M : Nat → Nat → Rat) : Rat := (gauss m m 0 1 M).1

theorem low_zero {m : Nat} {M : Nat → Nat → Rat} : low m 0 M := fun r c h => by omega

theorem Sz_one {L : Nat} (h : 1 ≤ L) : Sz (1 : Rat) L := (Sz_nat (c := 1) (by omega)).mono h

theorem lim8 {m : Nat} (h : m ≤ 4) : 8 * lim 40 m + 7 ≤ 1400000 := by
 rcases (show m = 0 ∨ m = 1 ∨ m = 2 ∨ m = 3 ∨ m = 4 by omega) with rfl | rfl | rfl | rfl | rfl <;> decide

theorem f115_eq {n m : Nat} {a b : List Rt} {M : Nat → Nat → Rat} (hm : m ≤ 4) (h : FlatRep m a b M) (hM : SzM M 40) (hn : 67108864 ≤ n) : ∃ a' b', f115 n a b = some (a', b', rq (detG m M)) ∧ FlatRep m a' b' (gauss m m 0 1 M).2 := by
 unfold f115
 have h64 := mm64 (show m ≤ 8 by omega)
 have l8 := lim8 hm
 have la := h.la
 have lb := h.lb
 have e1 : f106 n 1 = some (rq 1) := s_int (c := 1) (by omega) (by omega)
 rw [gd_pos (by simp; omega), gd_pos (by simp; omega), e1, ob_some, lb]
 obtain ⟨a', b', q1, q2⟩ := s_gauss (n := n) (show m ≤ 8 by omega) m 0 n a b M 1 40 false rfl (by omega) (by omega) h low_zero hM (Sz_one (by omega)) (by omega) (by omega) (by omega)
 have q2 : f115_L6 n n (m : Int) 0 false _ _ _ a b _ _ = _ := q2
 exact ⟨a', b', q2, q1⟩

theorem f57_eq {n m w : Nat} {R : List (List Rt)} {M : Nat → Nat → Rat} (hm : m ≤ 4) (hmw : m ≤ w) (hw : w ≤ 100) (h : RowRep m w R M) (hM : SzM M 40) (hn : 67108864 ≤ n) : ∃ R', f57B n R = some (rq (detG m M), R') ∧ RowRep m w R' (gauss m m 0 1 M).2 := by
 unfold f57B
 have l8 := lim8 hm
 have e1 : f92 n 1 = some (rq 1) := i_whole (c := 1) (by omega) (by omega)
 rw [e1, ob_some, h.1]
 obtain ⟨R', q1, q2⟩ := i_gauss (n := n) (show m ≤ 8 by omega) hmw hw m 0 n R M 1 40 false rfl (by omega) (by omega) h hM (Sz_one (by omega)) (by omega) (by omega) (by omega)
 have q2 : f57B_L3 n n (m : Int) 0 false _ _ _ R _ _ = _ := q2
 exact ⟨R', q2, q1⟩

def corM (X : List Rat) (n m : Nat) : Nat → Nat → Rat := fun r c => if r < m ∧ c < m then X.getD (r * n + c) 0 else 0

theorem SzM_cor {X : List Rat} {n m : Nat} (hX : Sv X 40) (hmn : m ≤ n) (hl : X.length = n * n) : SzM (corM X n m) 40 := by
 intro r c
 unfold corM
 split
 · rename_i h
   exact hX.get (by rw [hl]; exact idxL (by omega) (by omega))
 · exact Sz_zero.mono (by omega)

theorem i_rows_loop {α : Type} {f m : Nat} {P : List Rat} (hP : P.length = m * m) (hm : m ≤ 4) {k0 : List (List Rt) → Option α} : ∀ (fu i : Nat), i ≤ m → m < i + fu →
  f58B_L3 f fu (vq P) (m : Int) (m : Int) (i : Int) ((List.range i).map fun i => vq (rowR P m i)) k0 = k0 ((List.range m).map fun i => vq (rowR P m i))
 | 0, i, hi, hf => by omega
 | fu + 1, i, hi, hf => by
  rw [f58B_L3_s]
  unfold f58B_L3B
  rw [Bool.cond_decide]
  by_cases h : i < m
  · have h16 := kk16 hm
    have h1 := row_le h
    have h2 : (i + 1) * m = i * m + m := Nat.succ_mul i _
    have hne : (!(vq (rowR P m i)).isEmpty) = true := by
     have := row_len hP h
     cases hr : rowR P m i with
     | nil => rw [hr] at this; simp at this; omega
     | cons => rfl
    rw [if_pos (by omega), W1 (by omega), Wm (by omega), Wm (by omega), vq_len, gd_pos (mulgd h hP)]
    simp only [Int.toNat_natCast]
    rw [row_vq]
    unfold f128B
    rw [gd_pos hne, gd_pos (by simp [row_len hP h]; omega), ob_some, gd_pos (by simp; omega)]
    have e : ((List.range i).map fun i => vq (rowR P m i)) ++ [vq (rowR P m i)] = (List.range (i + 1)).map fun i => vq (rowR P m i) := by simp [List.range_succ]
    rw [e]
    exact i_rows_loop hP hm fu (i + 1) (by omega) (by omega)
  · obtain rfl : i = m := by omega
    rw [if_neg (by omega)]

theorem i_rows {f m : Nat} {P : List Rat} (hP : P.length = m * m) (hm : m ≤ 4) (hn : 1048577 ≤ f) : f58B f (vq P) (m : Int) () = some ((List.range m).map fun i => vq (rowR P m i)) := by
 unfold f58B
 exact i_rows_loop (f := f) (k0 := fun z_2 => some z_2) hP hm f 0 (by omega) (by omega)

theorem rows_rep {m : Nat} {P : List Rat} {M : Nat → Nat → Rat} (hP : P.length = m * m) (hM : ∀ r c, r < m → c < m → P.getD (r * m + c) 0 = M r c) : RowRep m m ((List.range m).map fun i => vq (rowR P m i)) M := by
 refine ⟨by simp, fun r hr => ?_⟩
 have e : ((List.range m).map fun i => vq (rowR P m i)).getD r [] = vq (rowR P m r) := by
  rw [List.getD_eq_getElem?_getD, List.getElem?_map, List.getElem?_range hr]; rfl
 rw [e]
 refine ⟨by rw [vq_len, row_len hP hr], fun c hc => ?_⟩
 have := vq_getM (X := rowR P m r) (i := c) (by rw [row_len hP hr]; exact hc)
 refine this.trans ?_
 rw [← hM r c hr hc]
 unfold rowR
 simp [List.getD_eq_getElem?_getD, List.getElem?_take, hc]

def Det1 (M : Nat → Nat → Rat) : Rat := M 0 0

def Det2 (M : Nat → Nat → Rat) : Rat := M 0 0 * M 1 1 - M 0 1 * M 1 0

def Det3 (M : Nat → Nat → Rat) : Rat := M 0 0 * (M 1 1 * M 2 2 - M 1 2 * M 2 1) - M 0 1 * (M 1 0 * M 2 2 - M 1 2 * M 2 0) + M 0 2 * (M 1 0 * M 2 1 - M 1 1 * M 2 0)

theorem g_last {m : Nat} {d : Rat} {M : Nat → Nat → Rat} : (gauss (m + 1) 1 m d M).1 = d * M m m := by
 have e : piv M m (m + 1) = if M m m = 0 then m + 1 else m := by
  unfold piv
  rw [show m + 1 - m = 1 by omega]
  unfold pivF
  rw [if_pos (by omega)]
  by_cases h : M m m = 0
  · rw [if_pos h, if_pos h]; rfl
  · rw [if_neg h, if_neg h]
 unfold gauss
 rw [e]
 by_cases h : M m m = 0
 · rw [if_pos h, if_pos rfl, h, Rat.mul_zero]
 · rw [if_neg h, if_neg (by omega), if_pos rfl]
   unfold gauss
   dsimp only
   unfold swapR
   rw [if_pos rfl]

theorem piv_two {m k : Nat} {M : Nat → Nat → Rat} (h : m = k + 2) : piv M k m = if M k k ≠ 0 then k else if M (k + 1) k ≠ 0 then k + 1 else m := by
 subst h
 unfold piv
 rw [show k + 2 - k = 2 by omega]
 unfold pivF pivF pivF
 by_cases a : M k k = 0
 · by_cases b : M (k + 1) k = 0
   · simp [a, b]
   · simp [a, b]
 · simp [a]

theorem g_two {k : Nat} {d : Rat} {M : Nat → Nat → Rat} : (gauss (k + 2) 2 k d M).1 = d * (M k k * M (k + 1) (k + 1) - M k (k + 1) * M (k + 1) k) := by
 have e := piv_two (M := M) (show k + 2 = k + 2 from rfl)
 by_cases a : M k k = 0
 · by_cases b : M (k + 1) k = 0
   · have e : piv M k (k + 2) = k + 2 := by rw [e]; simp [a, b]
     unfold gauss
     rw [e, if_pos rfl, a, b]; grind
   · have e : piv M k (k + 2) = k + 1 := by rw [e]; simp [a, b]
     unfold gauss
     rw [e, if_neg (by omega), if_neg (by omega), g_last]
     unfold elimTo swapR
     simp [a]
     grind
 · have e : piv M k (k + 2) = k := by rw [e]; simp [a]
   unfold gauss
   rw [e, if_neg (by omega), if_pos rfl, g_last]
   unfold elimTo swapR
   have h := Rat.div_mul_cancel (a := M (k + 1) k) a
   simp
   generalize M (k + 1) k / M k k = t at *
   grind

theorem detG1 {M : Nat → Nat → Rat} : detG 1 M = Det1 M := by
 unfold detG Det1
 rw [g_last, Rat.one_mul]

theorem detG2 {M : Nat → Nat → Rat} : detG 2 M = Det2 M := by
 unfold detG Det2
 rw [show gauss 2 2 0 1 M = gauss (0 + 2) 2 0 1 M from rfl, g_two, Rat.one_mul]

theorem piv_three {M : Nat → Nat → Rat} : piv M 0 3 = if M 0 0 ≠ 0 then 0 else if M 1 0 ≠ 0 then 1 else if M 2 0 ≠ 0 then 2 else 3 := by
 unfold piv
 rw [show 3 - 0 = 3 by omega]
 unfold pivF pivF pivF pivF
 by_cases a : M 0 0 = 0
 · by_cases b : M 1 0 = 0
   · by_cases c : M 2 0 = 0
     · simp [a, b, c]
     · simp [a, b, c]
   · simp [a, b]
 · simp [a]

theorem detG3 {M : Nat → Nat → Rat} : detG 3 M = Det3 M := by
 unfold detG Det3
 have e := piv_three (M := M)
 by_cases a : M 0 0 = 0
 · by_cases b : M 1 0 = 0
   · by_cases c : M 2 0 = 0
     · have e : piv M 0 3 = 3 := by rw [e]; simp [a, b, c]
       unfold gauss
       rw [e, if_pos rfl, a, b, c]; grind
     · have e : piv M 0 3 = 2 := by rw [e]; simp [a, b, c]
       unfold gauss
       rw [e, if_neg (by omega), if_neg (by omega), show gauss 3 2 (0 + 1) = gauss (1 + 2) 2 1 from rfl, g_two]
       unfold elimTo swapR
       simp [a, b]
       grind
   · have e : piv M 0 3 = 1 := by rw [e]; simp [a, b]
     unfold gauss
     rw [e, if_neg (by omega), if_neg (by omega), show gauss 3 2 (0 + 1) = gauss (1 + 2) 2 1 from rfl, g_two]
     unfold elimTo swapR
     have h := Rat.div_mul_cancel (a := M 2 0) b
     simp [a]
     generalize M 2 0 / M 1 0 = t at *
     grind
 · have e : piv M 0 3 = 0 := by rw [e]; simp [a]
   unfold gauss
   rw [e, if_neg (by omega), if_pos rfl, show gauss 3 2 (0 + 1) = gauss (1 + 2) 2 1 from rfl, g_two]
   unfold elimTo swapR
   have h1 := Rat.div_mul_cancel (a := M 1 0) a
   have h2 := Rat.div_mul_cancel (a := M 2 0) a
   simp
   generalize M 1 0 / M 0 0 = t at *
   generalize M 2 0 / M 0 0 = u at *
   grind

theorem rq_int (a : Int) : rq (a : Rat) = (decide (a < 0), dg a.natAbs, dg 1) := by
 unfold rq
 rw [Rat.num_intCast, Rat.den_intCast]

theorem s_intI {n : Nat} {a : Int} (h : -1000000000 ≤ a ∧ a ≤ 1000000000) (hn : 1048577 ≤ n) : f106 n a = some (rq (a : Rat)) := by rw [f106_eq h hn, rq_int]

theorem Bq_int {a : Int} {N : Nat} (h : a.natAbs ≤ N) : Bq (a : Rat) N 1 := by
 unfold Bq
 rw [Rat.num_intCast, Rat.den_intCast]
 exact ⟨h, Nat.le_refl _⟩

theorem Bq_neg {x : Rat} {N D : Nat} (h : Bq x N D) : Bq (-x) N D := by
 unfold Bq at *
 rw [Rat.neg_num, Rat.neg_den, Int.natAbs_neg]
 exact h

theorem Bq_sub {x y : Rat} {N D N' D' : Nat} (hx : Bq x N D) (hy : Bq y N' D') : Bq (x - y) (N * D' + N' * D) (D * D') := by
 rw [Rat.sub_eq_add_neg]; exact Bq_add hx (Bq_neg hy)

theorem mat_loop {α : Type} {n k : Nat} (hk : k ≤ 4) (hn : 1048577 ≤ n) {k0 : List Rt → List Int → Int → Int → Option α} : ∀ (m i : Nat) (P : Int) (o : List Rat) (s : Src), SrcOK P s → P + 3 * (k * k - i : Nat) ≤ 1099511620000 → o.length = i → i ≤ k * k → k * k < i + m → Bv o 3 1 →
  ∃ (x : List Rat) (s' : Src), x.length = k * k ∧ Bv x 3 1 ∧ f47B_L3 n m (k : Int) (i : Int) (vq o) s.1 s.2.1 s.2.2 k0 = k0 (vq x) s'.1 s'.2.1 s'.2.2
 | 0, i, P, o, s, h1, h2, h3, h4, h5, h6 => by omega
 | m + 1, i, P, o, s, h1, h2, h3, h4, h5, h6 => by
  have h16 := kk16 hk
  rw [f47B_L3_s]
  unfold f47B_L3B
  rw [Bool.cond_decide, Wm (by omega)]
  by_cases h : i < k * k
  · obtain ⟨v, s', e1, r1, o1⟩ := f107_eq (n := n) (k := 7) h1 (by omega) (by omega) (by omega)
    have e1 : f107B n (s.1, s.2.1, s.2.2) 7 = some (v, s') := e1
    rw [if_pos (by omega), e1, ob_some]
    dsimp only
    rw [W_id (x := v - 3) (by omega) (by omega), s_intI (by omega) hn, ob_some, gd_pos (by simp [vq_len]; omega), W_id (x := (i : Int) + 1) (by omega) (by omega)]
    have e : vq o ++ [rq ((v - 3 : Int) : Rat)] = vq (o ++ [((v - 3 : Int) : Rat)]) := by simp [vq]
    rw [e]
    exact mat_loop hk hn m (i + 1) (P + 3) (o ++ [((v - 3 : Int) : Rat)]) s' o1 (by omega) (by simp [h3]) (by omega) (by omega) (fun a ha => by
     rcases List.mem_append.1 ha with ha | ha
     · exact h6 a ha
     · rw [List.mem_singleton.1 ha]; exact Bq_int (by omega))
  · rw [if_neg (by omega)]
    exact ⟨o, s, by omega, h6, rfl⟩

theorem mat_drawn {n k : Nat} {l : List Int} (h : ∀ x ∈ l, 0 ≤ x ∧ x ≤ 255) (hl : l.length ≤ 1048576) (hk : k ≤ 4) (hn : 1048577 ≤ n) : ∃ X : List Rat, f11 n l (k : Int) = some (vq X) ∧ X.length = k * k ∧ Bv X 3 1 := by
 have h16 := kk16 hk
 unfold f11 f46B f47B
 rw [ob_some]
 obtain ⟨x, s', a1, a2, a3⟩ := mat_loop (n := n) hk hn (k0 := fun z_3 z_4 z_5 z_6 => some (z_3, (z_4, z_5, z_6))) n 0 0 [] (l, 0, Int.tmod (l.length : Int) 1000) (src0 h hl) (by omega) rfl (by omega) (by omega) (fun a ha => by simp at ha)
 have a3 : f47B_L3 n n (k : Int) 0 [] l 0 (Int.tmod (l.length : Int) 1000) _ = _ := a3
 dsimp only
 rw [a3, ob_some]
 exact ⟨x, rfl, a1, a2⟩

theorem mok_vq {X : List Rat} {k : Nat} (hX : Sv X 40) (hl : X.length = k * k) (h1 : 1 ≤ k) (h4 : k ≤ 4) : mok (vq X) (k : Int) = true := by
 unfold mok
 simp only [Bool.and_eq_true, decide_eq_true_eq, beq_iff_eq]
 refine ⟨⟨by omega, ?_⟩, List.all_eq_true.2 fun r hr => ?_⟩
 · rw [vq_len, hl, ← Int.natCast_mul]
 · obtain ⟨x, hx, rfl⟩ := List.mem_map.1 hr
   exact rq_rok (hX x hx)

theorem matC_one {X : List Rat} {k : Nat} (hX : Sv X 40) (hl : X.length = k * k) (h1 : 1 ≤ k) (h4 : k ≤ 4) : matC (k : Int) [vq X] = 0 := by
 have h16 := kk16 h4
 unfold matC lngL
 rw [if_neg (by simp; omega), if_pos (by simp [mok_vq hX hl h1 h4])]

theorem i_fit {n : Nat} {x : Rat} : f113 n (rq x) = some (fitR x) := by
 unfold f113 fitR rq
 dsimp only
 rw [Bool.cond_decide]
 by_cases h : (dg x.num.natAbs).length ≤ 40
 · rw [if_pos (by omega), decide_eq_true h, Bool.true_and]
   by_cases c : (dg x.den).length ≤ 40
   · rw [decide_eq_true c, decide_eq_true (by omega)]
   · rw [decide_eq_false c, decide_eq_false (by omega)]
 · rw [if_neg (by omega), decide_eq_false h]; rfl

theorem s_fit {n : Nat} {x : Rat} : f121 n (rq x) = some (fitR x) := by
 unfold f121 fitR rq
 dsimp only
 rw [Bool.cond_decide]
 by_cases h : (dg x.num.natAbs).length ≤ 40
 · rw [if_pos (by omega), decide_eq_true h, Bool.true_and]
   by_cases c : (dg x.den).length ≤ 40
   · rw [decide_eq_true c, decide_eq_true (by omega)]
   · rw [decide_eq_false c, decide_eq_false (by omega)]
 · rw [if_neg (by omega), decide_eq_false h]; rfl

def fit1 (x : Rat) : Rt × Int := if fitR x = true then (rq x, 0) else ((false, [], []), 7)

theorem i_out {n : Nat} {x : Rat} : f56 n (rq x) = some (fit1 x) := by
 unfold f56 fit1
 rw [i_fit, ob_some]
 cases fitR x <;> rfl

def matM (X : List Rat) (k : Nat) : Nat → Nat → Rat := corM X k k

theorem SzM_mat {X : List Rat} {k : Nat} (hX : Sv X 40) (hl : X.length = k * k) : SzM (matM X k) 40 := SzM_cor hX (Nat.le_refl _) hl

theorem i_det {f k : Nat} {X : List Rat} (hX : Sv X 40) (hl : X.length = k * k) (h1 : 1 ≤ k) (h4 : k ≤ 4) (hf : 67108864 ≤ f) : f15 f (vq X) (k : Int) = some (fit1 (detG k (matM X k))) := by
 unfold f15
 have hrep := rows_rep (M := matM X k) hl (fun r c hr hc => by unfold matM corM; rw [if_pos ⟨hr, hc⟩])
 obtain ⟨R', d1, d2⟩ := f57_eq (n := f) (m := k) (w := k) h4 (Nat.le_refl _) (by omega) hrep (SzM_mat hX hl) hf
 rw [f55_eqC (by simp) (by omega), ob_some, matC_one hX hl h1 h4, bne_self_eq_false, cond_false, i_rows hl h4 (by omega), ob_some, d1, ob_some, gd_pos (by rw [d2.1]; simp), i_out, ob_some]

theorem fit1_ok {x : Rat} (h : Sz x 40) : fit1 x = (rq x, 0) := by
 unfold fit1; rw [if_pos (fitR_iff.2 h)]

theorem row_map {X : List Rat} {k r : Nat} (hl : X.length = k * k) (hr : r < k) : rowR X k r = (List.range k).map fun j => X.getD (r * k + j) 0 := by
 apply List.ext_getElem
 · rw [row_len hl hr]; simp
 · intro j h1 h2
   simp at h2
   have := idxL hr h2
   simp only [rowR, List.getElem_take, List.getElem_drop, List.getElem_map, List.getElem_range]
   rw [List.getD_eq_getElem?_getD, List.getElem?_eq_getElem (by omega)]; rfl

theorem Bq_det {k : Nat} {M : Nat → Nat → Rat} (hM : ∀ r c, Bq (M r c) 36 1) (h1 : 1 ≤ k) (h3 : k ≤ 3) : Bq (detG k M) 300000 1 := by
 rcases (show k = 1 ∨ k = 2 ∨ k = 3 by omega) with rfl | rfl | rfl
 · rw [detG1]; unfold Det1; exact (hM 0 0).mono (by decide) (by decide)
 · rw [detG2]; unfold Det2; exact (Bq_sub (Bq_mul (hM 0 0) (hM 1 1)) (Bq_mul (hM 0 1) (hM 1 0))).mono (by decide) (by decide)
 · rw [detG3]; unfold Det3
   have m := fun a b c d => Bq_sub (Bq_mul (hM a b) (hM c d)) (Bq_mul (hM a d) (hM c b))
   have q1 := Bq_mul (hM 0 0) (Bq_sub (Bq_mul (hM 1 1) (hM 2 2)) (Bq_mul (hM 1 2) (hM 2 1)))
   have q2 := Bq_mul (hM 0 1) (Bq_sub (Bq_mul (hM 1 0) (hM 2 2)) (Bq_mul (hM 1 2) (hM 2 0)))
   have q3 := Bq_mul (hM 0 2) (Bq_sub (Bq_mul (hM 1 0) (hM 2 1)) (Bq_mul (hM 1 1) (hM 2 0)))
   exact (Bq_add (Bq_sub q1 q2) q3).mono (by decide) (by decide)

theorem Bq_zero {N : Nat} : Bq 0 N 1 := ⟨by simp, by decide⟩

theorem Bq_mat {X : List Rat} {k : Nat} (hX : Bv X 36 1) (hl : X.length = k * k) (r c : Nat) : Bq (matM X k r c) 36 1 := by
 unfold matM corM
 split
 · rename_i h
   exact hX.get (by rw [hl]; exact idxL h.1 h.2)
 · exact Bq_zero

theorem Sz_add2 {x y : Rat} {L K : Nat} (hx : Sz x L) (hy : Sz y K) : Sz (x + y) (L + K + 1) := by
 obtain ⟨x1, x2⟩ := hx
 obtain ⟨y1, y2⟩ := hy
 have l1 := len_mul x.num.natAbs y.den
 have l2 := len_mul y.num.natAbs x.den
 have l3 := len_mul x.den y.den
 have l4 := len_add (x.num.natAbs * y.den) (y.num.natAbs * x.den)
 have hd : 0 < x.den * y.den := Nat.mul_pos (Nat.pos_of_ne_zero x.den_nz) (Nat.pos_of_ne_zero y.den_nz)
 by_cases hs : decide (x.num < 0) = decide (y.num < 0)
 · rw [add_same hs]; exact Sz_mq hd (by omega) (by omega)
 · by_cases hle : y.num.natAbs * x.den ≤ x.num.natAbs * y.den
   · have l5 := len_mono (Nat.sub_le (x.num.natAbs * y.den) (y.num.natAbs * x.den))
     rw [add_ge hs hle]; exact Sz_mq hd (by omega) (by omega)
   · have l5 := len_mono (Nat.sub_le (y.num.natAbs * x.den) (x.num.natAbs * y.den))
     rw [Rat.add_comm, add_ge (fun e => hs e.symm) (by omega), Nat.mul_comm y.den x.den]; exact Sz_mq hd (by omega) (by omega)

theorem Sz_sub2 {x y : Rat} {L K : Nat} (hx : Sz x L) (hy : Sz y K) : Sz (x - y) (L + K + 1) := by
 rw [Rat.sub_eq_add_neg]; exact Sz_add2 hx (Sz_neg hy)

theorem Sz_mul2 {x y : Rat} {L K : Nat} (hx : Sz x L) (hy : Sz y K) : Sz (x * y) (L + K + 1) := by
 obtain ⟨x1, x2⟩ := hx
 obtain ⟨y1, y2⟩ := hy
 have l1 := len_mul x.num.natAbs y.num.natAbs
 have l3 := len_mul x.den y.den
 rw [mul_mq]
 exact Sz_mq (Nat.mul_pos (Nat.pos_of_ne_zero x.den_nz) (Nat.pos_of_ne_zero y.den_nz)) (by omega) (by omega)

theorem Sz_div2 {x y : Rat} {L K : Nat} (hx : Sz x L) (hy : Sz y K) (hy0 : y ≠ 0) : Sz (x / y) (L + K + 1) := by
 obtain ⟨x1, x2⟩ := hx
 obtain ⟨y1, y2⟩ := hy
 have l1 := len_mul x.num.natAbs y.den
 have l3 := len_mul x.den y.num.natAbs
 have hyn : y.num ≠ 0 := fun e => hy0 (Rat.num_eq_zero.1 e)
 rw [div_mq hy0]
 exact Sz_mq (Nat.mul_pos (Nat.pos_of_ne_zero x.den_nz) (by omega)) (by omega) (by omega)

theorem i_less {n L : Nat} {x y : Rat} (hx : Sz x L) (hy : Sz y L) (hL : 2 * L + 1 ≤ 1099511627000) (hn : 28 * (2 * L + 1) + 10040 ≤ n) : f110 n (rq x) (rq y) = some (rq (x - y)) := by
 unfold f110
 rw [i_neg hy (by omega), ob_some, i_plus hx (Sz_neg hy) hL hn, ob_some, Rat.sub_eq_add_neg]

theorem i_zero0 {n : Nat} (hn : 1048577 ≤ n) : f92 n 0 = some (rq 0) := f92_eq (c := 0) (by omega) hn

theorem Tstep {T i : Nat} (h : i < 4) : T * (i + 1) = T * i + T ∧ T * i ≤ T * 3 := ⟨Nat.mul_succ T i, Nat.mul_le_mul_left T (by omega)⟩

theorem f73B_loop {α : Type} {n L K : Nat} {x y : List Rat} (hx : Sv x L) (hy : Sv y K) (hl : x.length = y.length) (h4 : x.length ≤ 4) (hB : 8 * (L + K + 2) + 3 ≤ 1099511627000) (hn : 28 * (8 * (L + K + 2) + 3) + 10040 ≤ n) {f : Bool} {k0 : Bool → Bool → List Int → List Int → List Rt → Option α} : ∀ (m i : Nat) (acc : Rat), Sz acc ((L + K + 2) * i + 1) → i ≤ x.length → x.length < i + m →
  f73B_L3 n m (vq x) (x.length : Int) (i : Int) f (rq acc).1 (rq acc).2.1 (rq acc).2.2 (vq y) k0 = k0 f (rq (dotF acc (x.drop i) (y.drop i))).1 (rq (dotF acc (x.drop i) (y.drop i))).2.1 (rq (dotF acc (x.drop i) (y.drop i))).2.2 (vq y)
 | 0, i, acc, ho, hi, hm => by omega
 | m + 1, i, acc, ho, hi, hm => by
  rw [f73B_L3_s]
  unfold f73B_L3B
  dsimp only
  rw [Bool.cond_decide]
  by_cases h : i < x.length
  · rw [if_pos (by omega), gd_pos (by simp; omega), gd_pos (by simp; omega), gd_pos (by simp; omega)]
    obtain ⟨t1, t2⟩ := Tstep (T := L + K + 2) (i := i) (by omega)
    have h1 : Sz (x.getD i 0 * y.getD i 0) (L + K + 1) := Sz_mul2 (hx.get h) (hy.get (by omega))
    have h2 : Sz (acc + x.getD i 0 * y.getD i 0) ((L + K + 2) * (i + 1) + 1) := (Sz_add2 ho h1).mono (by omega)
    have e2 := i_plus (n := n) (L := (L + K + 2) * 3 + 1) (ho.mono (by omega)) (h1.mono (by omega)) (by omega) (by omega)
    have e2 : f104 n ((rq acc).1, (rq acc).2.1, (rq acc).2.2) _ = _ := e2
    have e1 := i_times (n := n) (L := L + K) ((hx.get h).mono (by omega)) ((hy.get (show i < y.length by omega)).mono (by omega)) (by omega) (by omega)
    rw [Int.toNat_natCast, vq_get h, vq_get (by omega), e1, ob_some, e2, ob_some, W_id (x := (i : Int) + 1) (by omega) (by omega)]
    have := f73B_loop hx hy hl h4 hB hn (f := f) (k0 := k0) m (i + 1) _ h2 (by omega) (by omega)
    rw [rdrop h, rdrop (x := y) (by omega)]
    rw [show (i : Int) + 1 = ((i + 1 : Nat) : Int) from rfl, this]
    rfl
  · rw [if_neg (by omega), List.drop_of_length_le (by omega), List.drop_of_length_le (by omega)]
    rfl

theorem i_dotB {n L K : Nat} {x y : List Rat} (hx : Sv x L) (hy : Sv y K) (hl : x.length = y.length) (h4 : x.length ≤ 4) (hB : 8 * (L + K + 2) + 3 ≤ 1099511627000) (hn : 28 * (8 * (L + K + 2) + 3) + 10040 ≤ n) (hn1 : 1048577 ≤ n) : f73B n (vq x) (vq y) = some (rq (dotF 0 x y), vq y) := by
 unfold f73B
 rw [i_zero0 hn1, ob_some]
 have h1 := f73B_loop (n := n) hx hy hl h4 hB hn (f := false) (k0 := fun z_6 z_7 z_8 z_9 z_10 => some ((z_7, z_8, z_9), z_10)) n 0 0 (Sz_zero.mono (by omega)) (by omega) (by omega)
 have h1 : f73B_L3 n n (vq x) (x.length : Int) 0 _ _ _ _ _ _ = _ := h1
 rw [vq_len, h1, List.drop_zero, List.drop_zero]

theorem f120B_loop {α : Type} {n L K : Nat} {x y : List Rat} (hx : Sv x L) (hy : Sv y K) (hl : x.length = y.length) (h4 : x.length ≤ 4) (hB : 8 * (L + K + 2) + 3 ≤ 1099511627000) (hn : 28 * (8 * (L + K + 2) + 3) + 10040 ≤ n) {f : Bool} {k0 : Bool → Bool → List Int → List Int → List Rt → Option α} : ∀ (m i : Nat) (acc : Rat), Sz acc ((L + K + 2) * i + 1) → i ≤ x.length → x.length < i + m →
  f120B_L3 n m (vq x) (i : Int) f (rq acc).1 (rq acc).2.1 (rq acc).2.2 (vq y) k0 = k0 f (rq (dotF acc (x.drop i) (y.drop i))).1 (rq (dotF acc (x.drop i) (y.drop i))).2.1 (rq (dotF acc (x.drop i) (y.drop i))).2.2 (vq y)
 | 0, i, acc, ho, hi, hm => by omega
 | m + 1, i, acc, ho, hi, hm => by
  rw [f120B_L3_s]
  unfold f120B_L3B
  dsimp only
  rw [Bool.cond_decide, vq_len]
  by_cases h : i < x.length
  · rw [if_pos (by omega), gd_pos (by simp; omega), gd_pos (by simp; omega), gd_pos (by simp; omega)]
    obtain ⟨t1, t2⟩ := Tstep (T := L + K + 2) (i := i) (by omega)
    have h1 : Sz (x.getD i 0 * y.getD i 0) (L + K + 1) := Sz_mul2 (hx.get h) (hy.get (by omega))
    have h2 : Sz (acc + x.getD i 0 * y.getD i 0) ((L + K + 2) * (i + 1) + 1) := (Sz_add2 ho h1).mono (by omega)
    have e2 := s_plus (n := n) (L := (L + K + 2) * 3 + 1) (ho.mono (by omega)) (h1.mono (by omega)) (by omega) (by omega)
    have e2 : f146 n ((rq acc).1, (rq acc).2.1, (rq acc).2.2) _ = _ := e2
    have e1 := s_times (n := n) (L := L + K) ((hx.get h).mono (by omega)) ((hy.get (show i < y.length by omega)).mono (by omega)) (by omega) (by omega)
    rw [Int.toNat_natCast, vq_get h, vq_get (by omega), e1, ob_some, e2, ob_some, W_id (x := (i : Int) + 1) (by omega) (by omega)]
    have := f120B_loop hx hy hl h4 hB hn (f := f) (k0 := k0) m (i + 1) _ h2 (by omega) (by omega)
    rw [rdrop h, rdrop (x := y) (by omega)]
    rw [show (i : Int) + 1 = ((i + 1 : Nat) : Int) from rfl, this]
    rfl
  · rw [if_neg (by omega), List.drop_of_length_le (by omega), List.drop_of_length_le (by omega)]
    rfl

theorem s_dotB {n L K : Nat} {x y : List Rat} (hx : Sv x L) (hy : Sv y K) (hl : x.length = y.length) (h4 : x.length ≤ 4) (hB : 8 * (L + K + 2) + 3 ≤ 1099511627000) (hn : 28 * (8 * (L + K + 2) + 3) + 10040 ≤ n) (hn1 : 1048577 ≤ n) : f120B n (vq x) (vq y) = some (rq (dotF 0 x y), vq y) := by
 unfold f120B
 rw [f106_zero hn1, ob_some]
 have h1 := f120B_loop (n := n) hx hy hl h4 hB hn (f := false) (k0 := fun z_6 z_7 z_8 z_9 z_10 => some ((z_7, z_8, z_9), z_10)) n 0 0 (Sz_zero.mono (by omega)) (by omega) (by omega)
 have h1 : f120B_L3 n n (vq x) 0 _ _ _ _ _ _ = _ := h1
 rw [h1, List.drop_zero, List.drop_zero]

theorem Sz_dot2 {L K : Nat} : ∀ {x y : List Rat} {acc : Rat} {i : Nat}, Sv x L → Sv y K → Sz acc ((L + K + 2) * i + 1) → i + x.length ≤ 4 → Sz (dotF acc x y) ((L + K + 2) * 4 + 1)
 | [], _, acc, i, _, _, h, hl => h.mono (by have := Nat.mul_le_mul_left (L + K + 2) (show i ≤ 4 by simp at hl; omega); omega)
 | p :: x, [], acc, i, _, _, h, hl => h.mono (by have := Nat.mul_le_mul_left (L + K + 2) (show i ≤ 4 by omega); omega)
 | p :: x, q :: y, acc, i, hx, hy, h, hl => by
  have h1 : Sz (p * q) (L + K + 1) := Sz_mul2 (hx p (by simp)) (hy q (by simp))
  have h2 : Sz (acc + p * q) ((L + K + 2) * (i + 1) + 1) := (Sz_add2 h h1).mono (by rw [Nat.mul_succ]; omega)
  simp only [List.length_cons] at hl
  exact Sz_dot2 (x := x) (y := y) (fun a ha => hx a (by simp [ha])) (fun a ha => hy a (by simp [ha])) h2 (by omega)

def rowL (M : Nat → Nat → Rat) (m i : Nat) : List Rat := (List.range m).map (M i)

theorem rowL_len (M : Nat → Nat → Rat) (m i : Nat) : (rowL M m i).length = m := by simp [rowL]

def bsV (M : Nat → Nat → Rat) (m i : Nat) (X : List Rat) : Rat := (M i m - dotF 0 (rowL M m i) X) / M i i

def bs (M : Nat → Nat → Rat) (m : Nat) : Nat → List Rat → List Rat
 | 0, X => X
 | i + 1, X => bs M m i (X.set i (bsV M m i X))

theorem bs_len (M : Nat → Nat → Rat) (m : Nat) : ∀ (i : Nat) (X : List Rat), (bs M m i X).length = X.length
 | 0, _ => rfl
 | i + 1, X => by unfold bs; rw [bs_len M m i]; simp

def kb (L : Nat) : Nat → Nat → Nat
 | 0, K => K
 | i + 1, K => kb L i (6 * L + 4 * K + 20)

theorem kb_le (L : Nat) : ∀ (i K : Nat), K ≤ kb L i K
 | 0, _ => Nat.le_refl _
 | i + 1, K => by unfold kb; have := kb_le L i (6 * L + 4 * K + 20); omega

theorem Sv_rowL {M : Nat → Nat → Rat} {m i L : Nat} (h : SzM M L) : Sv (rowL M m i) L := fun a ha => by
 obtain ⟨c, _, rfl⟩ := List.mem_map.1 ha
 exact h i c

theorem Sz_bsV {M : Nat → Nat → Rat} {m i L K : Nat} {X : List Rat} (hM : SzM M L) (hX : Sv X K) (hm : m ≤ 4) (hd : M i i ≠ 0) : Sz (bsV M m i X) (6 * L + 4 * K + 20) :=
 (Sz_div2 (Sz_sub2 (hM i m) (Sz_dot2 (i := 0) (Sv_rowL hM) hX (Sz_zero.mono (by omega)) (by rw [rowL_len]; omega))) (hM i i) hd).mono (by omega)

theorem Sv_set {X : List Rat} {K i : Nat} {x : Rat} (h : Sv X K) (hx : Sz x K) : Sv (X.set i x) K := fun a ha => by
 rcases List.mem_or_eq_of_mem_set ha with h1 | rfl
 · exact h a h1
 · exact hx

theorem vq_set {X : List Rat} {i : Nat} {x : Rat} : (vq X).set i (rq x) = vq (X.set i x) := by simp [vq, List.map_set]

theorem row_takeI {m : Nat} {row : List Rt} {v : Nat → Rat} (h : RowAt (m + 1) row v) : (row.drop 0).take (m - 0) = vq ((List.range m).map v) := by
 rw [List.drop_zero, Nat.sub_zero]
 apply List.ext_getElem
 · simp [h.1]
 · intro j h1 h2
   simp [h.1] at h1
   have := h.2 j (by omega)
   rw [List.getD_eq_getElem?_getD, List.getElem?_eq_getElem (by rw [h.1]; omega)] at this
   simp only [List.getElem_take, vq, List.getElem_map, List.getElem_range]
   exact this

theorem i_bs {α : Type} {n m L : Nat} {R : List (List Rt)} {M : Nat → Nat → Rat} (hR : RowRep m (m + 1) R M) (hM : SzM M L) (hm : m ≤ 4) (hd : ∀ i, i < m → M i i ≠ 0) (hn1 : 1048577 ≤ n) {k0 : List Rt → Option α} : ∀ (i fu K : Nat) (X : List Rat), X.length = m → Sv X K → i ≤ m → i < fu → 4 * kb L i K + 3 ≤ 1099511627000 → 28 * (4 * kb L i K + 3) + 10040 ≤ n →
  f50_L7 n fu (m : Int) ((i : Int) - 1) R (vq X) k0 = k0 (vq (bs M m i X))
 | i, 0, K, X, h1, h2, h3, h4, h5, h6 => by omega
 | 0, fu + 1, K, X, h1, h2, h3, h4, h5, h6 => by
  rw [f50_L7_s]
  unfold f50_L7B
  rw [Bool.cond_decide, if_neg (by omega)]; rfl
 | i + 1, fu + 1, K, X, h1, h2, h3, h4, h5, h6 => by
  have hk := kb_le L i (6 * L + 4 * K + 20)
  simp only [kb] at h5 h6
  rw [f50_L7_s]
  unfold f50_L7B
  have ei : (((i + 1 : Nat) : Int) - 1) = (i : Int) := by omega
  have ri := hR.2 i (by omega)
  have c1 : (R.getD i []).getD m (false, [], []) = rq (M i m) := ri.2 m (by omega)
  have c2 : (R.getD i []).getD i (false, [], []) = rq (M i i) := ri.2 i (by omega)
  have hr := hR.1
  have hw := ri.1
  rw [ei, Bool.cond_decide, if_pos (by omega)]
  dsimp only
  simp only [Int.toNat_natCast]
  rw [c1, c2, row_takeI ri]
  have hz := Sz_dot2 (i := 0) (acc := 0) (Sv_rowL (i := i) (m := m) hM) h2 (Sz_zero.mono (by omega)) (by rw [rowL_len]; omega)
  have hd1 := i_dotB (n := n) (Sv_rowL (i := i) (m := m) hM) h2 (by rw [rowL_len, h1]) (by rw [rowL_len]; exact hm) (by omega) (by omega) hn1
  have hd1 : f73B n (vq ((List.range m).map (M i))) (vq X) = _ := hd1
  have hs := Sz_sub2 (hM i m) hz
  have e3 := i_less (n := n) (L := (L + K + 2) * 4 + 1) ((hM i m).mono (by omega)) hz (by omega) (by omega)
  have e4 := i_over (n := n) (L := 5 * L + 4 * K + 11) (hs.mono (by omega)) ((hM i i).mono (by omega)) (hd i (by omega)) (by omega) (by omega)
  have g : ∀ {p q : Prop} {_ : Decidable p} {_ : Decidable q}, p → q → (decide p && decide q) = true := fun a b => by simp [a, b]
  rw [gd_pos (g (by omega) (by omega)), gd_pos (decide_eq_true (by omega)), gd_pos (g (by omega) (by omega)), gd_pos (g (by omega) (by omega)), gd_pos (decide_eq_true (by omega)), gd_pos (g (by omega) (by omega)), hd1, ob_some,
   gd_pos (by simp), e3, ob_some, gd_pos (g (by omega) (by omega)), gd_pos (decide_eq_true (by omega)), gd_pos (g (by omega) (by omega)), e4, ob_some, gd_pos (by simp [h1]; omega), gd_pos (by simp [h1]; omega), W_id (x := (i : Int) - 1) (by omega) (by omega), vq_set]
  have hv := Sz_bsV (m := m) (i := i) hM h2 hm (hd i (by omega))
  exact i_bs hR hM hm hd hn1 i fu (6 * L + 4 * K + 20) (X.set i (bsV M m i X)) (by simp [h1]) (Sv_set (h2.mono (by omega)) hv) (by omega) (by omega) h5 h6

theorem row_takeS {m i : Nat} {a b : List Rt} {M : Nat → Nat → Rat} (h : FlatRep m a b M) (hi : i < m) : (a.drop (i * m)).take ((i + 1) * m - i * m) = vq (rowL M m i) := by
 have h1 := row_le hi
 have h2 : (i + 1) * m = i * m + m := Nat.succ_mul i m
 have ha := h.la
 rw [show (i + 1) * m - i * m = m by omega]
 apply List.ext_getElem
 · simp [rowL]; omega
 · intro j j1 j2
   simp at j1
   have := h.at_ i j hi (by omega)
   rw [List.getD_eq_getElem?_getD, List.getElem?_eq_getElem (by omega)] at this
   simp only [List.getElem_take, List.getElem_drop, vq, rowL, List.getElem_map, List.getElem_range]
   exact this

theorem s_bs {α : Type} {n m L : Nat} {a b : List Rt} {M : Nat → Nat → Rat} (hF : FlatRep m a b M) (hM : SzM M L) (hm : m ≤ 4) (hd : ∀ i, i < m → M i i ≠ 0) (hn1 : 1048577 ≤ n) {k0 : List Rt → Option α} : ∀ (i fu K : Nat) (X : List Rat), X.length = m → Sv X K → i ≤ m → i < fu → 4 * kb L i K + 3 ≤ 1099511627000 → 28 * (4 * kb L i K + 3) + 10040 ≤ n →
  f53_L7 n fu (m : Int) a b ((i : Int) - 1) (vq X) k0 = k0 (vq (bs M m i X))
 | i, 0, K, X, h1, h2, h3, h4, h5, h6 => by omega
 | 0, fu + 1, K, X, h1, h2, h3, h4, h5, h6 => by
  rw [f53_L7_s]
  unfold f53_L7B
  rw [Bool.cond_decide, if_neg (by omega)]; rfl
 | i + 1, fu + 1, K, X, h1, h2, h3, h4, h5, h6 => by
  have hk := kb_le L i (6 * L + 4 * K + 20)
  simp only [kb] at h5 h6
  have hi : i < m := by omega
  have h16 := kk16 hm
  have r1 := row_le hi
  have r2 : (i + 1) * m = i * m + m := Nat.succ_mul i m
  have ha := hF.la
  have hb := hF.lb
  rw [f53_L7_s]
  unfold f53_L7B
  have ei : (((i + 1 : Nat) : Int) - 1) = (i : Int) := by omega
  have c1 : b.getD i (false, [], []) = rq (M i m) := hF.bt i hi
  have c2 : a.getD (i * m + i) (false, [], []) = rq (M i i) := hF.at_ i i hi hi
  rw [ei, Bool.cond_decide, if_pos (by omega)]
  dsimp only
  rw [Wix (show i * m + i ≤ 1000000 by omega), W1 (show i ≤ 1000000 by omega), Wm (show i * m ≤ 1000000 by omega), Wm (show (i + 1) * m ≤ 1000000 by omega)]
  simp only [Int.toNat_natCast]
  rw [c1, c2, row_takeS hF hi]
  have hz := Sz_dot2 (i := 0) (acc := 0) (Sv_rowL (i := i) (m := m) hM) h2 (Sz_zero.mono (by omega)) (by rw [rowL_len]; omega)
  have hd1 := s_dotB (n := n) (Sv_rowL (i := i) (m := m) hM) h2 (by rw [rowL_len, h1]) (by rw [rowL_len]; exact hm) (by omega) (by omega) hn1
  have hs := Sz_sub2 (hM i m) hz
  have e3 := s_less (n := n) (L := (L + K + 2) * 4 + 1) ((hM i m).mono (by omega)) hz (by omega) (by omega)
  have e4 := s_over (n := n) (L := 5 * L + 4 * K + 11) (hs.mono (by omega)) ((hM i i).mono (by omega)) (hd i (by omega)) (by omega) (by omega)
  have g : ∀ {p q : Prop} {_ : Decidable p} {_ : Decidable q}, p → q → (decide p && decide q) = true := fun a b => by simp [a, b]
  have g3 : ∀ {p q r : Prop} {_ : Decidable p} {_ : Decidable q} {_ : Decidable r}, p → q → r → (decide p && decide q && decide r) = true := fun a b c => by simp [a, b, c]
  rw [gd_pos (g (by omega) (by omega)), gd_pos (g3 (by omega) (by omega) (by omega)), hd1, ob_some,
   gd_pos (by simp), e3, ob_some, gd_pos (g (by omega) (by omega)), e4, ob_some, gd_pos (by simp [h1]; omega), gd_pos (by simp [h1]; omega), W_id (x := (i : Int) - 1) (by omega) (by omega), vq_set]
  have hv := Sz_bsV (m := m) (i := i) hM h2 hm (hd i (by omega))
  exact s_bs hF hM hm hd hn1 i fu (6 * L + 4 * K + 20) (X.set i (bsV M m i X)) (by simp [h1]) (Sv_set (h2.mono (by omega)) hv) (by omega) (by omega) h5 h6

theorem vq_rep1 {i : Nat} : vq (List.replicate i 0) ++ [rq 0] = vq (List.replicate (i + 1) 0) := by
 rw [List.replicate_succ']; simp [vq]

theorem i_zerosB_loop {α : Type} {n m : Nat} (hm : m ≤ 1000) (hn : 1048577 ≤ n) {k0 : List Rt → Option α} : ∀ (fu i : Nat), i ≤ m → m < i + fu → f72B_L3 n fu (m : Int) (i : Int) (vq (List.replicate i 0)) k0 = k0 (vq (List.replicate m 0))
 | 0, i, h1, h2 => by omega
 | fu + 1, i, h1, h2 => by
  rw [f72B_L3_s]
  unfold f72B_L3B
  rw [Bool.cond_decide]
  by_cases h : i < m
  · rw [if_pos (by omega), i_zero0 hn, ob_some, gd_pos (by simp; omega), W1 (by omega), vq_rep1]
    exact i_zerosB_loop hm hn fu (i + 1) (by omega) (by omega)
  · obtain rfl : i = m := by omega
    rw [if_neg (by omega)]

theorem i_zerosB {n m : Nat} (hm : m ≤ 1000) (hn : 1048577 ≤ n) : f72B n (m : Int) = some (vq (List.replicate m 0)) := by
 unfold f72B
 exact i_zerosB_loop (n := n) (k0 := fun z => some z) hm hn n 0 (by omega) (by omega)

theorem s_zerosB_loop {α : Type} {n m : Nat} (hm : m ≤ 1000) (hn : 1048577 ≤ n) {k0 : List Rt → Option α} : ∀ (fu i : Nat), i ≤ m → m < i + fu → f117B_L3 n fu (m : Int) (i : Int) (vq (List.replicate i 0)) k0 = k0 (vq (List.replicate m 0))
 | 0, i, h1, h2 => by omega
 | fu + 1, i, h1, h2 => by
  rw [f117B_L3_s]
  unfold f117B_L3B
  rw [Bool.cond_decide]
  by_cases h : i < m
  · rw [if_pos (by omega), f106_zero hn, ob_some, gd_pos (by simp; omega), W1 (by omega), vq_rep1]
    exact s_zerosB_loop hm hn fu (i + 1) (by omega) (by omega)
  · obtain rfl : i = m := by omega
    rw [if_neg (by omega)]

theorem s_zerosB {n m : Nat} (hm : m ≤ 1000) (hn : 1048577 ≤ n) : f117B n (m : Int) = some (vq (List.replicate m 0)) := by
 unfold f117B
 exact s_zerosB_loop (n := n) (k0 := fun z => some z) hm hn n 0 (by omega) (by omega)

def augM (A B : List Rat) (k : Nat) : Nat → Nat → Rat := fun r c => if r < k ∧ c < k then A.getD (r * k + c) 0 else if r < k ∧ c = k then B.getD r 0 else 0

theorem Sz_getD {X : List Rat} {L i : Nat} (h : Sv X L) (h1 : 1 ≤ L) : Sz (X.getD i 0) L := by
 by_cases c : i < X.length
 · exact h.get c
 · have : X.getD i 0 = 0 := by simp [List.getD_eq_getElem?_getD, List.getElem?_eq_none (Nat.le_of_not_lt c)]
   rw [this]; exact Sz_zero.mono h1

theorem SzM_aug {A B : List Rat} {k : Nat} (hA : Sv A 40) (hB : Sv B 40) : SzM (augM A B k) 40 := by
 intro r c
 unfold augM
 split
 · exact Sz_getD hA (by omega)
 · split
   · exact Sz_getD hB (by omega)
   · exact Sz_zero.mono (by omega)

theorem aug_flat {A B : List Rat} {k : Nat} (hl : A.length = k * k) (hb : B.length = k) : FlatRep k (vq A) (vq B) (augM A B k) := by
 refine ⟨by simp [hl], by simp [hb], fun r c hr hc => ?_, fun r hr => ?_⟩
 · have hi := idxL hr hc
   refine (vq_getM (X := A) (i := r * k + c) (by omega)).trans ?_
   unfold augM; rw [if_pos ⟨hr, hc⟩]
 · refine (vq_getM (X := B) (i := r) (by omega)).trans ?_
   unfold augM; rw [if_neg (by omega), if_pos ⟨hr, rfl⟩]

theorem i_rows2_loop {α : Type} {f m : Nat} {P B : List Rat} (hP : P.length = m * m) (hB : B.length = m) (hm : m ≤ 4) {k0 : List (List Rt) → Option α} : ∀ (fu i : Nat), i ≤ m → m < i + fu →
  f58B1_L3 f fu (vq P) (m : Int) (vq B) (m : Int) (i : Int) ((List.range i).map fun i => vq (rowR P m i) ++ [rq (B.getD i 0)]) k0 = k0 ((List.range m).map fun i => vq (rowR P m i) ++ [rq (B.getD i 0)])
 | 0, i, hi, hf => by omega
 | fu + 1, i, hi, hf => by
  rw [f58B1_L3_s]
  unfold f58B1_L3B
  rw [Bool.cond_decide]
  by_cases h : i < m
  · have h16 := kk16 hm
    have h1 := row_le h
    have h2 : (i + 1) * m = i * m + m := Nat.succ_mul i _
    have hne : (!(vq (rowR P m i)).isEmpty) = true := by
     have := row_len hP h
     cases hr : rowR P m i with
     | nil => rw [hr] at this; simp at this; omega
     | cons => rfl
    have hne2 : (!(vq B).isEmpty) = true := by
     cases hr : B with
     | nil => rw [hr] at hB; simp at hB; omega
     | cons => rfl
    have eb : (vq B).getD i (false, [], []) = rq (B.getD i 0) := vq_getM (by omega)
    rw [if_pos (by omega), W1 (by omega), Wm (by omega), Wm (by omega), vq_len, gd_pos (mulgd h hP)]
    simp only [Int.toNat_natCast]
    rw [row_vq]
    unfold f128B
    rw [gd_pos hne, gd_pos (by simp [row_len hP h]; omega), ob_some, gd_pos hne2, gd_pos (by simp [hB]; omega), gd_pos (by simp [row_len hP h]; omega), gd_pos (by simp; omega), eb]
    have e : ((List.range i).map fun i => vq (rowR P m i) ++ [rq (B.getD i 0)]) ++ [vq (rowR P m i) ++ [rq (B.getD i 0)]] = (List.range (i + 1)).map fun i => vq (rowR P m i) ++ [rq (B.getD i 0)] := by simp [List.range_succ]
    rw [e]
    exact i_rows2_loop hP hB hm fu (i + 1) (by omega) (by omega)
  · obtain rfl : i = m := by omega
    rw [if_neg (by omega)]

theorem i_rows2 {f m : Nat} {P B : List Rat} (hP : P.length = m * m) (hB : B.length = m) (hm : m ≤ 4) (hn : 1048577 ≤ f) : f58B1 f (vq P) (m : Int) (vq B) = some ((List.range m).map fun i => vq (rowR P m i) ++ [rq (B.getD i 0)]) := by
 unfold f58B1
 exact i_rows2_loop (f := f) (k0 := fun z_2 => some z_2) hP hB hm f 0 (by omega) (by omega)

theorem rows2_rep {m : Nat} {P B : List Rat} (hP : P.length = m * m) : RowRep m (m + 1) ((List.range m).map fun i => vq (rowR P m i) ++ [rq (B.getD i 0)]) (augM P B m) := by
 refine ⟨by simp, fun r hr => ?_⟩
 have e : ((List.range m).map fun i => vq (rowR P m i) ++ [rq (B.getD i 0)]).getD r [] = vq (rowR P m r) ++ [rq (B.getD r 0)] := by
  rw [List.getD_eq_getElem?_getD, List.getElem?_map, List.getElem?_range hr]; rfl
 rw [e]
 refine ⟨by simp [row_len hP hr], fun c hc => ?_⟩
 by_cases h : c < m
 · rw [getD_app_left (by rw [vq_len, row_len hP hr]; exact h)]
   refine (vq_getM (X := rowR P m r) (i := c) (by rw [row_len hP hr]; exact h)).trans ?_
   unfold augM
   rw [if_pos ⟨hr, h⟩]
   unfold rowR
   simp [List.getD_eq_getElem?_getD, List.getElem?_take, h]
 · obtain rfl : c = m := by omega
   rw [getD_app_last (by rw [vq_len, row_len hP hr])]
   unfold augM
   rw [if_neg (by omega), if_pos ⟨hr, rfl⟩]

theorem SzM_gauss {m : Nat} : ∀ (f k : Nat) (M : Nat → Nat → Rat) (d : Rat) (L : Nat), SzM M L → f = m - k → k ≤ m → SzM (gauss m f k d M).2 (lim L f)
 | 0, k, M, d, L, hM, h, hk => by unfold gauss lim; exact hM
 | f + 1, k, M, d, L, hM, h, hk => by
  have hl := lim_le f (8 * L + 7)
  unfold gauss lim
  split
  · exact hM.mono (by omega)
  · rename_i hp
    obtain ⟨p1, p2⟩ := pivF_le (M := M) (k := k) (m := m) (m - k) k hk
    have hne : M (piv M k m) k ≠ 0 := pivF_ne (m - k) k (by omega) (by have : piv M k m ≤ m := p2; have : piv M k m ≠ m := hp; show piv M k m < m; omega)
    have hs := SzM_swap (k := k) (p := piv M k m) hM
    have hnz : swapR M k (piv M k m) k k ≠ 0 := by unfold swapR; rw [if_pos rfl]; exact hne
    exact SzM_gauss f (k + 1) _ _ (8 * L + 7) (SzM_elim hs hnz) (by omega) (by omega)

theorem gauss_diag {m : Nat} : ∀ (f k : Nat) (M : Nat → Nat → Rat) (d : Rat), f = m - k → k ≤ m → low m k M → (∀ i, i < k → M i i ≠ 0) → (gauss m f k d M).1 ≠ 0 → low m m (gauss m f k d M).2 ∧ ∀ i, i < m → (gauss m f k d M).2 i i ≠ 0
 | 0, k, M, d, h, hk, hlow, hd, hne => by
  obtain rfl : k = m := by omega
  exact ⟨hlow, hd⟩
 | f + 1, k, M, d, h, hk, hlow, hd, hne => by
  unfold gauss at hne ⊢
  split at hne
  · exact absurd rfl hne
  · rename_i hp
    rw [if_neg hp]
    obtain ⟨p1, p2⟩ := pivF_le (M := M) (k := k) (m := m) (m - k) k hk
    have p1 : k ≤ piv M k m := p1
    have p2 : piv M k m ≤ m := p2
    have hpm : piv M k m < m := by omega
    have hnk : M (piv M k m) k ≠ 0 := pivF_ne (m - k) k (by omega) hpm
    have hnz : swapR M k (piv M k m) k k ≠ 0 := by unfold swapR; rw [if_pos rfl]; exact hnk
    refine gauss_diag f (k + 1) _ _ (by omega) (by omega) (low_elim (low_swap hlow p1 hpm) (by omega) hnz) (fun i hi => ?_) hne
    unfold elimTo
    rw [if_neg (by omega)]
    by_cases e : i = k
    · subst e; exact hnz
    · unfold swapR
      rw [if_neg e, if_neg (by omega)]
      exact hd i (by omega)

def solG (A B : List Rat) (k : Nat) : List Rat := bs (gauss k k 0 1 (augM A B k)).2 k k (List.replicate k 0)

theorem sol_len (A B : List Rat) (k : Nat) : (solG A B k).length = k := by unfold solG; rw [bs_len]; simp

def solM (A B : List Rat) (k : Nat) : List Rt × Bool := if detG k (augM A B k) = 0 then ([], false) else (vq (solG A B k), true)

theorem kb8 {k : Nat} (h : k ≤ 4) : 4 * kb (lim 40 k) k 1 + 3 ≤ 400000000 := by
 rcases (show k = 0 ∨ k = 1 ∨ k = 2 ∨ k = 3 ∨ k = 4 by omega) with rfl | rfl | rfl | rfl | rfl <;> decide

theorem Sv_rep {k L : Nat} (h : 1 ≤ L) : Sv (List.replicate k 0) L := fun a ha => by
 rw [(List.mem_replicate.1 ha).2]; exact Sz_zero.mono h

theorem i_solve {n k : Nat} {A B : List Rat} (hA : Sv A 40) (hB : Sv B 40) (hl : A.length = k * k) (hb : B.length = k) (h4 : k ≤ 4) (hn : 17179869184 ≤ n) : f50 n (vq A) (vq B) = some (solM A B k) := by
 have hk8 := kb8 h4
 have h16 := kk16 h4
 unfold f50 solM
 rw [vq_len, hb, i_rows2 hl hb h4 (by omega), ob_some]
 obtain ⟨R', q1, q2⟩ := f57_eq (n := n) h4 (show k ≤ k + 1 by omega) (by omega) (rows2_rep (B := B) hl) (SzM_aug hA hB) (by omega)
 rw [q1, ob_some]
 dsimp only
 rw [gd_pos (by rw [q2.1]; simp), i_zero, ob_some, Bool.cond_decide]
 by_cases e : detG k (augM A B k) = 0
 · rw [if_pos e, if_pos e]
 · rw [if_neg e, if_neg e, i_zerosB (by omega) (by omega), ob_some, W_id (x := (k : Int) - 1) (by omega) (by omega)]
   obtain ⟨g1, g2⟩ := gauss_diag (m := k) k 0 (augM A B k) 1 (by omega) (by omega) low_zero (fun i h => by omega) e
   exact i_bs (n := n) (k0 := fun z_10 => some (z_10, true)) q2 (SzM_gauss (m := k) k 0 _ 1 40 (SzM_aug hA hB) (by omega) (by omega)) h4 g2 (by omega) k n 1 (List.replicate k 0) (by simp) (Sv_rep (by omega)) (by omega) (by omega) (by omega) (by omega)

theorem s_solve {n k : Nat} {A B : List Rat} (hA : Sv A 40) (hB : Sv B 40) (hl : A.length = k * k) (hb : B.length = k) (h4 : k ≤ 4) (hn : 17179869184 ≤ n) : f53 n (vq A) (vq B) = some (solM A B k) := by
 have hk8 := kb8 h4
 have h16 := kk16 h4
 unfold f53 solM
 obtain ⟨a', b', q1, q2⟩ := f115_eq (n := n) h4 (aug_flat hl hb) (SzM_aug hA hB) (by omega)
 rw [q1, ob_some]
 dsimp only
 rw [s_zero, ob_some, Bool.cond_decide]
 by_cases e : detG k (augM A B k) = 0
 · rw [if_pos e, if_pos e]
 · rw [if_neg e, if_neg e, vq_len, hb, s_zerosB (by omega) (by omega), ob_some, W_id (x := (k : Int) - 1) (by omega) (by omega)]
   obtain ⟨g1, g2⟩ := gauss_diag (m := k) k 0 (augM A B k) 1 (by omega) (by omega) low_zero (fun i h => by omega) e
   exact s_bs (n := n) (k0 := fun z_10 => some (z_10, true)) q2 (SzM_gauss (m := k) k 0 _ 1 40 (SzM_aug hA hB) (by omega) (by omega)) h4 g2 (by omega) k n 1 (List.replicate k 0) (by simp) (Sv_rep (by omega)) (by omega) (by omega) (by omega) (by omega)

theorem dotF_acc : ∀ (x y : List Rat) (a : Rat), dotF a x y = a + dotF 0 x y
 | [], _, a => by simp [dotF, Rat.add_zero]
 | p :: x, [], a => by simp [dotF, Rat.add_zero]
 | p :: x, q :: y, a => by
  simp only [dotF]
  rw [dotF_acc x y (a + p * q), dotF_acc x y (0 + p * q)]
  grind

theorem dot_lin2 {u v : Nat → Rat} {t : Rat} : ∀ (l : List Nat) (y : List Rat), dotF 0 (l.map fun c => u c - t * v c) y = dotF 0 (l.map u) y - t * dotF 0 (l.map v) y
 | [], y => by simp only [List.map_nil, dotF]; grind
 | c :: l, [] => by simp only [List.map_cons, dotF]; grind
 | c :: l, q :: y => by
  simp only [List.map_cons, dotF]
  rw [dotF_acc, dotF_acc (l.map u), dotF_acc (l.map v), dot_lin2 l y]
  grind

theorem dot_set : ∀ (x y : List Rat) (i : Nat) (v : Rat), i < x.length → i < y.length → dotF 0 x (y.set i v) = dotF 0 x y + x.getD i 0 * (v - y.getD i 0)
 | [], y, i, v, h, _ => by simp at h
 | p :: x, [], i, v, _, h => by simp at h
 | p :: x, q :: y, 0, v, _, _ => by
  simp only [List.set_cons_zero, dotF, List.getD_cons_zero]
  rw [dotF_acc, dotF_acc x y (0 + p * q)]
  grind
 | p :: x, q :: y, i + 1, v, h1, h2 => by
  simp only [List.set_cons_succ, dotF, List.getD_cons_succ]
  simp only [List.length_cons] at h1 h2
  rw [dotF_acc, dotF_acc x y (0 + p * q), dot_set x y i v (by omega) (by omega)]
  grind

def SolM (M : Nat → Nat → Rat) (m : Nat) (X : List Rat) : Prop := ∀ r, r < m → dotF 0 (rowL M m r) X = M r m

theorem SolM_swap {M : Nat → Nat → Rat} {m k p : Nat} {X : List Rat} (h : SolM (swapR M k p) m X) (hk : k < m) (hp : p < m) : SolM M m X := by
 intro r hr
 have row : ∀ {M' : Nat → Nat → Rat} {r r' : Nat}, M' r = M r' → dotF 0 (rowL M' m r) X = M' r m → dotF 0 (rowL M m r') X = M r' m := fun e h2 => by
  unfold rowL at h2 ⊢
  rw [e] at h2; exact h2
 by_cases c1 : r = p
 · subst c1
   exact row (M' := swapR M k r) (r := k) (by funext c; unfold swapR; rw [if_pos rfl]) (h k hk)
 · by_cases c2 : r = k
   · subst c2
     exact row (M' := swapR M r p) (r := p) (by funext c; unfold swapR; rw [if_neg (fun e => c1 e.symm), if_pos rfl]) (h p hp)
   · exact row (M' := swapR M k p) (r := r) (by funext c; unfold swapR; rw [if_neg c2, if_neg c1]) (h r hr)

theorem SolM_elim {M : Nat → Nat → Rat} {m k : Nat} {X : List Rat} (h : SolM (elimTo M k m) m X) (hk : k < m) : SolM M m X := by
 have low_ : ∀ r, r ≤ k → r < m → dotF 0 (rowL M m r) X = M r m := fun r hrk hr => by
  have e : elimTo M k m r = M r := by funext c; unfold elimTo; rw [if_neg (by omega)]
  have := h r hr
  unfold rowL at this ⊢
  rw [e] at this; exact this
 intro r hr
 by_cases c : r ≤ k
 · exact low_ r c hr
 · have e : elimTo M k m r = fun c => M r c - M r k / M k k * M k c := by funext c; unfold elimTo; rw [if_pos (by omega)]
   have h1 := h r hr
   have h2 := low_ k (Nat.le_refl _) hk
   unfold rowL at h1 h2 ⊢
   rw [e, dot_lin2] at h1
   rw [h2] at h1
   grind

theorem gauss_sol {m : Nat} {X : List Rat} : ∀ (f k : Nat) (M : Nat → Nat → Rat) (d : Rat), f = m - k → k ≤ m → (gauss m f k d M).1 ≠ 0 → SolM (gauss m f k d M).2 m X → SolM M m X
 | 0, k, M, d, h, hk, hne, hs => hs
 | f + 1, k, M, d, h, hk, hne, hs => by
  unfold gauss at hne hs
  split at hne
  · exact absurd rfl hne
  · rename_i hp
    rw [if_neg hp] at hs
    obtain ⟨p1, p2⟩ := pivF_le (M := M) (k := k) (m := m) (m - k) k hk
    have p2 : piv M k m ≤ m := p2
    have hpm : piv M k m < m := by omega
    exact SolM_swap (SolM_elim (gauss_sol f (k + 1) _ _ (by omega) (by omega) hne hs) (by omega)) (by omega) hpm

theorem rowL_get {M : Nat → Nat → Rat} {m r i : Nat} (h : i < m) : (rowL M m r).getD i 0 = M r i := by
 unfold rowL
 rw [List.getD_eq_getElem?_getD, List.getElem?_map, List.getElem?_range h]; rfl

theorem bs_sol {M : Nat → Nat → Rat} {m : Nat} (hlow : low m m M) (hd : ∀ i, i < m → M i i ≠ 0) : ∀ (i : Nat) (X : List Rat), i ≤ m → X.length = m → (∀ r, i ≤ r → r < m → dotF 0 (rowL M m r) X = M r m) → (∀ j, j < i → X.getD j 0 = 0) → SolM M m (bs M m i X)
 | 0, X, _, _, h, _ => fun r hr => h r (Nat.zero_le _) hr
 | i + 1, X, hi, hX, h, hz => by
  unfold bs
  refine bs_sol hlow hd i _ (by omega) (by simp [hX]) (fun r h1 h2 => ?_) (fun j hj => ?_)
  · rw [dot_set _ _ _ _ (by rw [rowL_len]; omega) (by omega), rowL_get (by omega), hz i (by omega)]
    by_cases c : r = i
    · subst c
      unfold bsV
      have := hd r h2
      have e : M r r * ((M r m - dotF 0 (rowL M m r) X) / M r r - 0) = M r m - dotF 0 (rowL M m r) X := by grind
      rw [e]; grind
    · rw [hlow r i (by omega) (by omega) h2, h r (by omega) h2]; grind
  · rw [getD_set_ne (by omega)]; exact hz j (by omega)

theorem sol_M {A B : List Rat} {k : Nat} (hne : detG k (augM A B k) ≠ 0) : SolM (augM A B k) k (solG A B k) := by
 obtain ⟨g1, g2⟩ := gauss_diag (m := k) k 0 (augM A B k) 1 (by omega) (by omega) low_zero (fun i h => by omega) hne
 refine gauss_sol (m := k) k 0 (augM A B k) 1 (by omega) (by omega) hne ?_
 refine bs_sol g1 g2 k _ (Nat.le_refl _) (by simp) (fun r h1 h2 => by omega) (fun j hj => ?_)
 simp [List.getD_eq_getElem?_getD, hj]

theorem aug_row {A B : List Rat} {k r : Nat} (hl : A.length = k * k) (hr : r < k) : rowL (augM A B k) k r = rowR A k r := by
 rw [row_map hl hr]
 unfold rowL
 refine List.map_congr_left fun c hc => ?_
 unfold augM
 rw [if_pos ⟨hr, List.mem_range.1 hc⟩]

theorem sol_mv {A B : List Rat} {k : Nat} (hl : A.length = k * k) (hb : B.length = k) (hne : detG k (augM A B k) ≠ 0) : mvR A (solG A B k) = B := by
 have h := sol_M hne
 unfold mvR
 rw [sol_len]
 apply List.ext_getElem
 · simp [hb]
 · intro i h1 h2
   simp at h1
   have := h i h1
   rw [aug_row hl h1] at this
   simp only [List.getElem_map, List.getElem_range]
   rw [this]
   unfold augM
   rw [if_neg (by omega), if_pos ⟨h1, rfl⟩, List.getD_eq_getElem?_getD, List.getElem?_eq_getElem h2]; rfl

theorem f54_loopG {n : Nat} {x : List Rat} (hl : x.length ≤ 4096) {k1 : List Rt → Option (List Rt × Int)} : ∀ (m i : Nat) (o : List Rt), o.length ≤ i → i ≤ x.length → x.length < i + m →
  f54_L3 n m (vq x) (i : Int) o (fun z_5 z_6 => some (z_6, z_5)) k1 = if (x.drop i).all fitR = true then k1 (o ++ vq (x.drop i)) else some ([], 7)
 | 0, i, o, ho, hi, hm => by omega
 | m + 1, i, o, ho, hi, hm => by
  rw [f54_L3_s]
  unfold f54_L3B
  dsimp only
  rw [Bool.cond_decide, vq_len]
  by_cases h : i < x.length
  · rw [if_pos (by omega), gd_pos (by simp; omega), Int.toNat_natCast, vq_get h, rdrop h, List.all_cons, s_fit, ob_some]
    cases hf : fitR (x.getD i 0) with
    | false => simp
    | true =>
     obtain ⟨z1, z2⟩ := fitR_iff.1 hf
     have e2 : f122 n (rq (x.getD i 0)) = some (rq (x.getD i 0)) := by
      unfold f122
      rw [gd_pos (by simp only [decide_eq_true_eq]; show (0 + (dg (x.getD i 0).num.natAbs).length) * 8 ≤ _; omega), gd_pos (by simp only [decide_eq_true_eq]; show (0 + (dg (x.getD i 0).den).length) * 8 ≤ _; omega)]
     rw [Bool.not_true, cond_false, gd_pos (by simp; omega), e2, ob_some, gd_pos (by simp; omega), W_id (x := (i : Int) + 1) (by omega) (by omega), Bool.true_and]
     have := f54_loopG hl (n := n) (k1 := k1) m (i + 1) (o ++ [rq (x.getD i 0)]) (by simp; omega) (by omega) (by omega)
     rw [show (i : Int) + 1 = ((i + 1 : Nat) : Int) from rfl, this, List.append_assoc]
     rfl
  · rw [if_neg (by omega), List.drop_of_length_le (by omega)]
    simp [vq]

theorem s_fullG {n : Nat} {x : List Rat} (hl : x.length ≤ 4096) (hn : 1048577 ≤ n) : f54 n (vq x) = some (fitV x) := by
 unfold f54 fitV
 have h1 := f54_loopG (n := n) hl (k1 := fun z_7 => some (z_7, 0)) n 0 [] (by simp) (by omega) (by omega)
 have h1 : f54_L3 n n (vq x) 0 [] _ _ = _ := h1
 rw [h1, List.drop_zero]
 split <;> rfl

def solR (A B : List Rat) (k : Nat) : List Rt × Int := if detG k (augM A B k) = 0 then ([], 5) else fitV (solG A B k)

theorem solve_vq {n k : Nat} {A B : List Rat} (hA : Sv A 40) (hB : Sv B 40) (hl : A.length = k * k) (hb : B.length = k) (h1 : 1 ≤ k) (h4 : k ≤ 4) (hc : mvC (vq A) (vq B) = 0) (hn : 17179869184 ≤ n) :
  f13 n (vq A) (vq B) = some (solR A B k) ∧ f14 n (vq A) (vq B) = some (solR A B k) := by
 have h16 := kk16 h4
 have sl := sol_len A B k
 have sB : (vq B).length = k := by rw [vq_len, hb]
 have sA : (vq A).length = k * k := by rw [vq_len, hl]
 unfold f13 f14
 rw [f49_eq (by omega), ob_some, f52_eq (by omega), ob_some, hc, bne_self_eq_false, cond_false, cond_false, sA, sB, Bool.cond_decide, if_neg (by omega), Bool.cond_decide, if_neg (by omega), i_solve hA hB hl hb h4 hn, ob_some, s_solve hA hB hl hb h4 hn, ob_some]
 unfold solM solR
 by_cases e : detG k (augM A B k) = 0
 · rw [if_pos e, if_pos e]; exact ⟨rfl, rfl⟩
 · rw [if_neg e, if_neg e]
   dsimp only
   rw [Bool.not_true, cond_false, cond_false, i_full (by omega) (by omega), ob_some, s_fullG (by omega) (by omega), ob_some]
   exact ⟨rfl, rfl⟩

theorem i_mvI {n : Nat} {A X : List Rat} (hA : Sv A 40) (hX : Sv X 40) (hl : A.length = X.length * X.length) (h4 : X.length ≤ 4) (hn : 1048577 ≤ n) : f59 n (vq A) (vq X) = some (vq (mvR A X)) := by
 have g : ∀ i, i < X.length → f130 n (i : Int) (vq A, (X.length : Int), vq X).1 (vq A, (X.length : Int), vq X).2.1 (vq A, (X.length : Int), vq X).2.2 = some (rq (dotF 0 (rowR A X.length i) X)) ∧ Sz (dotF 0 (rowR A X.length i) X) 1000000 := fun i hi =>
  ⟨f130_eq hA hX hl h4 hi hn, (Sz_dot (Sv_row hA) hX (by rw [row_len hl hi]; exact h4)).mono (by omega)⟩
 unfold f59
 rw [vq_len, f129c130_eqG (s1 := (vq A, (X.length : Int), vq X)) (by omega) g hn]
 rfl

theorem Bq_quot {x d e : Rat} {N D N' D' : Nat} (h : x * d = e) (hd : d ≠ 0) (he : Bq e N D) (hd' : Bq d N' D') : Bq x (N * D') (D * N') := by
 have ex : x = e / d := by rw [← h]; grind
 rw [ex, div_mq hd]
 have hyn : d.num ≠ 0 := fun e => hd (Rat.num_eq_zero.1 e)
 exact Bq_mq (Nat.mul_pos (Nat.pos_of_ne_zero e.den_nz) (by omega)) (Nat.mul_le_mul he.1 hd'.2) (Nat.mul_le_mul he.2 hd'.1)

theorem aug_mat {A B : List Rat} {k r c : Nat} (hr : r < k) (hc : c < k) : augM A B k r c = matM A k r c := by
 unfold augM matM corM
 rw [if_pos ⟨hr, hc⟩, if_pos ⟨hr, hc⟩]

theorem det_aug {A B : List Rat} {k : Nat} (h1 : 1 ≤ k) (h3 : k ≤ 3) : detG k (augM A B k) = detG k (matM A k) := by
 rcases (show k = 1 ∨ k = 2 ∨ k = 3 by omega) with rfl | rfl | rfl
 · rw [detG1, detG1]; unfold Det1
   rw [aug_mat (by omega) (by omega)]
 · rw [detG2, detG2]; unfold Det2
   rw [aug_mat (by omega) (by omega), aug_mat (by omega) (by omega), aug_mat (by omega) (by omega), aug_mat (by omega) (by omega)]
 · rw [detG3, detG3]; unfold Det3
   rw [aug_mat (r := 0) (c := 0) (by omega) (by omega), aug_mat (r := 0) (c := 1) (by omega) (by omega), aug_mat (r := 0) (c := 2) (by omega) (by omega), aug_mat (r := 1) (c := 0) (by omega) (by omega), aug_mat (r := 1) (c := 1) (by omega) (by omega), aug_mat (r := 1) (c := 2) (by omega) (by omega), aug_mat (r := 2) (c := 0) (by omega) (by omega), aug_mat (r := 2) (c := 1) (by omega) (by omega), aug_mat (r := 2) (c := 2) (by omega) (by omega)]

theorem Bq_aug {A B : List Rat} {k : Nat} (hA : Bv A 3 1) (hl : A.length = k * k) (hB : Bv B 10 9) (hb : B.length = k) (r c : Nat) : Bq (augM A B k r c) 10 9 := by
 unfold augM
 split
 · rename_i h
   have h2 : Bq (A.getD (r * k + c) 0) 3 1 := hA.get (by rw [hl]; exact idxL h.1 h.2)
   exact h2.mono (by decide) (by decide)
 · split
   · rename_i h; exact hB.get (by omega)
   · exact (Bq_zero (N := 1)).mono (by decide) (by decide)

def colM (M : Nat → Nat → Rat) (j c : Nat) : Nat → Nat → Rat := fun r i => if i = j then M r c else M r i

theorem Bq_col {M : Nat → Nat → Rat} {j c N D : Nat} (h : ∀ r c, Bq (M r c) N D) (r i : Nat) : Bq (colM M j c r i) N D := by
 unfold colM; split
 · exact h r c
 · exact h r i

theorem cramer {M : Nat → Nat → Rat} {k : Nat} {X : List Rat} (h1 : 1 ≤ k) (h3 : k ≤ 3) (hX : X.length = k) (h : SolM M k X) : ∀ j, j < k → X.getD j 0 * detG k M = detG k (colM M j k) := by
 rcases (show k = 1 ∨ k = 2 ∨ k = 3 by omega) with rfl | rfl | rfl
 · obtain ⟨x0, rfl⟩ := List.length_eq_one_iff.1 hX
   have e0 := h 0 (by omega)
   simp only [rowL, List.range_succ, List.range_zero, List.nil_append, List.map_cons, List.map_nil, dotF] at e0
   intro j hj
   obtain rfl : j = 0 := by omega
   rw [detG1, detG1]
   simp only [Det1, colM, List.getD_cons_zero, if_true]
   grind
 · obtain ⟨x0, x1, rfl⟩ : ∃ x0 x1, X = [x0, x1] := by
    match X, hX with
    | [a, b], _ => exact ⟨a, b, rfl⟩
   have e0 := h 0 (by omega)
   have e1 := h 1 (by omega)
   simp only [rowL, List.range_succ, List.range_zero, List.nil_append, List.cons_append, List.map_cons, List.map_nil, dotF] at e0 e1
   intro j hj
   rw [detG2, detG2]
   rcases (show j = 0 ∨ j = 1 by omega) with rfl | rfl
   · simp [Det2, colM]
     grind
   · simp [Det2, colM]
     grind
 · obtain ⟨x0, x1, x2, rfl⟩ : ∃ x0 x1 x2, X = [x0, x1, x2] := by
    match X, hX with
    | [a, b, c], _ => exact ⟨a, b, c, rfl⟩
   have e0 := h 0 (by omega)
   have e1 := h 1 (by omega)
   have e2 := h 2 (by omega)
   simp only [rowL, List.range_succ, List.range_zero, List.nil_append, List.cons_append, List.map_cons, List.map_nil, dotF] at e0 e1 e2
   intro j hj
   rw [detG3, detG3]
   rw [Rat.zero_add] at e0 e1 e2
   rcases (show j = 0 ∨ j = 1 ∨ j = 2 by omega) with rfl | rfl | rfl
   all_goals simp [Det3, colM]
   all_goals rw [← e0, ← e1, ← e2]
   all_goals generalize M 0 0 = a, M 0 1 = b, M 0 2 = c, M 1 0 = d, M 1 1 = e, M 1 2 = f, M 2 0 = g, M 2 1 = h', M 2 2 = i
   all_goals grind

theorem Bq_det9 {k : Nat} {M : Nat → Nat → Rat} (hM : ∀ r c, Bq (M r c) 10 9) (h1 : 1 ≤ k) (h3 : k ≤ 3) : Bq (detG k M) (10 ^ 40) (10 ^ 40) := by
 rcases (show k = 1 ∨ k = 2 ∨ k = 3 by omega) with rfl | rfl | rfl
 · rw [detG1]; unfold Det1; exact (hM 0 0).mono (by decide) (by decide)
 · rw [detG2]; unfold Det2; exact (Bq_sub (Bq_mul (hM 0 0) (hM 1 1)) (Bq_mul (hM 0 1) (hM 1 0))).mono (by decide) (by decide)
 · rw [detG3]; unfold Det3
   have q1 := Bq_mul (hM 0 0) (Bq_sub (Bq_mul (hM 1 1) (hM 2 2)) (Bq_mul (hM 1 2) (hM 2 1)))
   have q2 := Bq_mul (hM 0 1) (Bq_sub (Bq_mul (hM 1 0) (hM 2 2)) (Bq_mul (hM 1 2) (hM 2 0)))
   have q3 := Bq_mul (hM 0 2) (Bq_sub (Bq_mul (hM 1 0) (hM 2 1)) (Bq_mul (hM 1 1) (hM 2 0)))
   exact (Bq_add (Bq_sub q1 q2) q3).mono (by decide) (by decide)

theorem sol_Sv {A B : List Rat} {k : Nat} (hA : Bv A 3 1) (hl : A.length = k * k) (hB : Bv B 10 9) (hb : B.length = k) (h1 : 1 ≤ k) (h3 : k ≤ 3) (hne : detG k (augM A B k) ≠ 0) : Sv (solG A B k) 40 := by
 have hS := sol_M hne
 have hM := Bq_aug hA hl hB hb
 intro a ha
 obtain ⟨i, hi, rfl⟩ := List.getElem_of_mem ha
 have hk := sol_len A B k
 have hc := cramer h1 h3 hk hS i (by omega)
 have e : (solG A B k).getD i 0 = (solG A B k)[i] := by rw [List.getD_eq_getElem?_getD, List.getElem?_eq_getElem hi]; rfl
 rw [e] at hc
 exact (Bq_quot hc hne (Bq_det9 (Bq_col hM) h1 h3) (Bq_det9 hM h1 h3)).sz (by decide) (by decide)

theorem mvC_vq {A X : List Rat} {k : Nat} (hA : Sv A 40) (hX : Sv X 40) (hl : A.length = k * k) (hx : X.length = k) (h1 : 1 ≤ k) (h4 : k ≤ 4) : mvC (vq A) (vq X) = 0 := by
 have h16 := kk16 h4
 unfold mvC lngL
 rw [if_neg (by simp; omega), vq_len, hx, mok_vq hA hl h1 h4]
 have hv : vok (vq X) = true := by
  unfold vok
  simp only [Bool.and_eq_true, decide_eq_true_eq]
  refine ⟨by rw [vq_len]; omega, List.all_eq_true.2 fun r hr => ?_⟩
  obtain ⟨x, hx', rfl⟩ := List.mem_map.1 hr
  exact rq_rok (hX x hx')
 rw [hv]; rfl

theorem f3_eq {f : Nat} {a b : List Int} (ha : ∀ x ∈ a, 0 ≤ x ∧ x ≤ 255) (hb : ∀ x ∈ b, 0 ≤ x ∧ x ≤ 255) (hf : 17179869184 ≤ f) : f3 f a b = some true := by
 unfold f3
 rw [Bool.cond_decide]
 by_cases la : a.length ≤ 1048576
 · rw [if_neg (by omega), Bool.cond_decide]
   by_cases lb : b.length ≤ 1048576
   · rw [if_neg (by omega)]
     obtain ⟨v, ev, hv⟩ := f10_eq (n := f) hb lb (c := 3) (by omega)
     rw [ev, ob_some, W_id (x := 1 + (v : Int)) (by omega) (by omega), show (1 : Int) + (v : Int) = ((1 + v : Nat) : Int) by omega]
     generalize hk : 1 + v = k
     have k1 : 1 ≤ k := by omega
     have k3 : k ≤ 3 := by omega
     obtain ⟨A, eA, lA, bA⟩ := mat_drawn (n := f) (k := k) ha la (by omega) (by omega)
     obtain ⟨B, eB, lB, bB⟩ := f12_eq (n := f) (k := k) hb lb (by omega) (by omega)
     have sA : Sv A 40 := bA.sz (by decide) (by decide)
     have sB : Sv B 40 := bB.sz (by decide) (by decide)
     have hc := mvC_vq sA sB lA lB k1 (by omega)
     obtain ⟨e1, e2⟩ := solve_vq (n := f) sA sB lA lB k1 (by omega) hc hf
     have bA36 : Bv A 36 1 := fun a ha => (bA a ha).mono (by decide) (by decide)
     have zD : Sz (detG k (matM A k)) 40 := (Bq_det (Bq_mat bA36 lA) k1 k3).sz (by decide) (by decide)
     have eD := det_aug (A := A) (B := B) k1 k3
     rw [eA, ob_some, eB, ob_some, e1, ob_some, e2, ob_some, i_det sA lA k1 (by omega) (by omega), ob_some, bne_self_eq_false, cond_false, fit1_ok zD]
     unfold solR
     by_cases hd : detG k (augM A B k) = 0
     · rw [if_pos hd]
       dsimp only
       have e16 : f16 f [] [] = some true := l_same (n := f) (x := []) (y := []) rfl (by simp) (fun a h => by simp at h) (by omega)
       rw [e16, ob_some, ← eD, hd, rq_zero]
       rfl
     · have hs := sol_Sv bA lA bB lB k1 k3 hd
       have sl := sol_len A B k
       have hm := sol_mv lA lB hd
       have hmc := mvC_vq sA hs lA sl k1 (by omega)
       rw [if_neg hd, fit_all hs]
       dsimp only
       have e16 : f16 f (vq (solG A B k)) (vq (solG A B k)) = some (decide (solG A B k = solG A B k)) := l_same rfl (by omega) (hs.mono (by omega)) (by omega)
       have e17 : f17 f (vq A) (vq (solG A B k)) = some (vq B, 0) := by
        unfold f17
        rw [f49_eq (by omega), ob_some, hmc, bne_self_eq_false, cond_false, i_mvI sA hs (by rw [sl]; exact lA) (by omega) (by omega), ob_some, hm, i_full (by omega) (by omega), if_pos (allfit sB), ob_some]
       have e18 : f16 f (vq B) (vq B) = some (decide (B = B)) := l_same rfl (by omega) (sB.mono (by omega)) (by omega)
       have hdn : detG k (matM A k) ≠ 0 := by rw [← eD]; exact hd
       have hlen : 0 < (rq (detG k (matM A k))).2.1.length := by
        have := i_zero (n := f) (x := detG k (matM A k))
        unfold f74 at this
        rw [decide_eq_false hdn] at this
        simp only [Option.some.injEq, beq_eq_false_iff_ne] at this
        omega
       rw [e16, ob_some, decide_eq_true rfl, Bool.not_true, cond_false, bne_self_eq_false, cond_false, decide_eq_true (show ((rq (detG k (matM A k))).2.1.length : Int) > 0 by omega)]
       rw [show ((0 : Int) == 0) = true from rfl, BEq.rfl, Bool.not_true, cond_false, cond_false, e17, ob_some]
       dsimp only
       rw [show ((0 : Int) == 0) = true from rfl, cond_true, e18, ob_some, decide_eq_true rfl]
   · rw [if_pos (by omega)]
 · rw [if_pos (by omega)]

end Go.Ev
