/- DERIVED. The plain laws: what the models compute. -/
import Derived.Test.YtcpdoafoahaagaaGreatUc

set_option linter.all false
set_option linter.unusedVariables false
set_option linter.unusedSimpArgs false

namespace Go.Ev
open Go

theorem A9 {x : Int} (h : -9223372036854775808 ≤ x) (h' : x < 9223372036854775808) : W x = x := Ape h h'

@[simp] theorem A1 {α β : Type} (r : β) (k : β → Option α) : ob (some r) k = k r := rfl

@[simp] theorem Ban {α β : Type} (k : β → Option α) : ob (none : Option β) k = none := rfl

@[simp] theorem Bao {α : Type} (x : Option α) : gd true x = x := rfl

@[simp] theorem Bag {α : Type} (x : Option α) : gd false x = none := rfl

theorem A3 {α : Type} {g : Bool} (h : g = true) (x : Option α) : gd g x = x := by rw [h]; rfl

theorem H7 {α : Type} {l m : List α} {i : Nat} {d : α} (h : i < l.length) : (l ++ m).getD i d = l.getD i d := by
 simp [List.getD_eq_getElem?_getD, List.getElem?_append_left h]

theorem H8 {α : Type} {l : List α} {x d : α} : (l ++ [x]).getD l.length d = x := by
 simp [List.getD_eq_getElem?_getD]

def vl : List Int → Int
 | [] => 0
 | x :: r => x + 10000 * vl r

def Lm (l : List Int) : Prop := ∀ x ∈ l, 0 ≤ x ∧ x < 10000

def dg (n : Nat) : List Int := if n = 0 then [] else ((n % 10000 : Nat) : Int) :: dg (n / 10000)
termination_by n
decreasing_by omega

theorem Bs : dg 0 = [] := by rw [dg]; rfl

theorem Cr {n : Nat} (h : n ≠ 0) : dg n = ((n % 10000 : Nat) : Int) :: dg (n / 10000) := by rw [dg, if_neg h]

theorem Lm.nil : Lm [] := fun _ h => by cases h

theorem Lm.cons {x : Int} {l : List Int} (hx : 0 ≤ x ∧ x < 10000) (hl : Lm l) : Lm (x :: l) := fun y hy => by
 rcases List.mem_cons.1 hy with rfl | hy
 · exact hx
 · exact hl y hy

theorem Lm.head {x : Int} {l : List Int} (h : Lm (x :: l)) : 0 ≤ x ∧ x < 10000 := h x (by simp)

theorem Lm.tail {x : Int} {l : List Int} (h : Lm (x :: l)) : Lm l := fun y hy => h y (by simp [hy])

theorem Lm.app {l m : List Int} (h : Lm l) (h' : Lm m) : Lm (l ++ m) := fun y hy => (List.mem_append.1 hy).elim (h y) (h' y)

theorem Lm.take {l : List Int} (h : Lm l) (k : Nat) : Lm (l.take k) := fun y hy => h y (List.mem_of_mem_take hy)

theorem Lm.drop {l : List Int} (h : Lm l) (k : Nat) : Lm (l.drop k) := fun y hy => h y (List.mem_of_mem_drop hy)

theorem Lm.set {l : List Int} (h : Lm l) (k : Nat) {x : Int} (hx : 0 ≤ x ∧ x < 10000) : Lm (l.set k x) := fun y hy => by
 rcases List.mem_or_eq_of_mem_set hy with hy | rfl
 · exact h y hy
 · exact hx

theorem Lm.get {l : List Int} (h : Lm l) (k : Nat) : 0 ≤ l.getD k 0 ∧ l.getD k 0 < 10000 := by
 rw [List.getD_eq_getElem?_getD]
 cases e : l[k]? with
 | none => simp
 | some x => exact h x (List.mem_of_getElem? e)

theorem Lm.rep (n : Nat) : Lm (List.replicate n 0) := fun y hy => by
 obtain rfl := (List.mem_replicate.1 hy).2
 omega

theorem Cw (n : Nat) : Lm (dg n) := by
 induction n using Nat.strongRecOn with
 | _ n ih =>
  by_cases h : n = 0
  · subst h; rw [Bs]; exact Lm.nil
  · rw [Cr h]
    exact Lm.cons (by omega) (ih _ (by omega))

theorem B0 (n : Nat) : vl (dg n) = n := by
 induction n using Nat.strongRecOn with
 | _ n ih =>
  by_cases h : n = 0
  · subst h; rw [Bs]; rfl
  · rw [Cr h, vl, ih _ (by omega)]
    omega

theorem B6 {l : List Int} (h : Lm l) : 0 ≤ vl l := by
 induction l with
 | nil => exact Int.le_refl _
 | cons x r ih =>
  have := h.head
  have := ih h.tail
  simp only [vl]; omega

theorem Es (k : Nat) : (0 : Int) < 10000 ^ k := Int.pow_pos (by omega)

theorem Bl (k : Nat) : (10000 : Int) ^ (k + 1) = 10000 * 10000 ^ k := by rw [Int.pow_succ, Int.mul_comm]

theorem Xu {i j : Nat} (h : i ≤ j) : (10000 : Int) ^ i ≤ 10000 ^ j := by
 induction j with
 | zero => obtain rfl : i = 0 := by omega
           exact Int.le_refl _
 | succ j ih =>
  by_cases e : i = j + 1
  · subst e; exact Int.le_refl _
  · have := ih (by omega)
    have := Es j
    rw [Bl]; omega

theorem Alo {i j : Nat} (h : (10000 : Int) ^ i < 10000 ^ j) : i < j := by
 rcases Nat.lt_or_ge i j with h' | h'
 · exact h'
 · have := Xu h'; omega

theorem Gy {l : List Int} (h : Lm l) : vl l < 10000 ^ l.length := by
 induction l with
 | nil => simp [vl]
 | cons x r ih =>
  have := h.head
  have := ih h.tail
  simp only [vl, List.length_cons, Bl]; omega

theorem A4k (l m : List Int) : vl (l ++ m) = vl l + 10000 ^ l.length * vl m := by
 induction l with
 | nil => simp [vl]
 | cons x r ih => simp only [List.cons_append, vl, ih, List.length_cons, Bl]; grind

theorem Oo (l : List Int) (x : Int) : vl (l ++ [x]) = vl l + 10000 ^ l.length * x := by rw [A4k]; simp [vl]

theorem Up (n : Nat) : vl (List.replicate n 0) = 0 := by
 induction n with
 | zero => rfl
 | succ n ih => simp [List.replicate_succ, vl, ih]

theorem Bu {l : List Int} {k : Nat} (h : k < l.length) : vl (l.take (k + 1)) = vl (l.take k) + 10000 ^ k * l.getD k 0 := by
 rw [List.take_succ_eq_append_getElem h, Oo, List.length_take, Nat.min_eq_left (by omega), List.getD_eq_getElem?_getD, List.getElem?_eq_getElem h]
 rfl

theorem Jv {l : List Int} {k : Nat} (x : Int) (h : k < l.length) : vl (l.set k x) = vl l + 10000 ^ k * (x - l.getD k 0) := by
 induction l generalizing k with
 | nil => simp at h
 | cons y r ih =>
  cases k with
  | zero => simp [vl]; omega
  | succ k =>
   have := ih (k := k) (by simpa using h)
   simp only [List.set_cons_succ, vl, this, List.getD_cons_succ, Bl]
   grind

def Cn (l : List Int) : Prop := Lm l ∧ (l ≠ [] → l.getD (l.length - 1) 0 ≠ 0)

theorem Fg (n : Nat) : Cn (dg n) := by
 refine ⟨Cw n, ?_⟩
 induction n using Nat.strongRecOn with
 | _ n ih =>
  by_cases h : n = 0
  · subst h; rw [Bs]; exact fun h => absurd rfl h
  · rw [Cr h]
    intro _
    by_cases e : dg (n / 10000) = []
    · rw [e]
      have h0 : n / 10000 = 0 := by
       have := B0 (n / 10000)
       rw [e] at this
       simp only [vl] at this
       omega
      simp
      omega
    · have := ih (n / 10000) (by omega) e
      have hl : 0 < (dg (n / 10000)).length := List.length_pos_iff.2 e
      simp only [List.length_cons, Nat.add_sub_cancel]
      rw [show (dg (n / 10000)).length = ((dg (n / 10000)).length - 1) + 1 by omega, List.getD_cons_succ]
      exact this

theorem Cn.tail {x : Int} {l : List Int} (h : Cn (x :: l)) : Cn l := by
 refine ⟨h.1.tail, fun hn => ?_⟩
 have := h.2 (by simp)
 have hl : 0 < l.length := List.length_pos_iff.2 hn
 simp only [List.length_cons, Nat.add_sub_cancel] at this
 rw [show l.length = (l.length - 1) + 1 by omega, List.getD_cons_succ] at this
 exact this

theorem Cn.pos {l : List Int} (h : Cn l) (hn : l ≠ []) : 0 < vl l := by
 induction l with
 | nil => exact absurd rfl hn
 | cons x r ih =>
  have hx := h.1.head
  have hr := B6 h.1.tail
  by_cases e : r = []
  · subst e
    have := h.2 (by simp)
    simp at this
    simp only [vl]; omega
  · have := ih h.tail e
    simp only [vl]; omega

theorem H2 {l : List Int} (h : Cn l) : dg (vl l).toNat = l := by
 induction l with
 | nil => exact Bs
 | cons x r ih =>
  have hx := h.1.head
  have hr := B6 h.1.tail
  have hp := h.pos (by simp)
  have ih := ih h.tail
  simp only [vl] at hp ⊢
  rw [Cr (by omega)]
  congr 1
  · omega
  · rw [← ih]
    congr 1
    rw [ih]
    omega

theorem Cn.ge {l : List Int} (h : Cn l) (hn : l ≠ []) : (10000 : Int) ^ (l.length - 1) ≤ vl l := by
 have hl : 0 < l.length := List.length_pos_iff.2 hn
 have h1 := Bu (l := l) (k := l.length - 1) (by omega)
 rw [show l.length - 1 + 1 = l.length by omega, List.take_length] at h1
 have h2 := h.2 hn
 have h3 := h.1.get (l.length - 1)
 have h4 := B6 (h.1.take (l.length - 1))
 have h5 := Es (l.length - 1)
 have h6 : (10000 : Int) ^ (l.length - 1) * 1 ≤ 10000 ^ (l.length - 1) * l.getD (l.length - 1) 0 := Int.mul_le_mul_of_nonneg_left (by omega) (by omega)
 omega

theorem Q4 {n k : Nat} : (dg n).length ≤ k ↔ (n : Int) < 10000 ^ k := by
 constructor
 · intro h
   have := Gy (Cw n)
   rw [B0] at this
   exact Int.lt_of_lt_of_le this (Xu h)
 · intro h
   by_cases e : dg n = []
   · rw [e]; simp
   · have := (Fg n).ge e
     rw [B0] at this
     have := Alo (Int.lt_of_le_of_lt this h)
     have hl : 0 < (dg n).length := List.length_pos_iff.2 e
     omega

theorem B88 {n : Nat} : dg n = [] ↔ n = 0 := by
 constructor
 · intro h
   have := B0 n
   rw [h] at this
   simp only [vl] at this
   omega
 · rintro rfl; exact Bs

theorem Avu {a b : Nat} (h : dg a = dg b) : a = b := by
 have h1 := B0 a
 rw [h, B0] at h1
 omega

theorem Aw {a b : Nat} (h : a ≤ b) : (dg a).length ≤ (dg b).length := by
 refine Q4.2 ?_
 have := Gy (Cw b)
 rw [B0] at this
 omega

def cm (x y : Int) : Int := if x < y then -1 else if x = y then 0 else 1

theorem Tj {a b : List Int} (ha : Lm a) (hb : Lm b) {k : Nat} (h1 : k < a.length) (h2 : k < b.length) (h : a.getD k 0 < b.getD k 0) : vl (a.take (k + 1)) < vl (b.take (k + 1)) := by
 rw [Bu h1, Bu h2]
 have q1 := Gy (ha.take k)
 rw [List.length_take, Nat.min_eq_left (by omega)] at q1
 have q2 := B6 (hb.take k)
 have q3 : (10000 : Int) ^ k * (a.getD k 0 + 1) ≤ 10000 ^ k * b.getD k 0 := Int.mul_le_mul_of_nonneg_left (by omega) (by have := Es k; omega)
 rw [Int.mul_add, Int.mul_one] at q3
 omega

theorem Cn.lt_of_len {a b : List Int} (ha : Cn a) (hb : Cn b) (h : a.length < b.length) : vl a < vl b := by
 have h1 := Gy ha.1
 have h2 := hb.ge (by intro e; subst e; simp at h)
 have h3 : (10000 : Int) ^ a.length ≤ 10000 ^ (b.length - 1) := Xu (by omega)
 omega

theorem Cn.of_take {l : List Int} (h : Lm l) {t : Nat} (ht : t ≤ l.length) (hl : t = 0 ∨ l.getD (t - 1) 0 ≠ 0) : Cn (l.take t) := by
 refine ⟨h.take t, fun hn => ?_⟩
 have hlen : (l.take t).length = t := by simp; omega
 rcases hl with rfl | hl
 · simp at hn
 · have ht0 : t ≠ 0 := by rintro rfl; simp at hn
   rw [hlen, List.getD_eq_getElem?_getD, List.getElem?_take, if_pos (by omega), ← List.getD_eq_getElem?_getD]
   exact hl

theorem tdv {x : Int} (h : 0 ≤ x) : Int.tdiv x 10000 = x / 10000 := Int.tdiv_eq_ediv_of_nonneg h

theorem tmd {x : Int} (h : 0 ≤ x) : Int.tmod x 10000 = x % 10000 := Int.tmod_eq_emod_of_nonneg h

theorem Ajd {α : Type} {n : Nat} {l : List Int} (hN : l.length ≤ 1099511627776) {k0 : List Int → Int → Option α} : ∀ (m k : Nat), k < m → k ≤ l.length →
  ∃ t, t ≤ k ∧ Yu n m l (k : Int) k0 = k0 l (t : Int) ∧ vl (l.take t) = vl (l.take k) ∧ (t = 0 ∨ l.getD (t - 1) 0 ≠ 0)
 | 0, k, h, _ => by omega
 | m + 1, k, h, hk => by
  rw [Asy]
  unfold A1x
  dsimp only
  by_cases h0 : k = 0
  · subst h0; exact ⟨0, Nat.le_refl _, rfl, rfl, .inl rfl⟩
  · rw [Bool.cond_decide, if_pos (by omega), A9 (by omega) (by omega), A3 (by simp; omega)]
    have e : ((k : Int) - 1).toNat = k - 1 := by omega
    rw [e, Bool.cond_eq_ite]
    by_cases hz : l.getD (k - 1) 0 = 0
    · rw [if_pos (by rw [hz]; rfl)]
      obtain ⟨t, h1, h2, h3, h4⟩ := Ajd (n := n) hN (k0 := k0) m (k - 1) (by omega) (by omega)
      refine ⟨t, by omega, ?_, ?_, h4⟩
      · rw [show (k : Int) - 1 = ((k - 1 : Nat) : Int) by omega]; exact h2
      · rw [h3]
        have := Bu (l := l) (k := k - 1) (by omega)
        rw [show k - 1 + 1 = k by omega, hz] at this
        rw [this]; simp
    · rw [if_neg (by simpa using hz)]
      exact ⟨k, Nat.le_refl _, rfl, rfl, .inr hz⟩

theorem Yt {n : Nat} {l : List Int} (hl : Lm l) (hN : l.length ≤ 1099511627776) (hn : l.length < n) : f203 n l = some (dg (vl l).toNat) := by
 unfold f203
 obtain ⟨t, h1, h2, h3, h4⟩ := Ajd (n := n) hN (k0 := fun z_1 z_2 => gd (decide (0 ≤ z_2) && decide (z_2 ≤ (z_1.length : Int))) (gd (decide ((0 + ((z_1.drop 0).take (z_2.toNat - 0)).length) * 8 ≤ 140737488355328)) (some ((z_1.drop 0).take (z_2.toNat - 0))))) n l.length hn (Nat.le_refl _)
 rw [h2, A3 (by simp; omega), A3 (by simp; omega)]
 simp only [List.drop_zero, Int.toNat_natCast, Nat.sub_zero]
 rw [List.take_length] at h3
 rw [← h3, H2 (Cn.of_take hl (by omega) h4)]

theorem Ajc {α : Type} {n : Nat} {l : List Int} (hN : l.length ≤ 1099511627776) {k0 : List Int → Int → Option α} : ∀ (m k : Nat), k < m → k ≤ l.length →
  ∃ t, t ≤ k ∧ Yx n m l (k : Int) k0 = k0 l (t : Int) ∧ vl (l.take t) = vl (l.take k) ∧ (t = 0 ∨ l.getD (t - 1) 0 ≠ 0)
 | 0, k, h, _ => by omega
 | m + 1, k, h, hk => by
  rw [Ate]
  unfold A2h
  dsimp only
  by_cases h0 : k = 0
  · subst h0; exact ⟨0, Nat.le_refl _, rfl, rfl, .inl rfl⟩
  · rw [Bool.cond_decide, if_pos (by omega), A9 (by omega) (by omega), A3 (by simp; omega)]
    have e : ((k : Int) - 1).toNat = k - 1 := by omega
    rw [e, Bool.cond_eq_ite]
    by_cases hz : l.getD (k - 1) 0 = 0
    · rw [if_pos (by rw [hz]; rfl)]
      obtain ⟨t, h1, h2, h3, h4⟩ := Ajc (n := n) hN (k0 := k0) m (k - 1) (by omega) (by omega)
      refine ⟨t, by omega, ?_, ?_, h4⟩
      · rw [show (k : Int) - 1 = ((k - 1 : Nat) : Int) by omega]; exact h2
      · rw [h3]
        have := Bu (l := l) (k := k - 1) (by omega)
        rw [show k - 1 + 1 = k by omega, hz] at this
        rw [this]; simp
    · rw [if_neg (by simpa using hz)]
      exact ⟨k, Nat.le_refl _, rfl, rfl, .inr hz⟩

theorem Pl {n : Nat} {l : List Int} (hl : Lm l) (hN : l.length ≤ 1099511627776) (hn : l.length < n) : f185 n l = some (dg (vl l).toNat) := by
 unfold f185
 obtain ⟨t, h1, h2, h3, h4⟩ := Ajc (n := n) hN (k0 := fun z_1 z_2 => gd (decide (0 ≤ z_2) && decide (z_2 ≤ (z_1.length : Int))) (some ((z_1.drop 0).take (z_2.toNat - 0)))) n l.length hn (Nat.le_refl _)
 rw [h2, A3 (by simp; omega)]
 simp only [List.drop_zero, Int.toNat_natCast, Nat.sub_zero]
 rw [List.take_length] at h3
 rw [← h3, H2 (Cn.of_take hl (by omega) h4)]

theorem Adv {α : Type} {n : Nat} {k0 : List Int → Option α} : ∀ (m x : Nat) (o : List Int), (x : Int) ≤ 9223372036854775807 → (dg x).length < m → o.length + (dg x).length ≤ 1099511627776 → Yz n m (x : Int) o k0 = k0 (o ++ dg x)
 | 0, x, o, _, h, _ => by omega
 | m + 1, x, o, hx, h, hN => by
  rw [Atu]
  unfold A2w
  dsimp only
  by_cases h0 : x = 0
  · subst h0; rw [Bs]; simp
  · rw [Cr h0] at h hN ⊢
    simp only [List.length_cons] at h hN
    rw [Bool.cond_decide, if_pos (by omega), A3 (by simp; omega), tdv (by omega), tmd (by omega), A9 (by omega) (by omega), show (x : Int) / 10000 = ((x / 10000 : Nat) : Int) by omega, show (x : Int) % 10000 = ((x % 10000 : Nat) : Int) by omega]
    rw [Adv (n := n) m (x / 10000) _ (by omega) (by omega) (by simp; omega)]
    simp

theorem Lb {n : Nat} {x : Nat} (hx : (x : Int) ≤ 9223372036854775807) (hn : 10 < n) : f172 n (x : Int) = some (dg x) := by
 have hl : (dg x).length ≤ 5 := Q4.2 (by rw [show (10000 : Int) ^ 5 = 100000000000000000000 from rfl]; omega)
 unfold f172
 rw [Adv (n := n) n x [] hx (by omega) (by simp; omega)]
 simp

theorem Adw {α : Type} {n : Nat} {k0 : List Int → Option α} : ∀ (m x : Nat) (o : List Int), (x : Int) ≤ 9223372036854775807 → (dg x).length < m → o.length + (dg x).length ≤ 1099511627776 → Z2 n m (x : Int) o k0 = k0 (o ++ dg x)
 | 0, x, o, _, h, _ => by omega
 | m + 1, x, o, hx, h, hN => by
  rw [Aue]
  unfold A39
  dsimp only
  by_cases h0 : x = 0
  · subst h0; rw [Bs]; simp
  · rw [Cr h0] at h hN ⊢
    simp only [List.length_cons] at h hN
    rw [Bool.cond_decide, if_pos (by omega), A3 (by simp; omega), tdv (by omega), tmd (by omega), A9 (by omega) (by omega), show (x : Int) / 10000 = ((x / 10000 : Nat) : Int) by omega, show (x : Int) % 10000 = ((x % 10000 : Nat) : Int) by omega]
    rw [Adw (n := n) m (x / 10000) _ (by omega) (by omega) (by simp; omega)]
    simp

theorem Ako {n : Nat} {x : Nat} (hx : (x : Int) ≤ 9223372036854775807) (hn : 10 < n) : f160 n (x : Int) = some (dg x) := by
 have hl : (dg x).length ≤ 5 := Q4.2 (by rw [show (10000 : Int) ^ 5 = 100000000000000000000 from rfl]; omega)
 unfold f160
 rw [Adw (n := n) n x [] hx (by omega) (by simp; omega)]
 simp

theorem Pr {n : Nat} {b : Bool} : f147 n b = some (if b = true then 1 else 0) := by cases b <;> rfl

theorem Fc {x y : Int} (h : x < y) : cm x y = -1 := by unfold cm; rw [if_pos h]

theorem Fd {x y : Int} (h : y < x) : cm x y = 1 := by unfold cm; rw [if_neg (by omega), if_neg (by omega)]

theorem G3 {x y : Int} (h : x = y) : cm x y = 0 := by unfold cm; rw [if_neg (by omega), if_pos h]

theorem Avz (x y z : Int) : cm (x + z) (y + z) = cm x y := by
 rcases Int.lt_trichotomy x y with h | h | h
 · rw [Fc h, Fc (by omega)]
 · rw [G3 h, G3 (by omega)]
 · rw [Fd h, Fd (by omega)]

theorem Avy {α : Type} {n : Nat} {a b : List Int} (ha : Lm a) (hb : Lm b) (hab : a.length = b.length) (hN : a.length ≤ 1099511627776) {k0 : Int → Option α} {k1 : Unit → Option α} : ∀ (m k : Nat), k < m → k ≤ a.length →
  Yw n m a b ((k : Int) - 1) k0 k1 = if vl (a.take k) = vl (b.take k) then k1 () else k0 (cm (vl (a.take k)) (vl (b.take k)))
 | 0, k, h, _ => by omega
 | m + 1, k, h, hk => by
  rw [At8]
  unfold A2b
  dsimp only
  by_cases h0 : k = 0
  · subst h0
    simp
  · rw [Bool.cond_decide, if_pos (by omega), A3 (by simp; omega), A3 (by simp; omega)]
    have e : ((k : Int) - 1).toNat = k - 1 := by omega
    rw [e, Bool.cond_eq_ite]
    have ta := Bu (l := a) (k := k - 1) (by omega)
    have tb := Bu (l := b) (k := k - 1) (by omega)
    rw [show k - 1 + 1 = k by omega] at ta tb
    by_cases hz : a.getD (k - 1) 0 = b.getD (k - 1) 0
    · rw [if_neg (by simpa using hz), A9 (by omega) (by omega)]
      rw [show (k : Int) - 1 - 1 = ((k - 1 : Nat) : Int) - 1 by omega, Avy (n := n) ha hb hab hN m (k - 1) (by omega) (by omega)]
      rw [ta, tb, hz]
      by_cases h1 : vl (a.take (k - 1)) = vl (b.take (k - 1))
      · rw [if_pos h1, if_pos (by omega)]
      · rw [if_neg h1, if_neg (by omega)]
        rw [Avz]
    · rw [if_pos (by simpa using hz), A3 (by simp; omega), A3 (by simp; omega), Pr, A1]
      rcases Int.lt_or_gt_of_ne hz with h1 | h1
      · have := Tj ha hb (k := k - 1) (by omega) (by omega) h1
        rw [show k - 1 + 1 = k by omega] at this
        rw [show (if vl (a.take k) = vl (b.take k) then k1 () else k0 (cm (vl (a.take k)) (vl (b.take k)))) = k0 (-1) by rw [if_neg (by omega), Fc this], if_neg (by rw [decide_eq_true_eq]; omega)]
        rfl
      · have := Tj hb ha (k := k - 1) (by omega) (by omega) h1
        rw [show k - 1 + 1 = k by omega] at this
        rw [show (if vl (a.take k) = vl (b.take k) then k1 () else k0 (cm (vl (a.take k)) (vl (b.take k)))) = k0 1 by rw [if_neg (by omega), Fd this], if_pos (by rw [decide_eq_true_eq]; omega)]
        rfl

theorem B2g {n : Nat} {a b : List Int} (ha : Cn a) (hb : Cn b) (hN : a.length ≤ 1099511627776) (hn : a.length < n) : f187 n a b = some (cm (vl a) (vl b)) := by
 unfold f187
 rw [Bool.cond_eq_ite]
 by_cases h : a.length = b.length
 · rw [if_neg (by simp [h]), A9 (by omega) (by omega), Avy (n := n) ha.1 hb.1 h hN n a.length hn (Nat.le_refl _)]
   rw [List.take_length, h, List.take_length]
   by_cases h1 : vl a = vl b
   · rw [if_pos h1, G3 h1]
   · rw [if_neg h1]
 · rw [if_pos (by simp; omega), Pr, A1]
   rcases Nat.lt_or_gt_of_ne h with h1 | h1
   · rw [Fc (ha.lt_of_len hb h1), if_neg (by simp; omega)]; rfl
   · rw [Fd (hb.lt_of_len ha h1), if_pos (by simp; omega)]; rfl

theorem Avx {α : Type} {n : Nat} {a b : List Int} (ha : Lm a) (hb : Lm b) (hab : a.length = b.length) {k0 k1 : Int → Option α} : ∀ (k : Nat), k ≤ a.length →
  Mm n a k a b 0 k0 k1 = if vl (a.take k) = vl (b.take k) then k0 0 else k1 (cm (vl (a.take k)) (vl (b.take k)))
 | 0, _ => by rw [Au0]; simp
 | k + 1, hk => by
  rw [Aty]
  unfold A30
  dsimp only
  rw [A3 (by simp; omega), Bool.cond_eq_ite]
  have ta := Bu (l := a) (k := k) (by omega)
  have tb := Bu (l := b) (k := k) (by omega)
  simp only [Int.toNat_natCast]
  by_cases hz : a.getD k 0 = b.getD k 0
  · rw [if_neg (by simpa using hz), A3 (by simp), Avx ha hb hab k (by omega)]
    rw [ta, tb, hz]
    by_cases h1 : vl (a.take k) = vl (b.take k)
    · rw [if_pos h1, if_pos (by omega)]
    · rw [if_neg h1, if_neg (by omega)]
      rw [Avz]
  · rw [if_pos (by simpa using hz), A3 (by simp; omega), Bool.cond_decide]
    rcases Int.lt_or_gt_of_ne hz with h1 | h1
    · have := Tj ha hb (k := k) (by omega) (by omega) h1
      rw [show (if vl (a.take (k + 1)) = vl (b.take (k + 1)) then k0 0 else k1 (cm (vl (a.take (k + 1))) (vl (b.take (k + 1))))) = k1 (-1) by rw [if_neg (by omega), Fc this], if_pos h1]
    · have := Tj hb ha (k := k) (by omega) (by omega) h1
      rw [show (if vl (a.take (k + 1)) = vl (b.take (k + 1)) then k0 0 else k1 (cm (vl (a.take (k + 1))) (vl (b.take (k + 1))))) = k1 1 by rw [if_neg (by omega), Fd this], if_neg (by omega)]

theorem B2w {n : Nat} {a b : List Int} (ha : Cn a) (hb : Cn b) (hN : a.length ≤ 1099511627776) : f170 n a b = some (cm (vl a) (vl b)) := by
 unfold f170
 rw [Bool.cond_eq_ite]
 by_cases h : a.length = b.length
 · rw [if_neg (by simp [h])]
   rw [show f201 n a = some a from rfl, A1, Atz, A3 (by simp; omega), Avx ha.1 hb.1 h a.length (Nat.le_refl _)]
   rw [List.take_length, h, List.take_length]
   by_cases h1 : vl a = vl b
   · rw [if_pos h1, G3 h1]
   · rw [if_neg h1]
 · rw [if_pos (by simp; omega), Bool.cond_decide]
   rcases Nat.lt_or_gt_of_ne h with h1 | h1
   · rw [Fc (ha.lt_of_len hb h1), if_pos (by omega)]
   · rw [Fd (hb.lt_of_len ha h1), if_neg (by omega)]

theorem B8 (l : List Int) (k : Nat) : vl (l.take (k + 1)) = vl (l.take k) + 10000 ^ k * l.getD k 0 := by
 rcases Nat.lt_or_ge k l.length with h | h
 · exact Bu h
 · rw [List.take_of_length_le (by omega), List.take_of_length_le (by omega), List.getD_eq_getElem?_getD, List.getElem?_eq_none h]
   simp

theorem Bc {l : List Int} {k : Nat} (h : l.length ≤ k) : l.getD k 0 = 0 := by
 rw [List.getD_eq_getElem?_getD, List.getElem?_eq_none h]; rfl

theorem Cn.of_ge {l : List Int} (h : Lm l) (hg : l ≠ [] → (10000 : Int) ^ (l.length - 1) ≤ vl l) : Cn l := by
 refine ⟨h, fun hn e => ?_⟩
 have hl : 0 < l.length := List.length_pos_iff.2 hn
 have h1 := B8 l (l.length - 1)
 rw [show l.length - 1 + 1 = l.length by omega, List.take_length, e] at h1
 have h2 := Gy (h.take (l.length - 1))
 rw [List.length_take, Nat.min_eq_left (by omega)] at h2
 have := hg hn
 omega

theorem It (l : List Int) {k : Nat} (h : l.length ≤ k) : l.take k = l := List.take_of_length_le h

theorem Awi {α : Type} {n : Nat} {a b : List Int} (ha : Cn a) (hb : Cn b) (hN : a.length ≤ 1099511627776) (hNb : b.length ≤ 1099511627776) {k0 : List Int → Option α} : ∀ (m i : Nat) (c : Int) (o : List Int), o.length = i → Lm o → 0 ≤ c → c ≤ 1 →
  vl o + 10000 ^ i * c = vl (a.take i) + vl (b.take i) → (i ≤ max a.length b.length ∨ (i = max a.length b.length + 1 ∧ c = 0 ∧ o.getD (i - 1) 0 ≠ 0)) → max a.length b.length + 2 ≤ i + m →
  Pj n m a b c (i : Int) o k0 = k0 (dg (vl a + vl b).toNat)
 | 0, i, c, o, ho, hlo, hc0, hc1, hv, hq, hm => by omega
 | m + 1, i, c, o, ho, hlo, hc0, hc1, hv, hq, hm => by
  rw [Atb]
  unfold A2e
  dsimp only
  have fin : a.length ≤ i → b.length ≤ i → c = 0 → o = dg (vl a + vl b).toNat := fun h1 h2 h3 => by
   rw [It a h1, It b h2, h3] at hv
   have hv' : vl o = vl a + vl b := by simpa using hv
   have : Cn o := Cn.of_ge hlo fun hn => by
    have hl : 0 < o.length := List.length_pos_iff.2 hn
    rcases hq with hq | ⟨hq1, _, hq3⟩
    · have hmx : i = max a.length b.length := by omega
      rw [ho, hv']
      rcases Nat.le_total a.length b.length with hab | hab
      · have h4 := hb.ge (List.length_pos_iff.1 (by omega))
        have h5 := B6 ha.1
        rw [show i - 1 = b.length - 1 by omega]; omega
      · have h4 := ha.ge (List.length_pos_iff.1 (by omega))
        have h5 := B6 hb.1
        rw [show i - 1 = a.length - 1 by omega]; omega
    · have h1 := B8 o (o.length - 1)
      rw [show o.length - 1 + 1 = o.length by omega, List.take_length] at h1
      have h2 := B6 (hlo.take (o.length - 1))
      have h3 := hlo.get (o.length - 1)
      rw [← ho] at hq3
      have h4 := Es (o.length - 1)
      have h5 : (10000 : Int) ^ (o.length - 1) * 1 ≤ 10000 ^ (o.length - 1) * o.getD (o.length - 1) 0 := Int.mul_le_mul_of_nonneg_left (by omega) (by omega)
      omega
   rw [← hv', H2 this]
  have go : ∀ (y : Int), y = c + a.getD i 0 + b.getD i 0 → (i < max a.length b.length ∨ (i = max a.length b.length ∧ 0 < c)) → Pj n m a b (W (Int.tdiv y 10000)) (W ((i : Int) + 1)) (o ++ [Int.tmod y 10000]) k0 = k0 (dg (vl a + vl b).toNat) := by
   intro y hy hi
   have h1 := ha.1.get i
   have h2 := hb.1.get i
   rw [tdv (by omega), tmd (by omega), A9 (by omega) (by omega), A9 (by omega) (by omega)]
   have ta := B8 a i
   have tb := B8 b i
   have hyy : y = 10000 * (y / 10000) + y % 10000 := by omega
   refine Awi (n := n) ha hb hN hNb m (i + 1) _ _ (by simp [ho]) (hlo.app (Lm.cons (by omega) Lm.nil)) (by omega) (by omega) ?_ ?_ (by omega)
   · rw [Oo, ho, ta, tb, Bl]
     generalize y / 10000 = q at *
     generalize y % 10000 = r at *
     generalize (10000 : Int) ^ i = P at *
     grind
   · rcases hi with hi | ⟨hi, hc⟩
     · exact .inl (by omega)
     · right
       have e1 : a.getD i 0 = 0 := Bc (by omega)
       have e2 : b.getD i 0 = 0 := Bc (by omega)
       have e3 : y = 1 := by omega
       subst e3
       refine ⟨by omega, by rfl, ?_⟩
       rw [Nat.add_sub_cancel, ← ho, List.getD_eq_getElem?_getD]
       simp
  have hcases : (i < a.length ∨ i < b.length ∨ 0 < c) → (i < max a.length b.length ∨ (i = max a.length b.length ∧ 0 < c)) := fun h => by
   rcases h with h | h | h
   · exact .inl (by omega)
   · exact .inl (by omega)
   · rcases hq with hq | ⟨_, h0, _⟩
     · omega
     · omega
  have ho2 : (decide ((o.length + 1) * 8 ≤ 140737488355328)) = true := by
   rw [decide_eq_true_eq]
   rcases hq with hq | ⟨hq, _⟩ <;> omega
  have h1 := ha.1.get i
  have h2 := hb.1.get i
  by_cases hA : i < a.length
  · have dA : decide ((i : Int) < (a.length : Int)) = true := by rw [decide_eq_true_eq]; omega
    simp only [dA, cond_true, Int.toNat_natCast]
    rw [A3 (by simp; try omega), A9 (x := c + a.getD i 0) (by omega) (by omega)]
    by_cases hB : i < b.length
    · have dB : decide ((i : Int) < (b.length : Int)) = true := by rw [decide_eq_true_eq]; omega
      simp only [dB, cond_true]
      rw [A3 (by simp; try omega), A3 ho2, A9 (x := c + a.getD i 0 + b.getD i 0) (by omega) (by omega)]
      exact go _ rfl (hcases (.inl hA))
    · have dB : decide ((i : Int) < (b.length : Int)) = false := by rw [decide_eq_false_iff_not]; omega
      simp only [dB, cond_false]
      rw [A3 ho2]
      exact go _ (by rw [Bc (l := b) (by omega)]; omega) (hcases (.inl hA))
  · have dA : decide ((i : Int) < (a.length : Int)) = false := by rw [decide_eq_false_iff_not]; omega
    simp only [dA, cond_false, Int.toNat_natCast]
    by_cases hB : i < b.length
    · have dB : decide ((i : Int) < (b.length : Int)) = true := by rw [decide_eq_true_eq]; omega
      simp only [dB, cond_true]
      rw [A3 (by simp; try omega), A3 ho2, A9 (x := c + b.getD i 0) (by omega) (by omega)]
      exact go _ (by rw [Bc (l := a) (by omega)]; omega) (hcases (.inr (.inl hB)))
    · have dB : decide ((i : Int) < (b.length : Int)) = false := by rw [decide_eq_false_iff_not]; omega
      simp only [dB, cond_false]
      rw [Bool.cond_decide]
      by_cases hc : 0 < c
      · rw [if_pos (by omega), A3 ho2]
        exact go _ (by rw [Bc (l := a) (by omega), Bc (l := b) (by omega)]; omega) (hcases (.inr (.inr hc)))
      · rw [if_neg (by omega), fin (by omega) (by omega) (by omega)]

theorem B2i {n : Nat} {a b : List Int} (ha : Cn a) (hb : Cn b) (hN : a.length ≤ 1099511627776) (hNb : b.length ≤ 1099511627776) (hn : max a.length b.length + 2 ≤ n) : f186 n a b = some (dg (vl a + vl b).toNat) := by
 unfold f186
 have := Awi (n := n) ha hb hN hNb (k0 := fun z_6 => some z_6) n 0 0 [] rfl Lm.nil (by omega) (by omega) (by simp [vl]) (.inl (by omega)) (by omega)
 exact this

theorem Apk {α : Type} {n : Nat} {a b : List Int} (ha : Lm a) (hb : Lm b) (hN : a.length ≤ 1099511627776) {k0 : List Int → Option α} : ∀ (m i : Nat) (c : Int) (o : List Int), o.length = i → Lm o → 0 ≤ c → c ≤ 1 → i ≤ a.length →
  vl o - 10000 ^ i * c = vl (a.take i) - vl (b.take i) → a.length + 1 ≤ i + m →
  ∃ o' c', L7 n m a b c (i : Int) o k0 = k0 o' ∧ o'.length = a.length ∧ Lm o' ∧ 0 ≤ c' ∧ c' ≤ 1 ∧ vl o' - 10000 ^ a.length * c' = vl a - vl (b.take a.length)
 | 0, i, c, o, ho, hlo, hc0, hc1, hi, hv, hm => by omega
 | m + 1, i, c, o, ho, hlo, hc0, hc1, hi, hv, hm => by
  rw [At6]
  unfold A28
  dsimp only
  by_cases hA : i < a.length
  · rw [Bool.cond_decide, if_pos (by omega), A3 (by simp; try omega)]
    have h1 := ha.get i
    have h2 := hb.get i
    have ta := B8 a i
    have tb := B8 b i
    have ho2 : (decide ((o.length + 1) * 8 ≤ 140737488355328)) = true := by
     rw [decide_eq_true_eq]; omega
    have go : ∀ y : Int, y = a.getD i 0 - c - b.getD i 0 → ∃ o' c', L7 n m a b (if y < 0 then 1 else 0) (W ((i : Int) + 1)) (o ++ [W (y + W ((if y < 0 then 1 else 0) * 10000))]) k0 = k0 o' ∧ o'.length = a.length ∧ Lm o' ∧ 0 ≤ c' ∧ c' ≤ 1 ∧ vl o' - 10000 ^ a.length * c' = vl a - vl (b.take a.length) := by
     intro y hy
     obtain ⟨d, hd⟩ : ∃ d : Int, d = if y < 0 then 1 else 0 := ⟨_, rfl⟩
     have hd1 : 0 ≤ d ∧ d ≤ 1 ∧ 0 ≤ y + d * 10000 ∧ y + d * 10000 < 10000 := by
      rw [hd]
      split <;> omega
     rw [← hd, A9 (x := d * 10000) (by omega) (by omega), A9 (x := y + d * 10000) (by omega) (by omega), A9 (x := (i : Int) + 1) (by omega) (by omega)]
     refine Apk (n := n) ha hb hN m (i + 1) d _ (by simp [ho]) (hlo.app (Lm.cons (by omega) Lm.nil)) (by omega) (by omega) (by omega) ?_ (by omega)
     rw [Oo, ho, ta, tb, Bl]
     generalize (10000 : Int) ^ i = P at *
     grind
    simp only [Int.toNat_natCast]
    by_cases hB : i < b.length
    · have dB : decide ((i : Int) < (b.length : Int)) = true := by rw [decide_eq_true_eq]; omega
      simp only [dB, cond_true]
      rw [A3 (by simp; try omega)]
      simp only [A9 (x := a.getD i 0 - c) (by omega) (by omega), A9 (x := a.getD i 0 - c - b.getD i 0) (by omega) (by omega)]
      rw [Pr, A1, A3 ho2]
      simp only [decide_eq_true_eq]
      exact go _ rfl
    · have dB : decide ((i : Int) < (b.length : Int)) = false := by rw [decide_eq_false_iff_not]; omega
      simp only [dB, cond_false]
      simp only [A9 (x := a.getD i 0 - c) (by omega) (by omega)]
      rw [Pr, A1, A3 ho2]
      simp only [decide_eq_true_eq]
      exact go _ (by rw [Bc (l := b) (by omega)]; omega)
  · rw [Bool.cond_decide, if_neg (by omega)]
    obtain rfl : i = a.length := by omega
    rw [List.take_length] at hv
    exact ⟨o, c, rfl, ho, hlo, hc0, hc1, hv⟩

theorem B2e {n : Nat} {a b : List Int} (ha : Cn a) (hb : Cn b) (hN : a.length ≤ 1099511627776) (hn : a.length + 1 ≤ n) (hab : vl b ≤ vl a) : f188 n a b = some (dg (vl a - vl b).toNat) := by
 have hl : b.length ≤ a.length := by
  rcases Nat.lt_or_ge a.length b.length with h | h
  · have := ha.lt_of_len hb h; omega
  · exact h
 unfold f188
 obtain ⟨o, c, h1, h2, h3, h4, h5, h6⟩ := Apk (n := n) ha.1 hb.1 hN (k0 := fun z_4 => ob (f203 n z_4) fun r_5 => some r_5) n 0 0 [] rfl Lm.nil (by omega) (by omega) (by omega) (by simp [vl]) (by omega)
 have h1 : L7 n n a b 0 0 [] (fun z_4 => ob (f203 n z_4) fun r_5 => some r_5) = _ := h1
 rw [h1, Yt h3 (by omega) (by omega), A1]
 rw [It b hl] at h6
 have h7 := Gy h3
 rw [h2] at h7
 have : c = 0 := by
  rcases Int.lt_or_eq_of_le h4 with h | h
  · have : c = 1 := by omega
    rw [this] at h6
    omega
  · exact h.symm
 rw [this] at h6
 rw [show vl o = vl a - vl b by simpa using h6]

theorem Kw {l : List Int} {k : Nat} (h : k < l.length) : vl (l.drop k) = l.getD k 0 + 10000 * vl (l.drop (k + 1)) := by
 rw [List.drop_eq_getElem_cons h, vl, List.getD_eq_getElem?_getD, List.getElem?_eq_getElem h]; rfl

theorem Aee {P o ok y q r c ai bk v' T : Int} (h : o + P * (c + ai * (bk + 10000 * v')) = T) (hy : y = ok + c + ai * bk) (hq : y = 10000 * q + r) : o + P * (r - ok) + 10000 * P * (q + ai * v') = T := by
 grind

theorem A0x {x y : Int} (hx : 0 ≤ x ∧ x < 10000) (hy : 0 ≤ y ∧ y < 10000) : 0 ≤ x * y ∧ x * y ≤ 99980001 := by
 have h1 := Int.mul_nonneg hx.1 hy.1
 have h2 : x * y ≤ 9999 * y := Int.mul_le_mul_of_nonneg_right (by omega) hy.1
 omega

theorem Aqf {α : Type} {n : Nat} {a b : List Int} (ha : Lm a) (hb : Lm b) (i : Nat) (hi : i < a.length) {S : Nat} (hS : a.length + b.length < S) (hN : S ≤ 1099511627776) {T : Int} (hT : T < 10000 ^ S) {k0 : List Int → List Int → Int → List Int → Option α} :
  ∀ (m k : Nat) (c : Int) (o : List Int), Lm o → o.length = S → 0 ≤ c → c < 10000 → i + k ≤ S → vl o + 10000 ^ (i + k) * (c + a.getD i 0 * vl (b.drop k)) = T → S + 1 ≤ i + k + m →
  ∃ o', Lm o' ∧ o'.length = S ∧ vl o' = T ∧ L8 n m a b (i : Int) c (k : Int) o k0 = k0 a b (i : Int) o'
 | 0, k, c, o, hlo, ho, hc0, hc1, hik, hv, hm => by omega
 | m + 1, k, c, o, hlo, ho, hc0, hc1, hik, hv, hm => by
  rw [Ato]
  unfold A2o
  dsimp only
  have h1 := ha.get i
  have h2 := hb.get k
  have h3 := hlo.get (i + k)
  have h4 := A0x h1 h2
  have hvo := B6 hlo
  have go : ∀ y : Int, i + k < S → (k < b.length ∨ b.length ≤ k) → y = o.getD (i + k) 0 + c + a.getD i 0 * b.getD k 0 →
    ∃ o', Lm o' ∧ o'.length = S ∧ vl o' = T ∧ L8 n m a b (i : Int) (W (Int.tdiv y 10000)) (W ((k : Int) + 1)) (o.set (i + k) (Int.tmod y 10000)) k0 = k0 a b (i : Int) o' := by
   intro y hlt hk hy
   rw [tdv (by omega), tmd (by omega), A9 (by omega) (by omega), A9 (by omega) (by omega)]
   refine Aqf (n := n) ha hb i hi hS hN hT m (k + 1) _ _ (hlo.set _ (by omega)) (by simpa using ho) (by omega) (by omega) (by omega) ?_ (by omega)
   rw [Jv _ (by omega), show i + (k + 1) = (i + k) + 1 by omega, Bl]
   have hyy : y = 10000 * (y / 10000) + y % 10000 := by omega
   refine Aee (bk := b.getD k 0) ?_ hy hyy
   rcases hk with hk | hk
   · rw [← Kw hk]; exact hv
   · rw [List.drop_of_length_le (by omega)] at hv ⊢
     rw [Bc hk]
     simpa [vl] using hv
  by_cases hB : k < b.length
  · have dB : decide ((k : Int) < (b.length : Int)) = true := by rw [decide_eq_true_eq]; omega
    simp only [dB, cond_true, Int.toNat_natCast]
    rw [A9 (x := (i : Int) + (k : Int)) (by omega) (by omega)]
    have e : ((i : Int) + (k : Int)).toNat = i + k := by omega
    simp only [e]
    rw [A3 (by simp; try omega), A3 (by simp; try omega), A3 (by simp; try omega), A3 (by simp; try omega), A9 (x := a.getD i 0 * b.getD k 0) (by omega) (by omega), A9 (x := o.getD (i + k) 0 + c) (by omega) (by omega), A9 (x := o.getD (i + k) 0 + c + a.getD i 0 * b.getD k 0) (by omega) (by omega), A3 (by simp; try omega), A3 (by simp; try omega)]
    exact go _ (by omega) (.inl hB) rfl
  · have dB : decide ((k : Int) < (b.length : Int)) = false := by rw [decide_eq_false_iff_not]; omega
    simp only [dB, cond_false]
    rw [Bool.cond_decide]
    rw [List.drop_of_length_le (by omega)] at hv
    by_cases hc : 0 < c
    · have hlt : i + k < S := by
       refine Alo ?_
       have h5 : (10000 : Int) ^ (i + k) * 1 ≤ 10000 ^ (i + k) * c := Int.mul_le_mul_of_nonneg_left (by omega) (by have := Es (i + k); omega)
       simp only [vl, Int.mul_zero, Int.add_zero] at hv
       omega
      rw [if_pos (by omega), A9 (x := (i : Int) + (k : Int)) (by omega) (by omega)]
      have e : ((i : Int) + (k : Int)).toNat = i + k := by omega
      simp only [e]
      rw [A3 (by simp; try omega), A3 (by simp; try omega), A3 (by simp; try omega), A3 (by simp; try omega), A9 (x := o.getD (i + k) 0 + c) (by omega) (by omega)]
      exact go _ hlt (.inr (by omega)) (by rw [Bc (l := b) (by omega)]; omega)
    · rw [if_neg (by omega)]
      obtain rfl : c = 0 := by omega
      exact ⟨o, hlo, ho, by simpa [vl] using hv, rfl⟩

theorem Aqe {a b : List Int} (ha : Lm a) (hb : Lm b) {i S : Nat} (hS : i + b.length ≤ S) : vl (a.take i) * vl b < 10000 ^ S := by
 have h1 := Gy (ha.take i)
 have h2 := Gy hb
 have h3 := B6 (ha.take i)
 have h4 := B6 hb
 have h5 : (10000 : Int) ^ (a.take i).length ≤ 10000 ^ i := Xu (by simp; omega)
 have h6 := Es i
 have h7 := Es b.length
 have h8 : vl (a.take i) * vl b ≤ vl (a.take i) * 10000 ^ b.length := Int.mul_le_mul_of_nonneg_left (by omega) h3
 have h9 : vl (a.take i) * 10000 ^ b.length < 10000 ^ i * 10000 ^ b.length := Int.mul_lt_mul_of_pos_right (by omega) h7
 rw [← Int.pow_add] at h9
 have h10 : (10000 : Int) ^ (i + b.length) ≤ 10000 ^ S := Xu hS
 omega

theorem Ajq {α : Type} {n : Nat} {a b : List Int} (ha : Lm a) (hb : Lm b) {S : Nat} (hS : a.length + b.length < S) (hN : S ≤ 1099511627776) (hn : S + 1 ≤ n) {k0 : List Int → Option α} :
  ∀ (m i : Nat) (o : List Int), Lm o → o.length = S → i ≤ a.length → vl o = vl (a.take i) * vl b → a.length + 1 ≤ i + m →
  ∃ o', Lm o' ∧ o'.length = S ∧ vl o' = vl a * vl b ∧ L9 n m a b (i : Int) o k0 = k0 o'
 | 0, i, o, hlo, ho, hi, hv, hm => by omega
 | m + 1, i, o, hlo, ho, hi, hv, hm => by
  rw [Atq]
  unfold A2r
  dsimp only
  rw [Bool.cond_decide]
  by_cases hA : i < a.length
  · rw [if_pos (by omega)]
    have hT : vl (a.take (i + 1)) * vl b < 10000 ^ S := Aqe ha hb (by omega)
    obtain ⟨o', q1, q2, q3, q4⟩ := Aqf (n := n) ha hb i hA hS hN hT (k0 := fun z_1 z_2 z_3 z_4 => L9 n m z_1 z_2 (W (z_3 + 1)) z_4 k0) n 0 0 o hlo ho (by omega) (by omega) (by omega) (by
     rw [hv, B8, List.drop_zero, Nat.add_zero]
     generalize (10000 : Int) ^ i = P
     grind) (by omega)
    have q4 : L8 n n a b (i : Int) 0 0 o _ = _ := q4
    rw [q4, A9 (by omega) (by omega)]
    exact Ajq (n := n) ha hb hS hN hn m (i + 1) o' q1 q2 (by omega) q3 (by omega)
  · rw [if_neg (by omega)]
    obtain rfl : i = a.length := by omega
    rw [List.take_length] at hv
    exact ⟨o, hlo, ho, hv, rfl⟩

theorem B2q {n : Nat} {a b : List Int} (ha : Lm a) (hb : Lm b) (hN : a.length + b.length ≤ 1099511627770) (hn : a.length + b.length + 2 ≤ n) : f178 n a b = some (dg (vl a * vl b).toNat) := by
 unfold f178
 rw [A9 (x := (a.length : Int) + (b.length : Int)) (by omega) (by omega), A9 (x := (a.length : Int) + (b.length : Int) + 1) (by omega) (by omega), A3 (by simp; try omega)]
 have e : ((a.length : Int) + (b.length : Int) + 1).toNat = a.length + b.length + 1 := by omega
 rw [e]
 obtain ⟨o, q1, q2, q3, q4⟩ := Ajq (n := n) ha hb (S := a.length + b.length + 1) (by omega) (by omega) (by omega) (k0 := fun z_5 => ob (f203 n z_5) fun r_6 => some r_6) n 0 (List.replicate (a.length + b.length + 1) 0) (Lm.rep _) (by simp) (by omega) (by rw [Up]; simp [vl]) (by omega)
 have q4 : L9 n n a b 0 _ _ = _ := q4
 rw [q4, Yt q1 (by omega) (by omega), A1, q3]

theorem Aqg {α : Type} {n : Nat} {a b : List Int} (ha : Lm a) (hb : Lm b) (i : Nat) (hi : i < a.length) {S : Nat} (hS : a.length + b.length ≤ S) (hN : S ≤ 1099511627776) {T : Int} (hT : T < 10000 ^ S) (q1 : List Int) (q2 q3 : Int) {k0 : List Int → List Int → Int → Int → List Int → Option α} :
  ∀ (m k : Nat) (c : Int) (o : List Int), Lm o → o.length = S → 0 ≤ c → c < 10000 → i + k ≤ S → vl o + 10000 ^ (i + k) * (c + a.getD i 0 * vl (b.drop k)) = T → S + 1 ≤ i + k + m →
  ∃ o', Lm o' ∧ o'.length = S ∧ vl o' = T ∧ Ld n m b (i : Int) (a.getD i 0) c (k : Int) q1 q2 q3 o k0 = k0 b q1 q2 q3 o'
 | 0, k, c, o, hlo, ho, hc0, hc1, hik, hv, hm => by omega
 | m + 1, k, c, o, hlo, ho, hc0, hc1, hik, hv, hm => by
  rw [Auh]
  unfold A3c
  dsimp only
  have h1 := ha.get i
  have h2 := hb.get k
  have h3 := hlo.get (i + k)
  have h4 := A0x h1 h2
  have hvo := B6 hlo
  have go : ∀ y : Int, i + k < S → (k < b.length ∨ b.length ≤ k) → y = o.getD (i + k) 0 + c + a.getD i 0 * b.getD k 0 →
    ∃ o', Lm o' ∧ o'.length = S ∧ vl o' = T ∧ Ld n m b (i : Int) (a.getD i 0) (W (Int.tdiv y 10000)) (W ((k : Int) + 1)) q1 q2 q3 (o.set (i + k) (Int.tmod y 10000)) k0 = k0 b q1 q2 q3 o' := by
   intro y hlt hk hy
   rw [tdv (by omega), tmd (by omega), A9 (by omega) (by omega), A9 (by omega) (by omega)]
   refine Aqg (n := n) ha hb i hi hS hN hT q1 q2 q3 m (k + 1) _ _ (hlo.set _ (by omega)) (by simpa using ho) (by omega) (by omega) (by omega) ?_ (by omega)
   rw [Jv _ (by omega), show i + (k + 1) = (i + k) + 1 by omega, Bl]
   have hyy : y = 10000 * (y / 10000) + y % 10000 := by omega
   refine Aee (bk := b.getD k 0) ?_ hy hyy
   rcases hk with hk | hk
   · rw [← Kw hk]; exact hv
   · rw [List.drop_of_length_le (by omega)] at hv ⊢
     rw [Bc hk]
     simpa [vl] using hv
  by_cases hB : k < b.length
  · have dB : decide ((k : Int) < (b.length : Int)) = true := by rw [decide_eq_true_eq]; omega
    simp only [dB, cond_true, Int.toNat_natCast]
    rw [A9 (x := (i : Int) + (k : Int)) (by omega) (by omega)]
    have e : ((i : Int) + (k : Int)).toNat = i + k := by omega
    simp only [e]
    rw [A3 (by simp; try omega), A9 (x := a.getD i 0 * b.getD k 0) (by omega) (by omega), A9 (x := c + a.getD i 0 * b.getD k 0) (by omega) (by omega), A3 (by simp; try omega), A3 (by simp; try omega), A3 (by simp; try omega), A3 (by simp; try omega), A9 (x := c + a.getD i 0 * b.getD k 0 + o.getD (i + k) 0) (by omega) (by omega)]
    exact go _ (by omega) (.inl hB) (by omega)
  · have dB : decide ((k : Int) < (b.length : Int)) = false := by rw [decide_eq_false_iff_not]; omega
    simp only [dB, cond_false]
    rw [Bool.cond_decide]
    rw [List.drop_of_length_le (by omega)] at hv
    by_cases hc : 0 < c
    · have hlt : i + k < S := by
       refine Alo ?_
       have h5 : (10000 : Int) ^ (i + k) * 1 ≤ 10000 ^ (i + k) * c := Int.mul_le_mul_of_nonneg_left (by omega) (by have := Es (i + k); omega)
       simp only [vl, Int.mul_zero, Int.add_zero] at hv
       omega
      rw [if_pos (by omega), A9 (x := (i : Int) + (k : Int)) (by omega) (by omega)]
      have e : ((i : Int) + (k : Int)).toNat = i + k := by omega
      simp only [e]
      rw [A3 (by simp; try omega), A3 (by simp; try omega), A3 (by simp; try omega), A3 (by simp; try omega), A9 (x := c + o.getD (i + k) 0) (by omega) (by omega)]
      exact go _ hlt (.inr (by omega)) (by rw [Bc (l := b) (by omega)]; omega)
    · rw [if_neg (by omega)]
      obtain rfl : c = 0 := by omega
      exact ⟨o, hlo, ho, by simpa [vl] using hv, rfl⟩

theorem Ajr {α : Type} {n : Nat} {a b : List Int} (ha : Lm a) (hb : Lm b) {S : Nat} (hS : a.length + b.length ≤ S) (hN : S ≤ 1099511627776) (hn : S + 1 ≤ n) {k0 : List Int → Option α} :
  ∀ (m i : Nat) (o : List Int), Lm o → o.length = S → i ≤ a.length → vl o = vl (a.take i) * vl b → a.length + 1 ≤ i + m →
  ∃ o', Lm o' ∧ o'.length = S ∧ vl o' = vl a * vl b ∧ Le n m b a (a.length : Int) (i : Int) o k0 = k0 o'
 | 0, i, o, hlo, ho, hi, hv, hm => by omega
 | m + 1, i, o, hlo, ho, hi, hv, hm => by
  rw [Auj]
  unfold A3f
  dsimp only
  rw [Bool.cond_decide]
  by_cases hA : i < a.length
  · rw [if_pos (by omega), A3 (by simp; try omega)]
    simp only [Int.toNat_natCast]
    have hT : vl (a.take (i + 1)) * vl b < 10000 ^ S := Aqe ha hb (by omega)
    obtain ⟨o', q1, q2, q3, q4⟩ := Aqg (n := n) ha hb i hA hS hN hT a (a.length : Int) (i : Int) (k0 := fun z_1 z_2 z_3 z_4 z_5 => Le n m z_1 z_2 z_3 (W (z_4 + 1)) z_5 k0) n 0 0 o hlo ho (by omega) (by omega) (by omega) (by
     rw [hv, B8, List.drop_zero, Nat.add_zero]
     generalize (10000 : Int) ^ i = P
     grind) (by omega)
    have q4 : Ld n n b (i : Int) (a.getD i 0) 0 0 a (a.length : Int) (i : Int) o _ = _ := q4
    rw [q4, A9 (by omega) (by omega)]
    exact Ajr (n := n) ha hb hS hN hn m (i + 1) o' q1 q2 (by omega) q3 (by omega)
  · rw [if_neg (by omega)]
    obtain rfl : i = a.length := by omega
    rw [List.take_length] at hv
    exact ⟨o, hlo, ho, hv, rfl⟩

theorem B3b {n : Nat} {a b : List Int} (ha : Lm a) (hb : Lm b) (hN : a.length + b.length ≤ 1099511627770) (hn : a.length + b.length + 2 ≤ n) : f143 n a b = some (dg (vl a * vl b).toNat) := by
 unfold f143
 rw [A9 (x := (a.length : Int) + (b.length : Int)) (by omega) (by omega), A3 (by simp; try omega)]
 have e : ((a.length : Int) + (b.length : Int)).toNat = a.length + b.length := by omega
 rw [e]
 obtain ⟨o, q1, q2, q3, q4⟩ := Ajr (n := n) ha hb (S := a.length + b.length) (by omega) (by omega) (by omega) (k0 := fun z_5 => ob (f185 n z_5) fun r_6 => some r_6) n 0 (List.replicate (a.length + b.length) 0) (Lm.rep _) (by simp) (by omega) (by rw [Up]; simp [vl]) (by omega)
 have q4 : Le n n b a (a.length : Int) 0 _ _ = _ := q4
 rw [q4, Pl q1 (by omega) (by omega), A1, q3]

theorem pwc (k : Nat) : ((10000 ^ k : Nat) : Int) = (10000 : Int) ^ k := by rw [Int.natCast_pow]; rfl

theorem B50 (Q : Nat) : ((10000 * Q : Nat) : Int) = 10000 * (Q : Int) := by omega

theorem A4x (Q q : Nat) : ((10000 * Q + q : Nat) : Int) = 10000 * (Q : Int) + q := by omega

theorem Ad6 (Q q : Nat) : ((q + 10000 * Q : Nat) : Int) = q + 10000 * (Q : Int) := by omega

theorem Ge {n k : Nat} (h : n < 10000 ^ k) : (dg n).length ≤ k := Q4.2 (by rw [← pwc]; omega)

theorem A4z (n : Nat) : n < 10000 ^ (dg n).length := by
 have := Q4.1 (Nat.le_refl (dg n).length)
 rw [← pwc] at this
 omega

theorem L4 {n k : Nat} (h : (dg n).length ≤ k) : n < 10000 ^ k := by
 have := Q4.1 h
 rw [← pwc] at this
 omega

theorem Ar (a b : Nat) : (dg (a * b)).length ≤ (dg a).length + (dg b).length := by
 refine Ge ?_
 rw [Nat.pow_add]
 exact Nat.mul_lt_mul'' (A4z a) (A4z b)

theorem P3 (a b : Nat) : (dg (a + b)).length ≤ max (dg a).length (dg b).length + 1 := by
 refine Ge ?_
 have h1 : a < 10000 ^ max (dg a).length (dg b).length := L4 (by omega)
 have h2 : b < 10000 ^ max (dg a).length (dg b).length := L4 (by omega)
 rw [Nat.pow_succ]
 omega

theorem Ajx {a : Nat} (h : a < 10000) : (dg a).length ≤ 1 := Ge (by simpa using h)

theorem B1q (a : Nat) (x : Nat) (h : x < 10000) : (dg (x + 10000 * a)).length ≤ (dg a).length + 1 := by
 refine Ge ?_
 have := A4z a
 rw [Nat.pow_succ]
 omega

theorem A4u {n a b : Nat} (h : (dg a).length ≤ 1099511627776) (hn : (dg a).length < n) : f187 n (dg a) (dg b) = some (cm a b) := by
 rw [B2g (Fg a) (Fg b) h hn, B0, B0]

theorem Gz {n a b : Nat} (h : (dg a).length + (dg b).length ≤ 1099511627770) (hn : (dg a).length + (dg b).length + 2 ≤ n) : f178 n (dg a) (dg b) = some (dg (a * b)) := by
 rw [B2q (Cw a) (Cw b) h hn, B0, B0]; congr 1

theorem B0e {n a b : Nat} (h : (dg a).length ≤ 1099511627776) (h' : (dg b).length ≤ 1099511627776) (hn : max (dg a).length (dg b).length + 2 ≤ n) : f186 n (dg a) (dg b) = some (dg (a + b)) := by
 rw [B2i (Fg a) (Fg b) h h' hn, B0, B0]; congr 1

theorem A4p {n a b : Nat} (h : (dg a).length ≤ 1099511627776) (hn : (dg a).length + 1 ≤ n) (hab : b ≤ a) : f188 n (dg a) (dg b) = some (dg (a - b)) := by
 rw [B2e (Fg a) (Fg b) h hn (by rw [B0, B0]; omega), B0, B0]
 congr 2
 omega

theorem Kk {n a b : Nat} (h : (dg a).length + (dg b).length ≤ 1099511627770) (hn : (dg a).length + (dg b).length + 2 ≤ n) : f143 n (dg a) (dg b) = some (dg (a * b)) := by
 rw [B3b (Cw a) (Cw b) h hn, B0, B0]; congr 1

theorem A5d {n a b : Nat} (h : (dg a).length ≤ 1099511627776) : f170 n (dg a) (dg b) = some (cm a b) := by
 rw [B2w (Fg a) (Fg b) h, B0, B0]

theorem Ahb {α : Type} {n B R : Nat} (hBl : (dg B).length ≤ 1099511627700) (hn : (dg B).length + 20 ≤ n) (s0 : List Int) (s8 : Int) (b14 : List Int) {k0 : List Int → List Int → List Int → Int → Int → List Int → Option α} :
  ∀ (m lo hi : Nat), lo < hi → hi ≤ 10000 → lo * B ≤ R → R < hi * B → hi ≤ lo + m →
  M6 n m s0 (dg B) (dg R) s8 (lo : Int) (hi : Int) b14 k0 = k0 s0 (dg B) (dg R) s8 ((R / B : Nat) : Int) b14
 | 0, lo, hi, h1, h2, h3, h4, h5 => by omega
 | m + 1, lo, hi, h1, h2, h3, h4, h5 => by
  rw [Anb]
  unfold Wg
  dsimp only
  rw [A9 (x := (hi : Int) - (lo : Int)) (by omega) (by omega), A9 (x := (lo : Int) + (hi : Int)) (by omega) (by omega)]
  have e : Int.tdiv ((lo : Int) + (hi : Int)) 2 = (((lo + hi) / 2 : Nat) : Int) := by
   rw [Int.tdiv_eq_ediv_of_nonneg (by omega)]; omega
  rw [e, A9 (x := (((lo + hi) / 2 : Nat) : Int)) (by omega) (by omega)]
  generalize hmid : (lo + hi) / 2 = mid
  by_cases hc : lo + 1 < hi
  · rw [Bool.cond_decide, if_pos (by omega), Lb (by omega) (by omega), A1]
    have hl := Ajx (a := mid) (by omega)
    have hm := Ar B mid
    rw [Gz (by omega) (by omega), A1, A4u (by omega) (by omega), A1, Bool.cond_decide]
    by_cases hle : B * mid ≤ R
    · have : cm ((B * mid : Nat) : Int) (R : Int) ≤ 0 := by
       rcases Nat.lt_or_eq_of_le hle with h | h
       · rw [Fc (by omega)]; omega
       · rw [G3 (by omega)]; omega
      rw [if_pos this]
      exact Ahb hBl hn s0 s8 b14 m mid hi (by omega) h2 (by rw [Nat.mul_comm]; exact hle) h4 (by omega)
    · have : ¬ cm ((B * mid : Nat) : Int) (R : Int) ≤ 0 := by
       rw [Fd (by omega)]; omega
      rw [if_neg this]
      exact Ahb hBl hn s0 s8 b14 m lo mid (by omega) (by omega) h3 (by rw [Nat.mul_comm]; omega) (by omega)
  · rw [Bool.cond_decide, if_neg (by omega)]
    obtain rfl : hi = lo + 1 := by omega
    have : R / B = lo := by
     rw [Nat.div_eq_iff (Nat.pos_of_ne_zero (by rintro rfl; simp at h4))]
     rw [Nat.add_mul] at h4
     omega
    rw [this]

theorem Agw {α : Type} {n L A B : Nat} (hB : 0 < B) (hA : (dg A).length ≤ L) (hBl : (dg B).length ≤ L) (hL : L ≤ 1099511627000) (hn : L + 10040 ≤ n) {k0 : List Int → List Int → Option α} :
  ∀ (k m Q R : Nat) (o : List Int), k < m → k ≤ (dg A).length → R < B → o.length = (dg A).length → Lm o → (∀ i, i < k → o.getD i 0 = 0) → vl o = 10000 ^ k * (Q : Int) → (Q : Int) * B + R = vl ((dg A).drop k) →
  ∃ o', Lm o' ∧ o'.length = (dg A).length ∧ vl o' = ((A / B : Nat) : Int) ∧ Ph n m (dg A) (dg B) (dg R) ((k : Int) - 1) o k0 = k0 (dg (A % B)) o'
 | _, 0, _, _, _, h1, _, _, _, _, _, _, _ => by omega
 | 0, m + 1, Q, R, o, h1, h2, h3, h4, h5, h6, h7, h8 => by
  rw [Ab4]
  unfold Rn
  dsimp only
  rw [Bool.cond_decide, if_neg (by omega)]
  rw [List.drop_zero, B0] at h8
  have h8 : Q * B + R = A := by
   have : ((Q * B + R : Nat) : Int) = A := by rw [Int.natCast_add, Int.natCast_mul]; exact h8
   omega
  have h9 : A / B = Q := by rw [← h8, Nat.add_comm, Nat.add_mul_div_right _ _ hB, Nat.div_eq_of_lt h3, Nat.zero_add]
  have h10 : A % B = R := by rw [← h8, Nat.mul_add_mod_self_right, Nat.mod_eq_of_lt h3]
  exact ⟨o, h5, h4, by rw [h7, h9]; simp, by rw [h10]⟩
 | k + 1, m + 1, Q, R, o, h1, h2, h3, h4, h5, h6, h7, h8 => by
  rw [Ab4]
  unfold Rn
  dsimp only
  rw [Bool.cond_decide, if_pos (by omega)]
  rw [show (((k + 1 : Nat) : Int) - 1) = (k : Int) by omega]
  simp only [Int.toNat_natCast]
  have hg := (Cw A).get k
  obtain ⟨x, hx⟩ : ∃ x : Nat, (dg A).getD k 0 = (x : Int) := ⟨((dg A).getD k 0).toNat, by omega⟩
  have hlR : (dg R).length ≤ L := Nat.le_trans (Aw (by omega)) hBl
  have hlRx := B1q R x (by omega)
  have hRx : vl ((dg A).drop k) = (x : Int) + 10000 * ((Q : Int) * B + R) := by
   rw [Kw (by omega), hx, ← h8]
  have hR' : x + 10000 * R < 10000 * B := by omega
  rw [hx, A3 (by simp; try omega), A3 (by simp; try omega), Yt (Lm.app (Lm.cons (by omega) Lm.nil) (Cw R)) (by simp; omega) (by simp; omega), A1]
  have e1 : (vl ([(x : Int)] ++ dg R)).toNat = x + 10000 * R := by
   rw [List.cons_append, List.nil_append, vl, B0]; omega
  rw [e1, A4u (by omega) (by omega), A1, A9 (x := (k : Int) - 1) (by omega) (by omega), Bool.cond_decide]
  by_cases hlt : x + 10000 * R < B
  · rw [if_pos (by rw [Fc (by omega)]; omega)]
    refine Agw hB hA hBl hL hn k m (10000 * Q) (x + 10000 * R) o (by omega) (by omega) hlt h4 h5 (fun i hi => h6 i (by omega)) ?_ ?_
    · rw [h7, Bl, B50]; grind
    · rw [hRx, B50, Ad6]; grind
  · rw [if_neg (by
     rcases Nat.lt_or_eq_of_le (Nat.le_of_not_lt hlt) with h | h
     · rw [Fd (by omega)]; omega
     · rw [G3 (by omega)]; omega)]
    have hbis := Ahb (n := n) (B := B) (R := x + 10000 * R) (by omega) (by omega) (dg A) (k : Int) o (k0 := fun z_3 z_4 z_5 z_6 z_7 z_8 => (
            gd (decide (0 ≤ z_6) && decide (z_6 < (z_8.length : Int))) (
             gd (decide (z_6.toNat < z_8.length)) (
              ob (f172 n z_7) fun r_9 =>
              ob (f178 n z_4 r_9) fun r_10 =>
              ob (f188 n z_5 r_10) fun r_11 =>
              Ph n m z_3 z_4 r_11 (W (z_6 - 1)) (z_8.set z_6.toNat z_7) k0)))) n 0 10000 (by omega) (by omega) (by omega) hR' (by omega)
    have hbis : M6 n n (dg A) (dg B) (dg (x + 10000 * R)) (k : Int) 0 10000 o _ = _ := hbis
    rw [hbis]
    simp only [Int.toNat_natCast]
    have hq : (x + 10000 * R) / B < 10000 := by
     rw [Nat.div_lt_iff_lt_mul hB]; omega
    have hqr := Nat.div_add_mod (x + 10000 * R) B
    have hqm := Nat.mod_lt (x + 10000 * R) hB
    generalize hqq : (x + 10000 * R) / B = q at *
    generalize hrr : (x + 10000 * R) % B = r at *
    have hl1 := Ajx hq
    have hl2 := Ar B q
    rw [A3 (by simp; try omega), A3 (by simp; try omega), Lb (by omega) (by omega), A1, Gz (by omega) (by omega), A1, A4p (by omega) (by omega) (by omega), A1, A9 (x := (k : Int) - 1) (by omega) (by omega), show x + 10000 * R - B * q = r by omega]
    refine Agw hB hA hBl hL hn k m (10000 * Q + q) r _ (by omega) (by omega) hqm (by simpa using h4) (h5.set _ (by omega)) (fun i hi => ?_) ?_ ?_
    · rw [List.getD_eq_getElem?_getD, List.getElem?_set_ne (by omega), ← List.getD_eq_getElem?_getD]
      exact h6 i (by omega)
    · rw [Jv _ (by omega), h7, h6 k (by omega), Bl, A4x]
      generalize (10000 : Int) ^ k = P
      grind
    · rw [hRx]
      have : (B : Int) * q + r = x + 10000 * R := by
       rw [← Ad6, ← hqr, Int.natCast_add, Int.natCast_mul]
      rw [A4x]
      grind

theorem A4t {n L A B : Nat} (hB : 0 < B) (hA : (dg A).length ≤ L) (hBl : (dg B).length ≤ L) (hL : L ≤ 1099511627000) (hn : L + 10040 ≤ n) : f202 n (dg A) (dg B) = some (dg (A / B), dg (A % B)) := by
 unfold f202
 rw [A3 (by simp; try omega), A9 (x := ((dg A).length : Int) - 1) (by omega) (by omega)]
 simp only [Int.toNat_natCast]
 obtain ⟨o, h1, h2, h3, h4⟩ := Agw (n := n) hB hA hBl hL hn (k0 := fun z_12 z_13 => (
       ob (f203 n z_13) fun r_14 =>
       some (r_14, z_12))) (dg A).length n 0 0 (List.replicate (dg A).length 0) (by omega) (Nat.le_refl _) hB (by simp) (Lm.rep _) (fun i hi => by simp [List.getD_eq_getElem?_getD, List.getElem?_replicate, hi]) (by rw [Up]; simp) (by simp [vl])
 rw [Bs] at h4
 rw [h4, Yt h1 (by omega) (by omega), A1, h3]
 rfl

theorem Aes {a b : Nat} (hb : 0 < b) (hr : 0 < a % b) {j : Nat} (h : b < 2 ^ (j + 1)) : b % (a % b) < 2 ^ j := by
 have h1 := Nat.mod_lt a hb
 have h2 := Nat.mod_lt b hr
 have h3 := Nat.div_add_mod b (a % b)
 generalize a % b = r at *
 have h4 : 1 ≤ b / r := by rw [Nat.le_div_iff_mul_le hr]; omega
 have h5 : r * 1 ≤ r * (b / r) := Nat.mul_le_mul_left r h4
 rw [Nat.pow_succ] at h
 omega

theorem B5i {α : Type} {n L : Nat} (hL : L ≤ 1099511627000) (hn : L + 10040 ≤ n) {k0 : List Int → Option α} :
  ∀ (j m a b : Nat), b < 2 ^ j → 2 * j + 1 ≤ m → (dg a).length ≤ L → (dg b).length ≤ L → J7 n m (dg a) (dg b) k0 = k0 (dg (Nat.gcd b a)) := by
 have stop : ∀ (m a : Nat), 0 < m → J7 n m (dg a) (dg 0) k0 = k0 (dg (Nat.gcd 0 a)) := fun m a hm => by
  obtain ⟨m, rfl⟩ : ∃ m', m = m' + 1 := ⟨m - 1, by omega⟩
  rw [Ab6, Nat.gcd_zero_left, Bs]; rfl
 have step : ∀ (m a b : Nat), 0 < b → (dg a).length ≤ L → (dg b).length ≤ L → J7 n (m + 1) (dg a) (dg b) k0 = J7 n m (dg b) (dg (a % b)) k0 := fun m a b hb ha hbl => by
  rw [Ab6]
  unfold A22
  have : 0 < (dg b).length := by rw [Cr (by omega)]; simp
  rw [Bool.cond_decide, if_pos (by omega), A4t hb ha hbl hL hn, A1]
 intro j
 induction j with
 | zero =>
  intro m a b h1 h2 h3 h4
  obtain rfl : b = 0 := by simpa using h1
  exact stop m a (by omega)
 | succ j ih =>
  intro m a b h1 h2 h3 h4
  rcases Nat.eq_zero_or_pos b with rfl | hb
  · exact stop m a (by omega)
  obtain ⟨m, rfl⟩ : ∃ m', m = m' + 2 := ⟨m - 2, by omega⟩
  have h5 : (dg (a % b)).length ≤ L := Nat.le_trans (Aw (Nat.le_of_lt (Nat.mod_lt a hb))) h4
  rw [step _ _ _ hb h3 h4, Nat.gcd_rec b a]
  rcases Nat.eq_zero_or_pos (a % b) with hr | hr
  · rw [hr]; exact stop _ _ (by omega)
  have h6 : (dg (b % (a % b))).length ≤ L := Nat.le_trans (Aw (Nat.le_of_lt (Nat.mod_lt b hr))) h5
  rw [step _ _ _ hr h4 h5, Nat.gcd_rec (a % b) b]
  exact ih m _ _ (Aes hb hr h1) (by omega) h5 h6

theorem Ajm {b L : Nat} (h : b < 10000 ^ L) : b < 2 ^ (14 * L) := by
 rw [Nat.pow_mul]
 exact Nat.lt_of_lt_of_le h (Nat.pow_le_pow_left (by decide) L)

theorem Alj {n L a b : Nat} (hL : L ≤ 1099511627000) (hn : 28 * L + 10040 ≤ n) (ha : (dg a).length ≤ L) (hb : (dg b).length ≤ L) : f190 n (dg a) (dg b) = some (dg (Nat.gcd a b)) := by
 unfold f190
 have h1 : (dg (Nat.gcd b a)).length ≤ L := by
  rcases Nat.eq_zero_or_pos b with rfl | h
  · rw [Nat.gcd_zero_left]; exact ha
  · exact Nat.le_trans (Aw (Nat.gcd_le_left a h)) hb
 rw [B5i hL (by omega) (14 * L) n a b (Ajm (L4 hb)) (by omega) ha hb, A3 (by simp; try omega), Nat.gcd_comm]

theorem P2 {pre w post : List Int} {i : Nat} (h : i < w.length) : (pre ++ w ++ post).getD (pre.length + i) 0 = w.getD i 0 := by
 rw [List.append_assoc, List.getD_eq_getElem?_getD, List.getElem?_append_right (by omega), Nat.add_sub_cancel_left, List.getElem?_append_left h, ← List.getD_eq_getElem?_getD]

theorem Ajs {pre w post : List Int} {i : Nat} (h : i < w.length) (x : Int) : (pre ++ w ++ post).set (pre.length + i) x = pre ++ w.set i x ++ post := by
 rw [List.append_assoc, List.set_append_right _ _ (by omega), Nat.add_sub_cancel_left, List.set_append_left _ _ h, List.append_assoc]

theorem Aw5 {y : Int} (h : y < 0) (h' : -1099511627776 < y) : W (Int.tdiv (W (W (y - 10000) + 1)) 10000) = y / 10000 := by
 rw [A9 (x := y - 10000) (by omega) (by omega), A9 (x := y - 10000 + 1) (by omega) (by omega)]
 have : Int.tdiv (y - 10000 + 1) 10000 = y / 10000 := by
  rw [show y - 10000 + 1 = -(9999 - y) by omega, Int.neg_tdiv, Int.tdiv_eq_ediv_of_nonneg (by omega)]
  omega
 rw [this, A9 (by omega) (by omega)]

theorem Awy {o P q c wi bi v' T y d r : Int} (h : o + P * (c - q * (bi + 10000 * v')) = T) (hy : y = wi + c - q * bi) (hd : y = 10000 * d + r) : o + P * (r - wi) + 10000 * P * (d - q * v') = T := by
 grind

theorem Aq4 {o P c wi bi v' T y d r : Int} (h : o + P * (c + (bi + 10000 * v')) = T) (hy : y = wi + c + bi) (hd : y = 10000 * d + r) : o + P * (r - wi) + 10000 * P * (d + v') = T := by
 grind

theorem A0l {l : List Int} (k : Nat) : vl (l.drop k) = l.getD k 0 + 10000 * vl (l.drop (k + 1)) := by
 rcases Nat.lt_or_ge k l.length with h | h
 · exact Kw h
 · rw [List.drop_of_length_le h, List.drop_of_length_le (by omega), Bc h]; rfl

theorem Apj {α : Type} {n N : Nat} {b pre post : List Int} (hb : Lm b) (hbN : b.length = N) (hN : pre.length + N + 1 + post.length ≤ 1099511627776) {q : Int} (hq : 0 ≤ q ∧ q < 10000) {T : Int} {k0 : Nat → Nat → List Int → Int → Int → Int → List Int → Option α} :
  ∀ (m i : Nat) (c : Int) (w : List Int), Lm w → w.length = N + 1 → -9999 ≤ c → c ≤ 0 → i ≤ N + 1 → vl w + 10000 ^ i * (c - q * vl (b.drop i)) = T → N + 2 ≤ i + m →
  ∃ w' c', Lm w' ∧ w'.length = N + 1 ∧ c' ≤ 0 ∧ vl w' + 10000 ^ (N + 1) * c' = T ∧ Fj n m pre.length (N + 1) b (b.length : Int) q c ((N + 1 : Nat) : Int) (i : Int) (pre ++ w ++ post) k0 = k0 pre.length (N + 1) b (b.length : Int) q c' (pre ++ w' ++ post)
 | 0, i, c, w, h1, h2, h3, h4, h5, h6, h7 => by omega
 | m + 1, i, c, w, h1, h2, h3, h4, h5, h6, h7 => by
  rw [An7]
  unfold W9
  dsimp only
  by_cases hi : i < N + 1
  · rw [Bool.cond_decide, if_pos (by omega)]
    simp only [Int.toNat_natCast]
    rw [A3 (by simp; try omega), A3 (by simp; try omega)]
    simp only [P2 (pre := pre) (post := post) (w := w) (i := i) (by omega)]
    have g1 := h1.get i
    have g2 := hb.get i
    have g3 := A0x hq g2
    have go : ∀ y : Int, y = w.getD i 0 + c - q * b.getD i 0 →
      ∃ w' c', Lm w' ∧ w'.length = N + 1 ∧ c' ≤ 0 ∧ vl w' + 10000 ^ (N + 1) * c' = T ∧ 
      (bif (decide (y < 0)) then (gd (decide (0 ≤ (i : Int)) && decide ((i : Int) < ((N + 1 : Nat) : Int))) (
        gd (decide ((pre.length + i) < (pre ++ w ++ post).length)) (
         Fj n m pre.length (N + 1) b (b.length : Int) q (W (Int.tdiv (W ((W (y - 10000)) + 1)) 10000)) ((N + 1 : Nat) : Int) (W ((i : Int) + 1)) ((pre ++ w ++ post).set (pre.length + i) (W (y - (W ((W (Int.tdiv (W ((W (y - 10000)) + 1)) 10000)) * 10000))))) k0)))
       else (gd (decide (0 ≤ (i : Int)) && decide ((i : Int) < ((N + 1 : Nat) : Int))) (
        gd (decide ((pre.length + i) < (pre ++ w ++ post).length)) (
         Fj n m pre.length (N + 1) b (b.length : Int) q 0 ((N + 1 : Nat) : Int) (W ((i : Int) + 1)) ((pre ++ w ++ post).set (pre.length + i) (W (y - (W (0 * 10000))))) k0)))) = k0 pre.length (N + 1) b (b.length : Int) q c' (pre ++ w' ++ post) := by
     intro y hy
     have hd : y = 10000 * (y / 10000) + y % 10000 := by omega
     have go2 : ∀ d : Int, d = y / 10000 → ∃ w' c', Lm w' ∧ w'.length = N + 1 ∧ c' ≤ 0 ∧ vl w' + 10000 ^ (N + 1) * c' = T ∧ (gd (decide (0 ≤ (i : Int)) && decide ((i : Int) < ((N + 1 : Nat) : Int))) (
           gd (decide ((pre.length + i) < (pre ++ w ++ post).length)) (
            Fj n m pre.length (N + 1) b (b.length : Int) q d ((N + 1 : Nat) : Int) (W ((i : Int) + 1)) ((pre ++ w ++ post).set (pre.length + i) (W (y - (W (d * 10000))))) k0))) = k0 pre.length (N + 1) b (b.length : Int) q c' (pre ++ w' ++ post) := by
      intro d hdd
      rw [A3 (by simp; try omega), A3 (by simp; try omega), Ajs (by omega), A9 (x := d * 10000) (by omega) (by omega), A9 (x := y - d * 10000) (by omega) (by omega), A9 (x := (i : Int) + 1) (by omega) (by omega)]
      refine Apj (n := n) hb hbN hN hq m (i + 1) d _ (h1.set _ (by omega)) (by simpa using h2) (by omega) (by omega) (by omega) ?_ (by omega)
      rw [Jv _ (by omega), Bl]
      refine Awy (bi := b.getD i 0) ?_ hy (by omega)
      rw [← A0l]; exact h6
     rw [Bool.cond_decide]
     by_cases hneg : y < 0
     · rw [if_pos hneg]
       simp only [Aw5 hneg (by omega)]
       exact go2 _ rfl
     · rw [if_neg hneg]
       exact go2 0 (by omega)
    by_cases hB : i < b.length
    · have dB : decide ((i : Int) < (b.length : Int)) = true := by rw [decide_eq_true_eq]; omega
      simp only [dB, cond_true]
      rw [A3 (by simp; try omega)]
      simp only [A9 (x := q * b.getD i 0) (by omega) (by omega), A9 (x := w.getD i 0 + c) (by omega) (by omega), A9 (x := w.getD i 0 + c - q * b.getD i 0) (by omega) (by omega)]
      exact go _ rfl
    · have dB : decide ((i : Int) < (b.length : Int)) = false := by rw [decide_eq_false_iff_not]; omega
      simp only [dB, cond_false]
      simp only [A9 (x := w.getD i 0 + c) (by omega) (by omega)]
      exact go _ (by rw [Bc (l := b) (by omega)]; omega)
  · rw [Bool.cond_decide, if_neg (by omega)]
    obtain rfl : i = N + 1 := by omega
    rw [List.drop_of_length_le (by omega)] at h6
    exact ⟨w, c, h1, h2, h4, by simpa [vl] using h6, rfl⟩

theorem Ajn {α : Type} {n N : Nat} {b pre post : List Int} (hb : Lm b) (hbN : b.length = N) (hN : pre.length + N + 1 + post.length ≤ 1099511627776) {q z : Int} {T : Int} {k0 : Nat → Nat → List Int → Int → Int → Int → Int → List Int → Option α} :
  ∀ (m i : Nat) (c : Int) (w : List Int), Lm w → w.length = N + 1 → 0 ≤ c → c ≤ 1 → i ≤ N + 1 → vl w + 10000 ^ i * (c + vl (b.drop i)) = T → N + 2 ≤ i + m →
  ∃ w' c', Lm w' ∧ w'.length = N + 1 ∧ 0 ≤ c' ∧ c' ≤ 1 ∧ vl w' + 10000 ^ (N + 1) * c' = T ∧ Hc n m pre.length (N + 1) b (b.length : Int) q z c ((N + 1 : Nat) : Int) (i : Int) (pre ++ w ++ post) k0 = k0 pre.length (N + 1) b (b.length : Int) q z c' (pre ++ w' ++ post)
 | 0, i, c, w, h1, h2, h3, h4, h5, h6, h7 => by omega
 | m + 1, i, c, w, h1, h2, h3, h4, h5, h6, h7 => by
  rw [Aig]
  unfold Rg
  dsimp only
  by_cases hi : i < N + 1
  · rw [Bool.cond_decide, if_pos (by omega)]
    simp only [Int.toNat_natCast]
    rw [A3 (by simp; try omega), A3 (by simp; try omega), P2 (by omega)]
    have g1 := h1.get i
    have g2 := hb.get i
    have go : ∀ y : Int, y = w.getD i 0 + c + b.getD i 0 → ∃ w' c', Lm w' ∧ w'.length = N + 1 ∧ 0 ≤ c' ∧ c' ≤ 1 ∧ vl w' + 10000 ^ (N + 1) * c' = T ∧ (gd (decide (0 ≤ (i : Int)) && decide ((i : Int) < ((N + 1 : Nat) : Int))) (
            gd (decide ((pre.length + i) < (pre ++ w ++ post).length)) (
             Hc n m pre.length (N + 1) b (b.length : Int) q z (W (Int.tdiv y 10000)) ((N + 1 : Nat) : Int) (W ((i : Int) + 1)) ((pre ++ w ++ post).set (pre.length + i) (Int.tmod y 10000)) k0))) = k0 pre.length (N + 1) b (b.length : Int) q z c' (pre ++ w' ++ post) := by
     intro y hy
     have hd : y = 10000 * (y / 10000) + y % 10000 := by omega
     rw [A3 (by simp; try omega), A3 (by simp; try omega), Ajs (by omega), tdv (by omega), tmd (by omega), A9 (x := y / 10000) (by omega) (by omega), A9 (x := (i : Int) + 1) (by omega) (by omega)]
     refine Ajn (n := n) hb hbN hN m (i + 1) _ _ (h1.set _ (by omega)) (by simpa using h2) (by omega) (by omega) (by omega) ?_ (by omega)
     rw [Jv _ (by omega), Bl]
     refine Aq4 (bi := b.getD i 0) ?_ hy hd
     rw [← A0l]; exact h6
    by_cases hB : i < b.length
    · have dB : decide ((i : Int) < (b.length : Int)) = true := by rw [decide_eq_true_eq]; omega
      simp only [dB, cond_true]
      rw [A3 (by simp; try omega)]
      simp only [A9 (x := w.getD i 0 + c) (by omega) (by omega), A9 (x := w.getD i 0 + c + b.getD i 0) (by omega) (by omega)]
      exact go _ rfl
    · have dB : decide ((i : Int) < (b.length : Int)) = false := by rw [decide_eq_false_iff_not]; omega
      simp only [dB, cond_false]
      simp only [A9 (x := w.getD i 0 + c) (by omega) (by omega)]
      exact go _ (by rw [Bc (l := b) (by omega)]; omega)
  · rw [Bool.cond_decide, if_neg (by omega)]
    obtain rfl : i = N + 1 := by omega
    rw [List.drop_of_length_le (by omega)] at h6
    exact ⟨w, c, h1, h2, h3, h4, by simpa [vl] using h6, rfl⟩

theorem Azw {P v c R qB : Int} (h1 : v < P) (hP : 0 < P) (h : v + P * c = R - qB) (hc : c < 0) : R - qB < 0 := by
 have : P * c ≤ P * (-1) := Int.mul_le_mul_of_nonneg_left (by omega) (by omega)
 omega

theorem Azx {P v c R q B : Int} (h0 : v < P) (h : v + P * c = R - q * B) (hB : 0 ≤ B) (hBP : B < P) (hR : 0 ≤ R) (hq : q < 10000) (hq0 : 0 ≤ q) : -10000 ≤ c := by
 have h9 : q * B ≤ 10000 * B := Int.mul_le_mul_of_nonneg_right (by omega) (by omega)
 rcases Int.lt_or_le c (-10000) with h1 | h1
 · have h8 : P * c ≤ P * (-10001) := Int.mul_le_mul_of_nonneg_left (by omega) (by omega)
   exfalso
   omega
 · exact h1

theorem Azv {v v' x x' R qB B : Int} (h : v + x = R - qB) (h' : v' + x' = v + B) : v' + (x + x') = R - (qB - B) := by omega

theorem Al3 {α : Type} {n N R B : Nat} {pre post : List Int} (hB : 0 < B) (hbN : (dg B).length = N) (hN : pre.length + N + 1 + post.length ≤ 1099511627776) (hn : N + 2 ≤ n) {k0 : Int → List Int → Option α} :
  ∀ (m q : Nat) (c : Int) (w : List Int), Lm w → w.length = N + 1 → c ≤ 0 → vl w + 10000 ^ (N + 1) * c = (R : Int) - q * B → R / B ≤ q → q < 10000 → q < m →
  ∃ w', Lm w' ∧ w'.length = N + 1 ∧ vl w' = ((R % B : Nat) : Int) ∧ Hd n m pre.length (N + 1) (dg B) ((dg B).length : Int) (q : Int) c (pre ++ w ++ post) k0 = k0 ((R / B : Nat) : Int) (pre ++ w' ++ post)
 | 0, q, c, w, h1, h2, h3, h4, h5, h6, h7 => by omega
 | m + 1, q, c, w, h1, h2, h3, h4, h5, h6, h7 => by
  rw [Aii]
  unfold Rk
  dsimp only
  have hw := Gy h1
  have hw0 := B6 h1
  rw [h2] at hw
  rw [Bool.cond_decide]
  have hP := Es (N + 1)
  have hBP := A4z B
  rw [hbN] at hBP
  have hdm := Nat.div_add_mod R B
  have hml := Nat.mod_lt R hB
  by_cases hc : c < 0
  · rw [if_pos hc]
    have hneg := Azw hw hP h4 hc
    have hlt : R / B < q := by
     rw [Nat.div_lt_iff_lt_mul hB]
     have : ((q * B : Nat) : Int) = (q : Int) * B := Int.natCast_mul q B
     omega
    have hq0 : 0 < q := Nat.lt_of_le_of_lt (Nat.zero_le _) hlt
    have hBi : (B : Int) < 10000 ^ N := by rw [← pwc]; omega
    have hBP' : (B : Int) < 10000 ^ (N + 1) := by
     have := Xu (show N ≤ N + 1 by omega)
     omega
    have hcm := Azx (q := (q : Int)) hw h4 (by omega) hBP' (by omega) (by omega) (by omega)
    rw [A9 (x := (q : Int) - 1) (by omega) (by omega), show (q : Int) - 1 = ((q - 1 : Nat) : Int) by omega]
    obtain ⟨w', c', q1, q2, q3, q4, q5, q6⟩ := Ajn (n := n) (Cw B) hbN hN (q := ((q - 1 : Nat) : Int)) (z := c) (T := vl w + B) (k0 := fun z_12 z_13 z_14 z_15 z_16 z_17 z_18 z_19 => (
     Hd n m z_12 z_13 z_14 z_15 z_16 (W (z_17 + z_18)) z_19 k0)) n 0 0 w h1 h2 (by omega) (by omega) (by omega) (by rw [List.drop_zero, B0, Int.pow_zero, Int.one_mul, Int.zero_add]) (by omega)
    have q6 : Hc n n pre.length (N + 1) (dg B) ((dg B).length : Int) ((q - 1 : Nat) : Int) c 0 ((N + 1 : Nat) : Int) 0 (pre ++ w ++ post) _ = _ := q6
    rw [q6]
    have hq1 : ((q - 1 : Nat) : Int) * B = q * B - B := by
     rw [show ((q - 1 : Nat) : Int) = (q : Int) - 1 by omega, Int.sub_mul, Int.one_mul]
    have hnew : vl w' + 10000 ^ (N + 1) * (c + c') = (R : Int) - ((q - 1 : Nat) : Int) * B := by
     rw [Int.mul_add, hq1]
     exact Azv h4 q5
    rw [A9 (x := c + c') (by omega) (by omega)]
    exact Al3 hB hbN hN hn m (q - 1) (c + c') w' q1 q2 (by omega) hnew (by omega) (by omega) (by omega)
  · rw [if_neg hc]
    obtain rfl : c = 0 := by omega
    rw [Int.mul_zero, Int.add_zero] at h4
    have e : R / B = q := by
     refine Nat.le_antisymm h5 ?_
     rw [Nat.le_div_iff_mul_le hB]
     have : ((q * B : Nat) : Int) = (q : Int) * B := Int.natCast_mul q B
     omega
    refine ⟨w, h1, h2, ?_, by rw [e]⟩
    have : ((B * q : Nat) : Int) = (q : Int) * B := by rw [Int.natCast_mul, Int.mul_comm]
    rw [e] at hdm
    omega

theorem B8z {P lowR lowB high top t R B : Int} (hR : R = lowR + P * high) (hB : B = lowB + P * top) (h1 : lowR < P) (h2 : 0 ≤ lowB) (hP : 0 < P) (ht : 0 ≤ t) (hle : t * B ≤ R) : t * top ≤ high := by
 have h3 : t * (P * top) ≤ t * B := Int.mul_le_mul_of_nonneg_left (by omega) ht
 have h4 : P * (t * top) < P * (high + 1) := by
  rw [Int.mul_add, Int.mul_one, show P * (t * top) = t * (P * top) by grind]; omega
 have := Int.lt_of_mul_lt_mul_left h4 (by omega)
 omega

theorem Az6 {n M R B : Nat} {pre w post : List Int} (hbN : (dg B).length = M + 2) (hN : pre.length + (M + 2) + 1 + post.length ≤ 1099511627776) (hn : M + 10010 ≤ n) (hw : Lm w) (hwl : w.length = M + 3) (hv : vl w = (R : Int)) (hR : R < 10000 * B) :
  ∃ w', Lm w' ∧ w'.length = M + 3 ∧ vl w' = ((R % B : Nat) : Int) ∧ Adc n (pre ++ w ++ post, pre.length, M + 3) (dg B) = some (((R / B : Nat) : Int), pre ++ w' ++ post) := by
 have hB : 0 < B := by omega
 unfold Adc
 dsimp only
 rw [hbN]
 rw [A9 (x := ((M + 2 : Nat) : Int) - 1) (by omega) (by omega), A9 (x := ((M + 2 : Nat) : Int) - 2) (by omega) (by omega), show ((M + 2 : Nat) : Int) - 1 = ((M + 1 : Nat) : Int) by omega, show ((M + 2 : Nat) : Int) - 2 = (M : Int) by omega]
 simp only [Int.toNat_natCast]
 have hb := Cw B
 have g0 := hw.get (M + 2)
 have g1 := hw.get (M + 1)
 have g2 := hw.get M
 have b1 := hb.get (M + 1)
 have b2 := hb.get M
 have bt : (dg B).getD (M + 1) 0 ≠ 0 := by
  have := (Fg B).2 (List.length_pos_iff.1 (by omega))
  rw [hbN] at this
  exact this
 rw [A3 (by simp; try omega), A3 (by simp; try omega), A3 (by simp; try omega), A3 (by simp; try omega), A3 (by simp; try omega), A3 (by simp; try omega), A3 (by simp; try omega), A3 (by simp; try omega)]
 simp only [P2 (pre := pre) (post := post) (w := w) (i := M + 2) (by omega), P2 (pre := pre) (post := post) (w := w) (i := M + 1) (by omega), P2 (pre := pre) (post := post) (w := w) (i := M) (by omega)]
 simp only [A9 (x := (dg B).getD (M + 1) 0 * 10000) (by omega) (by omega), A9 (x := (dg B).getD (M + 1) 0 * 10000 + (dg B).getD M 0) (by omega) (by omega), A9 (x := w.getD (M + 2) 0 * 10000) (by omega) (by omega), A9 (x := w.getD (M + 2) 0 * 10000 + w.getD (M + 1) 0) (by omega) (by omega), A9 (x := (w.getD (M + 2) 0 * 10000 + w.getD (M + 1) 0) * 10000) (by omega) (by omega), A9 (x := (w.getD (M + 2) 0 * 10000 + w.getD (M + 1) 0) * 10000 + w.getD M 0) (by omega) (by omega)]
 rw [A3 (by simp only [decide_eq_true_eq]; omega)]
 have vw : (R : Int) = vl (w.take M) + 10000 ^ M * ((w.getD (M + 2) 0 * 10000 + w.getD (M + 1) 0) * 10000 + w.getD M 0) := by
  have t1 := B8 w (M + 2)
  have t2 := B8 w (M + 1)
  have t3 := B8 w M
  rw [It w (by omega), hv] at t1
  rw [t1, t2, t3, Bl, Bl]
  grind
 have vb : (B : Int) = vl ((dg B).take M) + 10000 ^ M * ((dg B).getD (M + 1) 0 * 10000 + (dg B).getD M 0) := by
  have t2 := B8 (dg B) (M + 1)
  have t3 := B8 (dg B) M
  rw [It (dg B) (by omega), B0] at t2
  rw [t2, t3, Bl]
  grind
 have lw := Gy (hw.take M)
 rw [List.length_take, Nat.min_eq_left (by omega)] at lw
 have lb := B6 (hb.take M)
 generalize hhigh : (w.getD (M + 2) 0 * 10000 + w.getD (M + 1) 0) * 10000 + w.getD M 0 = high at *
 generalize htop : (dg B).getD (M + 1) 0 * 10000 + (dg B).getD M 0 = top at *
 have htop0 : 0 < top := by omega
 have hh0 : 0 ≤ high ∧ high < 1000000000000 := by omega
 rw [Int.tdiv_eq_ediv_of_nonneg (by omega)]
 have hd0 : 0 ≤ high / top := Int.ediv_nonneg (by omega) (by omega)
 have hd1 : high / top ≤ high := Int.ediv_le_self _ (by omega)
 rw [A9 (x := high / top) (by omega) (by omega)]
 obtain ⟨q, hq⟩ : ∃ q : Nat, min (high / top) 9999 = (q : Int) := ⟨(min (high / top) 9999).toNat, by omega⟩
 have hql : q < 10000 := by omega
 have hqr : R / B ≤ q := by
  have h1 : (((R / B : Nat) : Int)) * top ≤ high := by
   refine B8z vw vb lw lb (Es M) (Int.natCast_nonneg _) ?_
   have := Nat.div_mul_le_self R B
   rw [← Int.natCast_mul]; omega
  have h2 : ((R / B : Nat) : Int) ≤ high / top := by rw [Int.le_ediv_iff_mul_le htop0]; exact h1
  have h3 : R / B < 10000 := by rw [Nat.div_lt_iff_lt_mul hB]; omega
  omega
 rw [hq]
 obtain ⟨w1, c1, r1, r2, r3, r4, r5⟩ := Apj (n := n) (N := M + 2) (b := dg B) (pre := pre) (post := post) hb hbN hN (q := (q : Int)) (by omega) (T := (R : Int) - q * B) (k0 := fun z_5 z_6 z_7 z_8 z_9 z_10 z_11 => (
                       Hd n n z_5 z_6 z_7 z_8 z_9 z_10 z_11
                        (fun z_20 z_21 => (
                         some (z_20, z_21))))) n 0 0 w hw hwl (by omega) (by omega) (by omega) (by rw [List.drop_zero, B0, hv, Int.pow_zero, Int.one_mul, Int.zero_sub, Int.sub_eq_add_neg]) (by omega)
 obtain ⟨w2, s1, s2, s3, s4⟩ := Al3 (n := n) (N := M + 2) (R := R) (B := B) (pre := pre) (post := post) hB hbN hN (by omega) (k0 := fun z_20 z_21 => (some (z_20, z_21))) n q c1 w1 r1 r2 r3 r4 hqr hql (by omega)
 refine ⟨w2, s1, s2, s3, ?_⟩
 rw [hbN] at r5 s4
 have r5 : Fj n n pre.length (M + 3) (dg B) ((M + 2 : Nat) : Int) (q : Int) 0 ((M + 3 : Nat) : Int) 0 (pre ++ w ++ post) _ = _ := r5
 rw [r5]
 exact s4

theorem B8q (y b : Nat) : Int.tdiv (y : Int) (b : Int) = ((y / b : Nat) : Int) := by
 rw [Int.tdiv_eq_ediv_of_nonneg (by omega), Int.natCast_ediv]

theorem B8p (y b : Nat) : Int.tmod (y : Int) (b : Int) = ((y % b : Nat) : Int) := by
 rw [Int.tmod_eq_emod_of_nonneg (by omega), Int.natCast_emod]

theorem Ajg {o : List Int} {k i : Nat} {x : Int} (h : ∀ i, i < k + 1 → o.getD i 0 = 0) (hi : i < k) : (o.set k x).getD i 0 = 0 := by
 rw [List.getD_eq_getElem?_getD, List.getElem?_set_ne (by omega), ← List.getD_eq_getElem?_getD]
 exact h i (by omega)

theorem Adt {Q B R x q r y : Nat} (hy : x + 10000 * R = y) (hqr : B * q + r = y) {V : Int} (hV : (Q : Int) * B + R = V) : ((10000 * Q + q : Nat) : Int) * B + r = x + 10000 * V := by
 have : (B : Int) * q + r = x + 10000 * R := by
  rw [← Ad6, hy, ← hqr, Int.natCast_add, Int.natCast_mul]
 rw [A4x, ← hV]
 grind

theorem Aq9 {α : Type} {n A B : Nat} (hB : 0 < B) (hB1 : B < 10000) (hlA : (dg A).length ≤ 1099511627000) {k0 : Int → List Int → Option α} :
  ∀ (k Q R : Nat) (o : List Int), k ≤ (dg A).length → R < B → o.length = (dg A).length → Lm o → (∀ i, i < k → o.getD i 0 = 0) → vl o = 10000 ^ k * (Q : Int) → (Q : Int) * B + R = vl ((dg A).drop k) →
  ∃ o', Lm o' ∧ o'.length = (dg A).length ∧ vl o' = ((A / B : Nat) : Int) ∧ J8 n (dg A) k (dg A) [(B : Int)] (R : Int) o k0 = k0 ((A % B : Nat) : Int) o'
 | 0, Q, R, o, h2, h3, h4, h5, h6, h7, h8 => by
  rw [Ati]
  rw [List.drop_zero, B0] at h8
  have h8 : Q * B + R = A := by
   have : ((Q * B + R : Nat) : Int) = A := by rw [Int.natCast_add, Int.natCast_mul]; exact h8
   omega
  have h9 : A / B = Q := by rw [← h8, Nat.add_comm, Nat.add_mul_div_right _ _ hB, Nat.div_eq_of_lt h3, Nat.zero_add]
  have h10 : A % B = R := by rw [← h8, Nat.mul_add_mod_self_right, Nat.mod_eq_of_lt h3]
  exact ⟨o, h5, h4, by rw [h7, h9]; simp, by rw [h10]⟩
 | k + 1, Q, R, o, h2, h3, h4, h5, h6, h7, h8 => by
  rw [Atg]
  unfold A2i
  dsimp only
  have hg := (Cw A).get k
  obtain ⟨x, hx⟩ : ∃ x : Nat, (dg A).getD k 0 = (x : Int) := ⟨((dg A).getD k 0).toNat, by omega⟩
  have hRx : vl ((dg A).drop k) = (x : Int) + 10000 * vl ((dg A).drop (k + 1)) := by
   rw [Kw (by omega), hx]
  simp only [Int.toNat_natCast]
  rw [A3 (by simp; try omega), A3 (by simp; omega), A3 (by simp; try omega), A3 (by simp; omega), A3 (by simp; try omega), A3 (by simp; try omega), A3 (by simp), hx]
  rw [A9 (x := (R : Int) * 10000) (by omega) (by omega), A9 (x := (R : Int) * 10000 + (x : Int)) (by omega) (by omega), show (R : Int) * 10000 + (x : Int) = ((x + 10000 * R : Nat) : Int) by omega]
  have e0 : ([(B : Int)]).getD 0 0 = (B : Int) := rfl
  rw [e0, B8q, B8p]
  have hq : (x + 10000 * R) / B < 10000 := by
   rw [Nat.div_lt_iff_lt_mul hB]; omega
  have hqr := Nat.div_add_mod (x + 10000 * R) B
  have hqm := Nat.mod_lt (x + 10000 * R) hB
  generalize (x + 10000 * R) / B = q at *
  generalize (x + 10000 * R) % B = r at *
  rw [A9 (x := (q : Int)) (by omega) (by omega)]
  refine Aq9 hB hB1 hlA k (10000 * Q + q) r _ (by omega) hqm (by simpa using h4) (h5.set _ (by omega)) (fun i hi => Ajg h6 hi) ?_ ?_
  · rw [Jv _ (by omega), h7, h6 k (by omega), Bl, A4x]
    generalize (10000 : Int) ^ k = P
    grind
  · rw [hRx, ← h8]
    exact Adt rfl hqr rfl

theorem Ajv {α : Type} {n A B M : Nat} (hM : (dg B).length = M + 2) (hla : (dg B).length ≤ (dg A).length) (hlA : (dg A).length ≤ 1099511627000) (hn : (dg A).length + 10040 ≤ n) {k0 : List Int → List Int → Option α} :
  ∀ (k m Q R : Nat) (o u : List Int), k < m → k ≤ (dg A).length - (M + 1) → R < B → o.length = (dg A).length - (M + 1) → Lm o → (∀ i, i < k → o.getD i 0 = 0) → vl o = 10000 ^ k * (Q : Int) →
  Lm u → u.length + k = (dg A).length + 1 → vl u = (R : Int) → (Q : Int) * B + R = vl ((dg A).drop k) →
  ∃ o' u', Lm o' ∧ o'.length = (dg A).length - (M + 1) ∧ vl o' = ((A / B : Nat) : Int) ∧ Lm u' ∧ u'.length = (dg A).length + 1 ∧ vl u' = ((A % B : Nat) : Int) ∧
   Rz n m ((dg B).length : Int) ((k : Int) - 1) (dg B) o ((dg A).take k ++ u) k0 = k0 o' u'
 | _, 0, _, _, _, _, h1, _, _, _, _, _, _, _, _, _, _ => by omega
 | 0, m + 1, Q, R, o, u, h1, h2, h3, h4, h5, h6, h7, u1, u2, u3, h8 => by
  rw [A61]
  unfold Nv
  dsimp only
  rw [Bool.cond_decide, if_neg (by omega)]
  rw [List.drop_zero, B0] at h8
  have h8 : Q * B + R = A := by
   have : ((Q * B + R : Nat) : Int) = A := by rw [Int.natCast_add, Int.natCast_mul]; exact h8
   omega
  have hB : 0 < B := by omega
  have h9 : A / B = Q := by rw [← h8, Nat.add_comm, Nat.add_mul_div_right _ _ hB, Nat.div_eq_of_lt h3, Nat.zero_add]
  have h10 : A % B = R := by rw [← h8, Nat.mul_add_mod_self_right, Nat.mod_eq_of_lt h3]
  exact ⟨o, u, h5, h4, by rw [h7, h9]; simp, u1, by omega, by rw [u3, h10], by simp⟩
 | k + 1, m + 1, Q, R, o, u, h1, h2, h3, h4, h5, h6, h7, u1, u2, u3, h8 => by
  rw [A61]
  unfold Nv
  dsimp only
  have hB : 0 < B := by omega
  rw [Bool.cond_decide, if_pos (by omega)]
  rw [show (((k + 1 : Nat) : Int) - 1) = (k : Int) by omega]
  have hg := (Cw A).get k
  obtain ⟨x, hx⟩ : ∃ x : Nat, (dg A).getD k 0 = (x : Int) := ⟨((dg A).getD k 0).toNat, by omega⟩
  have hRx : vl ((dg A).drop k) = (x : Int) + 10000 * vl ((dg A).drop (k + 1)) := by
   rw [Kw (by omega), hx]
  have htk : (dg A).take (k + 1) ++ u = (dg A).take k ++ ((x : Int) :: u) := by
   rw [List.take_succ_eq_append_getElem (by omega), List.append_assoc]
   congr 1
   rw [← hx, List.getD_eq_getElem?_getD, List.getElem?_eq_getElem (by omega)]
   rfl
  have hL : Lm ((x : Int) :: u) := Lm.cons (by omega) u1
  have hv : vl ((x : Int) :: u) = ((x + 10000 * R : Nat) : Int) := by rw [vl, u3, Ad6]
  have hlt : x + 10000 * R < 10000 * B := by omega
  obtain ⟨w, post, hwp, hw, hp, hwl⟩ : ∃ w post, (x : Int) :: u = w ++ post ∧ Lm w ∧ Lm post ∧ w.length = M + 3 :=
   ⟨((x : Int) :: u).take (M + 3), ((x : Int) :: u).drop (M + 3), (List.take_append_drop _ _).symm, hL.take _, hL.drop _, by rw [List.length_take, List.length_cons]; omega⟩
  have hlp : w.length + post.length = u.length + 1 := by
   have := congrArg List.length hwp
   simpa using this.symm
  have hvp : vl post = 0 := by
   have e := hv
   rw [hwp, A4k, hwl] at e
   have h10 : B < 10000 ^ (M + 2) := L4 (by omega)
   have h11 : ((x + 10000 * R : Nat) : Int) < 10000 ^ (M + 3) := by
    rw [Bl, ← pwc]; omega
   have h12 := B6 hw
   have h13 := B6 hp
   rcases Int.lt_or_eq_of_le h13 with h | h
   · exfalso
     have h14 : (10000 : Int) ^ (M + 3) * 1 ≤ 10000 ^ (M + 3) * vl post := Int.mul_le_mul_of_nonneg_left (by omega) (by have := Es (M + 3); omega)
     generalize (10000 : Int) ^ (M + 3) * vl post = z at *
     generalize (10000 : Int) ^ (M + 3) = P at *
     omega
   · exact h.symm
  have hvw : vl w = ((x + 10000 * R : Nat) : Int) := by
   rw [← hv, hwp, A4k, hvp]; simp
  rw [htk, hwp, ← List.append_assoc]
  have hpl : ((dg A).take k).length = k := by rw [List.length_take]; omega
  obtain ⟨w', q1, q2, q3, q4⟩ := Az6 (n := n) (pre := (dg A).take k) (post := post) hM (by omega) (by omega) hw hwl hvw hlt
  rw [hpl] at q4
  rw [A9 (x := (k : Int) + ((dg B).length : Int)) (by omega) (by omega), A9 (x := (k : Int) + ((dg B).length : Int) + 1) (by omega) (by omega)]
  rw [A3 (by simp only [Bool.and_eq_true, decide_eq_true_eq, List.length_append, hpl]; omega)]
  rw [show ((k : Int) + ((dg B).length : Int) + 1).toNat - (k : Int).toNat = M + 3 by omega]
  simp only [Int.toNat_natCast]
  rw [q4, A1]
  dsimp only
  have hqm := Nat.mod_lt (x + 10000 * R) hB
  have hqr := Nat.div_add_mod (x + 10000 * R) B
  have hq : (x + 10000 * R) / B < 10000 := by
   rw [Nat.div_lt_iff_lt_mul hB]; omega
  generalize (x + 10000 * R) / B = q at *
  generalize (x + 10000 * R) % B = r at *
  rw [A3 (by simp [hwl, q2]), A3 (by simp; try omega), A3 (by simp; try omega), A9 (x := (k : Int) - 1) (by omega) (by omega), List.append_assoc]
  refine Ajv hM hla hlA hn k m (10000 * Q + q) r _ _ (by omega) (by omega) hqm (by simpa using h4) (h5.set _ (by omega)) (fun i hi => Ajg h6 hi) ?_ (q1.app hp) ?_ ?_ ?_
  · rw [Jv _ (by omega), h7, h6 k (by omega), Bl, A4x]
    generalize (10000 : Int) ^ k = P
    grind
  · rw [List.length_append]; omega
  · rw [A4k, hvp, q3]; simp
  · rw [hRx, ← h8]
    exact Adt rfl hqr rfl

theorem Fz (n : Nat) {l : List Int} (h : l.length ≤ 17592186044416) : f145 n l = some l := by
 unfold f145
 cases l with
 | nil => rfl
 | cons x r =>
  unfold Ao4
  rw [Bool.cond_eq_ite, if_neg (by simp), A3 (by rfl), A3 (by simp only [decide_eq_true_eq]; simp only [List.length_cons] at *; omega)]

theorem Agg (n : Nat) {l : List Int} (h : l.length ≤ 17592186044416) (h0 : l ≠ []) : A68 n l = some l := by
 unfold A68
 cases l with
 | nil => exact absurd rfl h0
 | cons x r => rw [A3 (by rfl), A3 (by simp only [decide_eq_true_eq]; simp only [List.length_cons] at *; omega)]

theorem Am1 {n L A B : Nat} (hB : 0 < B) (hA : (dg A).length ≤ L) (hBl : (dg B).length ≤ L) (hL : L ≤ 1099511627000) (hn : L + 10040 ≤ n) : f184 n (dg A) (dg B) = some (dg (A / B), dg (A % B)) := by
 unfold f184
 rw [A5d (by omega), A1, Bool.cond_decide]
 by_cases hlt : A < B
 · rw [if_pos (by rw [Fc (by omega)]; omega), Fz n (by omega), A1, Nat.div_eq_of_lt hlt, Nat.mod_eq_of_lt hlt, Bs]
 · rw [if_neg (by
    rcases Nat.lt_or_eq_of_le (Nat.le_of_not_lt hlt) with h | h
    · rw [Fd (by omega)]; omega
    · rw [G3 (by omega)]; omega)]
   have hmn : (dg B).length ≤ (dg A).length := Aw (by omega)
   have hb0 : 0 < (dg B).length := by rw [Cr (by omega)]; simp
   rw [Bool.cond_eq_ite]
   by_cases h1 : (dg B).length = 1
   · rw [if_pos (by simp [h1])]
     have hB1 : B < 10000 := by have := L4 (n := B) (k := 1) (by omega); simpa using this
     have hBd : dg B = [(B : Int)] := by
      rw [Cr (by omega), Nat.mod_eq_of_lt hB1, Nat.div_eq_of_lt hB1, Bs]
     rw [A3 (by simp; try omega), show f201 n (dg A) = some (dg A) from rfl, A1, Ath, A3 (by simp; try omega), hBd]
     simp only [Int.toNat_natCast]
     obtain ⟨o, q1, q2, q3, q4⟩ := Aq9 (n := n) (A := A) hB hB1 (by omega) (k0 := fun z_4 z_5 => (
           ob (f185 n z_5) fun r_6 =>
           ob (f160 n z_4) fun r_7 =>
           some (r_6, r_7))) (dg A).length 0 0 (List.replicate (dg A).length 0) (Nat.le_refl _) hB (by simp) (Lm.rep _) (fun i hi => by simp [List.getD_eq_getElem?_getD, List.getElem?_replicate, hi]) (by rw [Up]; simp) (by simp [vl])
     have q4 : J8 n (dg A) (dg A).length (dg A) [(B : Int)] 0 _ _ = _ := q4
     have hm := Nat.mod_lt A hB
     rw [q4, Pl q1 (by omega) (by omega), A1, Ako (by omega) (by omega), A1, q3]
     rfl
   · rw [if_neg (by simp; omega)]
     obtain ⟨M, hM⟩ : ∃ M, (dg B).length = M + 2 := ⟨(dg B).length - 2, by omega⟩
     rw [Agg n (by omega) (List.length_pos_iff.1 (by omega)), A1, A3 (by simp; try omega)]
     rw [A9 (x := ((dg A).length : Int) - ((dg B).length : Int)) (by omega) (by omega), A9 (x := ((dg A).length : Int) - ((dg B).length : Int) + 1) (by omega) (by omega), A3 (by simp; try omega)]
     rw [show (((dg A).length : Int) - ((dg B).length : Int) + 1).toNat = (dg A).length - (M + 1) by omega]
     have hR0 := B6 ((Cw A).drop ((dg A).length - (M + 1)))
     obtain ⟨R, hR⟩ : ∃ R : Nat, vl ((dg A).drop ((dg A).length - (M + 1))) = (R : Int) := ⟨_, (Int.toNat_of_nonneg hR0).symm⟩
     have hRB : R < B := by
      have := Gy ((Cw A).drop ((dg A).length - (M + 1)))
      rw [List.length_drop, show (dg A).length - ((dg A).length - (M + 1)) = M + 1 by omega, hR] at this
      have h2 := (Fg B).ge (List.length_pos_iff.1 (by omega))
      rw [hM, B0] at h2
      have h2 : (10000 : Int) ^ (M + 1) ≤ B := h2
      generalize (10000 : Int) ^ (M + 1) = P at *
      omega
     obtain ⟨o, u, q1, q2, q3, q4, q5, q6, q7⟩ := Ajv (n := n) (A := A) (B := B) hM hmn (by omega) (by omega) (k0 := fun z_10 z_11 => (
             ob (f185 n z_10) fun r_12 =>
             ob (f185 n z_11) fun r_13 =>
             some (r_12, r_13))) ((dg A).length - (M + 1)) n 0 R (List.replicate ((dg A).length - (M + 1)) 0) ((dg A).drop ((dg A).length - (M + 1)) ++ [0]) (by omega) (Nat.le_refl _) hRB (by simp) (Lm.rep _) (fun i hi => by simp [List.getD_eq_getElem?_getD, List.getElem?_replicate, hi]) (by rw [Up]; simp) (((Cw A).drop _).app (Lm.cons (by omega) Lm.nil)) (by simp; omega) (by rw [Oo, hR]; simp) (by rw [hR]; simp)
     rw [← List.append_assoc, List.take_append_drop] at q7
     rw [show ((dg A).length : Int) - ((dg B).length : Int) = (((dg A).length - (M + 1) : Nat) : Int) - 1 by omega, q7, Pl q1 (by omega) (by omega), A1, Pl q4 (by omega) (by omega), A1, q3, q6]
     rfl

theorem B5h {α : Type} {n L : Nat} (hL : L ≤ 1099511627000) (hn : L + 10040 ≤ n) {k0 : List Int → Option α} :
  ∀ (j m a b : Nat), b < 2 ^ j → 2 * j + 1 ≤ m → (dg a).length ≤ L → (dg b).length ≤ L → Ja n m (dg a) (dg b) k0 = k0 (dg (Nat.gcd b a)) := by
 have stop : ∀ (m a : Nat), 0 < m → Ja n m (dg a) (dg 0) k0 = k0 (dg (Nat.gcd 0 a)) := fun m a hm => by
  obtain ⟨m, rfl⟩ : ∃ m', m = m' + 1 := ⟨m - 1, by omega⟩
  rw [Abe, Nat.gcd_zero_left, Bs]; rfl
 have step : ∀ (m a b : Nat), 0 < b → (dg a).length ≤ L → (dg b).length ≤ L → Ja n (m + 1) (dg a) (dg b) k0 = Ja n m (dg b) (dg (a % b)) k0 := fun m a b hb ha hbl => by
  rw [Abe]
  unfold A2l
  have : 0 < (dg b).length := by rw [Cr (by omega)]; simp
  rw [Bool.cond_decide, if_pos (by omega), Am1 hb ha hbl hL hn, A1]
 intro j
 induction j with
 | zero =>
  intro m a b h1 h2 h3 h4
  obtain rfl : b = 0 := by simpa using h1
  exact stop m a (by omega)
 | succ j ih =>
  intro m a b h1 h2 h3 h4
  rcases Nat.eq_zero_or_pos b with rfl | hb
  · exact stop m a (by omega)
  obtain ⟨m, rfl⟩ : ∃ m', m = m' + 2 := ⟨m - 2, by omega⟩
  have h5 : (dg (a % b)).length ≤ L := Nat.le_trans (Aw (Nat.le_of_lt (Nat.mod_lt a hb))) h4
  rw [step _ _ _ hb h3 h4, Nat.gcd_rec b a]
  rcases Nat.eq_zero_or_pos (a % b) with hr | hr
  · rw [hr]; exact stop _ _ (by omega)
  have h6 : (dg (b % (a % b))).length ≤ L := Nat.le_trans (Aw (Nat.le_of_lt (Nat.mod_lt b hr))) h5
  rw [step _ _ _ hr h4 h5, Nat.gcd_rec (a % b) b]
  exact ih m _ _ (Aes hb hr h1) (by omega) h5 h6

theorem B0q {n L a b : Nat} (hL : L ≤ 1099511627000) (hn : 28 * L + 10040 ≤ n) (ha : (dg a).length ≤ L) (hb : (dg b).length ≤ L) : f183 n (dg a) (dg b) = some (dg (Nat.gcd a b)) := by
 unfold f183
 rw [B5h hL (by omega) (14 * L) n a b (Ajm (L4 hb)) (by omega) ha hb, Nat.gcd_comm]

abbrev Rt := Bool × List Int × List Int

abbrev Ov : Rt := (false, [], [])

def Sm (x : Rt) : Prop := x.2.1.length ≤ 1048576 ∧ x.2.2.length ≤ 1048576

theorem Sm.get {l : List Rt} (h : ∀ x ∈ l, Sm x) (i : Nat) : Sm (l.getD i Ov) := by
 rw [List.getD_eq_getElem?_getD]
 cases e : l[i]? with
 | none => exact ⟨by simp, by simp⟩
 | some x => exact h x (List.mem_of_getElem? e)

def G8 (x : Int) : Bool := decide (0 ≤ x ∧ x ≤ 9999)

def Nl (l : List Int) : Bool := decide (l.length ≤ 40) && l.all G8 && (l.isEmpty || decide (0 < l.getD (l.length - 1) 0))

theorem P1 {l : List Int} (h : Nl l = true) : Cn l ∧ l.length ≤ 40 := by
 unfold Nl at h
 simp only [Bool.and_eq_true, decide_eq_true_eq, Bool.or_eq_true, List.all_eq_true, List.isEmpty_iff] at h
 obtain ⟨⟨h1, h2⟩, h3⟩ := h
 refine ⟨⟨fun x hx => ?_, fun hn => ?_⟩, h1⟩
 · have := h2 x hx
   unfold G8 at this
   rw [decide_eq_true_eq] at this
   omega
 · rcases h3 with h3 | h3
   · exact absurd h3 hn
   · omega

theorem Li {α : Type} {l : List α} {p : α → Bool} {i : Nat} (h : i < l.length) (d : α) : (l.drop i).all p = (p (l.getD i d) && (l.drop (i + 1)).all p) := by
 rw [List.drop_eq_getElem_cons h, List.all_cons, List.getD_eq_getElem?_getD, List.getElem?_eq_getElem h]; rfl

theorem Pc {n : Nat} {a lo hi : Int} : f65 n a lo hi = some (decide (lo ≤ a ∧ a ≤ hi)) := by
 unfold f65; by_cases h : lo ≤ a <;> simp [h]

theorem Arx {n : Nat} {a lo hi : Int} : f70 n a lo hi = some (decide (lo ≤ a ∧ a ≤ hi)) := by
 unfold f70; by_cases h : lo ≤ a <;> simp [h]

theorem Ab7 {α : Type} {n : Nat} {l : List Int} (hl : l.length ≤ 1048576) {k0 : Bool → Option α} {k1 : List Int → Option α} : ∀ (m i : Nat), i ≤ l.length → l.length < i + m → Pi n m l (i : Int) k0 k1 = if (l.drop i).all G8 = true then k1 l else k0 false
 | 0, i, hi, hm => by omega
 | m + 1, i, hi, hm => by
  rw [At3]
  unfold A25
  dsimp only
  rw [Bool.cond_decide]
  by_cases h : i < l.length
  · rw [if_pos (by omega), A3 (by simp; try omega)]
    simp only [Int.toNat_natCast]
    rw [Pc, A1, Li h 0]
    cases hp : G8 (l.getD i 0) with
    | true =>
     unfold G8 at hp
     rw [hp, A9 (x := (i : Int) + 1) (by omega) (by omega)]
     simp only [Bool.not_true, cond_false, Bool.true_and]
     exact Ab7 hl m (i + 1) (by omega) (by omega)
    | false =>
     unfold G8 at hp
     rw [hp]
     simp
  · rw [if_neg (by omega), List.drop_of_length_le (by omega)]
    rfl

theorem Akj {n : Nat} {l : List Int} (hn : 1048577 ≤ n) : f189 n l = some (Nl l) := by
 unfold f189 Nl
 rw [Bool.cond_decide]
 by_cases h : l.length ≤ 4096
 · rw [if_neg (by omega)]
   have := Ab7 (n := n) (l := l) (by omega) (k0 := fun z_2 => some z_2) (k1 := fun z_3 => (
     bif (decide ((z_3.length : Int) ≤ 40)) then
      bif ((z_3.length : Int) == 0) then
       some true
      else
       gd (decide (0 ≤ (W ((z_3.length : Int) - 1))) && decide ((W ((z_3.length : Int) - 1)) < (z_3.length : Int))) (
        some (decide ((z_3.getD ((W ((z_3.length : Int) - 1)).toNat) 0) > 0)))
     else
      some false)) n 0 (by omega) (by omega)
   have this : Pi n n l 0 _ _ = _ := this
   rw [this, List.drop_zero]
   cases l.all G8 with
   | false => simp
   | true =>
    rw [if_pos rfl, Bool.cond_decide]
    by_cases h40 : l.length ≤ 40
    · rw [if_pos (by omega)]
      cases l with
      | nil => rfl
      | cons x r =>
       rw [Bool.cond_eq_ite, if_neg (by simp; omega), A9 (x := ((x :: r).length : Int) - 1) (by omega) (by omega), A3 (by simp; omega), show (((x :: r).length : Int) - 1).toNat = (x :: r).length - 1 by omega]
       have h41 : r.length ≤ 39 := by simpa using h40
       simp [h41]
    · rw [if_neg (by omega)]
      simp [h40]
 · rw [if_pos (by omega), decide_eq_false (by omega)]
   rfl

theorem Ub {n : Nat} {l : List Int} (hl : l.length ≤ 1048576) : ∀ (m i : Nat), i ≤ l.length → l.length < i + m → ∃ r, Gh n m l (l.length : Int) (i : Int) (fun z => some z) (fun (_ : Unit) => some (-1)) = some r ∧ decide (r ≥ 0) = !(l.drop i).all G8
 | 0, i, hi, hm => by omega
 | m + 1, i, hi, hm => by
  rw [Acc]
  unfold M4
  dsimp only
  rw [Bool.cond_decide]
  by_cases h : i < l.length
  · rw [if_pos (by omega), A3 (by simp; try omega)]
    simp only [Int.toNat_natCast]
    have e : f211 n (l.getD i 0) = some (!G8 (l.getD i 0)) := by
     unfold f211 G8
     rw [Bool.cond_decide]
     generalize l.getD i 0 = x
     by_cases h1 : x < 0
     · rw [if_pos h1, decide_eq_false (by omega)]; rfl
     · rw [if_neg h1]
       by_cases h2 : x ≤ 9999
       · rw [decide_eq_false (by omega), decide_eq_true (by omega)]; rfl
       · rw [decide_eq_true (by omega), decide_eq_false (by omega)]; rfl
    rw [e, A1, Li h 0]
    cases hp : G8 (l.getD i 0) with
    | true =>
     rw [A9 (x := (i : Int) + 1) (by omega) (by omega)]
     simp only [Bool.not_true, cond_false, Bool.true_and]
     exact Ub hl m (i + 1) (by omega) (by omega)
    | false =>
     exact ⟨i, rfl, by simp⟩
  · rw [if_neg (by omega), List.drop_of_length_le (by omega)]
    exact ⟨-1, rfl, rfl⟩

theorem A0a {n : Nat} {l : List Int} (hl : l.length ≤ 1048576) (hn : 1048577 ≤ n) : M5 n l () = some (!l.all G8) := by
 unfold M5 A1u
 obtain ⟨r, h1, h2⟩ := Ub (n := n) hl n 0 (by omega) (by omega)
 have h1 : Gh n n l (l.length : Int) 0 _ _ = _ := h1
 rw [h1, A1, h2, List.drop_zero]

theorem Akg {n : Nat} {l : List Int} (hn : 1048577 ≤ n) : f197 n l = some (Nl l) := by
 unfold f197 Nl
 rw [Bool.cond_decide]
 by_cases h : l.length ≤ 40
 · rw [if_neg (by omega), decide_eq_true h, Bool.true_and, Bool.cond_decide]
   cases l with
   | nil => rw [if_neg (by simp), A0a (by omega) hn]; rfl
   | cons x r =>
    rw [if_pos (by simp), A9 (x := ((x :: r).length : Int) - 1) (by omega) (by omega), A3 (by simp; omega), show (((x :: r).length : Int) - 1).toNat = (x :: r).length - 1 by omega]
    rw [A0a (by omega) hn, A1, Bool.not_not, Bool.cond_eq_ite]
    by_cases hz : (x :: r).getD ((x :: r).length - 1) 0 = 0
    · rw [if_pos (by rw [hz]; rfl), hz]; simp
    · rw [if_neg (by rw [beq_iff_eq]; exact hz)]
      cases ha : (x :: r).all G8 with
      | false => rfl
      | true =>
       have : G8 ((x :: r).getD ((x :: r).length - 1) 0) = true := by
        rw [List.all_eq_true] at ha
        apply ha
        rw [List.getD_eq_getElem?_getD, List.getElem?_eq_getElem (by simp)]
        simp only [Option.getD_some]
        exact List.getElem_mem _
       unfold G8 at this
       rw [decide_eq_true_eq] at this
       rw [decide_eq_true (by omega)]
       simp
 · rw [if_pos (by omega), decide_eq_false h]; rfl

theorem Alz {α : Type} (l : List α) : ((l.length : Int) == 0) = l.isEmpty := by
 cases l with
 | nil => rfl
 | cons x r => rw [beq_eq_false_iff_ne.2 (by simp; omega)]; rfl

def Cq (x : Rt) : Bool := Nl x.2.1 && Nl x.2.2 && !x.2.2.isEmpty && !(x.2.1.isEmpty && x.1) && decide (Nat.gcd (vl x.2.1).toNat (vl x.2.2).toNat = 1)

theorem K1 : dg 1 = [1] := by rw [Cr (by omega), show 1 / 10000 = 0 from rfl, Bs]; rfl

theorem Ah5 {g : Nat} : (cm (g : Int) ((1 : Nat) : Int) == 0) = decide (g = 1) := by
 unfold cm
 by_cases h : g = 1
 · subst h; rfl
 · rw [decide_eq_false h]
   by_cases h2 : (g : Int) < (1 : Nat)
   · rw [if_pos h2]; rfl
   · rw [if_neg h2, if_neg (by omega)]; rfl

theorem Ak4 {a b : Nat} (ha : (dg a).length ≤ 40) (hb : (dg b).length ≤ 40) : (dg (Nat.gcd a b)).length ≤ 40 := by
 rcases Nat.eq_zero_or_pos a with rfl | h
 · rw [Nat.gcd_zero_left]; exact hb
 · exact Nat.le_trans (Aw (Nat.gcd_le_left b h)) ha

theorem Akq {n : Nat} {x : Rt} (hn : 1048577 ≤ n) : f148 n x = some (Cq x) := by
 obtain ⟨s, a, b⟩ := x
 unfold f148 Cq
 dsimp only
 simp only [Alz]
 rw [Akj hn, A1, Akj hn, A1]
 cases ha : Nl a with
 | false => rfl
 | true =>
  cases hb : Nl b with
  | false => rfl
  | true =>
   obtain ⟨ca, la⟩ := P1 ha
   obtain ⟨cb, lb⟩ := P1 hb
   have ea := H2 ca
   have eb := H2 cb
   have hg : f190 n a b = some (dg (Nat.gcd (vl a).toNat (vl b).toNat)) := by
    conv => lhs; rw [← ea, ← eb]
    exact Alj (L := 40) (by omega) (by omega) (by rw [ea]; exact la) (by rw [eb]; exact lb)
   have hgl := Ak4 (a := (vl a).toNat) (b := (vl b).toNat) (by rw [ea]; exact la) (by rw [eb]; exact lb)
   rw [hg, A1, ← K1, A4u (by omega) (by omega), A1, Ah5]
   cases b <;> cases a <;> cases s <;> simp

theorem B33 {n : Nat} {x : Rt} (hn : 1048577 ≤ n) : f163 n x = some (Cq x) := by
 obtain ⟨s, a, b⟩ := x
 unfold f163 Cq
 dsimp only
 rw [Akg hn, A1, Akg hn, A1]
 cases ha : Nl a with
 | false => rfl
 | true =>
  cases hb : Nl b with
  | false => rfl
  | true =>
   obtain ⟨ca, la⟩ := P1 ha
   obtain ⟨cb, lb⟩ := P1 hb
   have ea := H2 ca
   have eb := H2 cb
   have hg : f183 n a b = some (dg (Nat.gcd (vl a).toNat (vl b).toNat)) := by
    conv => lhs; rw [← ea, ← eb]
    exact B0q (L := 40) (by omega) (by omega) (by rw [ea]; exact la) (by rw [eb]; exact lb)
   have hgl := Ak4 (a := (vl a).toNat) (b := (vl b).toNat) (by rw [ea]; exact la) (by rw [eb]; exact lb)
   rw [hg, A1, show f161 n = some [1] from rfl, A1, ← K1, A5d (by omega), A1, Ah5, show f74 n (s, a, b) = some ((a.length : Int) == 0) from rfl, A1, Alz, Alz]
   cases b <;> cases a <;> cases s <;> simp

theorem Af0 {α : Type} {n : Nat} {l : List Rt} (hl : l.length ≤ 1048576) (hn : 1048577 ≤ n) {k0 : Bool → Option α} {k1 : Unit → Option α} : ∀ (m i : Nat), i ≤ l.length → l.length < i + m → Vn n m l (i : Int) k0 k1 = if (l.drop i).all Cq = true then k1 () else k0 false
 | 0, i, hi, hm => by omega
 | m + 1, i, hi, hm => by
  rw [Ay3]
  unfold A80
  dsimp only
  rw [Bool.cond_decide]
  by_cases h : i < l.length
  · rw [if_pos (by omega), A3 (by simp; try omega)]
    simp only [Int.toNat_natCast]
    rw [Akq hn, A1, Li h Ov]
    cases hp : Cq (l.getD i Ov) with
    | true =>
     rw [A9 (x := (i : Int) + 1) (by omega) (by omega)]
     simp only [Bool.not_true, cond_false, Bool.true_and]
     exact Af0 hl hn m (i + 1) (by omega) (by omega)
    | false => simp
  · rw [if_neg (by omega), List.drop_of_length_le (by omega)]
    rfl

theorem Ue {n : Nat} {l : List Rt} (hl : l.length ≤ 1048576) (hn : 1048577 ≤ n) : ∀ (m i : Nat), i ≤ l.length → l.length < i + m → ∃ r, Gl n m l (l.length : Int) (i : Int) (fun z => some z) (fun (_ : Unit) => some (-1)) = some r ∧ decide (r ≥ 0) = !(l.drop i).all Cq
 | 0, i, hi, hm => by omega
 | m + 1, i, hi, hm => by
  rw [Aci]
  unfold Mg
  dsimp only
  rw [Bool.cond_decide]
  by_cases h : i < l.length
  · rw [if_pos (by omega), A3 (by simp; try omega)]
    simp only [Int.toNat_natCast]
    have e : f162 n (l.getD i Ov) = some (!Cq (l.getD i Ov)) := by
     unfold f162
     rw [B33 hn, A1]
    rw [e, A1, Li h Ov]
    cases hp : Cq (l.getD i Ov) with
    | true =>
     rw [A9 (x := (i : Int) + 1) (by omega) (by omega)]
     simp only [Bool.not_true, cond_false, Bool.true_and]
     exact Ue hl hn m (i + 1) (by omega) (by omega)
    | false => exact ⟨i, rfl, by simp⟩
  · rw [if_neg (by omega), List.drop_of_length_le (by omega)]
    exact ⟨-1, rfl, rfl⟩

theorem Aj1 {n : Nat} {l : List Rt} (hl : l.length ≤ 1048576) (hn : 1048577 ≤ n) : T9 n l () = some (!l.all Cq) := by
 unfold T9 A2s
 obtain ⟨r, h1, h2⟩ := Ue (n := n) hl hn n 0 (by omega) (by omega)
 have h1 : Gl n n l (l.length : Int) 0 _ _ = _ := h1
 rw [h1, A1, h2, List.drop_zero]

theorem Ar9 {n : Nat} {l : List Rt} (hl : l.length ≤ 1048576) (hn : 1048577 ≤ n) : f94 n l = some (if l.all Cq = true then 0 else 1) := by
 unfold f94
 rw [Aj1 hl hn, A1]
 cases l.all Cq <;> rfl

theorem B08 {a : Int} (h : 1 ≤ a ∧ a ≤ 4) : 0 ≤ a * a ∧ a * a ≤ 16 := by
 obtain ⟨h1, h2⟩ := h
 have h3 := Int.mul_nonneg (a := a) (b := a) (by omega) (by omega)
 have h4 : a * a ≤ 4 * a := Int.mul_le_mul_of_nonneg_right (by omega) (by omega)
 omega

def Is (l : List Rt) (a : Int) : Bool := decide (1 ≤ a ∧ a ≤ 4) && ((l.length : Int) == a * a) && l.all Cq

theorem Arc {n : Nat} {l : List Rt} {a : Int} (hn : 1048577 ≤ n) : f79 n l a = some (Is l a) := by
 unfold f79 Is
 rw [Bool.cond_decide, Pc, A1]
 by_cases ha : 1 ≤ a ∧ a ≤ 4
 · rw [decide_eq_true ha]
   have := B08 ha
   rw [A9 (x := a * a) (by omega) (by omega)]
   by_cases hl : (l.length : Int) = a * a
   · rw [if_neg (by omega), hl]
     simp only [Bool.not_true, cond_false, bne_self_eq_false, BEq.rfl, Bool.true_and]
     have h := Af0 (n := n) (l := l) (by omega) hn (k0 := fun z_4 => some z_4) (k1 := fun (_ : Unit) => some true) n 0 (by omega) (by omega)
     have h : Vn n n l 0 _ _ = _ := h
     rw [h, List.drop_zero]
     cases l.all Cq <;> rfl
   · have : ((l.length : Int) == a * a) = false := by rw [beq_eq_false_iff_ne]; exact hl
     rw [this, show ((l.length : Int) != a * a) = true by rw [bne_iff_ne]; exact hl]
     split <;> rfl
 · rw [decide_eq_false ha]
   split <;> rfl

theorem B3p {n : Nat} {l : List Rt} {a : Int} (hn : 1048577 ≤ n) : f125 n l a = some (Is l a) := by
 unfold f125 Is
 rw [Arx, A1]
 by_cases ha : 1 ≤ a ∧ a ≤ 4
 · rw [decide_eq_true ha]
   have := B08 ha
   rw [A9 (x := a * a) (by omega) (by omega)]
   by_cases hl : (l.length : Int) = a * a
   · rw [Ar9 (by omega) hn, hl]
     cases l.all Cq <;> simp
   · have : ((l.length : Int) == a * a) = false := by rw [beq_eq_false_iff_ne]; exact hl
     rw [this]; rfl
 · rw [decide_eq_false ha]; rfl

def vok (l : List Rt) : Bool := decide (1 ≤ l.length ∧ l.length ≤ 4) && l.all Cq

theorem Abt {α : Type} {n : Nat} {l : List Rt} (hl : l.length ≤ 1048576) (hn : 1048577 ≤ n) {k0 : Bool → Option α} {k1 : List Rt → Option α} : ∀ (m i : Nat), i ≤ l.length → l.length < i + m → Pz n m l (i : Int) k0 k1 = if (l.drop i).all Cq = true then k1 l else k0 false
 | 0, i, hi, hm => by omega
 | m + 1, i, hi, hm => by
  rw [Avd]
  unfold A40
  dsimp only
  rw [Bool.cond_decide]
  by_cases h : i < l.length
  · rw [if_pos (by omega), A3 (by simp; try omega)]
    simp only [Int.toNat_natCast]
    rw [Akq hn, A1, Li h Ov]
    cases hp : Cq (l.getD i Ov) with
    | true =>
     rw [A9 (x := (i : Int) + 1) (by omega) (by omega)]
     simp only [Bool.not_true, cond_false, Bool.true_and]
     exact Abt hl hn m (i + 1) (by omega) (by omega)
    | false => simp
  · rw [if_neg (by omega), List.drop_of_length_le (by omega)]
    rfl

theorem B3x {n : Nat} {l : List Rt} (hn : 1048577 ≤ n) : f114 n l = some (vok l) := by
 unfold f114 vok
 rw [Bool.cond_decide]
 by_cases h : l.length ≤ 4096
 · rw [if_neg (by omega)]
   have h1 := Abt (n := n) (l := l) (by omega) hn (k0 := fun z_3 => some z_3) (k1 := fun z_4 => (
     ob (f65 n (z_4.length : Int) 1 4) fun r_5 =>
     some r_5)) n 0 (by omega) (by omega)
   have h1 : Pz n n l 0 _ _ = _ := h1
   rw [h1, List.drop_zero, Pc, A1]
   have e : decide ((1 : Int) ≤ (l.length : Int) ∧ (l.length : Int) ≤ 4) = decide (1 ≤ l.length ∧ l.length ≤ 4) := by
    apply decide_eq_decide.2; omega
   rw [e]
   cases l.all Cq <;> simp
 · rw [if_pos (by omega), decide_eq_false (by omega)]; rfl

theorem B42 {n : Nat} {l : List Rt} (hn : 1048577 ≤ n) : f109 n l = some (vok l) := by
 unfold f109 vok
 rw [Bool.cond_decide, Bool.cond_decide]
 by_cases h : 1 ≤ l.length ∧ l.length ≤ 4
 · rw [if_pos (by omega), if_pos (by omega), Ar9 (by omega) hn, decide_eq_true h, A1]
   cases l.all Cq <;> rfl
 · rw [decide_eq_false h]
   split
   · rw [if_neg (by omega)]; rfl
   · rfl

theorem Abi {n : Nat} {l : List Int} (hl : l.length ≤ 1048576) : ∀ (m i : Nat), i ≤ l.length → l.length < i + m → ∃ c, Pq n m 4096 l (l.length : Int) (i : Int) (fun z => some z) (fun (_ : Unit) => some 0) = some c ∧ ((c = 0 ∧ ∀ x ∈ l.drop i, x ≤ 4096) ∨ (c = 2 ∧ ∃ x ∈ l, 4096 < x))
 | 0, i, hi, hm => by omega
 | m + 1, i, hi, hm => by
  rw [Au8]
  unfold A36
  dsimp only
  rw [Bool.cond_decide]
  by_cases h : i < l.length
  · rw [if_pos (by omega), A3 (by simp; try omega)]
    simp only [Int.toNat_natCast]
    rw [Bool.cond_decide]
    by_cases hx : 4096 < l.getD i 0
    · rw [if_pos hx]
      refine ⟨2, rfl, .inr ⟨rfl, l.getD i 0, ?_, hx⟩⟩
      rw [List.getD_eq_getElem?_getD, List.getElem?_eq_getElem h]
      exact List.getElem_mem h
    · rw [if_neg hx, A9 (x := (i : Int) + 1) (by omega) (by omega)]
      obtain ⟨c, h1, h2⟩ := Abi (n := n) hl m (i + 1) (by omega) (by omega)
      refine ⟨c, h1, h2.imp (fun ⟨e, h3⟩ => ⟨e, fun x hx' => ?_⟩) (fun h => h)⟩
      rw [List.drop_eq_getElem_cons h] at hx'
      rcases List.mem_cons.1 hx' with rfl | hx'
      · rw [List.getD_eq_getElem?_getD, List.getElem?_eq_getElem h] at hx
        exact Int.not_lt.1 hx
      · exact h3 x hx'
  · rw [if_neg (by omega)]
    refine ⟨0, rfl, .inl ⟨rfl, fun x hx => ?_⟩⟩
    rw [List.drop_of_length_le (by omega)] at hx
    cases hx

theorem Aex {α : Type} {n : Nat} {L : List (List Rt)} (hl : L.length ≤ 1048576) {k0 : List Int → Option α} : ∀ (m i : Nat) (o : List Int), o.length ≤ i → i ≤ L.length → L.length < i + m → Vm n m L (L.length : Int) (i : Int) o k0 = k0 (o ++ (L.drop i).map fun v => (v.length : Int))
 | 0, i, o, ho, hi, hm => by omega
 | m + 1, i, o, ho, hi, hm => by
  rw [Ay1]
  unfold A7x
  dsimp only
  rw [Bool.cond_decide]
  by_cases h : i < L.length
  · rw [if_pos (by omega), A3 (by simp; try omega), A3 (by simp only [decide_eq_true_eq]; omega)]
    simp only [Int.toNat_natCast]
    rw [A9 (x := (i : Int) + 1) (by omega) (by omega), show (i : Int) + 1 = ((i + 1 : Nat) : Int) from rfl, Aex hl m (i + 1) _ (by simp; omega) (by omega) (by omega), List.drop_eq_getElem_cons h, List.getD_eq_getElem?_getD, List.getElem?_eq_getElem h, List.append_assoc]
    rfl
  · rw [if_neg (by omega), List.drop_of_length_le (by omega)]
    simp

theorem B5n {n : Nat} {L : List (List Rt)} (hl : L.length ≤ 1048576) (hn : 1048577 ≤ n) : ∃ c, f98 n L = some c ∧ ((c = 0 ∧ ∀ v ∈ L, v.length ≤ 4096) ∨ (c = 2 ∧ ∃ v ∈ L, 4096 < v.length)) := by
 unfold f98
 have h1 := Aex (n := n) (L := L) hl (k0 := fun z_1 => (
   ob (f167 n 4096 z_1) fun r_2 =>
   some r_2)) n 0 [] (by simp) (by omega) (by omega)
 have h1 : Vm n n L (L.length : Int) 0 [] _ = _ := h1
 rw [h1, List.drop_zero, List.nil_append]
 unfold f167
 obtain ⟨c, h2, h3⟩ := Abi (n := n) (l := L.map fun v => (v.length : Int)) (by simpa using hl) n 0 (by omega) (by simp; omega)
 have h2 : Pq n n 4096 _ _ 0 _ _ = _ := h2
 refine ⟨c, by rw [h2, A1], h3.imp (fun ⟨e, h⟩ => ⟨e, fun v hv => by have := h _ (by rw [List.drop_zero]; exact List.mem_map.2 ⟨v, hv, rfl⟩); omega⟩) fun ⟨e, x, hx, hx'⟩ => ⟨e, ?_⟩⟩
 obtain ⟨v, hv, rfl⟩ := List.mem_map.1 hx
 exact ⟨v, hv, by omega⟩

abbrev O9 := Int × Int × Int × Int

def B0l (op : Int) : Int := if op = 3 ∨ op = 4 ∨ op = 5 ∨ op = 6 then 2 else if op = 7 ∨ op = 8 then 1 else 0

def Axc (x : O9) : Prop := if x.1 = 1 then 0 ≤ x.2.2.2 ∧ x.2.2.2 ≤ 999999999 else if x.1 = 2 then 0 ≤ x.2.2.2 ∧ x.2.2.2 ≤ 3 else if x.1 = 8 then 0 ≤ x.2.2.2 ∧ x.2.2.2 ≤ 8 else x.2.2.2 = 0

instance (x : O9) : Decidable (Axc x) := by unfold Axc; infer_instance

def Aq5 (x : O9) (i : Int) : Prop := (1 ≤ x.1 ∧ x.1 ≤ 8) ∧ Axc x ∧ (if B0l x.1 > 0 then 0 ≤ x.2.1 ∧ x.2.1 ≤ i - 1 else x.2.1 = 0) ∧ (if B0l x.1 > 1 then 0 ≤ x.2.2.1 ∧ x.2.2.1 ≤ i - 1 else x.2.2.1 = 0)

instance (x : O9) (i : Int) : Decidable (Aq5 x i) := by unfold Aq5; infer_instance

def Ad5 (x : O9) (i : Int) : Prop := (1 ≤ x.1 ∧ x.1 ≤ 8) ∧ (if 3 ≤ x.1 ∧ x.1 ≤ 6 then (0 ≤ x.2.1 ∧ x.2.1 ≤ i - 1) ∧ (x.2.1 + 1 ≤ x.2.2.1 ∧ x.2.2.1 ≤ i - 1) ∧ x.2.2.2 = 0
 else if x.1 = 7 ∨ x.1 = 8 then x.2.1 = i - 1 ∧ 0 < i ∧ x.2.2.1 = 0 ∧ 0 ≤ x.2.2.2 ∧ x.2.2.2 ≤ (if x.1 = 8 then 8 else 0)
 else if x.1 = 2 then x.2.1 = 0 ∧ x.2.2.1 = 0 ∧ 0 ≤ x.2.2.2 ∧ x.2.2.2 ≤ 3 else x.2.1 = 0 ∧ x.2.2.1 = 0 ∧ 0 ≤ x.2.2.2 ∧ x.2.2.2 ≤ 999999999)

instance (x : O9) (i : Int) : Decidable (Ad5 x i) := by unfold Ad5; infer_instance

def okP (bs : List Int) (x : O9) (i : Int) : Prop := Ad5 x i ∧ (3 ≤ x.1 ∧ x.1 ≤ 6 → x.2.2.1 = i - 1 ∧ bs.getD x.2.2.1.toNat 0 = x.2.1 + 1)

instance (bs : List Int) (x : O9) (i : Int) : Decidable (okP bs x i) := by unfold okP; infer_instance

def nb (bs : List Int) (x : O9) (i : Int) : Int := if 3 ≤ x.1 ∧ x.1 ≤ 8 then bs.getD x.2.1.toNat 0 else i

def nd (ds : List Int) (x : O9) : Int := if 3 ≤ x.1 ∧ x.1 ≤ 6 then 1 + max (ds.getD x.2.1.toNat 0) (ds.getD x.2.2.1.toNat 0) else if x.1 = 7 ∨ x.1 = 8 then 1 + ds.getD x.2.1.toNat 0 else 1

structure B02 (bs ds : List Int) : Prop where
 len : ds.length = bs.length
 small : bs.length ≤ 1048576
 b : ∀ j, j < bs.length → 0 ≤ bs.getD j 0 ∧ bs.getD j 0 ≤ j
 d : ∀ j, j < ds.length → 1 ≤ ds.getD j 0 ∧ ds.getD j 0 ≤ j + 1

theorem Qe {a : Int} {k : Nat} (h0 : 0 ≤ a) (h : a ≤ (k : Int) - 1) : a.toNat < k := by omega

theorem B02.step {bs ds : List Int} (h : B02 bs ds) {x : O9} (hx : okP bs x bs.length) (hs : bs.length + 1 ≤ 1048576) : B02 (bs ++ [nb bs x bs.length]) (ds ++ [nd ds x]) := by
 obtain ⟨h1, h2, h3, h4⟩ := h
 have hn := hx.1
 unfold Ad5 at hn
 refine ⟨by simp [h1], by simpa using hs, fun j hj => ?_, fun j hj => ?_⟩
 · simp only [List.length_append, List.length_cons, List.length_nil] at hj
   rcases Nat.lt_or_ge j bs.length with hlt | hge
   · rw [H7 hlt]; exact h3 j hlt
   · obtain rfl : j = bs.length := by omega
     rw [H8]
     unfold nb
     split
     · have ha : 0 ≤ x.2.1 ∧ x.2.1 ≤ (bs.length : Int) - 1 := by
        split at hn
        · omega
        · split at hn
          · omega
          · omega
       have := h3 _ (Qe ha.1 ha.2)
       omega
     · omega
 · simp only [List.length_append, List.length_cons, List.length_nil] at hj
   rcases Nat.lt_or_ge j ds.length with hlt | hge
   · rw [H7 hlt]; exact h4 j hlt
   · obtain rfl : j = ds.length := by omega
     rw [H8]
     unfold nd
     split
     · rename_i h2'
       rw [if_pos h2'] at hn
       have ha := h4 _ (by rw [h1]; exact Qe (k := bs.length) (a := x.2.1) (by omega) (by omega))
       have hb := h4 _ (by rw [h1]; exact Qe (k := bs.length) (a := x.2.2.1) (by omega) (by omega))
       omega
     · rename_i h2'
       rw [if_neg h2'] at hn
       split
       · rename_i h3'
         rw [if_pos h3'] at hn
         have ha := h4 _ (by rw [h1]; exact Qe (k := bs.length) (a := x.2.1) (by omega) (by omega))
         omega
       · omega

def Ran (e : List O9) (bs : List Int) : Prop := ∀ j, j < bs.length → okP (bs.take j) (e.getD j (0, 0, 0, 0)) j ∧ bs.getD j 0 = nb (bs.take j) (e.getD j (0, 0, 0, 0)) j

theorem Ran.step {e : List O9} {bs : List Int} (h : Ran e bs) {x : O9} (hx : e.getD bs.length (0, 0, 0, 0) = x) (hok : okP bs x bs.length) : Ran e (bs ++ [nb bs x bs.length]) := by
 intro j hj
 simp only [List.length_append, List.length_cons, List.length_nil] at hj
 rcases Nat.lt_or_ge j bs.length with hlt | hge
 · rw [H7 hlt, List.take_append_of_le_length (by omega)]
   exact h j hlt
 · obtain rfl : j = bs.length := by omega
   rw [H8, List.take_left', hx]
   · exact ⟨hok, rfl⟩
   · rfl

theorem Oy {x : Rt} (h : Cq x = true) : ∃ (s : Bool) (N D : Nat), x = (s, dg N, dg D) ∧ (dg N).length ≤ 40 ∧ (dg D).length ≤ 40 ∧ 0 < D ∧ (s = true → 0 < N) := by
 obtain ⟨s, a, b⟩ := x
 unfold Cq at h
 simp only [Bool.and_eq_true, Bool.not_eq_true', decide_eq_true_eq] at h
 obtain ⟨⟨⟨⟨ha, hb⟩, hb0⟩, hs⟩, _⟩ := h
 obtain ⟨ca, la⟩ := P1 ha
 obtain ⟨cb, lb⟩ := P1 hb
 have hb0 : b ≠ [] := by rintro rfl; cases hb0
 refine ⟨s, (vl a).toNat, (vl b).toNat, by rw [H2 ca, H2 cb], by rw [H2 ca]; exact la, by rw [H2 cb]; exact lb, ?_, fun e => ?_⟩
 · have := cb.pos hb0; omega
 · have ha0 : a ≠ [] := by rintro rfl; rw [e] at hs; cases hs
   have := ca.pos ha0; omega

theorem Q3 {m : Nat} : (((dg m).length : Int) == 0) = decide (m = 0) := by
 rw [Alz]
 by_cases h : m = 0
 · subst h; rw [Bs]; rfl
 · rw [decide_eq_false h, Cr h]; rfl

theorem Xg {m : Nat} : decide (((dg m).length : Int) > 0) = decide (m ≠ 0) := by
 by_cases h : m = 0
 · subst h; rw [Bs]; rfl
 · rw [Cr h]; simp [h]

def gtP (sa : Bool) (p : Nat) (sb : Bool) (q : Nat) : Bool := decide ((if sb = true then -(q : Int) else q) < (if sa = true then -(p : Int) else p))

def gtR (a b : Rt) : Bool := gtP a.1 ((vl a.2.1).toNat * (vl b.2.2).toNat) b.1 ((vl b.2.1).toNat * (vl a.2.2).toNat)

theorem A7o {n x d : Nat} {s : Bool} (hd : 0 < d) (hx : (dg x).length ≤ 100) (hdl : (dg d).length ≤ 100) (hn : 1048577 ≤ n) : ∃ y, f177 n s (dg x) (dg d) = some y ∧ f135 n y = some (if x = 0 then 0 else if s = true then -1 else 1) := by
 have hg : 0 < Nat.gcd x d := Nat.gcd_pos_of_pos_right x hd
 have hgl : (dg (Nat.gcd x d)).length ≤ 100 := Nat.le_trans (Aw (Nat.gcd_le_right x hd)) hdl
 have hz : (x / Nat.gcd x d = 0) ↔ x = 0 := by
  constructor
  · intro h
    have := Nat.div_mul_cancel (Nat.gcd_dvd_left x d)
    rw [h, Nat.zero_mul] at this
    exact this.symm
  · intro h; rw [h, Nat.zero_div]
 unfold f177
 rw [Alj (L := 100) (by omega) (by omega) hx hdl, A1, A4t (L := 100) hg hx hgl (by omega) (by omega), A1, A4t (L := 100) hg hdl hgl (by omega) (by omega), A1]
 dsimp only
 rw [Xg]
 generalize hq : x / Nat.gcd x d = q at *
 cases s with
 | true =>
  refine ⟨_, rfl, ?_⟩
  unfold f135 f116
  rw [A1]
  dsimp only
  rw [Q3]
  by_cases h : x = 0
  · rw [decide_eq_true (hz.2 h), if_pos h]; rfl
  · rw [decide_eq_false (fun e => h (hz.1 e)), if_neg h, decide_eq_true (show q ≠ 0 from fun e => h (hz.1 e))]; rfl
 | false =>
  refine ⟨_, rfl, ?_⟩
  unfold f135 f116
  rw [A1]
  dsimp only
  rw [Q3]
  by_cases h : x = 0
  · rw [decide_eq_true (hz.2 h), if_pos h]; rfl
  · rw [decide_eq_false (fun e => h (hz.1 e)), if_neg h]; rfl

theorem Ak2 {sa sb sb' : Bool} {p q : Nat} (hp : sa = true → 0 < p) (hq : sb = true → 0 < q) (hs : sb' = (!sb && decide (q ≠ 0))) (he : sa = sb') :
  ((if p + q = 0 then (0 : Int) else if sa = true then -1 else 1) > 0 ↔ (if sb = true then -(q : Int) else q) < (if sa = true then -(p : Int) else p)) ∧ ((if p + q = 0 then (0 : Int) else if sa = true then -1 else 1) < 0 ↔ (if sa = true then -(p : Int) else p) < (if sb = true then -(q : Int) else q)) := by
 refine ⟨?_, ?_⟩
 · cases sa <;> cases sb <;> by_cases hz : q = 0 <;> grind
 · cases sa <;> cases sb <;> by_cases hz : q = 0 <;> grind

theorem B0u {sa sb sb' : Bool} {p q : Nat} (hp : sa = true → 0 < p) (hq : sb = true → 0 < q) (hs : sb' = (!sb && decide (q ≠ 0))) (he : sa ≠ sb') (hle : q ≤ p) :
  ((if p - q = 0 then (0 : Int) else if sa = true then -1 else 1) > 0 ↔ (if sb = true then -(q : Int) else q) < (if sa = true then -(p : Int) else p)) ∧ ((if p - q = 0 then (0 : Int) else if sa = true then -1 else 1) < 0 ↔ (if sa = true then -(p : Int) else p) < (if sb = true then -(q : Int) else q)) := by
 refine ⟨?_, ?_⟩
 · by_cases h : p - q = 0
   · rw [if_pos h]
     cases sa <;> cases sb <;> by_cases hz : q = 0 <;> grind
   · rw [if_neg h]
     cases sa <;> cases sb <;> by_cases hz : q = 0 <;> grind
 · by_cases h : p - q = 0
   · rw [if_pos h]
     cases sa <;> cases sb <;> by_cases hz : q = 0 <;> grind
   · rw [if_neg h]
     cases sa <;> cases sb <;> by_cases hz : q = 0 <;> grind

theorem B0t {sa sb sb' : Bool} {p q : Nat} (hp : sa = true → 0 < p) (hq : sb = true → 0 < q) (hs : sb' = (!sb && decide (q ≠ 0))) (he : sa ≠ sb') (hle : ¬ q ≤ p) :
  ((if q - p = 0 then (0 : Int) else if sb' = true then -1 else 1) > 0 ↔ (if sb = true then -(q : Int) else q) < (if sa = true then -(p : Int) else p)) ∧ ((if q - p = 0 then (0 : Int) else if sb' = true then -1 else 1) < 0 ↔ (if sa = true then -(p : Int) else p) < (if sb = true then -(q : Int) else q)) := by
 refine ⟨?_, ?_⟩
 · rw [if_neg (by omega)]
   cases sa <;> cases sb <;> by_cases hz : q = 0 <;> grind
 · rw [if_neg (by omega)]
   cases sa <;> cases sb <;> by_cases hz : q = 0 <;> grind

theorem Azk {n Na Da Nb Db : Nat} {sa sb : Bool} (a1 : (dg Na).length ≤ 40) (a2 : (dg Da).length ≤ 40) (a3 : 0 < Da) (a4 : sa = true → 0 < Na) (b1 : (dg Nb).length ≤ 40) (b2 : (dg Db).length ≤ 40) (b3 : 0 < Db) (b4 : sb = true → 0 < Nb) (hn : 1048577 ≤ n) :
  ∃ r, f134 n (sa, dg Na, dg Da) (sb, dg Nb, dg Db) = some r ∧ decide (r > 0) = gtP sa (Na * Db) sb (Nb * Da) ∧ decide (r < 0) = gtP sb (Nb * Da) sa (Na * Db) := by
 have l1 := Ar Na Db
 have l2 := Ar Nb Da
 have l3 := Ar Da Db
 have l4 := P3 (Na * Db) (Nb * Da)
 have hd : 0 < Da * Db := Nat.mul_pos a3 b3
 have hp : sa = true → 0 < Na * Db := fun h => Nat.mul_pos (a4 h) b3
 have hq : sb = true → 0 < Nb * Da := fun h => Nat.mul_pos (b4 h) a3
 have hq0 : Nb ≠ 0 ↔ Nb * Da ≠ 0 := by
  constructor
  · intro h; have := Nat.mul_pos (Nat.pos_of_ne_zero h) a3; omega
  · rintro h rfl; rw [Nat.zero_mul] at h; exact h rfl
 have key : ∀ sb' : Bool, sb' = (!sb && decide (Nb ≠ 0)) → ∃ r, (ob (ob (f146 n (sa, dg Na, dg Da) (sb', dg Nb, dg Db)) fun r_2 => some r_2) fun r_1 => ob (f135 n r_1) fun r_2 => some r_2) = some r ∧ decide (r > 0) = gtP sa (Na * Db) sb (Nb * Da) ∧ decide (r < 0) = gtP sb (Nb * Da) sa (Na * Db) := by
  intro sb' hs
  have hsb : sb' = (!sb && decide (Nb * Da ≠ 0)) := by
   rw [hs]; congr 1; exact decide_eq_decide.2 hq0
  unfold f146
  dsimp only
  rw [Gz (by omega) (by omega), A1, Gz (by omega) (by omega), A1, Gz (by omega) (by omega), A1]
  generalize hpe : Na * Db = p at *
  generalize hqe : Nb * Da = q at *
  generalize Da * Db = d at *
  have lp : (dg (p - q)).length ≤ 100 := Nat.le_trans (Aw (Nat.sub_le p q)) (by omega)
  have lq : (dg (q - p)).length ≤ 100 := Nat.le_trans (Aw (Nat.sub_le q p)) (by omega)
  unfold gtP
  rw [Bool.cond_eq_ite]
  by_cases he : sa = sb'
  · rw [if_pos (by rw [he]; simp), B0e (by omega) (by omega) (by omega), A1]
    obtain ⟨y, e1, e2⟩ := A7o (n := n) (x := p + q) (d := d) (s := sa) hd (by omega) (by omega) hn
    rw [e1, A1, A1, A1, e2, A1]
    exact ⟨_, rfl, decide_eq_decide.2 (Ak2 hp hq hsb he).1, decide_eq_decide.2 (Ak2 hp hq hsb he).2⟩
  · rw [if_neg (by simpa using he), A4u (by omega) (by omega), A1, Bool.cond_decide]
    by_cases hle : q ≤ p
    · rw [if_pos (by
       rcases Nat.lt_or_eq_of_le hle with h | h
       · rw [Fd (by omega)]; omega
       · rw [G3 (by omega)]; omega), A4p (by omega) (by omega) hle, A1]
      obtain ⟨y, e1, e2⟩ := A7o (n := n) (x := p - q) (d := d) (s := sa) hd lp (by omega) hn
      rw [e1, A1, A1, A1, e2, A1]
      exact ⟨_, rfl, decide_eq_decide.2 (B0u hp hq hsb he hle).1, decide_eq_decide.2 (B0u hp hq hsb he hle).2⟩
    · rw [if_neg (by rw [Fc (by omega)]; omega), A4p (by omega) (by omega) (by omega), A1]
      obtain ⟨y, e1, e2⟩ := A7o (n := n) (x := q - p) (d := d) (s := sb') hd lq (by omega) hn
      rw [e1, A1, A1, A1, e2, A1]
      exact ⟨_, rfl, decide_eq_decide.2 (B0t hp hq hsb he hle).1, decide_eq_decide.2 (B0t hp hq hsb he hle).2⟩
 unfold f134 f119 f138
 dsimp only
 rw [Xg]
 cases sb with
 | true =>
  have := key false rfl
  simp only [Bool.not_true, cond_false, A1]
  exact this
 | false =>
  have := key (decide (Nb ≠ 0)) (by simp)
  simp only [Bool.not_false, cond_true, A1]
  exact this

theorem Ajf {n N : Nat} {D : List Int} {s : Bool} : f141 n (s, dg N, D) = some (if N = 0 then 0 else if s = true then -1 else 1) := by
 unfold f141
 rw [show f74 n (s, dg N, D) = some (((dg N).length : Int) == 0) from rfl, A1, Q3]
 by_cases h : N = 0
 · rw [decide_eq_true h, if_pos h]; rfl
 · rw [decide_eq_false h, if_neg h]
   cases s <;> rfl

theorem A6t {sa sb : Bool} {Na Nb p q : Nat} (hp : Na = 0 ↔ p = 0) (hq : Nb = 0 ↔ q = 0) (ha : sa = true → 0 < p) (hb : sb = true → 0 < q)
  (he : (if Na = 0 then (0 : Int) else if sa = true then -1 else 1) ≠ (if Nb = 0 then (0 : Int) else if sb = true then -1 else 1)) :
  (((if Na = 0 then (0 : Int) else if sa = true then -1 else 1) - (if Nb = 0 then (0 : Int) else if sb = true then -1 else 1)) > 0 ↔ (if sb = true then -(q : Int) else q) < (if sa = true then -(p : Int) else p)) ∧ (((if Na = 0 then (0 : Int) else if sa = true then -1 else 1) - (if Nb = 0 then (0 : Int) else if sb = true then -1 else 1)) < 0 ↔ (if sa = true then -(p : Int) else p) < (if sb = true then -(q : Int) else q)) := by
 refine ⟨?_, ?_⟩
 · by_cases h1 : Na = 0 <;> by_cases h2 : Nb = 0 <;> cases sa <;> cases sb <;> grind
 · by_cases h1 : Na = 0 <;> by_cases h2 : Nb = 0 <;> cases sa <;> cases sb <;> grind

theorem Ah4 {sa sb : Bool} {Na Nb p q : Nat} (hp : Na = 0 ↔ p = 0) (hq : Nb = 0 ↔ q = 0) (ha : sa = true → 0 < p) (hb : sb = true → 0 < q)
  (he : (if Na = 0 then (0 : Int) else if sa = true then -1 else 1) = (if Nb = 0 then (0 : Int) else if sb = true then -1 else 1)) :
  ((if sa = true then 0 - cm (p : Int) (q : Int) else cm (p : Int) (q : Int)) > 0 ↔ (if sb = true then -(q : Int) else q) < (if sa = true then -(p : Int) else p)) ∧ ((if sa = true then 0 - cm (p : Int) (q : Int) else cm (p : Int) (q : Int)) < 0 ↔ (if sa = true then -(p : Int) else p) < (if sb = true then -(q : Int) else q)) := by
 refine ⟨?_, ?_⟩
 · rcases Int.lt_trichotomy (p : Int) (q : Int) with h | h | h
   · rw [Fc h]
     by_cases h1 : Na = 0 <;> by_cases h2 : Nb = 0 <;> cases sa <;> cases sb <;> grind
   · rw [G3 h]
     by_cases h1 : Na = 0 <;> by_cases h2 : Nb = 0 <;> cases sa <;> cases sb <;> grind
   · rw [Fd h]
     by_cases h1 : Na = 0 <;> by_cases h2 : Nb = 0 <;> cases sa <;> cases sb <;> grind
 · rcases Int.lt_trichotomy (p : Int) (q : Int) with h | h | h
   · rw [Fc h]
     by_cases h1 : Na = 0 <;> by_cases h2 : Nb = 0 <;> cases sa <;> cases sb <;> grind
   · rw [G3 h]
     by_cases h1 : Na = 0 <;> by_cases h2 : Nb = 0 <;> cases sa <;> cases sb <;> grind
   · rw [Fd h]
     by_cases h1 : Na = 0 <;> by_cases h2 : Nb = 0 <;> cases sa <;> cases sb <;> grind

theorem B8a (x y : Int) : -1 ≤ cm x y ∧ cm x y ≤ 1 := by
 unfold cm
 split
 · omega
 · split <;> omega

theorem Azc {n Na Da Nb Db : Nat} {sa sb : Bool} (a1 : (dg Na).length ≤ 40) (a2 : (dg Da).length ≤ 40) (a3 : 0 < Da) (a4 : sa = true → 0 < Na) (b1 : (dg Nb).length ≤ 40) (b2 : (dg Db).length ≤ 40) (b3 : 0 < Db) (b4 : sb = true → 0 < Nb) (hn : 1048577 ≤ n) :
  ∃ r, f181 n (sa, dg Na, dg Da) (sb, dg Nb, dg Db) = some r ∧ decide (r > 0) = gtP sa (Na * Db) sb (Nb * Da) ∧ decide (r < 0) = gtP sb (Nb * Da) sa (Na * Db) := by
 have l1 := Ar Na Db
 have l2 := Ar Nb Da
 have hp : sa = true → 0 < Na * Db := fun h => Nat.mul_pos (a4 h) b3
 have hq : sb = true → 0 < Nb * Da := fun h => Nat.mul_pos (b4 h) a3
 have hp0 : Na = 0 ↔ Na * Db = 0 := by
  constructor
  · rintro rfl; rw [Nat.zero_mul]
  · intro h
    rcases Nat.mul_eq_zero.1 h with h | h
    · exact h
    · omega
 have hq0 : Nb = 0 ↔ Nb * Da = 0 := by
  constructor
  · rintro rfl; rw [Nat.zero_mul]
  · intro h
    rcases Nat.mul_eq_zero.1 h with h | h
    · exact h
    · omega
 unfold f181
 rw [Ajf, A1, Ajf, A1]
 dsimp only
 rw [Bool.cond_eq_ite]
 by_cases he : (if Na = 0 then (0 : Int) else if sa = true then -1 else 1) = (if Nb = 0 then (0 : Int) else if sb = true then -1 else 1)
 · rw [if_neg (by rw [he]; simp), Kk (by omega) (by omega), A1, Kk (by omega) (by omega), A1, A5d (by omega), A1]
   have hr := B8a ((Na * Db : Nat) : Int) ((Nb * Da : Nat) : Int)
   rw [A9 (x := 0 - cm ((Na * Db : Nat) : Int) ((Nb * Da : Nat) : Int)) (by omega) (by omega)]
   refine ⟨if sa = true then 0 - cm ((Na * Db : Nat) : Int) ((Nb * Da : Nat) : Int) else cm ((Na * Db : Nat) : Int) ((Nb * Da : Nat) : Int), by cases sa <;> rfl, ?_⟩
   exact ⟨decide_eq_decide.2 (Ah4 hp0 hq0 hp hq he).1, decide_eq_decide.2 (Ah4 hp0 hq0 hp hq he).2⟩
 · rw [if_pos (by rw [bne_iff_ne]; exact he), A1, A1]
   have h1 : -1 ≤ (if Na = 0 then (0 : Int) else if sa = true then -1 else 1) ∧ (if Na = 0 then (0 : Int) else if sa = true then -1 else 1) ≤ 1 := by
    split
    · omega
    · split <;> omega
   have h2 : -1 ≤ (if Nb = 0 then (0 : Int) else if sb = true then -1 else 1) ∧ (if Nb = 0 then (0 : Int) else if sb = true then -1 else 1) ≤ 1 := by
    split
    · omega
    · split <;> omega
   rw [A9 (by omega) (by omega)]
   exact ⟨_, rfl, decide_eq_decide.2 (A6t hp0 hq0 hp hq he).1, decide_eq_decide.2 (A6t hp0 hq0 hp hq he).2⟩

theorem P5 {sa sb : Bool} {Na Da Nb Db : Nat} : gtR (sa, dg Na, dg Da) (sb, dg Nb, dg Db) = gtP sa (Na * Db) sb (Nb * Da) := by
 unfold gtR
 dsimp only
 rw [B0, B0, B0, B0]
 rfl

theorem B3j {n : Nat} {a b : Rt} (ha : Cq a = true) (hb : Cq b = true) (hn : 1048577 ≤ n) : ∃ r, f134 n a b = some r ∧ decide (r > 0) = gtR a b ∧ decide (r < 0) = gtR b a := by
 obtain ⟨sa, Na, Da, rfl, a1, a2, a3, a4⟩ := Oy ha
 obtain ⟨sb, Nb, Db, rfl, b1, b2, b3, b4⟩ := Oy hb
 rw [P5, P5]
 exact Azk a1 a2 a3 a4 b1 b2 b3 b4 hn

theorem B2o {n : Nat} {a b : Rt} (ha : Cq a = true) (hb : Cq b = true) (hn : 1048577 ≤ n) : ∃ r, f181 n a b = some r ∧ decide (r > 0) = gtR a b ∧ decide (r < 0) = gtR b a := by
 obtain ⟨sa, Na, Da, rfl, a1, a2, a3, a4⟩ := Oy ha
 obtain ⟨sb, Nb, Db, rfl, b1, b2, b3, b4⟩ := Oy hb
 rw [P5, P5]
 exact Azc a1 a2 a3 a4 b1 b2 b3 b4 hn

theorem Awj {α : Type} {n : Nat} {a b : List Int} (ha : Cn a) (hb : Cn b) (hN : a.length ≤ 1099511627776) (hNb : b.length ≤ 1099511627776) {k0 : List Int → Option α} : ∀ (m i : Nat) (c : Int) (o : List Int), o.length = i → Lm o → 0 ≤ c → c ≤ 1 →
  vl o + 10000 ^ i * c = vl (a.take i) + vl (b.take i) → (i ≤ max a.length b.length ∨ (i = max a.length b.length + 1 ∧ c = 0 ∧ o.getD (i - 1) 0 ≠ 0)) → max a.length b.length + 2 ≤ i + m →
  Lc n m a b c (i : Int) o k0 = k0 (dg (vl a + vl b).toNat)
 | 0, i, c, o, ho, hlo, hc0, hc1, hv, hq, hm => by omega
 | m + 1, i, c, o, ho, hlo, hc0, hc1, hv, hq, hm => by
  rw [Au5]
  unfold A33
  dsimp only
  have fin : a.length ≤ i → b.length ≤ i → c = 0 → o = dg (vl a + vl b).toNat := fun h1 h2 h3 => by
   rw [It a h1, It b h2, h3] at hv
   have hv' : vl o = vl a + vl b := by simpa using hv
   have : Cn o := Cn.of_ge hlo fun hn => by
    have hl : 0 < o.length := List.length_pos_iff.2 hn
    rcases hq with hq | ⟨hq1, _, hq3⟩
    · have hmx : i = max a.length b.length := by omega
      rw [ho, hv']
      rcases Nat.le_total a.length b.length with hab | hab
      · have h4 := hb.ge (List.length_pos_iff.1 (by omega))
        have h5 := B6 ha.1
        rw [show i - 1 = b.length - 1 by omega]; omega
      · have h4 := ha.ge (List.length_pos_iff.1 (by omega))
        have h5 := B6 hb.1
        rw [show i - 1 = a.length - 1 by omega]; omega
    · have h1 := B8 o (o.length - 1)
      rw [show o.length - 1 + 1 = o.length by omega, List.take_length] at h1
      have h2 := B6 (hlo.take (o.length - 1))
      have h3 := hlo.get (o.length - 1)
      rw [← ho] at hq3
      have h4 := Es (o.length - 1)
      have h5 : (10000 : Int) ^ (o.length - 1) * 1 ≤ 10000 ^ (o.length - 1) * o.getD (o.length - 1) 0 := Int.mul_le_mul_of_nonneg_left (by omega) (by omega)
      omega
   rw [← hv', H2 this]
  have go : ∀ (y : Int), y = c + a.getD i 0 + b.getD i 0 → (i < max a.length b.length ∨ (i = max a.length b.length ∧ 0 < c)) → Lc n m a b (W (Int.tdiv y 10000)) (W ((i : Int) + 1)) (o ++ [Int.tmod y 10000]) k0 = k0 (dg (vl a + vl b).toNat) := by
   intro y hy hi
   have h1 := ha.1.get i
   have h2 := hb.1.get i
   rw [tdv (by omega), tmd (by omega), A9 (by omega) (by omega), A9 (by omega) (by omega)]
   have ta := B8 a i
   have tb := B8 b i
   have hyy : y = 10000 * (y / 10000) + y % 10000 := by omega
   refine Awj (n := n) ha hb hN hNb m (i + 1) _ _ (by simp [ho]) (hlo.app (Lm.cons (by omega) Lm.nil)) (by omega) (by omega) ?_ ?_ (by omega)
   · rw [Oo, ho, ta, tb, Bl]
     generalize y / 10000 = q at *
     generalize y % 10000 = r at *
     generalize (10000 : Int) ^ i = P at *
     grind
   · rcases hi with hi | ⟨hi, hc⟩
     · exact .inl (by omega)
     · right
       have e1 : a.getD i 0 = 0 := Bc (by omega)
       have e2 : b.getD i 0 = 0 := Bc (by omega)
       have e3 : y = 1 := by omega
       subst e3
       refine ⟨by omega, by rfl, ?_⟩
       rw [Nat.add_sub_cancel, ← ho, List.getD_eq_getElem?_getD]
       simp
  have hcases : (i < a.length ∨ i < b.length ∨ 0 < c) → (i < max a.length b.length ∨ (i = max a.length b.length ∧ 0 < c)) := fun h => by
   rcases h with h | h | h
   · exact .inl (by omega)
   · exact .inl (by omega)
   · rcases hq with hq | ⟨_, h0, _⟩
     · omega
     · omega
  have ho2 : (decide ((o.length + 1) * 8 ≤ 140737488355328)) = true := by
   rw [decide_eq_true_eq]
   rcases hq with hq | ⟨hq, _⟩ <;> omega
  have h1 := ha.1.get i
  have h2 := hb.1.get i
  by_cases hA : i < a.length
  · have dA : decide ((i : Int) < (a.length : Int)) = true := by rw [decide_eq_true_eq]; omega
    have dM : decide ((i : Int) < max (a.length : Int) (b.length : Int)) = true := by rw [decide_eq_true_eq]; omega
    simp only [dM, dA, cond_true, Int.toNat_natCast]
    rw [A3 (by simp; try omega), A9 (x := c + a.getD i 0) (by omega) (by omega)]
    by_cases hB : i < b.length
    · have dB : decide ((i : Int) < (b.length : Int)) = true := by rw [decide_eq_true_eq]; omega
      simp only [dB, cond_true]
      rw [A3 (by simp; try omega), A3 ho2, A9 (x := c + a.getD i 0 + b.getD i 0) (by omega) (by omega)]
      exact go _ rfl (hcases (.inl hA))
    · have dB : decide ((i : Int) < (b.length : Int)) = false := by rw [decide_eq_false_iff_not]; omega
      simp only [dB, cond_false]
      rw [A3 ho2]
      exact go _ (by rw [Bc (l := b) (by omega)]; omega) (hcases (.inl hA))
  · have dA : decide ((i : Int) < (a.length : Int)) = false := by rw [decide_eq_false_iff_not]; omega
    by_cases hB : i < b.length
    · have dB : decide ((i : Int) < (b.length : Int)) = true := by rw [decide_eq_true_eq]; omega
      have dM : decide ((i : Int) < max (a.length : Int) (b.length : Int)) = true := by rw [decide_eq_true_eq]; omega
      simp only [dM, dA, dB, cond_true, cond_false, Int.toNat_natCast]
      rw [A3 (by simp; try omega), A3 ho2, A9 (x := c + b.getD i 0) (by omega) (by omega)]
      exact go _ (by rw [Bc (l := a) (by omega)]; omega) (hcases (.inr (.inl hB)))
    · have dB : decide ((i : Int) < (b.length : Int)) = false := by rw [decide_eq_false_iff_not]; omega
      have dM : decide ((i : Int) < max (a.length : Int) (b.length : Int)) = false := by rw [decide_eq_false_iff_not]; omega
      simp only [dM, dA, dB, cond_false]
      rw [Bool.cond_decide]
      by_cases hc : 0 < c
      · rw [if_pos (by omega), A3 ho2]
        exact go _ (by rw [Bc (l := a) (by omega), Bc (l := b) (by omega)]; omega) (hcases (.inr (.inr hc)))
      · rw [if_neg (by omega), fin (by omega) (by omega) (by omega)]

theorem B8y {n a b : Nat} (h : (dg a).length ≤ 1099511627776) (h' : (dg b).length ≤ 1099511627776) (hn : max (dg a).length (dg b).length + 2 ≤ n) : f169 n (dg a) (dg b) = some (dg (a + b)) := by
 unfold f169
 have := Awj (n := n) (Fg a) (Fg b) h h' (k0 := fun z_6 => some z_6) n 0 0 [] rfl Lm.nil (by omega) (by omega) (by simp [vl]) (.inl (by omega)) (by omega)
 have this : Lc n n (dg a) (dg b) 0 0 [] _ = _ := this
 rw [this, B0, B0]
 congr 1

theorem Aqr {o P c wi bi v' T y d r : Int} (h : o - P * (c + (bi + 10000 * v')) = T) (hy : y = wi - c - bi) (hd : y = r - 10000 * d) : o + P * (r - wi) - 10000 * P * (d + v') = T := by
 grind

theorem Apl {α : Type} {n : Nat} {b : List Int} (hb : Lm b) {N : Nat} (hN : N ≤ 1099511627776) {T : Int} {k0 : List Int → Option α} : ∀ (m i : Nat) (c : Int) (o : List Int), o.length = N → Lm o → 0 ≤ c → c ≤ 1 → i ≤ N →
  vl o - 10000 ^ i * (c + vl (b.drop i)) = T → N + 1 ≤ i + m →
  ∃ o' c', He n m b c (N : Int) (i : Int) o k0 = k0 o' ∧ o'.length = N ∧ Lm o' ∧ 0 ≤ c' ∧ c' ≤ 1 ∧ vl o' - 10000 ^ N * (c' + vl (b.drop N)) = T
 | 0, i, c, o, ho, hlo, hc0, hc1, hi, hv, hm => by omega
 | m + 1, i, c, o, ho, hlo, hc0, hc1, hi, hv, hm => by
  rw [Atw]
  unfold A2z
  dsimp only
  by_cases hA : i < N
  · rw [Bool.cond_decide, if_pos (by omega), A3 (by simp; try omega), A3 (by simp; try omega)]
    have h1 := hlo.get i
    have h2 := hb.get i
    simp only [Int.toNat_natCast]
    have go : ∀ (d r : Int), d = (if o.getD i 0 - c - b.getD i 0 < 0 then 1 else 0) → r = o.getD i 0 - c - b.getD i 0 + 10000 * d → ∃ o' c', He n m b d (N : Int) (W ((i : Int) + 1)) (o.set i r) k0 = k0 o' ∧ o'.length = N ∧ Lm o' ∧ 0 ≤ c' ∧ c' ≤ 1 ∧ vl o' - 10000 ^ N * (c' + vl (b.drop N)) = T := by
     intro d r hd hr
     have hd1 : 0 ≤ d ∧ d ≤ 1 ∧ 0 ≤ r ∧ r < 10000 := by
      rw [hr, hd]
      split <;> omega
     rw [A9 (x := (i : Int) + 1) (by omega) (by omega)]
     refine Apl (n := n) hb hN m (i + 1) d _ (by simpa using ho) (hlo.set _ (by omega)) (by omega) (by omega) (by omega) ?_ (by omega)
     rw [Jv _ (by omega), Bl]
     refine Aqr (bi := b.getD i 0) (y := o.getD i 0 - c - b.getD i 0) ?_ rfl (by omega)
     rw [← A0l]; exact hv
    have go2 : ∀ y : Int, y = o.getD i 0 - c - b.getD i 0 → ∃ o' c', (bif (decide (y < 0)) then
          gd (decide (0 ≤ (i : Int)) && decide ((i : Int) < (o.length : Int))) (
           gd (decide (i < o.length)) (
            He n m b 1 (N : Int) (W ((i : Int) + 1)) (o.set i (W (y + 10000))) k0))
      else
       gd (decide (0 ≤ (i : Int)) && decide ((i : Int) < (o.length : Int))) (
        gd (decide (i < o.length)) (
         He n m b 0 (N : Int) (W ((i : Int) + 1)) (o.set i y) k0))) = k0 o' ∧ o'.length = N ∧ Lm o' ∧ 0 ≤ c' ∧ c' ≤ 1 ∧ vl o' - 10000 ^ N * (c' + vl (b.drop N)) = T := by
     intro y hy
     rw [Bool.cond_decide]
     by_cases hneg : y < 0
     · rw [if_pos hneg, A3 (by simp; try omega), A3 (by simp; try omega), A9 (x := y + 10000) (by omega) (by omega)]
       exact go 1 _ (by rw [if_pos (by omega)]) (by omega)
     · rw [if_neg hneg, A3 (by simp; try omega), A3 (by simp; try omega)]
       exact go 0 _ (by rw [if_neg (by omega)]) (by omega)
    by_cases hB : i < b.length
    · have dB : decide ((i : Int) < (b.length : Int)) = true := by rw [decide_eq_true_eq]; omega
      simp only [dB, cond_true]
      rw [A3 (by simp; try omega)]
      simp only [A9 (x := o.getD i 0 - c) (by omega) (by omega), A9 (x := o.getD i 0 - c - b.getD i 0) (by omega) (by omega)]
      exact go2 _ rfl
    · have dB : decide ((i : Int) < (b.length : Int)) = false := by rw [decide_eq_false_iff_not]; omega
      simp only [dB, cond_false]
      simp only [A9 (x := o.getD i 0 - c) (by omega) (by omega)]
      exact go2 _ (by rw [Bc (l := b) (by omega)]; omega)
  · rw [Bool.cond_decide, if_neg (by omega)]
    obtain rfl : i = N := by omega
    exact ⟨o, c, rfl, ho, hlo, hc0, hc1, hv⟩

theorem B0p {n a b : Nat} (h : (dg a).length ≤ 1099511627000) (hn : (dg a).length + 1 ≤ n) (hab : b ≤ a) (ha : 0 < a) : f171 n (dg a) (dg b) = some (dg (a - b)) := by
 have hlab := Aw hab
 unfold f171
 rw [Agg n (by omega) (fun e => by have := B88.1 e; omega), A1]
 obtain ⟨o, c, h1, h2, h3, h4, h5, h6⟩ := Apl (n := n) (Cw b) (N := (dg a).length) (by omega) (T := (a : Int) - b) (k0 := fun z_4 => (
   ob (f185 n z_4) fun r_5 =>
   some r_5)) n 0 0 (dg a) rfl (Cw a) (by omega) (by omega) (by omega) (by rw [List.drop_zero, B0, B0, Int.pow_zero, Int.one_mul, Int.zero_add]) (by omega)
 have h1 : He n n (dg b) 0 ((dg a).length : Int) 0 (dg a) _ = _ := h1
 rw [List.drop_of_length_le (by omega)] at h6
 have h7 := Gy h3
 rw [h2] at h7
 have h8 := B6 h3
 have : c = 0 := by
  rcases Int.lt_or_eq_of_le h4 with h | h
  · have : c = 1 := by omega
    rw [this] at h6
    simp only [vl, Int.add_zero, Int.mul_one] at h6
    generalize (10000 : Int) ^ (dg a).length = P at *
    omega
  · exact h.symm
 rw [this] at h6
 simp only [vl, Int.add_zero, Int.mul_zero, Int.sub_zero] at h6
 rw [h1, Pl h3 (by omega) (by omega), A1, h6, show ((a : Int) - (b : Int)).toNat = a - b by omega]

def rq (x : Rat) : Rt := (decide (x.num < 0), dg x.num.natAbs, dg x.den)

def mq (s : Bool) (a d : Nat) : Rat := mkRat (if s = true then -(a : Int) else a) d

def Sz (x : Rat) (L : Nat) : Prop := (dg x.num.natAbs).length ≤ L ∧ (dg x.den).length ≤ L

theorem V6 (s : Bool) (a : Nat) : (if s = true then -(a : Int) else a).natAbs = a := by cases s <;> simp

theorem Aef {s : Bool} {a d : Nat} (hd : 0 < d) : (mq s a d).num = if s = true then -((a / Nat.gcd a d : Nat) : Int) else ((a / Nat.gcd a d : Nat) : Int) := by
 unfold mq
 rw [Rat.num_mkRat, if_neg (by omega), V6, Nat.gcd_comm d a]
 cases s with
 | false => simp
 | true =>
  simp only [if_true]
  rw [Int.neg_ediv_of_dvd (by exact_mod_cast Nat.gcd_dvd_left a d)]
  simp

theorem Aeg {s : Bool} {a d : Nat} (hd : 0 < d) : (mq s a d).den = d / Nat.gcd a d := by
 unfold mq
 rw [Rat.den_mkRat, if_neg (by omega), V6, Nat.gcd_comm d a]

theorem Alk {s : Bool} {a d : Nat} (hd : 0 < d) : rq (mq s a d) = (s && decide (a / Nat.gcd a d ≠ 0), dg (a / Nat.gcd a d), dg (d / Nat.gcd a d)) := by
 unfold rq
 rw [Aef hd, Aeg hd]
 generalize a / Nat.gcd a d = q
 cases s with
 | false => simp
 | true =>
  simp only [if_true, Bool.true_and, Int.natAbs_neg, Int.natAbs_natCast]
  congr 1
  apply decide_eq_decide.2
  omega

theorem Im {s : Bool} {a d L : Nat} (hd : 0 < d) (h1 : (dg a).length ≤ L) (h2 : (dg d).length ≤ L) : Sz (mq s a d) L := by
 unfold Sz
 rw [Aef hd, Aeg hd, V6]
 exact ⟨Nat.le_trans (Aw (Nat.div_le_self _ _)) h1, Nat.le_trans (Aw (Nat.div_le_self _ _)) h2⟩

theorem Ou {n L x d : Nat} {s : Bool} (hd : 0 < d) (hx : (dg x).length ≤ L) (hdl : (dg d).length ≤ L) (hL : L ≤ 1099511627000) (hn : 28 * L + 10040 ≤ n) : f177 n s (dg x) (dg d) = some (rq (mq s x d)) := by
 have hg : 0 < Nat.gcd x d := Nat.gcd_pos_of_pos_right x hd
 have hgl : (dg (Nat.gcd x d)).length ≤ L := Nat.le_trans (Aw (Nat.gcd_le_right x hd)) hdl
 rw [Alk hd]
 unfold f177
 rw [Alj hL hn hx hdl, A1, A4t hg hx hgl hL (by omega), A1, A4t hg hdl hgl hL (by omega), A1]
 dsimp only
 rw [Xg]
 cases s <;> rfl

theorem Vi {n L x d : Nat} {s : Bool} (hd : 0 < d) (hx : (dg x).length ≤ L) (hdl : (dg d).length ≤ L) (hL : L ≤ 1099511627000) (hn : 28 * L + 10040 ≤ n) : f142 n s (dg x) (dg d) = some (rq (mq s x d)) := by
 have hg : 0 < Nat.gcd x d := Nat.gcd_pos_of_pos_right x hd
 have hgl : (dg (Nat.gcd x d)).length ≤ L := Nat.le_trans (Aw (Nat.gcd_le_right x hd)) hdl
 have hq1 : (dg (x / Nat.gcd x d)).length ≤ L := Nat.le_trans (Aw (Nat.div_le_self _ _)) hx
 have hq2 : (dg (d / Nat.gcd x d)).length ≤ L := Nat.le_trans (Aw (Nat.div_le_self _ _)) hdl
 rw [Alk hd]
 unfold f142
 dsimp only
 rw [B0q hL hn hx hdl, A1, show f161 n = some [1] from rfl, A1, ← K1, A5d (by omega), A1]
 have fin : ∀ y z : List Int, y = dg (x / Nat.gcd x d) → z = dg (d / Nat.gcd x d) → (bif s then
   ob (f145 n y) fun r_8 =>
   ob (f145 n z) fun r_9 =>
   some ((decide ((y.length : Int) > 0)), r_8, r_9)
  else
   ob (f145 n y) fun r_10 =>
   ob (f145 n z) fun r_11 =>
   some (false, r_10, r_11)) = some (s && decide (x / Nat.gcd x d ≠ 0), dg (x / Nat.gcd x d), dg (d / Nat.gcd x d)) := by
  rintro y z rfl rfl
  rw [Fz n (by omega), A1, Fz n (by omega), A1, Xg]
  cases s <;> rfl
 by_cases h1 : Nat.gcd x d = 1
 · have e : (cm ((Nat.gcd x d : Nat) : Int) ((1 : Nat) : Int) != 0) = false := by rw [h1, G3 rfl]; rfl
   rw [e, cond_false]
   exact fin _ _ (by rw [h1, Nat.div_one]) (by rw [h1, Nat.div_one])
 · have e : (cm ((Nat.gcd x d : Nat) : Int) ((1 : Nat) : Int) != 0) = true := by
    rw [bne, Ah5, decide_eq_false h1]; rfl
   rw [e, cond_true, Am1 hg hx hgl hL (by omega), A1, Am1 hg hdl hgl hL (by omega), A1]
   exact fin _ _ rfl rfl

theorem Et (x : Rat) : x.num = if decide (x.num < 0) = true then -(x.num.natAbs : Int) else x.num.natAbs := by
 by_cases h : x.num < 0
 · rw [decide_eq_true h, if_pos rfl]; omega
 · rw [decide_eq_false h, if_neg (by decide)]; omega

theorem Nc {x y : Rat} (h : decide (x.num < 0) = decide (y.num < 0)) : x + y = mq (decide (x.num < 0)) (x.num.natAbs * y.den + y.num.natAbs * x.den) (x.den * y.den) := by
 rw [Rat.add_def']
 unfold mq
 congr 1
 have hx := Et x
 have hy := Et y
 rw [← h] at hy
 generalize decide (x.num < 0) = s at *
 generalize x.num.natAbs = p at *
 generalize y.num.natAbs = q at *
 rw [hx, hy]
 cases s with
 | true => simp only [if_true, Int.natCast_add, Int.natCast_mul]; grind
 | false => simp

theorem Gt {x y : Rat} (h : decide (x.num < 0) ≠ decide (y.num < 0)) (hle : y.num.natAbs * x.den ≤ x.num.natAbs * y.den) : x + y = mq (decide (x.num < 0)) (x.num.natAbs * y.den - y.num.natAbs * x.den) (x.den * y.den) := by
 rw [Rat.add_def']
 unfold mq
 congr 1
 have hx := Et x
 have hy := Et y
 have h' : decide (y.num < 0) = !decide (x.num < 0) := by
  generalize decide (x.num < 0) = s at h
  generalize decide (y.num < 0) = t at h
  cases s <;> cases t <;> first | rfl | exact absurd rfl h
 rw [h'] at hy
 generalize decide (x.num < 0) = s at *
 generalize x.num.natAbs = p at *
 generalize y.num.natAbs = q at *
 rw [hx, hy, Int.natCast_sub hle]
 cases s with
 | true => simp only [if_true, Int.natCast_mul, Bool.not_true]; simp; grind
 | false => simp only [Int.natCast_mul, Bool.not_false, if_true]; simp; grind

theorem Ux {n L : Nat} {x y : Rat} (hx : Sz x L) (hy : Sz y L) (hL : 2 * L + 1 ≤ 1099511627000) (hn : 28 * (2 * L + 1) + 10040 ≤ n) : f146 n (rq x) (rq y) = some (rq (x + y)) := by
 obtain ⟨x1, x2⟩ := hx
 obtain ⟨y1, y2⟩ := hy
 have l1 := Ar x.num.natAbs y.den
 have l2 := Ar y.num.natAbs x.den
 have l3 := Ar x.den y.den
 have l4 := P3 (x.num.natAbs * y.den) (y.num.natAbs * x.den)
 have hd : 0 < x.den * y.den := Nat.mul_pos (Nat.pos_of_ne_zero x.den_nz) (Nat.pos_of_ne_zero y.den_nz)
 unfold f146 rq
 dsimp only
 rw [Gz (by omega) (by omega), A1, Gz (by omega) (by omega), A1, Gz (by omega) (by omega), A1, Bool.cond_eq_ite]
 by_cases hs : decide (x.num < 0) = decide (y.num < 0)
 · rw [if_pos (by rw [hs]; simp), B0e (by omega) (by omega) (by omega), A1, Ou hd (L := 2 * L + 1) (by omega) (by omega) hL hn, A1, Nc hs]; rfl
 · rw [if_neg (by simpa using hs), A4u (by omega) (by omega), A1, Bool.cond_decide]
   by_cases hle : y.num.natAbs * x.den ≤ x.num.natAbs * y.den
   · have l5 := Aw (Nat.sub_le (x.num.natAbs * y.den) (y.num.natAbs * x.den))
     rw [if_pos (by
      rcases Nat.lt_or_eq_of_le hle with h | h
      · rw [Fd (by omega)]; omega
      · rw [G3 (by omega)]; omega), A4p (by omega) (by omega) hle, A1, Ou hd (L := 2 * L + 1) (by omega) (by omega) hL hn, A1, Gt hs hle]; rfl
   · have l5 := Aw (Nat.sub_le (y.num.natAbs * x.den) (x.num.natAbs * y.den))
     rw [if_neg (by rw [Fc (by omega)]; omega), A4p (by omega) (by omega) (by omega), A1, Ou hd (L := 2 * L + 1) (by omega) (by omega) hL hn, A1, Rat.add_comm, Gt (fun e => hs e.symm) (by omega), Nat.mul_comm y.den x.den]; rfl

theorem A5a {n L : Nat} {x y : Rat} (hx : Sz x L) (hy : Sz y L) (hL : 2 * L + 1 ≤ 1099511627000) (hn : 28 * (2 * L + 1) + 10040 ≤ n) : f104 n (rq x) (rq y) = some (rq (x + y)) := by
 obtain ⟨x1, x2⟩ := hx
 obtain ⟨y1, y2⟩ := hy
 have l1 := Ar x.num.natAbs y.den
 have l2 := Ar y.num.natAbs x.den
 have l3 := Ar x.den y.den
 have l4 := P3 (x.num.natAbs * y.den) (y.num.natAbs * x.den)
 have hd : 0 < x.den * y.den := Nat.mul_pos (Nat.pos_of_ne_zero x.den_nz) (Nat.pos_of_ne_zero y.den_nz)
 unfold f104 rq
 dsimp only
 rw [Kk (by omega) (by omega), A1, Kk (by omega) (by omega), A1, Kk (by omega) (by omega), A1, Bool.cond_eq_ite]
 by_cases hs : decide (x.num < 0) = decide (y.num < 0)
 · rw [if_pos (by rw [hs]; simp), B8y (by omega) (by omega) (by omega), A1, Vi hd (L := 2 * L + 1) (by omega) (by omega) hL hn, A1, Nc hs]; rfl
 · rw [if_neg (by simpa using hs), A5d (by omega), A1, Bool.cond_decide]
   by_cases hle : y.num.natAbs * x.den ≤ x.num.natAbs * y.den
   · have l5 := Aw (Nat.sub_le (x.num.natAbs * y.den) (y.num.natAbs * x.den))
     have hp : 0 < x.num.natAbs * y.den := by
      rcases Nat.eq_zero_or_pos (x.num.natAbs * y.den) with h | h
      · exfalso
        have hyd := y.den_nz
        have hxd := x.den_nz
        have h2 : y.num.natAbs * x.den = 0 := by omega
        have e1 : x.num = 0 := by rcases Nat.mul_eq_zero.1 h with h | h <;> omega
        have e2 : y.num = 0 := by rcases Nat.mul_eq_zero.1 h2 with h | h <;> omega
        exact hs (by rw [e1, e2])
      · exact h
     rw [if_pos (by
      rcases Nat.lt_or_eq_of_le hle with h | h
      · rw [Fd (by omega)]; omega
      · rw [G3 (by omega)]; omega), B0p (by omega) (by omega) hle hp, A1, Vi hd (L := 2 * L + 1) (by omega) (by omega) hL hn, A1, Gt hs hle]; rfl
   · have l5 := Aw (Nat.sub_le (y.num.natAbs * x.den) (x.num.natAbs * y.den))
     rw [if_neg (by rw [Fc (by omega)]; omega), B0p (by omega) (by omega) (by omega) (by omega), A1, Vi hd (L := 2 * L + 1) (by omega) (by omega) hL hn, A1, Rat.add_comm, Gt (fun e => hs e.symm) (by omega), Nat.mul_comm y.den x.den]; rfl

theorem V8 (x y : Rat) : x * y = mq (!(decide (x.num < 0) == decide (y.num < 0))) (x.num.natAbs * y.num.natAbs) (x.den * y.den) := by
 rw [Rat.mul_def']
 unfold mq
 congr 1
 have hx := Et x
 have hy := Et y
 generalize decide (x.num < 0) = s at *
 generalize decide (y.num < 0) = t at *
 generalize x.num.natAbs = p at *
 generalize y.num.natAbs = q at *
 rw [hx, hy]
 cases s <;> cases t <;> simp [Int.neg_mul, Int.mul_neg]

theorem Ky {n L : Nat} {x y : Rat} (hx : Sz x L) (hy : Sz y L) (hL : 2 * L + 1 ≤ 1099511627000) (hn : 28 * (2 * L + 1) + 10040 ≤ n) : f176 n (rq x) (rq y) = some (rq (x * y)) := by
 obtain ⟨x1, x2⟩ := hx
 obtain ⟨y1, y2⟩ := hy
 have l1 := Ar x.num.natAbs y.num.natAbs
 have l3 := Ar x.den y.den
 have hd : 0 < x.den * y.den := Nat.mul_pos (Nat.pos_of_ne_zero x.den_nz) (Nat.pos_of_ne_zero y.den_nz)
 unfold f176 rq
 dsimp only
 rw [Gz (by omega) (by omega), A1, Gz (by omega) (by omega), A1, Ou hd (L := 2 * L + 1) (by omega) (by omega) hL hn, A1, V8]; rfl

theorem Y5 {n L : Nat} {x y : Rat} (hx : Sz x L) (hy : Sz y L) (hL : 2 * L + 1 ≤ 1099511627000) (hn : 28 * (2 * L + 1) + 10040 ≤ n) : f103 n (rq x) (rq y) = some (rq (x * y)) := by
 obtain ⟨x1, x2⟩ := hx
 obtain ⟨y1, y2⟩ := hy
 have l1 := Ar x.num.natAbs y.num.natAbs
 have l3 := Ar x.den y.den
 have hd : 0 < x.den * y.den := Nat.mul_pos (Nat.pos_of_ne_zero x.den_nz) (Nat.pos_of_ne_zero y.den_nz)
 unfold f103 rq
 dsimp only
 rw [Kk (by omega) (by omega), A1, Kk (by omega) (by omega), A1, Vi hd (L := 2 * L + 1) (by omega) (by omega) hL hn, A1, V8]; rfl

theorem Xf {x y : Rat} (hy : y ≠ 0) : x / y = mq (!(decide (x.num < 0) == decide (y.num < 0))) (x.num.natAbs * y.den) (x.den * y.num.natAbs) := by
 have hyn : y.num ≠ 0 := fun e => hy (Rat.num_eq_zero.1 e)
 have key : mq (!(decide (x.num < 0) == decide (y.num < 0))) (x.num.natAbs * y.den) (x.den * y.num.natAbs) * y = x := by
  conv => lhs; rhs; rw [← Rat.mkRat_self y]
  conv => rhs; rw [← Rat.mkRat_self x]
  unfold mq
  rw [Rat.mkRat_mul_mkRat, Rat.mkRat_eq_iff (Nat.mul_ne_zero (Nat.mul_ne_zero x.den_nz (by omega)) y.den_nz) x.den_nz]
  have hx := Et x
  have hy := Et y
  generalize decide (x.num < 0) = s at *
  generalize decide (y.num < 0) = t at *
  generalize x.num.natAbs = p at *
  generalize y.num.natAbs = q at *
  rw [hx, hy]
  simp only [Int.natCast_mul]
  cases s <;> cases t <;> simp <;> grind
 conv => lhs; rw [← key]
 exact Rat.mul_div_cancel hy

theorem Ae0 {n L : Nat} {x y : Rat} (hx : Sz x L) (hy : Sz y L) (hy0 : y ≠ 0) (hL : 2 * L + 1 ≤ 1099511627000) (hn : 28 * (2 * L + 1) + 10040 ≤ n) : f118 n (rq x) (rq y) = some (rq (x / y)) := by
 obtain ⟨x1, x2⟩ := hx
 obtain ⟨y1, y2⟩ := hy
 have l1 := Ar x.num.natAbs y.den
 have l3 := Ar x.den y.num.natAbs
 have hyn : y.num ≠ 0 := fun e => hy0 (Rat.num_eq_zero.1 e)
 have hd : 0 < x.den * y.num.natAbs := Nat.mul_pos (Nat.pos_of_ne_zero x.den_nz) (by omega)
 unfold f118 rq
 dsimp only
 rw [Gz (by omega) (by omega), A1, Gz (by omega) (by omega), A1, Ou hd (L := 2 * L + 1) (by omega) (by omega) hL hn, A1, Xf hy0]; rfl

theorem A5b {n L : Nat} {x y : Rat} (hx : Sz x L) (hy : Sz y L) (hy0 : y ≠ 0) (hL : 2 * L + 1 ≤ 1099511627000) (hn : 28 * (2 * L + 1) + 10040 ≤ n) : f75 n (rq x) (rq y) = some (rq (x / y)) := by
 obtain ⟨x1, x2⟩ := hx
 obtain ⟨y1, y2⟩ := hy
 have l1 := Ar x.num.natAbs y.den
 have l3 := Ar x.den y.num.natAbs
 have hyn : y.num ≠ 0 := fun e => hy0 (Rat.num_eq_zero.1 e)
 have hd : 0 < x.den * y.num.natAbs := Nat.mul_pos (Nat.pos_of_ne_zero x.den_nz) (by omega)
 unfold f75 rq
 dsimp only
 rw [Kk (by omega) (by omega), A1, Kk (by omega) (by omega), A1, Vi hd (L := 2 * L + 1) (by omega) (by omega) hL hn, A1, Xf hy0]; rfl

theorem Ali {n : Nat} {x : Rat} : f138 n (rq x) = some (rq (-x)) := by
 unfold f138 rq
 dsimp only
 rw [Rat.neg_num, Rat.neg_den, Int.natAbs_neg, Xg]
 by_cases h : x.num < 0
 · rw [decide_eq_true h, decide_eq_false (show ¬ -x.num < 0 by omega)]; rfl
 · rw [decide_eq_false h]
   have : decide (x.num.natAbs ≠ 0) = decide (-x.num < 0) := decide_eq_decide.2 (by omega)
   rw [this]; rfl

theorem Ad7 {n L : Nat} {x : Rat} (hx : Sz x L) (hL : L ≤ 1099511627000) : f77 n (rq x) = some (rq (-x)) := by
 obtain ⟨x1, x2⟩ := hx
 unfold f77 rq
 dsimp only
 rw [Rat.neg_num, Rat.neg_den, Int.natAbs_neg, show f74 n (decide (x.num < 0), dg x.num.natAbs, dg x.den) = some (((dg x.num.natAbs).length : Int) == 0) from rfl, A1, Fz n (by omega), A1, Fz n (by omega), A1, Q3]
 by_cases h : x.num < 0
 · rw [decide_eq_true h, decide_eq_false (show ¬ -x.num < 0 by omega)]; rfl
 · rw [decide_eq_false h]
   have : (!decide (x.num.natAbs = 0)) = decide (-x.num < 0) := by
    by_cases h2 : x.num.natAbs = 0
    · rw [decide_eq_true h2, decide_eq_false (by omega)]; rfl
    · rw [decide_eq_false h2, decide_eq_true (by omega)]; rfl
   rw [this]; rfl

theorem Gu {x : Rat} {L : Nat} (h : Sz x L) : Sz (-x) L := by
 unfold Sz at *
 rw [Rat.neg_num, Rat.neg_den, Int.natAbs_neg]; exact h

theorem Sz.mono {x : Rat} {L M : Nat} (h : Sz x L) (hLM : L ≤ M) : Sz x M := ⟨Nat.le_trans h.1 hLM, Nat.le_trans h.2 hLM⟩

theorem Aps {n L : Nat} {x y : Rat} (hx : Sz x L) (hy : Sz y L) (hL : 2 * L + 1 ≤ 1099511627000) (hn : 28 * (2 * L + 1) + 10040 ≤ n) : f119 n (rq x) (rq y) = some (rq (x - y)) := by
 unfold f119
 rw [Ali, A1, Ux hx (Gu hy) hL hn, A1, Rat.sub_eq_add_neg]

theorem A72 {x y : Rat} {L : Nat} (hx : Sz x L) (hy : Sz y L) : Sz (x + y) (2 * L + 1) := by
 obtain ⟨x1, x2⟩ := hx
 obtain ⟨y1, y2⟩ := hy
 have l1 := Ar x.num.natAbs y.den
 have l2 := Ar y.num.natAbs x.den
 have l3 := Ar x.den y.den
 have l4 := P3 (x.num.natAbs * y.den) (y.num.natAbs * x.den)
 have hd : 0 < x.den * y.den := Nat.mul_pos (Nat.pos_of_ne_zero x.den_nz) (Nat.pos_of_ne_zero y.den_nz)
 by_cases hs : decide (x.num < 0) = decide (y.num < 0)
 · rw [Nc hs]; exact Im hd (by omega) (by omega)
 · by_cases hle : y.num.natAbs * x.den ≤ x.num.natAbs * y.den
   · have l5 := Aw (Nat.sub_le (x.num.natAbs * y.den) (y.num.natAbs * x.den))
     rw [Gt hs hle]; exact Im hd (by omega) (by omega)
   · have l5 := Aw (Nat.sub_le (y.num.natAbs * x.den) (x.num.natAbs * y.den))
     rw [Rat.add_comm, Gt (fun e => hs e.symm) (by omega), Nat.mul_comm y.den x.den]; exact Im hd (by omega) (by omega)

theorem B8g {x y : Rat} {L : Nat} (hx : Sz x L) (hy : Sz y L) : Sz (x - y) (2 * L + 1) := by
 rw [Rat.sub_eq_add_neg]; exact A72 hx (Gu hy)

theorem Gv {x y : Rat} {L : Nat} (hx : Sz x L) (hy : Sz y L) : Sz (x * y) (2 * L + 1) := by
 obtain ⟨x1, x2⟩ := hx
 obtain ⟨y1, y2⟩ := hy
 have l1 := Ar x.num.natAbs y.num.natAbs
 have l3 := Ar x.den y.den
 rw [V8]
 exact Im (Nat.mul_pos (Nat.pos_of_ne_zero x.den_nz) (Nat.pos_of_ne_zero y.den_nz)) (by omega) (by omega)

theorem Ahm {x y : Rat} {L : Nat} (hx : Sz x L) (hy : Sz y L) (hy0 : y ≠ 0) : Sz (x / y) (2 * L + 1) := by
 obtain ⟨x1, x2⟩ := hx
 obtain ⟨y1, y2⟩ := hy
 have l1 := Ar x.num.natAbs y.den
 have l3 := Ar x.den y.num.natAbs
 have hyn : y.num ≠ 0 := fun e => hy0 (Rat.num_eq_zero.1 e)
 rw [Xf hy0]
 exact Im (Nat.mul_pos (Nat.pos_of_ne_zero x.den_nz) (by omega)) (by omega) (by omega)

theorem Adz {n : Nat} {x : Rat} : f116 n (rq x) = some (decide (x = 0)) := by
 unfold f116 rq
 dsimp only
 rw [Q3]
 congr 1
 exact decide_eq_decide.2 ⟨fun h => Rat.num_eq_zero.1 (by omega), fun h => by rw [h]; rfl⟩

theorem A59 {n : Nat} {x : Rat} : f74 n (rq x) = some (decide (x = 0)) := by
 unfold f74 rq
 dsimp only
 rw [Q3]
 congr 1
 exact decide_eq_decide.2 ⟨fun h => Rat.num_eq_zero.1 (by omega), fun h => by rw [h]; rfl⟩

theorem B4p {n : Nat} {x : Rat} : f135 n (rq x) = some (if x = 0 then 0 else if x.num < 0 then -1 else 1) := by
 unfold f135
 rw [Adz, A1]
 by_cases h : x = 0
 · rw [decide_eq_true h, if_pos h]; rfl
 · rw [decide_eq_false h, if_neg h]
   unfold rq
   dsimp only
   by_cases h2 : x.num < 0
   · rw [decide_eq_true h2, if_pos h2]; rfl
   · rw [decide_eq_false h2, if_neg h2]; rfl

theorem B5b {n : Nat} {x : Rat} : f141 n (rq x) = some (if x = 0 then 0 else if x.num < 0 then -1 else 1) := by
 unfold f141
 rw [A59, A1]
 by_cases h : x = 0
 · rw [decide_eq_true h, if_pos h]; rfl
 · rw [decide_eq_false h, if_neg h]
   unfold rq
   dsimp only
   by_cases h2 : x.num < 0
   · rw [decide_eq_true h2, if_pos h2]; rfl
   · rw [decide_eq_false h2, if_neg h2]; rfl

theorem B4u {x y : Rat} (h : rq x = rq y) : x = y := by
 unfold rq at h
 simp only [Prod.mk.injEq] at h
 obtain ⟨h1, h2, h3⟩ := h
 have e2 := Avu h2
 have e3 := Avu h3
 refine Rat.ext ?_ e3
 rw [Et x, Et y, h1, e2]

theorem B4w {r : Rt} (h : Cq r = true) : ∃ x : Rat, r = rq x ∧ Sz x 40 := by
 obtain ⟨s, N, D, rfl, h1, h2, h3, h4⟩ := Oy h
 have hg : Nat.gcd N D = 1 := by
  unfold Cq at h
  simp only [Bool.and_eq_true, decide_eq_true_eq, B0, Int.toNat_natCast] at h
  exact h.2
 refine ⟨mq s N D, ?_, Im h3 h1 h2⟩
 rw [Alk h3, hg, Nat.div_one, Nat.div_one]
 congr 1
 cases s with
 | false => rfl
 | true => have := h4 rfl; rw [decide_eq_true (by omega)]; rfl

abbrev Src := List Int × Int × Int

def Ju (P : Int) (s : Src) : Prop := (∀ x ∈ s.1, 0 ≤ x ∧ x ≤ 255) ∧ s.1.length ≤ 1048576 ∧ (0 ≤ s.2.1 ∧ s.2.1 ≤ P) ∧ 0 ≤ s.2.2 ∧ s.2.2 < 2147483648

theorem A4a {l : List Int} (h : ∀ x ∈ l, 0 ≤ x ∧ x ≤ 255) (k : Nat) : 0 ≤ l.getD k 0 ∧ l.getD k 0 ≤ 255 := by
 rw [List.getD_eq_getElem?_getD]
 cases e : l[k]? with
 | none => simp
 | some x => exact h x (List.mem_of_getElem? e)

theorem Kd {x m : Int} (h : 0 ≤ x) : Int.tmod x m = x % m := Int.tmod_eq_emod_of_nonneg h

theorem A96 {n : Nat} {P : Int} {s : Src} (h : Ju P s) (hP : P ≤ 1099511627776) : ∃ b s', S9 n s = some (b, s') ∧ (0 ≤ b ∧ b ≤ 255) ∧ Ju (P + 1) s' := by
 obtain ⟨l, p, d⟩ := s
 obtain ⟨h1, h2, ⟨h3, h4⟩, h5, h6⟩ := h
 dsimp only at h1 h2 h3 h4 h5 h6
 unfold S9
 dsimp only
 rw [A9 (x := p + 1) (by omega) (by omega), A9 (x := p + 1 - 1) (by omega) (by omega), Bool.cond_decide]
 have hb := A4a h1 (p + 1 - 1).toNat
 by_cases hc : p + 1 ≤ (l.length : Int)
 · rw [if_pos hc, A3 (by simp; omega), A3 (by simp; omega)]
   generalize l.getD (p + 1 - 1).toNat 0 = b at *
   rw [A9 (x := b) (by omega) (by omega), A9 (x := d * 31) (by omega) (by omega), A9 (x := d * 31 + b) (by omega) (by omega), A9 (x := d * 31 + b + 7) (by omega) (by omega), Kd (by omega)]
   exact ⟨_, _, rfl, by omega, h1, h2, by dsimp only; omega, by dsimp only; omega, by dsimp only; omega⟩
 · rw [if_neg hc, Bool.cond_decide]
   by_cases hc2 : p + 1 > 3000
   · rw [if_pos hc2]
     exact ⟨_, _, rfl, by omega, h1, h2, by dsimp only; omega, h5, h6⟩
   · rw [if_neg hc2, A9 (x := d * 1103515245) (by omega) (by omega), A9 (x := d * 1103515245 + 12345) (by omega) (by omega), Kd (x := d * 1103515245 + 12345) (by omega)]
     generalize hz : (d * 1103515245 + 12345) % 2147483648 = z
     have hz2 : 0 ≤ z ∧ z < 2147483648 := by omega
     rw [Int.tdiv_eq_ediv_of_nonneg (a := z) (by omega), A9 (x := z / 65536) (by omega) (by omega), Kd (x := z / 65536) (by omega)]
     exact ⟨_, _, rfl, by omega, h1, h2, by dsimp only; omega, by dsimp only; omega, by dsimp only; omega⟩

theorem A9m {n : Nat} {P k : Int} {s : Src} (h : Ju P s) (hP : P ≤ 1099511627000) (hk : 1 < k) (hk' : k ≤ 1048576) : ∃ v s', Ta n s k = some (v, s') ∧ (0 ≤ v ∧ v < k) ∧ Ju (P + 3) s' := by
 unfold Ta
 rw [Bool.cond_decide, if_neg (by omega), Bool.cond_decide]
 obtain ⟨b1, s1, e1, r1, o1⟩ := A96 (n := n) h (by omega)
 rw [e1]
 by_cases hc : k ≤ 256
 · rw [if_pos hc, A1, A3 (by simp; omega), Kd r1.1]
   have := Int.emod_nonneg b1 (show k ≠ 0 by omega)
   have := Int.emod_lt_of_pos b1 (show 0 < k by omega)
   exact ⟨_, _, rfl, by omega, o1.1, o1.2.1, ⟨o1.2.2.1.1, by have := o1.2.2.1.2; show s1.2.1 ≤ P + 3; omega⟩, o1.2.2.2⟩
 · rw [if_neg hc, A1]
   obtain ⟨b2, s2, e2, r2, o2⟩ := A96 (n := n) o1 (by omega)
   rw [e2, A1]
   obtain ⟨b3, s3, e3, r3, o3⟩ := A96 (n := n) o2 (by omega)
   rw [e3, A1]
   dsimp only
   rw [A3 (by simp; omega), A9 (x := b1 * 65536) (by omega) (by omega), A9 (x := b2 * 256) (by omega) (by omega), A9 (x := b1 * 65536 + b2 * 256) (by omega) (by omega), A9 (x := b1 * 65536 + b2 * 256 + b3) (by omega) (by omega), Kd (by omega)]
   have := Int.emod_nonneg (b1 * 65536 + b2 * 256 + b3) (show k ≠ 0 by omega)
   have := Int.emod_lt_of_pos (b1 * 65536 + b2 * 256 + b3) (show 0 < k by omega)
   exact ⟨_, _, rfl, by omega, o3.1, o3.2.1, ⟨o3.2.2.1.1, by have := o3.2.2.1.2; show s3.2.1 ≤ P + 3; omega⟩, o3.2.2.2⟩

theorem A9n {n : Nat} {a : Int} (h : -1000000000 ≤ a ∧ a ≤ 1000000000) (hn : 1048577 ≤ n) : f106 n a = some (decide (a < 0), dg a.natAbs, dg 1) := by
 unfold f106
 rw [Bool.cond_decide, K1]
 by_cases hc : a < 0
 · rw [if_pos hc, A9 (x := 0 - a) (by omega) (by omega), show 0 - a = (a.natAbs : Int) by omega, Lb (by omega) (by omega), A1, decide_eq_true hc]
 · rw [if_neg hc]
   conv => lhs; rw [show a = (a.natAbs : Int) by omega]
   rw [Lb (by omega) (by omega), A1, decide_eq_false hc]

theorem Aqc {N : Nat} (h : (dg N).length ≤ 40) : Nl (dg N) = true := by
 unfold Nl
 have hc := Fg N
 rw [decide_eq_true h, Bool.true_and, Bool.and_eq_true, List.all_eq_true]
 refine ⟨fun x hx => ?_, ?_⟩
 · have := hc.1 x hx
   unfold G8
   rw [decide_eq_true_eq]; omega
 · by_cases hn : dg N = []
   · rw [hn]; rfl
   · have h1 := hc.2 hn
     have h2 := hc.1.get ((dg N).length - 1)
     rw [Bool.or_eq_true]
     right
     rw [decide_eq_true_eq]; omega

theorem Ow {x : Rat} (h : Sz x 40) : Cq (rq x) = true := by
 obtain ⟨h1, h2⟩ := h
 unfold Cq rq
 dsimp only
 have hd : (dg x.den).isEmpty = false := by
  rw [Cr x.den_nz]; rfl
 rw [Aqc h1, Aqc h2, hd, B0, B0]
 have hg : Nat.gcd (x.num.natAbs : Int).toNat (x.den : Int).toNat = 1 := by
  rw [Int.toNat_natCast, Int.toNat_natCast]; exact x.reduced
 rw [decide_eq_true hg]
 by_cases hz : x.num.natAbs = 0
 · rw [hz, Bs, decide_eq_false (by omega)]; rfl
 · rw [Cr hz]; rfl

theorem Ar0 {x y : Rat} : gtR (rq x) (rq y) = decide (y < x) := by
 unfold rq
 rw [P5]
 unfold gtP
 apply decide_eq_decide.2
 rw [Rat.lt_iff]
 have hx := Et x
 have hy := Et y
 have e1 : (if decide (y.num < 0) = true then -((y.num.natAbs * x.den : Nat) : Int) else ((y.num.natAbs * x.den : Nat) : Int)) = y.num * x.den := by
  conv => rhs; rw [hy]
  split <;> simp [Int.neg_mul]
 have e2 : (if decide (x.num < 0) = true then -((x.num.natAbs * y.den : Nat) : Int) else ((x.num.natAbs * y.den : Nat) : Int)) = x.num * y.den := by
  conv => rhs; rw [hx]
  split <;> simp [Int.neg_mul]
 rw [e1, e2]

theorem Abw {α : Type} {n : Nat} {a b : List Int} (hab : a.length = b.length) (hl : a.length ≤ 1048576) {k0 : Bool → Option α} {k1 : Unit → Option α} : ∀ (m i : Nat), i ≤ a.length → a.length < i + m → Q1 n m a b (i : Int) k0 k1 = if a.drop i = b.drop i then k1 () else k0 false
 | 0, i, hi, hm => by omega
 | m + 1, i, hi, hm => by
  rw [Avk]
  unfold A45
  rw [Bool.cond_decide]
  by_cases h : i < a.length
  · rw [if_pos (by omega), A3 (by simp; omega), A3 (by simp; omega)]
    simp only [Int.toNat_natCast]
    have da : a.drop i = a.getD i 0 :: a.drop (i + 1) := by
     rw [List.drop_eq_getElem_cons h, List.getD_eq_getElem?_getD, List.getElem?_eq_getElem h]; rfl
    have db : b.drop i = b.getD i 0 :: b.drop (i + 1) := by
     rw [List.drop_eq_getElem_cons (by omega), List.getD_eq_getElem?_getD, List.getElem?_eq_getElem (by omega)]; rfl
    rw [da, db]
    by_cases hz : a.getD i 0 = b.getD i 0
    · rw [hz, bne_self_eq_false, cond_false, A9 (x := (i : Int) + 1) (by omega) (by omega), show (i : Int) + 1 = ((i + 1 : Nat) : Int) from rfl, Abw hab hl m (i + 1) (by omega) (by omega)]
      simp
    · rw [show (a.getD i 0 != b.getD i 0) = true by rw [bne_iff_ne]; exact hz, cond_true, if_neg (fun e => hz (List.cons.inj e).1)]
  · rw [if_neg (by omega), List.drop_of_length_le (by omega), List.drop_of_length_le (by omega), if_pos rfl]

theorem Akx {n : Nat} {a b : List Int} (hl : a.length ≤ 1048576) (hn : 1048577 ≤ n) : f105 n a b = some (decide (a = b)) := by
 unfold f105
 rw [Bool.cond_eq_ite]
 by_cases h : a.length = b.length
 · rw [if_neg (by simp [h])]
   have h1 := Abw (n := n) h hl (k0 := fun z_1 => some z_1) (k1 := fun (_ : Unit) => some true) n 0 (by omega) (by omega)
   have h1 : Q1 n n a b 0 _ _ = _ := h1
   rw [h1, List.drop_zero, List.drop_zero]
   by_cases e : a = b
   · rw [if_pos e, decide_eq_true e]
   · rw [if_neg e, decide_eq_false e]
 · rw [if_pos (by rw [bne_iff_ne]; omega), decide_eq_false (fun e => h (by rw [e]))]

theorem B66 {n : Nat} {x y : Rat} (hx : Sz x 1000) (hn : 1048577 ≤ n) : f45 n (rq x) (rq y) = some (decide (x = y)) := by
 obtain ⟨h1, h2⟩ := hx
 unfold f45
 have key : (rq x).1 = (rq y).1 → (rq x).2.1 = (rq y).2.1 → (rq x).2.2 = (rq y).2.2 → x = y := fun a b c => B4u (by
  rw [show rq x = ((rq x).1, (rq x).2.1, (rq x).2.2) from rfl, a, b, c])
 rw [Bool.cond_eq_ite]
 by_cases e1 : (rq x).1 = (rq y).1
 · rw [if_pos (by rw [e1]; simp), Akx (by show (dg x.num.natAbs).length ≤ _; omega) hn, A1, Bool.cond_decide]
   by_cases e2 : (rq x).2.1 = (rq y).2.1
   · rw [if_pos e2, Akx (by show (dg x.den).length ≤ _; omega) hn, A1]
     by_cases e3 : (rq x).2.2 = (rq y).2.2
     · rw [decide_eq_true e3, decide_eq_true (key e1 e2 e3)]
     · rw [decide_eq_false e3, decide_eq_false (fun e => e3 (by rw [e]))]
   · rw [if_neg e2, decide_eq_false (fun e => e2 (by rw [e]))]
 · rw [if_neg (by simpa using e1), decide_eq_false (fun e => e1 (by rw [e]))]

def vq (x : List Rat) : List Rt := x.map rq

def Sv (x : List Rat) (L : Nat) : Prop := ∀ a ∈ x, Sz a L

def Ct (A : Rat) (x y : List Rat) : List Rat := List.zipWith (fun a b => A * a + b) x y

def A7 (acc : Rat) : List Rat → List Rat → Rat
 | a :: x, b :: y => A7 (acc + a * b) x y
 | _, _ => acc

def I2 (x : Rat) : Bool := decide ((dg x.num.natAbs).length ≤ 40) && decide ((dg x.den).length ≤ 40)

theorem A0z {x : Rat} : I2 x = true ↔ Sz x 40 := by unfold I2 Sz; simp

@[simp] theorem At (x : List Rat) : (vq x).length = x.length := by simp [vq]

theorem Cp {x : List Rat} {i : Nat} (h : i < x.length) : (vq x).getD i (false, [], []) = rq (x.getD i 0) := by
 unfold vq
 rw [List.getD_eq_getElem?_getD, List.getElem?_map, List.getD_eq_getElem?_getD, List.getElem?_eq_getElem h]; rfl

theorem Dq {x : List Rat} {i : Nat} (h : i < x.length) : x.drop i = x.getD i 0 :: x.drop (i + 1) := by
 rw [List.drop_eq_getElem_cons h, List.getD_eq_getElem?_getD, List.getElem?_eq_getElem h]; rfl

theorem Sv.get {x : List Rat} {L i : Nat} (hs : Sv x L) (h : i < x.length) : Sz (x.getD i 0) L := by
 refine hs _ ?_
 rw [List.getD_eq_getElem?_getD, List.getElem?_eq_getElem h]; exact List.getElem_mem h

theorem Sv.mono {x : List Rat} {L M : Nat} (h : Sv x L) (hLM : L ≤ M) : Sv x M := fun a ha => (h a ha).mono hLM

theorem B1f : rq 0 = (false, [], dg 1) := by
 unfold rq
 rw [show (0 : Rat).num = 0 from rfl, show (0 : Rat).den = 1 from rfl, show (0 : Int).natAbs = 0 from rfl, Bs]; rfl

theorem C0 : Sz 0 1 := by
 refine ⟨?_, ?_⟩
 · rw [show (0 : Rat).num = 0 from rfl, show (0 : Int).natAbs = 0 from rfl, Bs]; simp
 · rw [show (0 : Rat).den = 1 from rfl, K1]; simp

theorem Ug {n : Nat} {x : List Rat} (hl : x.length ≤ 1048576) : ∀ (m i : Nat), i ≤ x.length → x.length < i + m →
  ∃ r, Gm n m (vq x) (x.length : Int) (i : Int) (fun z_3 => some z_3) (fun (_ : Unit) => some (-1)) = some r ∧ decide (r ≥ 0) = !(x.drop i).all I2
 | 0, i, hi, hm => by omega
 | m + 1, i, hi, hm => by
  rw [Acl]
  unfold Mj
  dsimp only
  rw [Bool.cond_decide]
  by_cases h : i < x.length
  · rw [if_pos (by omega), A3 (by simp; omega), Int.toNat_natCast, Cp h, Dq h, List.all_cons]
    have e : f112 n (rq (x.getD i 0)) = some (!I2 (x.getD i 0)) := by
     unfold f112 f113 rq I2
     dsimp only
     generalize (dg (x.getD i 0).num.natAbs).length = p
     generalize (dg (x.getD i 0).den).length = q
     rw [Bool.cond_decide]
     by_cases c : p ≤ 40
     · rw [if_pos (by omega), A1, decide_eq_true c, Bool.true_and]; congr 2; exact decide_eq_decide.2 (by omega)
     · rw [if_neg (by omega), A1, decide_eq_false c, Bool.false_and]
    rw [e, A1]
    cases hf : I2 (x.getD i 0) with
    | false => exact ⟨(i : Int), by simp, by simp⟩
    | true =>
     rw [Bool.not_true, cond_false, A9 (x := (i : Int) + 1) (by omega) (by omega), Bool.true_and]
     exact Ug hl m (i + 1) (by omega) (by omega)
  · rw [if_neg (by omega), List.drop_of_length_le (by omega)]
    exact ⟨-1, rfl, rfl⟩

theorem Aqz {n : Nat} {x : List Rat} (hl : x.length ≤ 1048576) (hn : 1048577 ≤ n) : f51 n (vq x) = some (if x.all I2 = true then (vq x, 0) else ([], 7)) := by
 unfold f51 A41 A2t
 obtain ⟨r, h1, h2⟩ := Ug (n := n) hl n 0 (by omega) (by omega)
 have h1 : Gm n n (vq x) (x.length : Int) 0 _ _ = _ := h1
 rw [At, h1, A1, A1, h2, List.drop_zero]
 cases x.all I2 <;> rfl

theorem Ag9 {α : Type} {n : Nat} {x y : List Rat} (hl : x.length = y.length) (h4 : x.length ≤ 4096) (hs : Sv x 1000) (hn : 1048577 ≤ n) {k0 : Bool → Option α} {k1 : Unit → Option α} : ∀ (m i : Nat), i ≤ x.length → x.length < i + m →
  Wq n m (vq x) (vq y) (i : Int) k0 k1 = if x.drop i = y.drop i then k1 () else k0 false
 | 0, i, hi, hm => by omega
 | m + 1, i, hi, hm => by
  rw [Aze]
  unfold A99
  dsimp only
  rw [Bool.cond_decide, At]
  by_cases h : i < x.length
  · rw [if_pos (by omega), A3 (by simp; omega), A3 (by simp; omega), Int.toNat_natCast, Cp h, Cp (by omega), B66 (hs.get h) hn, A1, Dq h, Dq (x := y) (by omega)]
    by_cases e : x.getD i 0 = y.getD i 0
    · rw [decide_eq_true e, Bool.not_true, cond_false, A9 (x := (i : Int) + 1) (by omega) (by omega), e]
      rw [show (i : Int) + 1 = ((i + 1 : Nat) : Int) from rfl, Ag9 hl h4 hs hn m (i + 1) (by omega) (by omega)]
      simp
    · rw [decide_eq_false e, Bool.not_false, cond_true, if_neg (fun q => e (List.cons.inj q).1)]
  · rw [if_neg (by omega), List.drop_of_length_le (by omega), List.drop_of_length_le (by omega), if_pos rfl]

theorem Aep {n : Nat} {x y : List Rat} (hl : x.length = y.length) (h4 : x.length ≤ 4096) (hs : Sv x 1000) (hn : 1048577 ≤ n) : f16 n (vq x) (vq y) = some (decide (x = y)) := by
 unfold f16
 have h1 := Ag9 (n := n) hl h4 hs hn (k0 := fun z_4 => some z_4) (k1 := fun (_ : Unit) => some true) n 0 (by omega) (by omega)
 have h1 : Wq n n (vq x) (vq y) 0 _ _ = _ := h1
 rw [At, At, hl, bne_self_eq_false, cond_false, h1, List.drop_zero, List.drop_zero]
 by_cases e : x = y
 · rw [if_pos e, decide_eq_true e]
 · rw [if_neg e, decide_eq_false e]

theorem Avw {r : Int} {x y : Rat} (h1 : decide (r > 0) = decide (y < x)) (h2 : decide (r < 0) = decide (x < y)) : (r == 0) = decide (x = y) := by
 have h1 := decide_eq_decide.1 h1
 have h2 := decide_eq_decide.1 h2
 by_cases e : x = y
 · subst e
   have a1 : ¬ r > 0 := fun h => by have := h1.1 h; grind
   have a2 : ¬ r < 0 := fun h => by have := h2.1 h; grind
   rw [decide_eq_true rfl, beq_iff_eq]; omega
 · rw [decide_eq_false e, beq_eq_false_iff_ne]
   intro h
   have a1 : ¬ y < x := fun h' => by have := h1.2 h'; omega
   have a2 : ¬ x < y := fun h' => by have := h2.2 h'; omega
   grind

theorem Kb {α : Type} {n : Nat} {x y : List Rat} (hl : x.length = y.length) (h4 : x.length ≤ 4096) (hs : Sv x 40) (hy : Sv y 40) (hn : 1048577 ≤ n) {k0 : Bool → Option α} {k1 : Unit → Option α} : ∀ (m i : Nat), i ≤ x.length → x.length < i + m →
  F8 n m (vq y) (vq x) (x.length : Int) (i : Int) k0 k1 = if x.drop i = y.drop i then k1 () else k0 false
 | 0, i, hi, hm => by omega
 | m + 1, i, hi, hm => by
  rw [Acf]
  unfold Mc
  dsimp only
  rw [Bool.cond_decide]
  by_cases h : i < x.length
  · rw [if_pos (by omega), A3 (by simp; omega), A3 (by simp; omega), Int.toNat_natCast, Cp h, Cp (by omega), Dq h, Dq (x := y) (by omega)]
    obtain ⟨r, e1, e2, e3⟩ := B2o (n := n) (Ow (hs.get h)) (Ow (hy.get (i := i) (by omega))) hn
    rw [Ar0] at e2 e3
    unfold f180
    rw [e1, A1, A1, Avw e2 e3]
    by_cases e : x.getD i 0 = y.getD i 0
    · rw [decide_eq_true e, Bool.not_true, cond_false, A9 (x := (i : Int) + 1) (by omega) (by omega), e]
      rw [show (i : Int) + 1 = ((i + 1 : Nat) : Int) from rfl, Kb hl h4 hs hy hn m (i + 1) (by omega) (by omega)]
      simp
    · rw [decide_eq_false e, Bool.not_false, cond_true, if_neg (fun q => e (List.cons.inj q).1)]
  · rw [if_neg (by omega), List.drop_of_length_le (by omega), List.drop_of_length_le (by omega), if_pos rfl]

theorem B8f {x : List Rat} (h : Sv x 40) : x.all I2 = true := List.all_eq_true.2 fun a ha => A0z.2 (h a ha)

def Bq (x : Rat) (N D : Nat) : Prop := x.num.natAbs ≤ N ∧ x.den ≤ D

def Bv (x : List Rat) (N D : Nat) : Prop := ∀ a ∈ x, Bq a N D

theorem Bq.sz {x : Rat} {N D : Nat} (h : Bq x N D) {L : Nat} (h1 : N < 10000 ^ L) (h2 : D < 10000 ^ L) : Sz x L := ⟨Ge (by have := h.1; omega), Ge (by have := h.2; omega)⟩

theorem Bv.sz {x : List Rat} {N D : Nat} (h : Bv x N D) {L : Nat} (h1 : N < 10000 ^ L) (h2 : D < 10000 ^ L) : Sv x L := fun a ha => (h a ha).sz h1 h2

theorem Bq.mono {x : Rat} {N D N' D' : Nat} (h : Bq x N D) (h1 : N ≤ N') (h2 : D ≤ D') : Bq x N' D' := ⟨Nat.le_trans h.1 h1, Nat.le_trans h.2 h2⟩

theorem Zn {s : Bool} {a d N D : Nat} (hd : 0 < d) (h1 : a ≤ N) (h2 : d ≤ D) : Bq (mq s a d) N D := by
 unfold Bq
 rw [Aef hd, Aeg hd]
 have e1 : a / Nat.gcd a d ≤ a := Nat.div_le_self _ _
 have e2 : d / Nat.gcd a d ≤ d := Nat.div_le_self _ _
 generalize a / Nat.gcd a d = q at *
 refine ⟨?_, by omega⟩
 cases s <;> simp <;> omega

theorem F3 {x y : Rat} {N D N' D' : Nat} (hx : Bq x N D) (hy : Bq y N' D') : Bq (x * y) (N * N') (D * D') := by
 rw [V8]
 exact Zn (Nat.mul_pos (Nat.pos_of_ne_zero x.den_nz) (Nat.pos_of_ne_zero y.den_nz)) (Nat.mul_le_mul hx.1 hy.1) (Nat.mul_le_mul hx.2 hy.2)

theorem A78 {x y : Rat} {N D N' D' : Nat} (hx : Bq x N D) (hy : Bq y N' D') : Bq (x + y) (N * D' + N' * D) (D * D') := by
 have hd : 0 < x.den * y.den := Nat.mul_pos (Nat.pos_of_ne_zero x.den_nz) (Nat.pos_of_ne_zero y.den_nz)
 have l1 := Nat.mul_le_mul hx.1 hy.2
 have l2 := Nat.mul_le_mul hy.1 hx.2
 have l3 := Nat.mul_le_mul hx.2 hy.2
 by_cases hs : decide (x.num < 0) = decide (y.num < 0)
 · rw [Nc hs]; exact Zn hd (by omega) l3
 · by_cases hle : y.num.natAbs * x.den ≤ x.num.natAbs * y.den
   · rw [Gt hs hle]; exact Zn hd (by omega) l3
   · rw [Rat.add_comm, Gt (fun e => hs e.symm) (by omega)]; exact Zn (by rw [Nat.mul_comm]; exact hd) (by omega) (by rw [Nat.mul_comm]; exact l3)

theorem Bv.get {x : List Rat} {N D i : Nat} (hs : Bv x N D) (h : i < x.length) : Bq (x.getD i 0) N D := by
 refine hs _ ?_
 rw [List.getD_eq_getElem?_getD, List.getElem?_eq_getElem h]; exact List.getElem_mem h

theorem Awt {N D N' D' : Nat} : ∀ {x y : List Rat} {acc : Rat} {c E : Nat}, Bv x N D → Bv y N' D' → 1 ≤ D * D' → Bq acc (c * E) E → Bq (A7 acc x y) ((c + x.length * (N * N')) * (E * (D * D') ^ x.length)) (E * (D * D') ^ x.length)
 | [], _, acc, c, E, _, _, _, h => by simpa [A7] using h
 | p :: x, [], acc, c, E, _, _, hD, h => by
  refine h.mono ?_ ?_
  · refine Nat.mul_le_mul (by omega) ?_
    exact Nat.le_mul_of_pos_right E (Nat.pow_pos hD)
  · exact Nat.le_mul_of_pos_right E (Nat.pow_pos hD)
 | p :: x, q :: y, acc, c, E, hx, hy, hD, h => by
  have h1 := F3 (hx p (by simp)) (hy q (by simp))
  have h2 := A78 h h1
  have h3 : Bq (acc + p * q) ((c + N * N') * (E * (D * D'))) (E * (D * D')) := by
   refine h2.mono ?_ (Nat.le_refl _)
   rw [Nat.add_mul]
   have e1 : c * E * (D * D') = c * (E * (D * D')) := Nat.mul_assoc _ _ _
   have e2 : N * N' * E ≤ N * N' * (E * (D * D')) := Nat.mul_le_mul_left _ (Nat.le_mul_of_pos_right E hD)
   omega
  have := Awt (x := x) (y := y) (acc := acc + p * q) (fun c hc => hx c (by simp [hc])) (fun c hc => hy c (by simp [hc])) hD h3
  show Bq (A7 (acc + p * q) x y) _ _
  rw [List.length_cons]
  have ee : E * (D * D') ^ (x.length + 1) = E * (D * D') * (D * D') ^ x.length := by rw [Nat.pow_succ, Nat.mul_comm ((D * D') ^ x.length), ← Nat.mul_assoc E]
  refine this.mono ?_ ?_
  · rw [ee]
    refine Nat.mul_le_mul_right _ ?_
    rw [Nat.add_mul]; omega
  · rw [ee]; exact Nat.le_refl _

theorem B4k {N D N' D' : Nat} {x y : List Rat} (hx : Bv x N D) (hy : Bv y N' D') (hD : 1 ≤ D * D') (h4 : x.length ≤ 4) : Bq (A7 0 x y) (4 * (N * N') * (D * D') ^ 4) ((D * D') ^ 4) := by
 have := Awt (acc := 0) (c := 0) (E := 1) hx hy hD ⟨by simp, by simp⟩
 have hp : (D * D') ^ x.length ≤ (D * D') ^ 4 := Nat.pow_le_pow_right hD h4
 rw [Nat.one_mul, Nat.zero_add] at this
 exact this.mono (Nat.mul_le_mul (Nat.mul_le_mul_right _ h4) hp) hp

theorem B2t {n : Nat} {a b : Int} (ha : -10 ≤ a ∧ a ≤ 10) (hb : 1 ≤ b ∧ b ≤ 9) (hn : 1048577 ≤ n) : ∃ x : Rat, f174 n a b = some (rq x, 0) ∧ Bq x 10 9 := by
 unfold f174
 have la : (dg a.natAbs).length ≤ 4 := Ge (by omega)
 have lb : (dg b.natAbs).length ≤ 4 := Ge (by omega)
 rw [Pc, A1, decide_eq_true (by omega), Pc, A1, decide_eq_true (by omega), show (b == 0) = false by rw [beq_eq_false_iff_ne]; omega, A9n (by omega) hn, A1, A9n (by omega) hn, A1]
 dsimp only
 rw [Ou (L := 4) (show 0 < b.natAbs by omega) la lb (by omega) (by omega), A1]
 exact ⟨_, rfl, Zn (by omega) (by omega) (by omega)⟩

theorem B43 {n : Nat} {P : Int} {s : Src} (h : Ju P s) (hP : P ≤ 1099511620000) (hn : 1048577 ≤ n) : ∃ (x : Rat) (s' : Src), A6q n s = some (rq x, s') ∧ Bq x 10 9 ∧ Ju (P + 6) s' := by
 unfold A6q
 obtain ⟨a, s1, e1, r1, o1⟩ := A9m (n := n) (k := 21) h (by omega) (by omega) (by omega)
 rw [e1, A1]
 obtain ⟨b, s2, e2, r2, o2⟩ := A9m (n := n) (k := 6) o1 (by omega) (by omega) (by omega)
 rw [e2, A1]
 dsimp only
 rw [A9 (x := a - 10) (by omega) (by omega), A9 (x := 1 + b) (by omega) (by omega)]
 obtain ⟨x, e3, z⟩ := B2t (n := n) (a := a - 10) (b := 1 + b) (by omega) (by omega) hn
 rw [e3, A1]
 exact ⟨x, s2, rfl, z, o2.1, o2.2.1, ⟨o2.2.2.1.1, by have := o2.2.2.1.2; show s2.2.1 ≤ P + 6; omega⟩, o2.2.2.2⟩

theorem Ax1 {l : List Int} (h : ∀ x ∈ l, 0 ≤ x ∧ x ≤ 255) (hl : l.length ≤ 1048576) : Ju 0 (l, 0, Int.tmod (l.length : Int) 1000) :=
 ⟨h, hl, ⟨Int.le_refl _, Int.le_refl _⟩, by rw [Kd (by omega)]; dsimp only; omega, by rw [Kd (by omega)]; dsimp only; omega⟩

theorem Afh {α : Type} {n k : Nat} (hk : k ≤ 1000) (hn : 1048577 ≤ n) {k0 : List Rt → List Int → Int → Int → Option α} : ∀ (m i : Nat) (P : Int) (o : List Rat) (s : Src), Ju P s → P + 6 * (k - i : Nat) ≤ 1099511620000 → o.length = i → i ≤ k → k < i + m → Bv o 10 9 →
  ∃ (x : List Rat) (s' : Src), x.length = k ∧ Bv x 10 9 ∧ Ju (P + 6 * (k - i : Nat)) s' ∧ Pf n m (k : Int) (i : Int) (vq o) s.1 s.2.1 s.2.2 k0 = k0 (vq x) s'.1 s'.2.1 s'.2.2
 | 0, i, P, o, s, h1, h2, h3, h4, h5, h6 => by omega
 | m + 1, i, P, o, s, h1, h2, h3, h4, h5, h6 => by
  rw [Asm]
  unfold A1p
  rw [Bool.cond_decide]
  by_cases h : i < k
  · rw [if_pos (by omega)]
    obtain ⟨a, s1, e1, r1, o1⟩ := B43 (n := n) h1 (by omega) hn
    have e1 : A6q n (s.1, s.2.1, s.2.2) = _ := e1
    rw [e1, A1, A3 (by simp; omega), A9 (x := (i : Int) + 1) (by omega) (by omega)]
    dsimp only
    obtain ⟨x, s', q1, q2, q3, q4⟩ := Afh hk hn (k0 := k0) m (i + 1) (P + 6) (o ++ [a]) s1 o1 (by omega) (by simp; omega) (by omega) (by omega) (fun c hc => by
     rcases List.mem_append.1 hc with hc | hc
     · exact h6 c hc
     · rw [List.mem_singleton.1 hc]; exact r1)
    refine ⟨x, s', q1, q2, ?_, ?_⟩
    · rw [show P + 6 * ((k - i : Nat) : Int) = P + 6 + 6 * ((k - (i + 1) : Nat) : Int) by omega]; exact q3
    · rw [← q4]; simp [vq]
  · rw [if_neg (by omega)]
    exact ⟨o, s, by omega, h6, by rw [show ((k - i : Nat) : Int) = 0 by omega]; simpa using h1, rfl⟩

theorem B7l {n k : Nat} {l : List Int} (h : ∀ x ∈ l, 0 ≤ x ∧ x ≤ 255) (hl : l.length ≤ 1048576) (hk : k ≤ 1000) (hn : 1048577 ≤ n) : ∃ x : List Rat, f12 n l (k : Int) = some (vq x) ∧ x.length = k ∧ Bv x 10 9 := by
 unfold f12 A1t
 rw [A1]
 unfold Az1
 obtain ⟨x, s', q1, q2, _, q4⟩ := Afh (k := k) hk hn (k0 := fun z_2 z_3 z_4 z_5 => some (z_2, (z_3, z_4, z_5))) n 0 0 [] _ (Ax1 h hl) (by omega) rfl (by omega) (by omega) (fun c hc => by simp at hc)
 have q4 : Pf n n (k : Int) 0 [] _ _ _ _ = _ := q4
 rw [q4, A1]
 exact ⟨x, rfl, q1, q2⟩

theorem B82 {n : Nat} {l : List Int} (h : ∀ x ∈ l, 0 ≤ x ∧ x ≤ 255) (hl : l.length ≤ 1048576) {c : Int} (hc : 2 ≤ c ∧ c ≤ 100) : ∃ v : Nat, f10 n l 0 c = some (v : Int) ∧ (v : Int) < c := by
 unfold f10
 rw [decide_eq_false (by omega), cond_false]
 by_cases e : l.length = 0
 · rw [e, show ((((0 : Nat) : Int)) == 0) = true from rfl, cond_true, A3 (by simp; omega)]
   refine ⟨0, ?_, by omega⟩
   rw [A9 (x := 0 * 7) (by omega) (by omega), show Int.tmod (0 * 7) c = 0 from Int.zero_tmod _]; rfl
 · rw [show ((l.length : Int) == 0) = false by rw [beq_eq_false_iff_ne]; omega, cond_false]
   have hm := Int.emod_lt_of_pos (W (0 + 1)) (show (0 : Int) < l.length by omega)
   have hm2 := Int.emod_nonneg (W (0 + 1)) (show (l.length : Int) ≠ 0 by omega)
   have w1 : W (0 + 1) = 1 := A9 (by omega) (by omega)
   rw [w1] at hm hm2
   have z1 : Int.tmod 0 (l.length : Int) = 0 := Int.zero_tmod _
   have hg : (decide (0 ≤ 1 % (l.length : Int)) && decide (1 % (l.length : Int) < (l.length : Int))) = true := by rw [decide_eq_true hm2, decide_eq_true hm]; rfl
   rw [z1, w1, Kd (x := 1) (by omega), A3 (by simp only [Bool.and_eq_true, decide_eq_true_eq]; omega), A3 (by simp only [Bool.and_eq_true, decide_eq_true_eq]; omega), A3 (by simp only [Bool.and_eq_true, decide_eq_true_eq]; omega), A3 hg, A3 (by simp only [Bool.and_eq_true, decide_eq_true_eq]; omega), A3 (by simp only [Bool.and_eq_true, decide_eq_true_eq]; omega)]
   have b1 := A4a h (Int.toNat 0)
   have b2 := A4a h (Int.toNat (1 % (l.length : Int)))
   generalize l.getD (Int.toNat 0) 0 = p at *
   generalize l.getD (Int.toNat (1 % (l.length : Int))) 0 = q at *
   rw [show Int.tdiv 0 (l.length : Int) = 0 from Int.zero_tdiv _, A9 (x := p) (by omega) (by omega), A9 (x := q) (by omega) (by omega), A9 (x := 0) (by omega) (by omega), A9 (x := p * 31) (by omega) (by omega), A9 (x := p * 31 + q) (by omega) (by omega), A9 (x := p * 31 + q + 0) (by omega) (by omega), Kd (by omega)]
   have := Int.emod_nonneg (p * 31 + q + 0) (show c ≠ 0 by omega)
   have := Int.emod_lt_of_pos (p * 31 + q + 0) (show 0 < c by omega)
   exact ⟨((p * 31 + q + 0) % c).toNat, by rw [Int.toNat_of_nonneg (by omega)], by omega⟩

theorem Co {A : Rat} {x y : List Rat} (h : x.length = y.length) : (Ct A x y).length = x.length := by simp [Ct]; omega

theorem Apu (c : Nat) : rq (c : Rat) = (false, dg c, dg 1) := by
 unfold rq
 rw [Rat.num_natCast, Rat.den_natCast, Int.natAbs_natCast, decide_eq_false (by omega)]

theorem Ara {n c : Nat} (hc : c ≤ 100) (hn : 1048577 ≤ n) : f92 n (c : Int) = some (rq (c : Rat)) := by
 unfold f92
 rw [decide_eq_false (by omega), cond_false, Ako (by omega) (by omega), A1, Apu, K1]
 rfl

theorem Ahl {c : Nat} (hc : c ≤ 100) : Sz (c : Rat) 1 := by
 unfold Sz
 rw [Rat.num_natCast, Rat.den_natCast, Int.natAbs_natCast]
 exact ⟨Ge (by omega), Ge (by omega)⟩

def Oh : List Int → Int
 | [] => 0
 | c :: r => if c = 0 then Oh r else c

theorem Af8 {n : Nat} {l : List Int} (hl : l.length ≤ 1048576) : ∀ (m i : Nat), i ≤ l.length → l.length < i + m → A5q n m l (l.length : Int) (i : Int) (fun z => some z) (fun (_ : Unit) => some 0) = some (Oh (l.drop i))
 | 0, i, hi, hm => by omega
 | m + 1, i, hi, hm => by
  rw [Ayg]
  unfold A8e
  rw [Bool.cond_decide]
  by_cases h : i < l.length
  · have hx : l.drop i = l.getD i 0 :: l.drop (i + 1) := by
     rw [List.drop_eq_getElem_cons h]; simp [List.getD_eq_getElem?_getD, h]
    rw [if_pos (by omega), A3 (by simp; try omega), Int.toNat_natCast, hx]
    unfold Oh
    by_cases c : l.getD i 0 = 0
    · rw [c, bne_self_eq_false, cond_false, if_pos rfl, A9 (x := (i : Int) + 1) (by omega) (by omega)]
      exact Af8 hl m (i + 1) (by omega) (by omega)
    · rw [if_neg c, show (l.getD i 0 != 0) = true by rw [bne_iff_ne]; exact c, cond_true]
  · rw [if_neg (by omega), List.drop_of_length_le (by omega)]; rfl

theorem A5p {n : Nat} {l : List Int} (hl : l.length ≤ 1048576) (hn : 1048577 ≤ n) : f68 n l = some (Oh l) := by
 unfold f68
 have := Af8 (n := n) hl n 0 (by omega) (by omega)
 simpa using this

def Lw (L : List (List Rt)) : Bool := L.any fun v => decide (4096 < v.length)

theorem Ak6 {n : Nat} {L : List (List Rt)} (hl : L.length ≤ 1048576) (hn : 1048577 ≤ n) : f98 n L = some (if Lw L = true then 2 else 0) := by
 obtain ⟨c, h1, h2⟩ := B5n (n := n) hl hn
 rw [h1]
 rcases h2 with ⟨rfl, h⟩ | ⟨rfl, v, hv, h⟩
 · rw [if_neg]
   intro c
   obtain ⟨v, hv, h3⟩ := List.any_eq_true.1 c
   have := h v hv
   have := of_decide_eq_true h3
   omega
 · rw [if_pos]
   exact List.any_eq_true.2 ⟨v, hv, decide_eq_true h⟩

theorem B05 : ∀ {l : List Rt}, l.all Cq = true → ∃ X : List Rat, l = vq X ∧ Sv X 40
 | [], _ => ⟨[], rfl, fun a h => by simp at h⟩
 | r :: l, h => by
  simp only [List.all_cons, Bool.and_eq_true] at h
  obtain ⟨x, rfl, hx⟩ := B4w h.1
  obtain ⟨X, rfl, hX⟩ := B05 h.2
  exact ⟨x :: X, rfl, fun a ha => by rcases List.mem_cons.1 ha with rfl | ha; exact hx; exact hX a ha⟩

def Oi (X : List Rat) : List Rt × Int := if X.all I2 = true then (vq X, 0) else ([], 7)

theorem B21 {n : Nat} {x : Rat} (h : Sz x 1000000) : f97 n (rq x) = some (rq x) := by
 obtain ⟨h1, h2⟩ := h
 unfold f97 rq
 dsimp only
 rw [Fz n (by omega), A1, Fz n (by omega), A1]

theorem Px {α : Type} {n : Nat} {s1 : List Rt × Int} {g : Nat → Rat} {N : Nat} (hN : N ≤ 4096) (hg : ∀ i, i < N → f182 n (i : Int) s1.1 s1.2 = some (rq (g i)) ∧ Sz (g i) 1000000) {k0 : List Rt → Option α} : ∀ (m i : Nat), i ≤ N → N < i + m →
  Jp n m s1 (N : Int) (i : Int) (vq ((List.range i).map g)) k0 = k0 (vq ((List.range N).map g))
 | 0, i, hi, hm => by omega
 | m + 1, i, hi, hm => by
  rw [Aco]
  unfold Mq
  rw [Bool.cond_decide]
  by_cases h : i < N
  · rw [if_pos (by omega), (hg i h).1, A1, B21 (hg i h).2, A1, A3 (by simp [vq]; omega)]
    have e : vq ((List.range i).map g) ++ [rq (g i)] = vq ((List.range (i + 1)).map g) := by simp [vq, List.range_succ]
    rw [e, A9 (x := (i : Int) + 1) (by omega) (by omega)]
    exact Px hN hg m (i + 1) (by omega) (by omega)
  · obtain rfl : i = N := by omega
    rw [if_neg (by omega)]

theorem Agk {n : Nat} {s1 : List Rt × Int} {g : Nat → Rat} {N : Nat} (hN : N ≤ 4096) (hg : ∀ i, i < N → f182 n (i : Int) s1.1 s1.2 = some (rq (g i)) ∧ Sz (g i) 1000000) (hn : 1048577 ≤ n) : Sn n (N : Int) s1 = some (vq ((List.range N).map g)) := by
 unfold Sn
 exact Px (n := n) hN hg n 0 (by omega) (by omega)

theorem Axv {c d : Int} : Oh [c, d] = if c = 0 then d else c := by
 unfold Oh Oh Oh
 split
 · split
   · rename_i h; exact h.symm
   · rfl
 · rfl

theorem Un {n : Nat} {L : List (List Rt)} {a : Int} (hl : L.length ≤ 1048576) (hn : 1048577 ≤ n) : ∀ (m i : Nat), i ≤ L.length → L.length < i + m → ∃ r, Gr n m L a (L.length : Int) (i : Int) (fun z => some z) (fun (_ : Unit) => some (-1)) = some r ∧ decide (r ≥ 0) = !((L.drop i).all fun v => Is v a)
 | 0, i, hi, hm => by omega
 | m + 1, i, hi, hm => by
  rw [Acx]
  unfold N1
  dsimp only
  rw [Bool.cond_decide]
  by_cases h : i < L.length
  · rw [if_pos (by omega), A3 (by simp; try omega)]
    simp only [Int.toNat_natCast]
    have e : f124 n (L.getD i []) a = some (!Is (L.getD i []) a) := by
     unfold f124
     rw [B3p hn, A1]
    rw [e, A1, Li h []]
    cases hp : Is (L.getD i []) a with
    | true =>
     rw [A9 (x := (i : Int) + 1) (by omega) (by omega)]
     simp only [Bool.not_true, cond_false, Bool.true_and]
     exact Un hl hn m (i + 1) (by omega) (by omega)
    | false => exact ⟨i, rfl, by simp⟩
  · rw [if_neg (by omega), List.drop_of_length_le (by omega)]
    exact ⟨-1, rfl, rfl⟩

theorem Aiw {n : Nat} {L : List (List Rt)} {a : Int} (hl : L.length ≤ 1048576) (hn : 1048577 ≤ n) : Su n L a = some (!(L.all fun v => Is v a)) := by
 unfold Su A3o
 obtain ⟨r, h1, h2⟩ := Un (n := n) (L := L) (a := a) hl hn n 0 (by omega) (by omega)
 have h1 : Gr n n L a (L.length : Int) 0 _ _ = _ := h1
 rw [h1, A1, h2, List.drop_zero]

def A7n (a : Int) (L : List (List Rt)) : Int := if Lw L = true then 2 else if (L.all fun v => Is v a) = true then 0 else 1

theorem Yg {n : Nat} {b : Bool} {c : Int} : f69 n b c = some (if b = true then 0 else c) := by
 unfold f69; cases b <;> rfl

theorem Pe {n : Nat} {L : List (List Rt)} {a : Int} (hl : L.length ≤ 1048576) (hn : 1048577 ≤ n) : f55 n a L = some (A7n a L) := by
 unfold f55 A7n
 rw [Ak6 hl hn, A1, Aiw hl hn, A1, Yg, A1, A5p (by simp) hn, A1, Axv]
 by_cases e : Lw L = true
 · rw [if_pos e, if_pos e]; rfl
 · rw [if_neg e, if_neg e, if_pos rfl]
   cases L.all fun v => Is v a <;> rfl

theorem B55 {l : List Rt} {a : Int} (h : Is l a = true) : ∃ (k : Nat) (X : List Rat), a = (k : Int) ∧ 1 ≤ k ∧ k ≤ 4 ∧ l = vq X ∧ Sv X 40 ∧ X.length = k * k := by
 unfold Is at h
 simp only [Bool.and_eq_true, decide_eq_true_eq, beq_iff_eq] at h
 obtain ⟨⟨h1, h2⟩, h3⟩ := h
 obtain ⟨X, rfl, hX⟩ := B05 h3
 refine ⟨a.toNat, X, by omega, by omega, by omega, rfl, hX, ?_⟩
 rw [At] at h2
 have e : a = (a.toNat : Int) := by omega
 rw [e, ← Int.natCast_mul] at h2
 omega

theorem Wn {a : Nat} (h : a ≤ 1000000) : W (a : Int) = (a : Int) := A9 (by omega) (by omega)

theorem Wm {a b : Nat} (h : a * b ≤ 1000000) : W ((a : Int) * (b : Int)) = ((a * b : Nat) : Int) := by
 rw [← Int.natCast_mul]; exact Wn h

theorem Wa {a b : Nat} (h : a + b ≤ 1000000) : W ((a : Int) + (b : Int)) = ((a + b : Nat) : Int) := by
 rw [← Int.natCast_add]; exact Wn h

theorem W1 {a : Nat} (h : a ≤ 1000000) : W ((a : Int) + 1) = ((a + 1 : Nat) : Int) := A9 (by omega) (by omega)

theorem Aqx {k i j : Nat} (hi : i < k) (hj : j < k) : j * k + i < k * k := by
 have h1 : (j + 1) * k ≤ k * k := Nat.mul_le_mul_right k hj
 rw [Nat.succ_mul] at h1
 omega

theorem Dw {k : Nat} (h : k ≤ 4) : k * k ≤ 16 := by have := Nat.mul_le_mul h h; omega

theorem dm {k i j : Nat} (hj : j < k) : (i * k + j) % k = j ∧ (i * k + j) / k = i := by
 have hk : 0 < k := by omega
 constructor
 · rw [Nat.add_comm, Nat.add_mul_mod_self_right, Nat.mod_eq_of_lt hj]
 · rw [Nat.add_comm, Nat.add_mul_div_right j i hk, Nat.div_eq_of_lt hj]; omega

theorem Ap0 {k p : Nat} (h : p < k * k) : p % k < k ∧ p / k < k := by
 have hk : 0 < k := by
  rcases Nat.eq_zero_or_pos k with h0 | h0
  · subst h0; omega
  · exact h0
 exact ⟨Nat.mod_lt p hk, Nat.div_lt_of_lt_mul h⟩

theorem Dr {X : List Rat} {i : Nat} (h : i < X.length) : (vq X).getD i (false, [], []) = rq (X.getD i 0) := Cp h

def Ee (X : List Rat) (k : Nat) : List Rat := (List.range (k * k)).map fun p => X.getD (p % k * k + p / k) 0

theorem A7l (X : List Rat) (k : Nat) : (Ee X k).length = k * k := by simp [Ee]

theorem B4g {X : List Rat} {L i : Nat} (h : Sv X L) : Sz (X.getD i 0) (L + 1) := by
 by_cases c : i < X.length
 · exact (h.get c).mono (by omega)
 · have : X.getD i 0 = 0 := by simp [List.getD_eq_getElem?_getD, List.getElem?_eq_none (Nat.le_of_not_lt c)]
   rw [this]
   exact C0.mono (by omega)

theorem Awn {X : List Rat} {k : Nat} (h : Sv X 40) (hl : X.length = k * k) : Sv (Ee X k) 40 := by
 intro a ha
 obtain ⟨p, hp, rfl⟩ := List.mem_map.1 ha
 obtain ⟨h1, h2⟩ := Ap0 (List.mem_range.1 hp)
 exact h.get (by rw [hl]; exact Aqx h2 h1)

theorem B2m {n k p : Nat} {X : List Rat} (hX : Sv X 40) (hl : X.length = k * k) (hk : k ≤ 4) (hp : p < k * k) : f182 n (p : Int) (vq X) (k : Int) = some (rq (X.getD (p % k * k + p / k) 0)) := by
 obtain ⟨h1, h2⟩ := Ap0 hp
 have h3 := Aqx h2 h1
 have h4 := Dw hk
 have hne : (k : Int) ≠ 0 := by omega
 unfold f182
 rw [A3 (by simpa using hne), A3 (by simpa using hne), ← Int.ofNat_tmod, ← Int.ofNat_tdiv]
 generalize p % k = u at *
 generalize p / k = v at *
 rw [Wm (by omega), Wn (by omega), Wa (by omega), A3 (by simp [At]; omega), Int.toNat_natCast]
 dsimp only
 rw [Dr (by omega)]

theorem B8w {n k : Nat} {X : List Rat} (hX : Sv X 40) (hl : X.length = k * k) (hk : k ≤ 4) : ∀ p, p < k * k → f182 n (p : Int) (vq X, (k : Int)).1 (vq X, (k : Int)).2 = some (rq (X.getD (p % k * k + p / k) 0)) ∧ Sz (X.getD (p % k * k + p / k) 0) 1000000 := fun p hp =>
 ⟨B2m hX hl hk hp, (B4g hX).mono (by omega)⟩

theorem Aqy {n k : Nat} {X : List Rat} (hX : Sv X 40) (hl : X.length = k * k) (hk : k ≤ 4) (hn : 1048577 ≤ n) : f140 n (vq X) (k : Int) = some (vq (Ee X k)) := by
 have h4 := Dw hk
 unfold f140
 rw [Wm (by omega), Agk (s1 := (vq X, (k : Int))) (by omega) (B8w hX hl hk) hn]
 rfl

theorem Ak5 {X : List Rat} (h : Sv X 40) : Oi X = (vq X, 0) := by
 unfold Oi; rw [if_pos (B8f h)]

theorem Abv {n : Nat} (hn : 1048577 ≤ n) : f106 n 0 = some (rq 0) := by
 unfold f106
 rw [decide_eq_false (by omega), cond_false, show (0 : Int) = ((0 : Nat) : Int) from rfl, Lb (by omega) (by omega), A1, B1f, Bs, K1]

theorem Abn {α : Type} {n : Nat} {x y : List Rat} (hx : Sv x 40) (hy : Sv y 40) (hl : x.length = y.length) (h4 : x.length ≤ 4) (hn : 1048577 ≤ n) {f : Bool} {k0 : Bool → Bool → List Int → List Int → Option α} : ∀ (m i : Nat) (acc : Rat), Sz acc (82 * 2 ^ i - 1) → i ≤ x.length → x.length < i + m →
  Jd n m (vq x) (vq y) (i : Int) f (rq acc).1 (rq acc).2.1 (rq acc).2.2 k0 = k0 f (rq (A7 acc (x.drop i) (y.drop i))).1 (rq (A7 acc (x.drop i) (y.drop i))).2.1 (rq (A7 acc (x.drop i) (y.drop i))).2.2
 | 0, i, acc, ho, hi, hm => by omega
 | m + 1, i, acc, ho, hi, hm => by
  rw [Abp]
  unfold Sx
  dsimp only
  rw [Bool.cond_decide, At]
  by_cases h : i < x.length
  · rw [if_pos (by omega), A3 (by simp; omega), A3 (by simp [At]; omega)]
    have hp : 2 ^ i ≤ 2 ^ 3 := Nat.pow_le_pow_right (by omega) (by omega)
    have hp1 : 1 ≤ 2 ^ i := Nat.one_le_two_pow
    rw [show (2 : Nat) ^ 3 = 8 from rfl] at hp
    have h1 : Sz (x.getD i 0 * y.getD i 0) 81 := Gv (hx.get h) (hy.get (by omega))
    have h2 : Sz (acc + x.getD i 0 * y.getD i 0) (82 * 2 ^ (i + 1) - 1) := (A72 ho (h1.mono (by omega))).mono (by rw [Nat.pow_succ]; omega)
    have e2 := Ux (n := n) ho (h1.mono (show 81 ≤ 82 * 2 ^ i - 1 by omega)) (by omega) (by omega)
    have e2 : f146 n ((rq acc).1, (rq acc).2.1, (rq acc).2.2) _ = _ := e2
    rw [Int.toNat_natCast, Dr h, Dr (by omega), Ky (hx.get h) (hy.get (by omega)) (by omega) (by omega), A1, e2, A1, A9 (x := (i : Int) + 1) (by omega) (by omega)]
    have := Abn hx hy hl h4 hn (f := f) (k0 := k0) m (i + 1) _ h2 (by omega) (by omega)
    rw [Dq h, Dq (x := y) (by omega)]
    rw [show (i : Int) + 1 = ((i + 1 : Nat) : Int) from rfl, this]
    rfl
  · rw [if_neg (by omega), List.drop_of_length_le (by omega), List.drop_of_length_le (by omega)]
    rfl

theorem B8t {n : Nat} {x y : List Rat} (hx : Sv x 40) (hy : Sv y 40) (hl : x.length = y.length) (h4 : x.length ≤ 4) (hn : 1048577 ≤ n) : f120 n (vq x) (vq y) = some (rq (A7 0 x y)) := by
 unfold f120
 rw [Abv hn, A1]
 have h1 := Abn (n := n) hx hy hl h4 hn (f := false) (k0 := fun z_6 z_7 z_8 z_9 => some (z_7, z_8, z_9)) n 0 0 (C0.mono (by simp)) (by omega) (by omega)
 have h1 : Jd n n (vq x) (vq y) 0 _ _ _ _ _ = _ := h1
 rw [h1, List.drop_zero, List.drop_zero]

theorem Al8 : ∀ {x y : List Rat} {acc : Rat} {i : Nat}, Sv x 40 → Sv y 40 → Sz acc (82 * 2 ^ i - 1) → i + x.length ≤ 4 → Sz (A7 acc x y) 1311
 | [], _, acc, i, _, _, h, hl => by
  have hp : 2 ^ i ≤ 2 ^ 4 := Nat.pow_le_pow_right (by omega) (by simp at hl; omega)
  exact h.mono (by rw [show (2 : Nat) ^ 4 = 16 from rfl] at hp; omega)
 | p :: x, [], acc, i, _, _, h, hl => by
  have hp : 2 ^ i ≤ 2 ^ 4 := Nat.pow_le_pow_right (by omega) (by omega)
  exact h.mono (by rw [show (2 : Nat) ^ 4 = 16 from rfl] at hp; omega)
 | p :: x, q :: y, acc, i, hx, hy, h, hl => by
  have hp1 : 1 ≤ 2 ^ i := Nat.one_le_two_pow
  have h1 : Sz (p * q) 81 := Gv (hx p (by simp)) (hy q (by simp))
  have h2 : Sz (acc + p * q) (82 * 2 ^ (i + 1) - 1) := (A72 h (h1.mono (by omega))).mono (by rw [Nat.pow_succ]; omega)
  simp only [List.length_cons] at hl
  exact Al8 (x := x) (y := y) (fun a ha => hx a (by simp [ha])) (fun a ha => hy a (by simp [ha])) h2 (by omega)

theorem B8h {x y : List Rat} (hx : Sv x 40) (hy : Sv y 40) (hl : x.length ≤ 4) : Sz (A7 0 x y) 1311 := Al8 (i := 0) hx hy (C0.mono (by omega)) (by omega)

def Au (X : List Rat) (k i : Nat) : List Rat := (X.drop (i * k)).take k

theorem Ox {X : List Rat} {k i : Nat} : ((vq X).drop (i * k)).take ((i + 1) * k - i * k) = vq (Au X k i) := by
 rw [show (i + 1) * k - i * k = k by rw [Nat.succ_mul]; omega]
 simp [vq, Au, List.map_drop, List.map_take]

theorem Bd {X : List Rat} {k i : Nat} (hl : X.length = k * k) (hi : i < k) : (Au X k i).length = k := by
 have : (i + 1) * k ≤ k * k := Nat.mul_le_mul_right k hi
 rw [Nat.succ_mul] at this
 simp [Au]; omega

theorem K2 {X : List Rat} {k i L : Nat} (h : Sv X L) : Sv (Au X k i) L := fun a ha => h a (List.mem_of_mem_drop (List.mem_of_mem_take ha))

theorem Ln {k i : Nat} (hi : i < k) : (i + 1) * k ≤ k * k := Nat.mul_le_mul_right k hi

theorem Xw {k i N : Nat} (hi : i < k) (hN : N = k * k) : (decide (0 ≤ ((i * k : Nat) : Int)) && decide (((i * k : Nat) : Int) ≤ (((i + 1) * k : Nat) : Int)) && decide ((((i + 1) * k : Nat) : Int) ≤ (N : Int))) = true := by
 have h1 := Ln hi
 have h2 : (i + 1) * k = i * k + k := Nat.succ_mul i k
 generalize (i + 1) * k = u at *
 generalize i * k = v at *
 generalize k * k = w at *
 simp; omega

def Av (A X : List Rat) : List Rat := (List.range X.length).map fun i => A7 0 (Au A X.length i) X

theorem Ci (A X : List Rat) : (Av A X).length = X.length := by simp [Av]

def mvC (A x : List Rt) : Int := if Lw [A, x] = true then 2 else if (vok x && Is A (x.length : Int)) = true then 0 else 1

theorem Bah {a b c : Int} : Oh [a, b, c] = if a = 0 then (if b = 0 then c else b) else a := by
 rw [← Axv (c := b) (d := c)]; rfl

theorem Asl {n : Nat} {A x : List Rt} (hn : 1048577 ≤ n) : f49 n A x = some (mvC A x) := by
 unfold f49 mvC
 rw [Ak6 (by simp) hn, A1, B42 hn, A1, Yg, A1, Pe (by simp) hn, A1, A5p (by simp) hn, A1, Bah]
 by_cases e : Lw [A, x] = true
 · rw [if_pos e, if_pos e]; rfl
 · have e2 : ¬ Lw [A] = true := by
    unfold Lw at e ⊢
    simp at e ⊢
    omega
   rw [if_neg e, if_neg e, if_pos rfl]
   unfold A7n
   rw [if_neg e2]
   cases vok x <;> cases hm : Is A (x.length : Int) <;> simp [hm]

theorem B5y {n : Nat} {A x : List Rt} (hn : 1048577 ≤ n) : f52 n A x = some (mvC A x) := by
 unfold f52 mvC Lw
 dsimp only
 simp only [List.any_cons, List.any_nil, Bool.or_false]
 rw [Bool.cond_decide]
 by_cases a : A.length ≤ 4096
 · rw [if_neg (by omega), decide_eq_false (show ¬ 4096 < A.length by omega), Bool.false_or]
   by_cases b : x.length ≤ 4096
   · rw [decide_eq_false (by omega), decide_eq_false (by omega), cond_false, B3x hn, A1, if_neg (by simp)]
     cases hx : vok x with
     | false => rfl
     | true =>
      rw [Bool.not_true, cond_false, Arc hn, A1]
      cases hm : Is A (x.length : Int) <;> simp
   · rw [decide_eq_true (by omega), decide_eq_true (by omega), cond_true, if_pos rfl]
 · rw [if_pos (by omega), decide_eq_true (show 4096 < A.length by omega), Bool.true_or, cond_true, if_pos rfl]

def Eo (w : Nat) (row : List Rt) (v : Nat → Rat) : Prop := row.length = w ∧ ∀ c, c < w → row.getD c Ov = rq (v c)

def Bw (m w : Nat) (R : List (List Rt)) (M : Nat → Nat → Rat) : Prop := R.length = m ∧ ∀ r, r < m → Eo w (R.getD r []) (M r)

def Gw (M : Nat → Nat → Rat) (L : Nat) : Prop := ∀ r c, Sz (M r c) L

theorem Ak1 {n L : Nat} {x : Rat} (hx : Sz x L) (hL : L ≤ 1099511627000) : f97 n (rq x) = some (rq x) := by
 obtain ⟨x1, x2⟩ := hx
 unfold f97 rq
 dsimp only
 rw [Fz n (by omega), A1, Fz n (by omega), A1]

theorem U9 {α : Type} {l m : List α} {i : Nat} {d : α} (h : i < l.length) : (l ++ m).getD i d = l.getD i d := by
 simp [List.getD_eq_getElem?_getD, List.getElem?_append_left h]

theorem Ua {α : Type} {l : List α} {x d : α} {i : Nat} (h : l.length = i) : (l ++ [x]).getD i d = x := by
 subst h
 simp [List.getD_eq_getElem?_getD]

theorem getD_set_ne {α : Type} {l : List α} {i j : Nat} {x d : α} (h : i ≠ j) : (l.set i x).getD j d = l.getD j d := by
 rw [List.getD_eq_getElem?_getD, List.getElem?_set_ne h, ← List.getD_eq_getElem?_getD]

theorem Og {α : Type} {l : List α} {i : Nat} {x d : α} (h : i < l.length) : (l.set i x).getD i d = x := by
 rw [List.getD_eq_getElem?_getD, List.getElem?_set_self h]; rfl

theorem Ac5 {α : Type} {n L w : Nat} {t : Rat} {u v : Nat → Rat} {x y : List Rt} (ht : Sz t L) (hu : ∀ c, Sz (u c) L) (hv : ∀ c, Sz (v c) L) (hx : Eo w x u) (hy : Eo w y v) (hw : w ≤ 100) (hL : 4 * L + 3 ≤ 1099511627000) (hn : 28 * (4 * L + 3) + 10040 ≤ n) {k0 : List Rt → Option α} :
  ∀ (m i : Nat) (o : List Rt), o.length = i → (∀ c, c < i → o.getD c Ov = rq (t * u c + v c)) → i ≤ w → w < i + m →
  ∃ z, Eo w z (fun c => t * u c + v c) ∧ Gp n m (rq t, x, y) (w : Int) (i : Int) o k0 = k0 z
 | 0, i, o, ho, hc, hi, hm => by omega
 | m + 1, i, o, ho, hc, hi, hm => by
  rw [Acq]
  unfold Mt
  dsimp only
  rw [Bool.cond_decide]
  by_cases h : i < w
  · have e : f144 n (i : Int) (rq t) x y = some (rq (t * u i + v i)) := by
     unfold f144
     dsimp only
     rw [A3 (by rw [hx.1]; simp; omega)]
     simp only [Int.toNat_natCast]
     rw [hx.2 i h, Y5 ht (hu i) (by omega) (by omega), A1, A3 (by rw [hy.1]; simp; omega), hy.2 i h, A5a (Gv ht (hu i)) ((hv i).mono (by omega)) (by omega) (by omega), A1]
    have hs : Sz (t * u i + v i) (4 * L + 3) := (A72 (Gv ht (hu i)) ((hv i).mono (show L ≤ 2 * L + 1 by omega))).mono (by omega)
    rw [if_pos (by omega), e, A1, Ak1 hs (by omega), A1, A3 (by simp only [decide_eq_true_eq]; omega), A9 (x := (i : Int) + 1) (by omega) (by omega)]
    refine Ac5 ht hu hv hx hy hw hL hn m (i + 1) _ (by simp [ho]) (fun c hc' => ?_) (by omega) (by omega)
    rcases Nat.lt_or_ge c i with h1 | h1
    · rw [U9 (by omega)]; exact hc c h1
    · obtain rfl : c = i := by omega
      rw [Ua ho]
  · rw [if_neg (by omega)]
    obtain rfl : i = w := by omega
    exact ⟨o, ⟨ho, hc⟩, rfl⟩

theorem Arl {n L w : Nat} {t : Rat} {u v : Nat → Rat} {x y : List Rt} (ht : Sz t L) (hu : ∀ c, Sz (u c) L) (hv : ∀ c, Sz (v c) L) (hx : Eo w x u) (hy : Eo w y v) (hw : w ≤ 100) (hL : 4 * L + 3 ≤ 1099511627000) (hn : 28 * (4 * L + 3) + 10040 ≤ n) :
  ∃ z, f76 n (rq t) x y = some z ∧ Eo w z (fun c => t * u c + v c) := by
 unfold f76 A3m
 rw [hx.1]
 obtain ⟨z, h1, h2⟩ := Ac5 ht hu hv hx hy hw hL hn (k0 := fun z_3 => some z_3) n 0 [] rfl (fun c h => by omega) (by omega) (by omega)
 have h2 : Gp n n (rq t, x, y) (w : Int) 0 [] _ = _ := h2
 exact ⟨z, by rw [h2, A1], h1⟩

def Ai (M : Nat → Nat → Rat) (k i : Nat) : Nat → Nat → Rat := fun r c => if k < r ∧ r < i then M r c - M r k / M k k * M k c else M r c

theorem Ae3 {m w : Nat} {R : List (List Rt)} {M : Nat → Nat → Rat} {i : Nat} {z : List Rt} {v : Nat → Rat} (h : Bw m w R M) (hi : i < m) (hz : Eo w z v) : Bw m w (R.set i z) (fun r => if r = i then v else M r) := by
 refine ⟨by simpa using h.1, fun r hr => ?_⟩
 by_cases e : r = i
 · subst e
   rw [Og (by rw [h.1]; exact hr)]
   simpa using hz
 · rw [getD_set_ne (fun e' => e e'.symm)]
   simp only [e, if_false]
   exact h.2 r hr

theorem Abz {α : Type} {n L m w k : Nat} {M : Nat → Nat → Rat} (hM : Gw M L) (hk : k < m) (hkw : k < w) (hp : M k k ≠ 0) (hm : m ≤ 100) (hw : w ≤ 100) (hL : 8 * L + 7 ≤ 1099511627000) (hn : 28 * (8 * L + 7) + 10040 ≤ n)
  (s9 s10 : Int) (c2 c3 : Bool) (c4 c5 : List Int) {k0 : Int → Int → Bool → Bool → List Int → List Int → List (List Rt) → Option α} :
  ∀ (fu i : Nat) (R : List (List Rt)), k < i → i ≤ m → Bw m w R (Ai M k i) → m < i + fu →
  ∃ R', Bw m w R' (Ai M k m) ∧ J5 n fu (i : Int) s9 s10 c2 c3 c4 c5 (k : Int) R k0 = k0 s9 s10 c2 c3 c4 c5 R'
 | 0, i, R, h1, h2, h3, h4 => by omega
 | fu + 1, i, R, h1, h2, h3, h4 => by
  rw [Ams]
  unfold W0
  dsimp only
  have hl := h3.1
  rw [Bool.cond_decide]
  by_cases h : i < m
  · have ri := h3.2 i h
    have rk := h3.2 k hk
    have ei : Ai M k i i = M i := by
     funext c; unfold Ai; rw [if_neg (by omega)]
    have ek : Ai M k i k = M k := by
     funext c; unfold Ai; rw [if_neg (by omega)]
    rw [ei] at ri
    rw [ek] at rk
    have cik := ri.2 k hkw
    have ckk := rk.2 k hkw
    have hmi : Sz (M i k / M k k) (2 * L + 1) := Ahm (hM i k) (hM k k) hp
    obtain ⟨z, z1, z2⟩ := Arl (n := n) (L := 2 * L + 1) (w := w) (Gu hmi) (fun c => (hM k c).mono (by omega)) (fun c => (hM i c).mono (by omega)) rk ri hw (by omega) (by omega)
    have hg1 : (decide (0 ≤ (i : Int)) && decide ((i : Int) < (R.length : Int))) = true := by rw [hl]; simp; omega
    have hg2 : (decide (0 ≤ (k : Int)) && decide ((k : Int) < (R.length : Int))) = true := by rw [hl]; simp; omega
    simp only [Int.toNat_natCast]
    have hg3 : decide (i < R.length) = true := by rw [hl]; simpa using h
    have hg4 : decide (k < R.length) = true := by rw [hl]; simpa using hk
    have hg5 : (decide (0 ≤ (k : Int)) && decide ((k : Int) < (((R.getD i []).length : Nat) : Int))) = true := by rw [ri.1]; simp; omega
    have hg6 : (decide (0 ≤ (k : Int)) && decide ((k : Int) < (((R.getD k []).length : Nat) : Int))) = true := by rw [rk.1]; simp; omega
    rw [if_pos (by omega)]
    simp only [A3 hg1, A3 hg2, A3 hg3, A3 hg4, A3 hg5, A3 hg6, cik, ckk]
    rw [A5b (hM i k) (hM k k) hp (by omega) (by omega), A1, Ad7 hmi (by omega), A1, z1, A1, A9 (x := (i : Int) + 1) (by omega) (by omega)]
    refine Abz hM hk hkw hp hm hw hL hn s9 s10 c2 c3 c4 c5 fu (i + 1) (R.set i z) (by omega) (by omega) ?_ (by omega)
    have := Ae3 h3 h z2
    have e : (fun r => if r = i then (fun c => -(M i k / M k k) * M k c + M i c) else Ai M k i r) = Ai M k (i + 1) := by
     funext r c
     unfold Ai
     by_cases hr : r = i
     · subst hr
       rw [if_pos rfl, if_pos (by omega)]
       rw [Rat.neg_mul, Rat.add_comm, Rat.sub_eq_add_neg]
     · rw [if_neg hr]
       by_cases hr2 : k < r ∧ r < i
       · rw [if_pos hr2, if_pos (by omega)]
       · rw [if_neg hr2, if_neg (by omega)]
    rw [e] at this
    exact this
  · rw [if_neg (by omega)]
    obtain rfl : i = m := by omega
    exact ⟨R, h3, rfl⟩

def K5 (M : Nat → Nat → Rat) (r c : Nat) (x : Rat) : Nat → Nat → Rat := fun i j => if i = r ∧ j = c then x else M i j

def Ag (M : Nat → Nat → Rat) (k p : Nat) : Nat → Nat → Rat := fun r c => if r = k then M p c else if r = p then M k c else M r c

def Ce (M : Nat → Nat → Rat) (k m : Nat) : Nat → Nat → Nat
 | 0, p => p
 | f + 1, p => if p < m then (if M p k = 0 then Ce M k m f (p + 1) else p) else p

def Bg (M : Nat → Nat → Rat) (k m : Nat) : Nat := Ce M k m (m - k) k

theorem Kz {M : Nat → Nat → Rat} {k m : Nat} : ∀ (f p : Nat), p ≤ m → p ≤ Ce M k m f p ∧ Ce M k m f p ≤ m
 | 0, p, h => ⟨Nat.le_refl _, h⟩
 | f + 1, p, h => by
  unfold Ce
  split
  · rename_i h1
    split
    · obtain ⟨a, b⟩ := Kz (M := M) (k := k) (m := m) f (p + 1) (by omega)
      exact ⟨by omega, b⟩
    · exact ⟨Nat.le_refl _, h⟩
  · exact ⟨Nat.le_refl _, h⟩

theorem P0 {M : Nat → Nat → Rat} {k m : Nat} : ∀ (f p : Nat), m ≤ p + f → Ce M k m f p < m → M (Ce M k m f p) k ≠ 0
 | 0, p, h, h2 => by unfold Ce at h2; omega
 | f + 1, p, h, h2 => by
  unfold Ce at h2 ⊢
  split
  · rename_i h1
    rw [if_pos h1] at h2
    split
    · rename_i h3
      rw [if_pos h3] at h2
      exact P0 f (p + 1) (by omega) h2
    · rename_i h3; exact h3
  · rename_i h1
    rw [if_neg h1] at h2; omega

def Am (m : Nat) : Nat → Nat → Rat → (Nat → Nat → Rat) → Rat × (Nat → Nat → Rat)
 | 0, _, d, M => (d, M)
 | f + 1, k, d, M => if Bg M k m = m then (0, M) else
  Am m f (k + 1) ((if Bg M k m = k then d else -d) * Ag M k (Bg M k m) k k) (Ai (Ag M k (Bg M k m)) k m)

def Zz (m k : Nat) (M : Nat → Nat → Rat) : Prop := ∀ r c, c < k → c < r → r < m → M r c = 0

theorem Aej {m k p : Nat} {M : Nat → Nat → Rat} (h : Zz m k M) (hkp : k ≤ p) (hp : p < m) : Zz m k (Ag M k p) := by
 intro r c h1 h2 h3
 unfold Ag
 split
 · exact h p c h1 (by omega) hp
 · split
   · exact h k c h1 h1 (by omega)
   · exact h r c h1 h2 h3

theorem Aek {m k : Nat} {M : Nat → Nat → Rat} (h : Zz m k M) (hk : k < m) (hp : M k k ≠ 0) : Zz m (k + 1) (Ai M k m) := by
 intro r c h1 h2 h3
 unfold Ai
 by_cases e : c = k
 · subst e
   rw [if_pos ⟨h2, h3⟩, Rat.div_mul_cancel hp, Rat.sub_self]
 · split
   · rename_i h4
     rw [h r c (by omega) h2 h3, h k c (by omega) (by omega) hk, Rat.mul_zero]
     grind
   · exact h r c (by omega) h2 h3

theorem Gw.mono {M : Nat → Nat → Rat} {L L' : Nat} (h : Gw M L) (hL : L ≤ L') : Gw M L' := fun r c => (h r c).mono hL

theorem A4i {M : Nat → Nat → Rat} {L k p : Nat} (h : Gw M L) : Gw (Ag M k p) L := by
 intro r c
 unfold Ag
 split
 · exact h p c
 · split
   · exact h k c
   · exact h r c

theorem Tz {M : Nat → Nat → Rat} {L k i : Nat} (h : Gw M L) (hp : M k k ≠ 0) : Gw (Ai M k i) (8 * L + 7) := by
 intro r c
 unfold Ai
 split
 · exact (B8g (L := 4 * L + 3) ((h r c).mono (by omega)) ((Gv (Ahm (h r k) (h k k) hp) ((h k c).mono (show L ≤ 2 * L + 1 by omega))).mono (by omega))).mono (by omega)
 · exact (h r c).mono (by omega)

theorem Eo.congr {w : Nat} {row : List Rt} {u v : Nat → Rat} (h : Eo w row u) (e : ∀ c, c < w → u c = v c) : Eo w row v := ⟨h.1, fun c hc => by rw [h.2 c hc, e c hc]⟩

theorem Bw.congr {m w : Nat} {R : List (List Rt)} {M M' : Nat → Nat → Rat} (h : Bw m w R M) (e : ∀ r c, r < m → c < w → M r c = M' r c) : Bw m w R M' := ⟨h.1, fun r hr => (h.2 r hr).congr fun c hc => e r c hr hc⟩

theorem A56 {α : Type} {n m w k : Nat} {R : List (List Rt)} {M : Nat → Nat → Rat} (h : Bw m w R M) (hkw : k < w) (hk : k ≤ m) (hm : m ≤ 100) {k0 : Int → Option α} {k1 : Unit → Option α} : ∀ (f p fu : Nat), k ≤ p → p ≤ m → f = m - p → m < p + fu →
  Jq n fu (R.drop k) (k : Int) ((m - k : Nat) : Int) ((p - k : Nat) : Int) k0 k1 = if Ce M k m f p = m then k1 () else k0 ((Ce M k m f p - k : Nat) : Int)
 | f, p, 0, h1, h2, h3, h4 => by omega
 | 0, p, fu + 1, h1, h2, h3, h4 => by
  rw [Um]
  unfold Id Ce
  rw [Bool.cond_decide, if_neg (by omega), if_pos (by omega)]
 | f + 1, p, fu + 1, h1, h2, h3, h4 => by
  have hp : p < m := by omega
  rw [Um]
  unfold Id
  have hl := h.1
  have hr := h.2 p hp
  have e : (R.drop k).getD (p - k) [] = R.getD p [] := by
   simp only [List.getD_eq_getElem?_getD, List.getElem?_drop]
   rw [show k + (p - k) = p by omega]
  rw [Bool.cond_decide, if_pos (by omega), A3 (by simp [hl]; omega), Int.toNat_natCast, e]
  unfold f127
  have hc := hr.2 k hkw
  have hc : (R.getD p []).getD k (false, [], []) = rq (M p k) := hc
  rw [A3 (by rw [hr.1]; simp; omega), Int.toNat_natCast]
  dsimp only
  rw [hc, A59, A1, A1]
  unfold Ce
  rw [if_pos hp]
  by_cases z : M p k = 0
  · rw [if_pos z, decide_eq_true z, Bool.not_true, cond_false, A9 (x := ((p - k : Nat) : Int) + 1) (by omega) (by omega)]
    have := A56 (n := n) h hkw hk hm (k0 := k0) (k1 := k1) f (p + 1) fu (by omega) (by omega) (by omega) (by omega)
    rw [show (((p + 1 - k : Nat)) : Int) = ((p - k : Nat) : Int) + 1 by omega] at this
    exact this
  · rw [if_neg z, decide_eq_false z, Bool.not_false, cond_true, if_neg (by omega)]

theorem B3n {n m w k : Nat} {R : List (List Rt)} {M : Nat → Nat → Rat} (h : Bw m w R M) (hkw : k < w) (hk : k ≤ m) (hm : m ≤ 100) (hn : 1048577 ≤ n) :
  Sr n (R.drop k) (k : Int) = some (if Bg M k m = m then -1 else ((Bg M k m - k : Nat) : Int)) := by
 unfold Sr Bg
 have := A56 (n := n) h hkw hk hm (k0 := fun z_2 => some z_2) (k1 := fun _ => some (-1)) (m - k) k n (by omega) hk rfl (by omega)
 rw [Nat.sub_self] at this
 rw [List.length_drop, h.1]
 refine Eq.trans this ?_
 split <;> rfl

theorem Ajz {n c : Nat} (hc : c ≤ 100) (hn : 1048577 ≤ n) : f92 n (c : Int) = some (rq (c : Rat)) := Ara hc hn

theorem B1g {m w : Nat} {R : List (List Rt)} {M : Nat → Nat → Rat} {k p : Nat} (h : Bw m w R M) (hk : k < m) (hp : p < m) : Bw m w ((R.set k (R.getD p [])).set p (R.getD k [])) (Ag M k p) := by
 have h1 := Ae3 h hk (h.2 p hp)
 have h2 := Ae3 h1 hp (h.2 k hk)
 refine h2.congr fun r c hr hc => ?_
 unfold Ag
 by_cases a : r = p
 · subst a
   by_cases b : r = k
   · subst b; simp
   · simp [b]
 · by_cases b : r = k
   · subst b; simp [a]
   · simp [a, b]

theorem Xc {M : Nat → Nat → Rat} {k : Nat} : Ai M k (k + 1) = M := by
 funext r c
 unfold Ai
 rw [if_neg (by omega)]

def Nn (L : Nat) : Nat → Nat
 | 0 => L
 | f + 1 => Nn (8 * L + 7) f

theorem A52 : ∀ (f L : Nat), L ≤ Nn L f
 | 0, _ => Nat.le_refl _
 | f + 1, L => by have := A52 f (8 * L + 7); unfold Nn; omega

theorem Ak0 {n m w : Nat} (hm : m ≤ 8) (hmw : m ≤ w) (hw : w ≤ 100) :
  ∀ (f k fu : Nat) (R : List (List Rt)) (M : Nat → Nat → Rat) (d : Rat) (L : Nat) (b : Bool), f = m - k → k ≤ m → m < k + fu → Bw m w R M → Gw M L → Sz d L → 28 * (8 * Nn L f + 7) + 10040 ≤ n → 8 * Nn L f + 7 ≤ 1099511627000 → 1048577 ≤ n →
  ∃ R', Bw m w R' (Am m f k d M).2 ∧
  J4 n fu (m : Int) (k : Int) b (rq d).1 (rq d).2.1 (rq d).2.2 R (fun z_19 z_20 z_21 z_22 => some ((z_19, z_20, z_21), z_22)) (fun z_23 z_24 z_25 z_26 z_27 => some ((z_24, z_25, z_26), z_27)) = some (rq (Am m f k d M).1, R')
 | f, k, 0, R, M, d, L, b, h1, h2, h3, h4, h5, h6, h7, h8, hn => by omega
 | 0, k, fu + 1, R, M, d, L, b, h1, h2, h3, h4, h5, h6, h7, h8, hn => by
  rw [Aaz]
  unfold R9
  rw [Bool.cond_decide, if_neg (by omega)]
  exact ⟨R, h4, rfl⟩
 | f + 1, k, fu + 1, R, M, d, L, b, h1, h2, h3, h4, h5, h6, h7, h8, hn => by
  have hkm : k < m := by omega
  have hl := h4.1
  have hL8 := A52 f (8 * L + 7)
  simp only [Nn] at h7 h8
  have et : (R.drop k).take ((m : Int).toNat - k) = R.drop k := List.take_of_length_le (by simp [hl])
  rw [Aaz]
  unfold R9
  rw [Bool.cond_decide, if_pos (by omega)]
  simp only [Int.toNat_natCast, hl]
  rw [A3 (by simp; omega), A3 (by simp; omega)]
  rw [Int.toNat_natCast] at et
  rw [et, B3n h4 (by omega) h2 (by omega) hn, A1]
  obtain ⟨p1, p2⟩ := Kz (M := M) (k := k) (m := m) (m - k) k h2
  have p1 : k ≤ Bg M k m := p1
  have p2 : Bg M k m ≤ m := p2
  by_cases hp : Bg M k m = m
  · rw [if_pos hp]
    have eg : Am m (f + 1) k d M = (0, M) := by unfold Am; rw [if_pos hp]
    have e0 : f92 n 0 = some (rq 0) := Ajz (c := 0) (by omega) hn
    rw [eg, show decide ((-1 : Int) < 0) = true from rfl, cond_true, e0, A1]
    exact ⟨R, h4, rfl⟩
  have hpm : Bg M k m < m := by omega
  have hne : M (Bg M k m) k ≠ 0 := P0 (m - k) k (by omega) hpm
  have eg : Am m (f + 1) k d M = Am m f (k + 1) ((if Bg M k m = k then d else -d) * Ag M k (Bg M k m) k k) (Ai (Ag M k (Bg M k m)) k m) := by
   conv => lhs; unfold Am
   rw [if_neg hp]
  rw [eg, if_neg hp, Bool.cond_decide, if_neg (show ¬ ((Bg M k m - k : Nat) : Int) < 0 by omega)]
  generalize hP : Bg M k m = p at *
  have hs := A4i (k := k) (p := p) h5
  have hkk : Ag M k p k k = M p k := by unfold Ag; rw [if_pos rfl]
  have hnz : Ag M k p k k ≠ 0 := by rw [hkk]; exact hne
  have go : ∀ (R1 : List (List Rt)) (d1 : Rat), Bw m w R1 (Ag M k p) → Sz d1 L →
    ∃ R', Bw m w R' (Am m f (k + 1) (d1 * Ag M k p k k) (Ai (Ag M k p) k m)).2 ∧
    (gd (decide (0 ≤ (k : Int)) && decide ((k : Int) < (R1.length : Int))) (gd (decide (k < R1.length)) (gd (decide (0 ≤ (k : Int)) && decide ((k : Int) < (((R1.getD k []).length : Nat) : Int)))
     (ob (f103 n ((rq d1).1, (rq d1).2.1, (rq d1).2.2) ((R1.getD k []).getD k (false, [], []))) fun r_10 =>
      J5 n n (W ((k : Int) + 1)) (m : Int) (k : Int) b r_10.1 r_10.2.1 r_10.2.2 (k : Int) R1 fun z_11 z_12 z_13 z_14 z_15 z_16 z_17 =>
       J4 n fu z_11 (W (z_12 + 1)) z_13 z_14 z_15 z_16 z_17 (fun z_19 z_20 z_21 z_22 => some ((z_19, z_20, z_21), z_22)) (fun z_23 z_24 z_25 z_26 z_27 => some ((z_24, z_25, z_26), z_27)))))) = some (rq (Am m f (k + 1) (d1 * Ag M k p k k) (Ai (Ag M k p) k m)).1, R') := by
   intro R1 d1 hR1 hd1
   have l1 := hR1.1
   have rk := hR1.2 k hkm
   have ck := rk.2 k (by omega)
   have ck : (R1.getD k []).getD k (false, [], []) = rq (Ag M k p k k) := ck
   rw [A3 (by simp [l1]; omega), A3 (by simp [l1]; omega), A3 (by rw [rk.1]; simp; omega), ck, show ((rq d1).1, (rq d1).2.1, (rq d1).2.2) = rq d1 from rfl,
    Y5 (L := L) hd1 (hs k k) (by omega) (by omega), A1, A9 (x := (k : Int) + 1) (by omega) (by omega)]
   have hR1' : Bw m w R1 (Ai (Ag M k p) k (k + 1)) := by rw [Xc]; exact hR1
   obtain ⟨R2, q1, q2⟩ := Abz (n := n) (L := L) (m := m) (w := w) (k := k) hs hkm (by omega) hnz (by omega) hw (by omega) (by omega) (m : Int) (k : Int) b (rq (d1 * Ag M k p k k)).1 (rq (d1 * Ag M k p k k)).2.1 (rq (d1 * Ag M k p k k)).2.2
    (k0 := fun z_11 z_12 z_13 z_14 z_15 z_16 z_17 => J4 n fu z_11 (W (z_12 + 1)) z_13 z_14 z_15 z_16 z_17 (fun z_19 z_20 z_21 z_22 => some ((z_19, z_20, z_21), z_22)) (fun z_23 z_24 z_25 z_26 z_27 => some ((z_24, z_25, z_26), z_27))) n (k + 1) R1 (by omega) (by omega) hR1' (by omega)
   have q2 : J5 n n ((k : Int) + 1) (m : Int) (k : Int) b _ _ _ (k : Int) R1 _ = _ := q2
   rw [q2, A9 (x := (k : Int) + 1) (by omega) (by omega)]
   exact Ak0 hm hmw hw f (k + 1) fu R2 (Ai (Ag M k p) k m) (d1 * Ag M k p k k) (8 * L + 7) b (by omega) (by omega) (by omega) q1 (Tz hs hnz) ((Gv hd1 (hs k k)).mono (by omega)) h7 h8 hn
  by_cases hpk : p = k
  · rw [if_pos hpk]
    have hs0 : Ag M k p = M := by
     funext r c; unfold Ag; subst hpk
     split
     · rename_i e; rw [e]
     · rfl
    obtain ⟨R', r1, r2⟩ := go R d (by rw [hs0]; exact h4) h6
    refine ⟨R', r1, ?_⟩
    rw [show p - k = 0 by omega, Bool.cond_decide, if_neg (by omega)]
    rw [hl] at r2
    exact r2
  · rw [if_neg hpk, Bool.cond_decide, if_pos (by omega)]
    have hw1 : W ((k : Int) + ((p - k : Nat) : Int)) = (p : Int) := by rw [A9 (by omega) (by omega)]; omega
    have hrs := B1g h4 hkm hpm
    obtain ⟨R', r1, r2⟩ := go _ (-d) hrs (Gu h6)
    refine ⟨R', r1, ?_⟩
    simp only [hw1, Int.toNat_natCast, List.length_set, hl]
    rw [A3 (by simp; omega), A3 (by simp; omega), A3 (by simp; omega), A3 (by simp; omega), A3 (by simp; omega), A3 (by simp; omega), A3 (by simp; omega), A3 (by simp; omega),
     show ((rq d).1, (rq d).2.1, (rq d).2.2) = rq d from rfl, Ad7 (L := L) h6 (by omega), A1]
    simp only [List.length_set, hl] at r2
    exact r2

theorem Ei {k i j : Nat} (hi : i < k) (hj : j < k) : i * k + j < k * k := by
 have h1 : (i + 1) * k ≤ k * k := Nat.mul_le_mul_right k hi
 rw [Nat.succ_mul] at h1
 omega

theorem B1w {k r r' c c' : Nat} (hc : c < k) (hc' : c' < k) (h : r * k + c = r' * k + c') : r = r' ∧ c = c' := by
 have a := dm (i := r) hc
 have b := dm (i := r') hc'
 rw [h] at a
 exact ⟨by rw [← a.2, b.2], by rw [← a.1, b.1]⟩

structure Ay (m : Nat) (a b : List Rt) (M : Nat → Nat → Rat) : Prop where
 la : a.length = m * m
 lb : b.length = m
 at_ : ∀ r c, r < m → c < m → a.getD (r * m + c) Ov = rq (M r c)
 bt : ∀ r, r < m → b.getD r Ov = rq (M r m)

theorem Ay.congr {m : Nat} {a b : List Rt} {M M' : Nat → Nat → Rat} (h : Ay m a b M) (e : ∀ r c, r < m → c ≤ m → M r c = M' r c) : Ay m a b M' :=
 ⟨h.la, h.lb, fun r c hr hc => by rw [h.at_ r c hr hc, e r c hr (by omega)], fun r hr => by rw [h.bt r hr, e r m hr (Nat.le_refl _)]⟩

theorem Ay.setA {m r c : Nat} {a b : List Rt} {M : Nat → Nat → Rat} {x : Rat} (h : Ay m a b M) (hr : r < m) (hc : c < m) : Ay m (a.set (r * m + c) (rq x)) b (K5 M r c x) := by
 have hi := Ei hr hc
 refine ⟨by simp [h.la], h.lb, fun r' c' hr' hc' => ?_, fun r' hr' => ?_⟩
 · by_cases e : r' = r ∧ c' = c
   · obtain ⟨rfl, rfl⟩ := e
     rw [Og (by rw [h.la]; exact hi)]
     unfold K5; rw [if_pos ⟨rfl, rfl⟩]
   · rw [getD_set_ne (fun e' => e (by have := B1w hc hc' e'; exact ⟨this.1.symm, this.2.symm⟩)), h.at_ r' c' hr' hc']
     unfold K5; rw [if_neg e]
 · rw [h.bt r' hr']
   unfold K5; rw [if_neg (by omega)]

theorem Ay.setB {m r : Nat} {a b : List Rt} {M : Nat → Nat → Rat} {x : Rat} (h : Ay m a b M) (hr : r < m) : Ay m a (b.set r (rq x)) (K5 M r m x) := by
 refine ⟨h.la, by simp [h.lb], fun r' c' hr' hc' => ?_, fun r' hr' => ?_⟩
 · rw [h.at_ r' c' hr' hc']
   unfold K5; rw [if_neg (by omega)]
 · by_cases e : r' = r
   · subst e
     rw [Og (by rw [h.lb]; exact hr)]
     unfold K5; rw [if_pos ⟨rfl, rfl⟩]
   · rw [getD_set_ne (fun e' => e e'.symm), h.bt r' hr']
     unfold K5; rw [if_neg (by omega)]

theorem Wix {r c m : Nat} (h : r * m + c ≤ 1000000) : W (W ((r : Int) * (m : Int)) + (c : Int)) = ((r * m + c : Nat) : Int) := by
 rw [Wm (by omega), Wa h]

theorem Ay.gA {m r c : Nat} {a b : List Rt} {M : Nat → Nat → Rat} (h : Ay m a b M) (hr : r < m) (hc : c < m) : a.getD (r * m + c) (false, [], []) = rq (M r c) := h.at_ r c hr hc

theorem Ay.gB {m r : Nat} {a b : List Rt} {M : Nat → Nat → Rat} (h : Ay m a b M) (hr : r < m) : b.getD r (false, [], []) = rq (M r m) := h.bt r hr

theorem A7k {m : Nat} (h : m ≤ 8) : m * m ≤ 64 := by have := Nat.mul_le_mul h h; omega

theorem Aji {α : Type} {n m k : Nat} {a b : List Rt} {M : Nat → Nat → Rat} (h : Ay m a b M) (hm : m ≤ 8) (hk : k < m) (b1 b2 : Bool) (d1 d2 : List Int) {k0 : Int → Int → Int → Bool → Bool → List Int → List Int → List Rt → List Rt → Option α} : ∀ (f p fu : Nat), p ≤ m → f = m - p → m < p + fu →
  Z7 n fu (m : Int) (k : Int) (p : Int) b1 b2 d1 d2 a b k0 = k0 (m : Int) (k : Int) ((Ce M k m f p : Nat) : Int) b1 b2 d1 d2 a b
 | f, p, 0, h2, h3, h4 => by omega
 | 0, p, fu + 1, h2, h3, h4 => by
  rw [Abr]
  unfold T4 Ce
  rw [Bool.cond_decide, if_neg (by omega)]
 | f + 1, p, fu + 1, h2, h3, h4 => by
  have hp : p < m := by omega
  have hi := Ei hp hk
  have h64 := A7k hm
  rw [Abr]
  unfold T4
  rw [Bool.cond_decide, if_pos (by omega), Wix (by omega), A3 (by simp [h.la]; omega), A3 (by simp [h.la]; omega), Int.toNat_natCast]
  dsimp only
  rw [h.gA hp hk, Adz, A1]
  unfold Ce
  rw [if_pos hp]
  by_cases z : M p k = 0
  · rw [if_pos z, decide_eq_true z, cond_true, A9 (x := (p : Int) + 1) (by omega) (by omega)]
    exact Aji h hm hk b1 b2 d1 d2 f (p + 1) fu (by omega) (by omega) (by omega)
  · rw [if_neg z, decide_eq_false z, cond_false]

end Go.Ev
