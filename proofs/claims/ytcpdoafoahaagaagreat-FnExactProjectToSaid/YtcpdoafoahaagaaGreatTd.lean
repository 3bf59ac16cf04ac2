/- DERIVED. The plain laws: what the models compute. -/
import Derived.Test.YtcpdoafoahaagaaGreatTc

set_option linter.all false
set_option linter.unusedVariables false
set_option linter.unusedSimpArgs false

namespace Go.Ev
open Go

theorem Ab {x : Int} (h : -9223372036854775808 ≤ x) (h' : x < 9223372036854775808) : W x = x := Ak5 h h'

@[simp] theorem A3 {α β : Type} (r : β) (k : β → Option α) : ob (some r) k = k r := rfl

@[simp] theorem B33 {α β : Type} (k : β → Option α) : ob (none : Option β) k = none := rfl

@[simp] theorem Fh {α : Type} (x : Option α) : gd true x = x := rfl

@[simp] theorem B2x {α : Type} (x : Option α) : gd false x = none := rfl

theorem A4 {α : Type} {g : Bool} (h : g = true) (x : Option α) : gd g x = x := by rw [h]; rfl

theorem A9r (l : List Int) (a b : Int) : l.foldl max a ≤ b ↔ a ≤ b ∧ ∀ x ∈ l, x ≤ b := by
 induction l generalizing a with
 | nil => simp
 | cons y r ih =>
  simp only [List.foldl_cons, ih, List.mem_cons, forall_eq_or_imp]
  constructor
  · rintro ⟨h, h'⟩; exact ⟨by omega, by omega, h'⟩
  · rintro ⟨h, h', h''⟩; exact ⟨by omega, h''⟩

theorem Bl {α : Type} {l m : List α} {i : Nat} {d : α} (h : i < l.length) : (l ++ m).getD i d = l.getD i d := by
 simp [List.getD_eq_getElem?_getD, List.getElem?_append_left h]

theorem By {α : Type} {l : List α} {x d : α} : (l ++ [x]).getD l.length d = x := by
 simp [List.getD_eq_getElem?_getD]

theorem Ck {α : Type} {l r : List α} {x d : α} {k : Nat} (h : l.drop k = x :: r) : l.getD k d = x ∧ k < l.length ∧ l.drop (k + 1) = r := by
 have hk : k < l.length := by
  rcases Nat.lt_or_ge k l.length with h' | h'
  · exact h'
  · rw [List.drop_of_length_le h'] at h; cases h
 have := List.drop_eq_getElem_cons hk
 rw [h] at this
 injection this with h1 h2
 exact ⟨by simp [List.getD_eq_getElem?_getD, hk, h1], hk, h2.symm⟩

def vl : List Int → Int
 | [] => 0
 | x :: r => x + 10000 * vl r

def Lm (l : List Int) : Prop := ∀ x ∈ l, 0 ≤ x ∧ x < 10000

def dg (n : Nat) : List Int := if n = 0 then [] else ((n % 10000 : Nat) : Int) :: dg (n / 10000)
termination_by n
decreasing_by omega

theorem Cb : dg 0 = [] := by rw [dg]; rfl

theorem Dt {n : Nat} (h : n ≠ 0) : dg n = ((n % 10000 : Nat) : Int) :: dg (n / 10000) := by rw [dg, if_neg h]

theorem Lm.nil : Lm [] := fun _ h => by cases h

theorem Lm.cons {x : Int} {l : List Int} (hx : 0 ≤ x ∧ x < 10000) (hl : Lm l) : Lm (x :: l) := fun y hy => by
 rcases List.mem_cons.1 hy with rfl | hy
 · exact hx
 · exact hl y hy

theorem Lm.head {x : Int} {l : List Int} (h : Lm (x :: l)) : 0 ≤ x ∧ x < 10000 := h x (by simp)

theorem Lm.tail {x : Int} {l : List Int} (h : Lm (x :: l)) : Lm l := fun y hy => h y (by simp [hy])

theorem Lm.app {l m : List Int} (h : Lm l) (h' : Lm m) : Lm (l ++ m) := fun y hy => (List.mem_append.1 hy).elim (h y) (h' y)

theorem Lm.take {l : List Int} (h : Lm l) (k : Nat) : Lm (l.take k) := fun y hy => h y (List.mem_of_mem_take hy)

theorem Lm.drop {l : List Int} (h : Lm l) (k : Nat) : Lm (l.drop k) := fun y hy => h y (List.mem_of_mem_drop hy)

theorem Lm.set {l : List Int} (h : Lm l) (k : Nat) {x : Int} (hx : 0 ≤ x ∧ x < 10000) : Lm (l.set k x) := fun y hy => by
 rcases List.mem_or_eq_of_mem_set hy with hy | rfl
 · exact h y hy
 · exact hx

theorem Lm.get {l : List Int} (h : Lm l) (k : Nat) : 0 ≤ l.getD k 0 ∧ l.getD k 0 < 10000 := by
 rw [List.getD_eq_getElem?_getD]
 cases e : l[k]? with
 | none => simp
 | some x => exact h x (List.mem_of_getElem? e)

theorem Lm.rep (n : Nat) : Lm (List.replicate n 0) := fun y hy => by
 obtain rfl := (List.mem_replicate.1 hy).2
 omega

theorem Dj (n : Nat) : Lm (dg n) := by
 induction n using Nat.strongRecOn with
 | _ n ih =>
  by_cases h : n = 0
  · subst h; rw [Cb]; exact Lm.nil
  · rw [Dt h]
    exact Lm.cons (by omega) (ih _ (by omega))

theorem B0 (n : Nat) : vl (dg n) = n := by
 induction n using Nat.strongRecOn with
 | _ n ih =>
  by_cases h : n = 0
  · subst h; rw [Cb]; rfl
  · rw [Dt h, vl, ih _ (by omega)]
    omega

theorem B5 {l : List Int} (h : Lm l) : 0 ≤ vl l := by
 induction l with
 | nil => exact Int.le_refl _
 | cons x r ih =>
  have := h.head
  have := ih h.tail
  simp only [vl]; omega

theorem Ex (k : Nat) : (0 : Int) < 10000 ^ k := Int.pow_pos (by omega)

theorem Bg (k : Nat) : (10000 : Int) ^ (k + 1) = 10000 * 10000 ^ k := by rw [Int.pow_succ, Int.mul_comm]

theorem U7 {i j : Nat} (h : i ≤ j) : (10000 : Int) ^ i ≤ 10000 ^ j := by
 induction j with
 | zero => obtain rfl : i = 0 := by omega
           exact Int.le_refl _
 | succ j ih =>
  by_cases e : i = j + 1
  · subst e; exact Int.le_refl _
  · have := ih (by omega)
    have := Ex j
    rw [Bg]; omega

theorem Agz {i j : Nat} (h : (10000 : Int) ^ i < 10000 ^ j) : i < j := by
 rcases Nat.lt_or_ge i j with h' | h'
 · exact h'
 · have := U7 h'; omega

theorem Gh {l : List Int} (h : Lm l) : vl l < 10000 ^ l.length := by
 induction l with
 | nil => simp [vl]
 | cons x r ih =>
  have := h.head
  have := ih h.tail
  simp only [vl, List.length_cons, Bg]; omega

theorem A0k (l m : List Int) : vl (l ++ m) = vl l + 10000 ^ l.length * vl m := by
 induction l with
 | nil => simp [vl]
 | cons x r ih => simp only [List.cons_append, vl, ih, List.length_cons, Bg]; grind

theorem U4 (l : List Int) (x : Int) : vl (l ++ [x]) = vl l + 10000 ^ l.length * x := by rw [A0k]; simp [vl]

theorem Rh (n : Nat) : vl (List.replicate n 0) = 0 := by
 induction n with
 | zero => rfl
 | succ n ih => simp [List.replicate_succ, vl, ih]

theorem Bh {l : List Int} {k : Nat} (h : k < l.length) : vl (l.take (k + 1)) = vl (l.take k) + 10000 ^ k * l.getD k 0 := by
 rw [List.take_succ_eq_append_getElem h, U4, List.length_take, Nat.min_eq_left (by omega), List.getD_eq_getElem?_getD, List.getElem?_eq_getElem h]
 rfl

theorem Ka {l : List Int} {k : Nat} (x : Int) (h : k < l.length) : vl (l.set k x) = vl l + 10000 ^ k * (x - l.getD k 0) := by
 induction l generalizing k with
 | nil => simp at h
 | cons y r ih =>
  cases k with
  | zero => simp [vl]; omega
  | succ k =>
   have := ih (k := k) (by simpa using h)
   simp only [List.set_cons_succ, vl, this, List.getD_cons_succ, Bg]
   grind

def Cn (l : List Int) : Prop := Lm l ∧ (l ≠ [] → l.getD (l.length - 1) 0 ≠ 0)

theorem Hh (n : Nat) : Cn (dg n) := by
 refine ⟨Dj n, ?_⟩
 induction n using Nat.strongRecOn with
 | _ n ih =>
  by_cases h : n = 0
  · subst h; rw [Cb]; exact fun h => absurd rfl h
  · rw [Dt h]
    intro _
    by_cases e : dg (n / 10000) = []
    · rw [e]
      have h0 : n / 10000 = 0 := by
       have := B0 (n / 10000)
       rw [e] at this
       simp only [vl] at this
       omega
      simp
      omega
    · have := ih (n / 10000) (by omega) e
      have hl : 0 < (dg (n / 10000)).length := List.length_pos_iff.2 e
      simp only [List.length_cons, Nat.add_sub_cancel]
      rw [show (dg (n / 10000)).length = ((dg (n / 10000)).length - 1) + 1 by omega, List.getD_cons_succ]
      exact this

theorem Cn.tail {x : Int} {l : List Int} (h : Cn (x :: l)) : Cn l := by
 refine ⟨h.1.tail, fun hn => ?_⟩
 have := h.2 (by simp)
 have hl : 0 < l.length := List.length_pos_iff.2 hn
 simp only [List.length_cons, Nat.add_sub_cancel] at this
 rw [show l.length = (l.length - 1) + 1 by omega, List.getD_cons_succ] at this
 exact this

theorem Cn.pos {l : List Int} (h : Cn l) (hn : l ≠ []) : 0 < vl l := by
 induction l with
 | nil => exact absurd rfl hn
 | cons x r ih =>
  have hx := h.1.head
  have hr := B5 h.1.tail
  by_cases e : r = []
  · subst e
    have := h.2 (by simp)
    simp at this
    simp only [vl]; omega
  · have := ih h.tail e
    simp only [vl]; omega

theorem H7 {l : List Int} (h : Cn l) : dg (vl l).toNat = l := by
 induction l with
 | nil => exact Cb
 | cons x r ih =>
  have hx := h.1.head
  have hr := B5 h.1.tail
  have hp := h.pos (by simp)
  have ih := ih h.tail
  simp only [vl] at hp ⊢
  rw [Dt (by omega)]
  congr 1
  · omega
  · rw [← ih]
    congr 1
    rw [ih]
    omega

theorem Cn.ge {l : List Int} (h : Cn l) (hn : l ≠ []) : (10000 : Int) ^ (l.length - 1) ≤ vl l := by
 have hl : 0 < l.length := List.length_pos_iff.2 hn
 have h1 := Bh (l := l) (k := l.length - 1) (by omega)
 rw [show l.length - 1 + 1 = l.length by omega, List.take_length] at h1
 have h2 := h.2 hn
 have h3 := h.1.get (l.length - 1)
 have h4 := B5 (h.1.take (l.length - 1))
 have h5 := Ex (l.length - 1)
 have h6 : (10000 : Int) ^ (l.length - 1) * 1 ≤ 10000 ^ (l.length - 1) * l.getD (l.length - 1) 0 := Int.mul_le_mul_of_nonneg_left (by omega) (by omega)
 omega

theorem O2 {n k : Nat} : (dg n).length ≤ k ↔ (n : Int) < 10000 ^ k := by
 constructor
 · intro h
   have := Gh (Dj n)
   rw [B0] at this
   exact Int.lt_of_lt_of_le this (U7 h)
 · intro h
   by_cases e : dg n = []
   · rw [e]; simp
   · have := (Hh n).ge e
     rw [B0] at this
     have := Agz (Int.lt_of_le_of_lt this h)
     have hl : 0 < (dg n).length := List.length_pos_iff.2 e
     omega

theorem Bx {a b : Nat} (h : a ≤ b) : (dg a).length ≤ (dg b).length := by
 refine O2.2 ?_
 have := Gh (Dj b)
 rw [B0] at this
 omega

def cm (x y : Int) : Int := if x < y then -1 else if x = y then 0 else 1

theorem Qm {a b : List Int} (ha : Lm a) (hb : Lm b) {k : Nat} (h1 : k < a.length) (h2 : k < b.length) (h : a.getD k 0 < b.getD k 0) : vl (a.take (k + 1)) < vl (b.take (k + 1)) := by
 rw [Bh h1, Bh h2]
 have q1 := Gh (ha.take k)
 rw [List.length_take, Nat.min_eq_left (by omega)] at q1
 have q2 := B5 (hb.take k)
 have q3 : (10000 : Int) ^ k * (a.getD k 0 + 1) ≤ 10000 ^ k * b.getD k 0 := Int.mul_le_mul_of_nonneg_left (by omega) (by have := Ex k; omega)
 rw [Int.mul_add, Int.mul_one] at q3
 omega

theorem Cn.lt_of_len {a b : List Int} (ha : Cn a) (hb : Cn b) (h : a.length < b.length) : vl a < vl b := by
 have h1 := Gh ha.1
 have h2 := hb.ge (by intro e; subst e; simp at h)
 have h3 : (10000 : Int) ^ a.length ≤ 10000 ^ (b.length - 1) := U7 (by omega)
 omega

theorem Cn.of_take {l : List Int} (h : Lm l) {t : Nat} (ht : t ≤ l.length) (hl : t = 0 ∨ l.getD (t - 1) 0 ≠ 0) : Cn (l.take t) := by
 refine ⟨h.take t, fun hn => ?_⟩
 have hlen : (l.take t).length = t := by simp; omega
 rcases hl with rfl | hl
 · simp at hn
 · have ht0 : t ≠ 0 := by rintro rfl; simp at hn
   rw [hlen, List.getD_eq_getElem?_getD, List.getElem?_take, if_pos (by omega), ← List.getD_eq_getElem?_getD]
   exact hl

theorem tdv {x : Int} (h : 0 ≤ x) : Int.tdiv x 10000 = x / 10000 := Int.tdiv_eq_ediv_of_nonneg h

theorem tmd {x : Int} (h : 0 ≤ x) : Int.tmod x 10000 = x % 10000 := Int.tmod_eq_emod_of_nonneg h

theorem Aeg {α : Type} {n : Nat} {l : List Int} (hN : l.length ≤ 1099511627776) {k0 : List Int → Int → Option α} : ∀ (m k : Nat), k < m → k ≤ l.length →
  ∃ t, t ≤ k ∧ V2 n m l (k : Int) k0 = k0 l (t : Int) ∧ vl (l.take t) = vl (l.take k) ∧ (t = 0 ∨ l.getD (t - 1) 0 ≠ 0)
 | 0, k, h, _ => by omega
 | m + 1, k, h, hk => by
  rw [An4]
  unfold Xy
  dsimp only
  by_cases h0 : k = 0
  · subst h0; exact ⟨0, Nat.le_refl _, rfl, rfl, .inl rfl⟩
  · rw [Bool.cond_decide, if_pos (by omega), Ab (by omega) (by omega), A4 (by simp; omega)]
    have e : ((k : Int) - 1).toNat = k - 1 := by omega
    rw [e, Bool.cond_eq_ite]
    by_cases hz : l.getD (k - 1) 0 = 0
    · rw [if_pos (by rw [hz]; rfl)]
      obtain ⟨t, h1, h2, h3, h4⟩ := Aeg (n := n) hN (k0 := k0) m (k - 1) (by omega) (by omega)
      refine ⟨t, by omega, ?_, ?_, h4⟩
      · rw [show (k : Int) - 1 = ((k - 1 : Nat) : Int) by omega]; exact h2
      · rw [h3]
        have := Bh (l := l) (k := k - 1) (by omega)
        rw [show k - 1 + 1 = k by omega, hz] at this
        rw [this]; simp
    · rw [if_neg (by simpa using hz)]
      exact ⟨k, Nat.le_refl _, rfl, rfl, .inr hz⟩

theorem V1 {n : Nat} {l : List Int} (hl : Lm l) (hN : l.length ≤ 1099511627776) (hn : l.length < n) : f203 n l = some (dg (vl l).toNat) := by
 unfold f203
 obtain ⟨t, h1, h2, h3, h4⟩ := Aeg (n := n) hN (k0 := fun z_1 z_2 => gd (decide (0 ≤ z_2) && decide (z_2 ≤ (z_1.length : Int))) (gd (decide ((0 + ((z_1.drop 0).take (z_2.toNat - 0)).length) * 8 ≤ 140737488355328)) (some ((z_1.drop 0).take (z_2.toNat - 0))))) n l.length hn (Nat.le_refl _)
 rw [h2, A4 (by simp; omega), A4 (by simp; omega)]
 simp only [List.drop_zero, Int.toNat_natCast, Nat.sub_zero]
 rw [List.take_length] at h3
 rw [← h3, H7 (Cn.of_take hl (by omega) h4)]

theorem Aef {α : Type} {n : Nat} {l : List Int} (hN : l.length ≤ 1099511627776) {k0 : List Int → Int → Option α} : ∀ (m k : Nat), k < m → k ≤ l.length →
  ∃ t, t ≤ k ∧ Vf n m l (k : Int) k0 = k0 l (t : Int) ∧ vl (l.take t) = vl (l.take k) ∧ (t = 0 ∨ l.getD (t - 1) 0 ≠ 0)
 | 0, k, h, _ => by omega
 | m + 1, k, h, hk => by
  rw [Any]
  unfold Yr
  dsimp only
  by_cases h0 : k = 0
  · subst h0; exact ⟨0, Nat.le_refl _, rfl, rfl, .inl rfl⟩
  · rw [Bool.cond_decide, if_pos (by omega), Ab (by omega) (by omega), A4 (by simp; omega)]
    have e : ((k : Int) - 1).toNat = k - 1 := by omega
    rw [e, Bool.cond_eq_ite]
    by_cases hz : l.getD (k - 1) 0 = 0
    · rw [if_pos (by rw [hz]; rfl)]
      obtain ⟨t, h1, h2, h3, h4⟩ := Aef (n := n) hN (k0 := k0) m (k - 1) (by omega) (by omega)
      refine ⟨t, by omega, ?_, ?_, h4⟩
      · rw [show (k : Int) - 1 = ((k - 1 : Nat) : Int) by omega]; exact h2
      · rw [h3]
        have := Bh (l := l) (k := k - 1) (by omega)
        rw [show k - 1 + 1 = k by omega, hz] at this
        rw [this]; simp
    · rw [if_neg (by simpa using hz)]
      exact ⟨k, Nat.le_refl _, rfl, rfl, .inr hz⟩

theorem Ve {n : Nat} {l : List Int} (hl : Lm l) (hN : l.length ≤ 1099511627776) (hn : l.length < n) : f185 n l = some (dg (vl l).toNat) := by
 unfold f185
 obtain ⟨t, h1, h2, h3, h4⟩ := Aef (n := n) hN (k0 := fun z_1 z_2 => gd (decide (0 ≤ z_2) && decide (z_2 ≤ (z_1.length : Int))) (some ((z_1.drop 0).take (z_2.toNat - 0)))) n l.length hn (Nat.le_refl _)
 rw [h2, A4 (by simp; omega)]
 simp only [List.drop_zero, Int.toNat_natCast, Nat.sub_zero]
 rw [List.take_length] at h3
 rw [← h3, H7 (Cn.of_take hl (by omega) h4)]

theorem A90 {α : Type} {n : Nat} {k0 : List Int → Option α} : ∀ (m x : Nat) (o : List Int), (x : Int) ≤ 9223372036854775807 → (dg x).length < m → o.length + (dg x).length ≤ 1099511627776 → Vg n m (x : Int) o k0 = k0 (o ++ dg x)
 | 0, x, o, _, h, _ => by omega
 | m + 1, x, o, hx, h, hN => by
  rw [Aoc]
  unfold Z5
  dsimp only
  by_cases h0 : x = 0
  · subst h0; rw [Cb]; simp
  · rw [Dt h0] at h hN ⊢
    simp only [List.length_cons] at h hN
    rw [Bool.cond_decide, if_pos (by omega), A4 (by simp; omega), tdv (by omega), tmd (by omega), Ab (by omega) (by omega), show (x : Int) / 10000 = ((x / 10000 : Nat) : Int) by omega, show (x : Int) % 10000 = ((x % 10000 : Nat) : Int) by omega]
    rw [A90 (n := n) m (x / 10000) _ (by omega) (by omega) (by simp; omega)]
    simp

theorem Afq {n : Nat} {x : Nat} (hx : (x : Int) ≤ 9223372036854775807) (hn : 10 < n) : f172 n (x : Int) = some (dg x) := by
 have hl : (dg x).length ≤ 5 := O2.2 (by rw [show (10000 : Int) ^ 5 = 100000000000000000000 from rfl]; omega)
 unfold f172
 rw [A90 (n := n) n x [] hx (by omega) (by simp; omega)]
 simp

theorem A91 {α : Type} {n : Nat} {k0 : List Int → Option α} : ∀ (m x : Nat) (o : List Int), (x : Int) ≤ 9223372036854775807 → (dg x).length < m → o.length + (dg x).length ≤ 1099511627776 → Vi n m (x : Int) o k0 = k0 (o ++ dg x)
 | 0, x, o, _, h, _ => by omega
 | m + 1, x, o, hx, h, hN => by
  rw [Aos]
  unfold Zf
  dsimp only
  by_cases h0 : x = 0
  · subst h0; rw [Cb]; simp
  · rw [Dt h0] at h hN ⊢
    simp only [List.length_cons] at h hN
    rw [Bool.cond_decide, if_pos (by omega), A4 (by simp; omega), tdv (by omega), tmd (by omega), Ab (by omega) (by omega), show (x : Int) / 10000 = ((x / 10000 : Nat) : Int) by omega, show (x : Int) % 10000 = ((x % 10000 : Nat) : Int) by omega]
    rw [A91 (n := n) m (x / 10000) _ (by omega) (by omega) (by simp; omega)]
    simp

theorem Awl {n : Nat} {x : Nat} (hx : (x : Int) ≤ 9223372036854775807) (hn : 10 < n) : f160 n (x : Int) = some (dg x) := by
 have hl : (dg x).length ≤ 5 := O2.2 (by rw [show (10000 : Int) ^ 5 = 100000000000000000000 from rfl]; omega)
 unfold f160
 rw [A91 (n := n) n x [] hx (by omega) (by simp; omega)]
 simp

theorem Nu {n : Nat} {b : Bool} : f147 n b = some (if b = true then 1 else 0) := by cases b <;> rfl

theorem G4 {x y : Int} (h : x < y) : cm x y = -1 := by unfold cm; rw [if_pos h]

theorem G5 {x y : Int} (h : y < x) : cm x y = 1 := by unfold cm; rw [if_neg (by omega), if_neg (by omega)]

theorem Ii {x y : Int} (h : x = y) : cm x y = 0 := by unfold cm; rw [if_neg (by omega), if_pos h]

theorem Aq7 (x y z : Int) : cm (x + z) (y + z) = cm x y := by
 rcases Int.lt_trichotomy x y with h | h | h
 · rw [G4 h, G4 (by omega)]
 · rw [Ii h, Ii (by omega)]
 · rw [G5 h, G5 (by omega)]

theorem Aq5 {α : Type} {n : Nat} {a b : List Int} (ha : Lm a) (hb : Lm b) (hab : a.length = b.length) (hN : a.length ≤ 1099511627776) {k0 : Int → Option α} {k1 : Unit → Option α} : ∀ (m k : Nat), k < m → k ≤ a.length →
  Vc n m a b ((k : Int) - 1) k0 k1 = if vl (a.take k) = vl (b.take k) then k1 () else k0 (cm (vl (a.take k)) (vl (b.take k)))
 | 0, k, h, _ => by omega
 | m + 1, k, h, hk => by
  rw [Ans]
  unfold Yl
  dsimp only
  by_cases h0 : k = 0
  · subst h0
    simp
  · rw [Bool.cond_decide, if_pos (by omega), A4 (by simp; omega), A4 (by simp; omega)]
    have e : ((k : Int) - 1).toNat = k - 1 := by omega
    rw [e, Bool.cond_eq_ite]
    have ta := Bh (l := a) (k := k - 1) (by omega)
    have tb := Bh (l := b) (k := k - 1) (by omega)
    rw [show k - 1 + 1 = k by omega] at ta tb
    by_cases hz : a.getD (k - 1) 0 = b.getD (k - 1) 0
    · rw [if_neg (by simpa using hz), Ab (by omega) (by omega)]
      rw [show (k : Int) - 1 - 1 = ((k - 1 : Nat) : Int) - 1 by omega, Aq5 (n := n) ha hb hab hN m (k - 1) (by omega) (by omega)]
      rw [ta, tb, hz]
      by_cases h1 : vl (a.take (k - 1)) = vl (b.take (k - 1))
      · rw [if_pos h1, if_pos (by omega)]
      · rw [if_neg h1, if_neg (by omega)]
        rw [Aq7]
    · rw [if_pos (by simpa using hz), A4 (by simp; omega), A4 (by simp; omega), Nu, A3]
      rcases Int.lt_or_gt_of_ne hz with h1 | h1
      · have := Qm ha hb (k := k - 1) (by omega) (by omega) h1
        rw [show k - 1 + 1 = k by omega] at this
        rw [show (if vl (a.take k) = vl (b.take k) then k1 () else k0 (cm (vl (a.take k)) (vl (b.take k)))) = k0 (-1) by rw [if_neg (by omega), G4 this], if_neg (by rw [decide_eq_true_eq]; omega)]
        rfl
      · have := Qm hb ha (k := k - 1) (by omega) (by omega) h1
        rw [show k - 1 + 1 = k by omega] at this
        rw [show (if vl (a.take k) = vl (b.take k) then k1 () else k0 (cm (vl (a.take k)) (vl (b.take k)))) = k0 1 by rw [if_neg (by omega), G5 this], if_pos (by rw [decide_eq_true_eq]; omega)]
        rfl

theorem Aw4 {n : Nat} {a b : List Int} (ha : Cn a) (hb : Cn b) (hN : a.length ≤ 1099511627776) (hn : a.length < n) : f187 n a b = some (cm (vl a) (vl b)) := by
 unfold f187
 rw [Bool.cond_eq_ite]
 by_cases h : a.length = b.length
 · rw [if_neg (by simp [h]), Ab (by omega) (by omega), Aq5 (n := n) ha.1 hb.1 h hN n a.length hn (Nat.le_refl _)]
   rw [List.take_length, h, List.take_length]
   by_cases h1 : vl a = vl b
   · rw [if_pos h1, Ii h1]
   · rw [if_neg h1]
 · rw [if_pos (by simp; omega), Nu, A3]
   rcases Nat.lt_or_gt_of_ne h with h1 | h1
   · rw [G4 (ha.lt_of_len hb h1), if_neg (by simp; omega)]; rfl
   · rw [G5 (hb.lt_of_len ha h1), if_pos (by simp; omega)]; rfl

theorem Aq4 {α : Type} {n : Nat} {a b : List Int} (ha : Lm a) (hb : Lm b) (hab : a.length = b.length) {k0 k1 : Int → Option α} : ∀ (k : Nat), k ≤ a.length →
  L8 n a k a b 0 k0 k1 = if vl (a.take k) = vl (b.take k) then k0 0 else k1 (cm (vl (a.take k)) (vl (b.take k)))
 | 0, _ => by rw [Aog]; simp
 | k + 1, hk => by
  rw [Aoe]
  unfold Z6
  dsimp only
  rw [A4 (by simp; omega), Bool.cond_eq_ite]
  have ta := Bh (l := a) (k := k) (by omega)
  have tb := Bh (l := b) (k := k) (by omega)
  simp only [Int.toNat_natCast]
  by_cases hz : a.getD k 0 = b.getD k 0
  · rw [if_neg (by simpa using hz), A4 (by simp), Aq4 ha hb hab k (by omega)]
    rw [ta, tb, hz]
    by_cases h1 : vl (a.take k) = vl (b.take k)
    · rw [if_pos h1, if_pos (by omega)]
    · rw [if_neg h1, if_neg (by omega)]
      rw [Aq7]
  · rw [if_pos (by simpa using hz), A4 (by simp; omega), Bool.cond_decide]
    rcases Int.lt_or_gt_of_ne hz with h1 | h1
    · have := Qm ha hb (k := k) (by omega) (by omega) h1
      rw [show (if vl (a.take (k + 1)) = vl (b.take (k + 1)) then k0 0 else k1 (cm (vl (a.take (k + 1))) (vl (b.take (k + 1))))) = k1 (-1) by rw [if_neg (by omega), G4 this], if_pos h1]
    · have := Qm hb ha (k := k) (by omega) (by omega) h1
      rw [show (if vl (a.take (k + 1)) = vl (b.take (k + 1)) then k0 0 else k1 (cm (vl (a.take (k + 1))) (vl (b.take (k + 1))))) = k1 1 by rw [if_neg (by omega), G5 this], if_neg (by omega)]

theorem Awd {n : Nat} {a b : List Int} (ha : Cn a) (hb : Cn b) (hN : a.length ≤ 1099511627776) : f170 n a b = some (cm (vl a) (vl b)) := by
 unfold f170
 rw [Bool.cond_eq_ite]
 by_cases h : a.length = b.length
 · rw [if_neg (by simp [h])]
   rw [show f201 n a = some a from rfl, A3, Aof, A4 (by simp; omega), Aq4 ha.1 hb.1 h a.length (Nat.le_refl _)]
   rw [List.take_length, h, List.take_length]
   by_cases h1 : vl a = vl b
   · rw [if_pos h1, Ii h1]
   · rw [if_neg h1]
 · rw [if_pos (by simp; omega), Bool.cond_decide]
   rcases Nat.lt_or_gt_of_ne h with h1 | h1
   · rw [G4 (ha.lt_of_len hb h1), if_pos (by omega)]
   · rw [G5 (hb.lt_of_len ha h1), if_neg (by omega)]

theorem B2 (l : List Int) (k : Nat) : vl (l.take (k + 1)) = vl (l.take k) + 10000 ^ k * l.getD k 0 := by
 rcases Nat.lt_or_ge k l.length with h | h
 · exact Bh h
 · rw [List.take_of_length_le (by omega), List.take_of_length_le (by omega), List.getD_eq_getElem?_getD, List.getElem?_eq_none h]
   simp

theorem Bp {l : List Int} {k : Nat} (h : l.length ≤ k) : l.getD k 0 = 0 := by
 rw [List.getD_eq_getElem?_getD, List.getElem?_eq_none h]; rfl

theorem Cn.of_ge {l : List Int} (h : Lm l) (hg : l ≠ [] → (10000 : Int) ^ (l.length - 1) ≤ vl l) : Cn l := by
 refine ⟨h, fun hn e => ?_⟩
 have hl : 0 < l.length := List.length_pos_iff.2 hn
 have h1 := B2 l (l.length - 1)
 rw [show l.length - 1 + 1 = l.length by omega, List.take_length, e] at h1
 have h2 := Gh (h.take (l.length - 1))
 rw [List.length_take, Nat.min_eq_left (by omega)] at h2
 have := hg hn
 omega

theorem Mz (l : List Int) {k : Nat} (h : l.length ≤ k) : l.take k = l := List.take_of_length_le h

theorem Aqn {α : Type} {n : Nat} {a b : List Int} (ha : Cn a) (hb : Cn b) (hN : a.length ≤ 1099511627776) (hNb : b.length ≤ 1099511627776) {k0 : List Int → Option α} : ∀ (m i : Nat) (c : Int) (o : List Int), o.length = i → Lm o → 0 ≤ c → c ≤ 1 →
  vl o + 10000 ^ i * c = vl (a.take i) + vl (b.take i) → (i ≤ max a.length b.length ∨ (i = max a.length b.length + 1 ∧ c = 0 ∧ o.getD (i - 1) 0 ≠ 0)) → max a.length b.length + 2 ≤ i + m →
  Nl n m a b c (i : Int) o k0 = k0 (dg (vl a + vl b).toNat)
 | 0, i, c, o, ho, hlo, hc0, hc1, hv, hq, hm => by omega
 | m + 1, i, c, o, ho, hlo, hc0, hc1, hv, hq, hm => by
  rw [Anv]
  unfold Yo
  dsimp only
  have fin : a.length ≤ i → b.length ≤ i → c = 0 → o = dg (vl a + vl b).toNat := fun h1 h2 h3 => by
   rw [Mz a h1, Mz b h2, h3] at hv
   have hv' : vl o = vl a + vl b := by simpa using hv
   have : Cn o := Cn.of_ge hlo fun hn => by
    have hl : 0 < o.length := List.length_pos_iff.2 hn
    rcases hq with hq | ⟨hq1, _, hq3⟩
    · have hmx : i = max a.length b.length := by omega
      rw [ho, hv']
      rcases Nat.le_total a.length b.length with hab | hab
      · have h4 := hb.ge (List.length_pos_iff.1 (by omega))
        have h5 := B5 ha.1
        rw [show i - 1 = b.length - 1 by omega]; omega
      · have h4 := ha.ge (List.length_pos_iff.1 (by omega))
        have h5 := B5 hb.1
        rw [show i - 1 = a.length - 1 by omega]; omega
    · have h1 := B2 o (o.length - 1)
      rw [show o.length - 1 + 1 = o.length by omega, List.take_length] at h1
      have h2 := B5 (hlo.take (o.length - 1))
      have h3 := hlo.get (o.length - 1)
      rw [← ho] at hq3
      have h4 := Ex (o.length - 1)
      have h5 : (10000 : Int) ^ (o.length - 1) * 1 ≤ 10000 ^ (o.length - 1) * o.getD (o.length - 1) 0 := Int.mul_le_mul_of_nonneg_left (by omega) (by omega)
      omega
   rw [← hv', H7 this]
  have go : ∀ (y : Int), y = c + a.getD i 0 + b.getD i 0 → (i < max a.length b.length ∨ (i = max a.length b.length ∧ 0 < c)) → Nl n m a b (W (Int.tdiv y 10000)) (W ((i : Int) + 1)) (o ++ [Int.tmod y 10000]) k0 = k0 (dg (vl a + vl b).toNat) := by
   intro y hy hi
   have h1 := ha.1.get i
   have h2 := hb.1.get i
   rw [tdv (by omega), tmd (by omega), Ab (by omega) (by omega), Ab (by omega) (by omega)]
   have ta := B2 a i
   have tb := B2 b i
   have hyy : y = 10000 * (y / 10000) + y % 10000 := by omega
   refine Aqn (n := n) ha hb hN hNb m (i + 1) _ _ (by simp [ho]) (hlo.app (Lm.cons (by omega) Lm.nil)) (by omega) (by omega) ?_ ?_ (by omega)
   · rw [U4, ho, ta, tb, Bg]
     generalize y / 10000 = q at *
     generalize y % 10000 = r at *
     generalize (10000 : Int) ^ i = P at *
     grind
   · rcases hi with hi | ⟨hi, hc⟩
     · exact .inl (by omega)
     · right
       have e1 : a.getD i 0 = 0 := Bp (by omega)
       have e2 : b.getD i 0 = 0 := Bp (by omega)
       have e3 : y = 1 := by omega
       subst e3
       refine ⟨by omega, by rfl, ?_⟩
       rw [Nat.add_sub_cancel, ← ho, List.getD_eq_getElem?_getD]
       simp
  have hcases : (i < a.length ∨ i < b.length ∨ 0 < c) → (i < max a.length b.length ∨ (i = max a.length b.length ∧ 0 < c)) := fun h => by
   rcases h with h | h | h
   · exact .inl (by omega)
   · exact .inl (by omega)
   · rcases hq with hq | ⟨_, h0, _⟩
     · omega
     · omega
  have ho2 : (decide ((o.length + 1) * 8 ≤ 140737488355328)) = true := by
   rw [decide_eq_true_eq]
   rcases hq with hq | ⟨hq, _⟩ <;> omega
  have h1 := ha.1.get i
  have h2 := hb.1.get i
  by_cases hA : i < a.length
  · have dA : decide ((i : Int) < (a.length : Int)) = true := by rw [decide_eq_true_eq]; omega
    simp only [dA, cond_true, Int.toNat_natCast]
    rw [A4 (by simp; try omega), Ab (x := c + a.getD i 0) (by omega) (by omega)]
    by_cases hB : i < b.length
    · have dB : decide ((i : Int) < (b.length : Int)) = true := by rw [decide_eq_true_eq]; omega
      simp only [dB, cond_true]
      rw [A4 (by simp; try omega), A4 ho2, Ab (x := c + a.getD i 0 + b.getD i 0) (by omega) (by omega)]
      exact go _ rfl (hcases (.inl hA))
    · have dB : decide ((i : Int) < (b.length : Int)) = false := by rw [decide_eq_false_iff_not]; omega
      simp only [dB, cond_false]
      rw [A4 ho2]
      exact go _ (by rw [Bp (l := b) (by omega)]; omega) (hcases (.inl hA))
  · have dA : decide ((i : Int) < (a.length : Int)) = false := by rw [decide_eq_false_iff_not]; omega
    simp only [dA, cond_false, Int.toNat_natCast]
    by_cases hB : i < b.length
    · have dB : decide ((i : Int) < (b.length : Int)) = true := by rw [decide_eq_true_eq]; omega
      simp only [dB, cond_true]
      rw [A4 (by simp; try omega), A4 ho2, Ab (x := c + b.getD i 0) (by omega) (by omega)]
      exact go _ (by rw [Bp (l := a) (by omega)]; omega) (hcases (.inr (.inl hB)))
    · have dB : decide ((i : Int) < (b.length : Int)) = false := by rw [decide_eq_false_iff_not]; omega
      simp only [dB, cond_false]
      rw [Bool.cond_decide]
      by_cases hc : 0 < c
      · rw [if_pos (by omega), A4 ho2]
        exact go _ (by rw [Bp (l := a) (by omega), Bp (l := b) (by omega)]; omega) (hcases (.inr (.inr hc)))
      · rw [if_neg (by omega), fin (by omega) (by omega) (by omega)]

theorem Aw6 {n : Nat} {a b : List Int} (ha : Cn a) (hb : Cn b) (hN : a.length ≤ 1099511627776) (hNb : b.length ≤ 1099511627776) (hn : max a.length b.length + 2 ≤ n) : f186 n a b = some (dg (vl a + vl b).toNat) := by
 unfold f186
 have := Aqn (n := n) ha hb hN hNb (k0 := fun z_6 => some z_6) n 0 0 [] rfl Lm.nil (by omega) (by omega) (by simp [vl]) (.inl (by omega)) (by omega)
 exact this

theorem Akb {α : Type} {n : Nat} {a b : List Int} (ha : Lm a) (hb : Lm b) (hN : a.length ≤ 1099511627776) {k0 : List Int → Option α} : ∀ (m i : Nat) (c : Int) (o : List Int), o.length = i → Lm o → 0 ≤ c → c ≤ 1 → i ≤ a.length →
  vl o - 10000 ^ i * c = vl (a.take i) - vl (b.take i) → a.length + 1 ≤ i + m →
  ∃ o' c', Jv n m a b c (i : Int) o k0 = k0 o' ∧ o'.length = a.length ∧ Lm o' ∧ 0 ≤ c' ∧ c' ≤ 1 ∧ vl o' - 10000 ^ a.length * c' = vl a - vl (b.take a.length)
 | 0, i, c, o, ho, hlo, hc0, hc1, hi, hv, hm => by omega
 | m + 1, i, c, o, ho, hlo, hc0, hc1, hi, hv, hm => by
  rw [Anq]
  unfold Yi
  dsimp only
  by_cases hA : i < a.length
  · rw [Bool.cond_decide, if_pos (by omega), A4 (by simp; try omega)]
    have h1 := ha.get i
    have h2 := hb.get i
    have ta := B2 a i
    have tb := B2 b i
    have ho2 : (decide ((o.length + 1) * 8 ≤ 140737488355328)) = true := by
     rw [decide_eq_true_eq]; omega
    have go : ∀ y : Int, y = a.getD i 0 - c - b.getD i 0 → ∃ o' c', Jv n m a b (if y < 0 then 1 else 0) (W ((i : Int) + 1)) (o ++ [W (y + W ((if y < 0 then 1 else 0) * 10000))]) k0 = k0 o' ∧ o'.length = a.length ∧ Lm o' ∧ 0 ≤ c' ∧ c' ≤ 1 ∧ vl o' - 10000 ^ a.length * c' = vl a - vl (b.take a.length) := by
     intro y hy
     obtain ⟨d, hd⟩ : ∃ d : Int, d = if y < 0 then 1 else 0 := ⟨_, rfl⟩
     have hd1 : 0 ≤ d ∧ d ≤ 1 ∧ 0 ≤ y + d * 10000 ∧ y + d * 10000 < 10000 := by
      rw [hd]
      split <;> omega
     rw [← hd, Ab (x := d * 10000) (by omega) (by omega), Ab (x := y + d * 10000) (by omega) (by omega), Ab (x := (i : Int) + 1) (by omega) (by omega)]
     refine Akb (n := n) ha hb hN m (i + 1) d _ (by simp [ho]) (hlo.app (Lm.cons (by omega) Lm.nil)) (by omega) (by omega) (by omega) ?_ (by omega)
     rw [U4, ho, ta, tb, Bg]
     generalize (10000 : Int) ^ i = P at *
     grind
    simp only [Int.toNat_natCast]
    by_cases hB : i < b.length
    · have dB : decide ((i : Int) < (b.length : Int)) = true := by rw [decide_eq_true_eq]; omega
      simp only [dB, cond_true]
      rw [A4 (by simp; try omega)]
      simp only [Ab (x := a.getD i 0 - c) (by omega) (by omega), Ab (x := a.getD i 0 - c - b.getD i 0) (by omega) (by omega)]
      rw [Nu, A3, A4 ho2]
      simp only [decide_eq_true_eq]
      exact go _ rfl
    · have dB : decide ((i : Int) < (b.length : Int)) = false := by rw [decide_eq_false_iff_not]; omega
      simp only [dB, cond_false]
      simp only [Ab (x := a.getD i 0 - c) (by omega) (by omega)]
      rw [Nu, A3, A4 ho2]
      simp only [decide_eq_true_eq]
      exact go _ (by rw [Bp (l := b) (by omega)]; omega)
  · rw [Bool.cond_decide, if_neg (by omega)]
    obtain rfl : i = a.length := by omega
    rw [List.take_length] at hv
    exact ⟨o, c, rfl, ho, hlo, hc0, hc1, hv⟩

theorem Aw2 {n : Nat} {a b : List Int} (ha : Cn a) (hb : Cn b) (hN : a.length ≤ 1099511627776) (hn : a.length + 1 ≤ n) (hab : vl b ≤ vl a) : f188 n a b = some (dg (vl a - vl b).toNat) := by
 have hl : b.length ≤ a.length := by
  rcases Nat.lt_or_ge a.length b.length with h | h
  · have := ha.lt_of_len hb h; omega
  · exact h
 unfold f188
 obtain ⟨o, c, h1, h2, h3, h4, h5, h6⟩ := Akb (n := n) ha.1 hb.1 hN (k0 := fun z_4 => ob (f203 n z_4) fun r_5 => some r_5) n 0 0 [] rfl Lm.nil (by omega) (by omega) (by omega) (by simp [vl]) (by omega)
 have h1 : Jv n n a b 0 0 [] (fun z_4 => ob (f203 n z_4) fun r_5 => some r_5) = _ := h1
 rw [h1, V1 h3 (by omega) (by omega), A3]
 rw [Mz b hl] at h6
 have h7 := Gh h3
 rw [h2] at h7
 have : c = 0 := by
  rcases Int.lt_or_eq_of_le h4 with h | h
  · have : c = 1 := by omega
    rw [this] at h6
    omega
  · exact h.symm
 rw [this] at h6
 rw [show vl o = vl a - vl b by simpa using h6]

theorem Jo {l : List Int} {k : Nat} (h : k < l.length) : vl (l.drop k) = l.getD k 0 + 10000 * vl (l.drop (k + 1)) := by
 rw [List.drop_eq_getElem_cons h, vl, List.getD_eq_getElem?_getD, List.getElem?_eq_getElem h]; rfl

theorem A9h {P o ok y q r c ai bk v' T : Int} (h : o + P * (c + ai * (bk + 10000 * v')) = T) (hy : y = ok + c + ai * bk) (hq : y = 10000 * q + r) : o + P * (r - ok) + 10000 * P * (q + ai * v') = T := by
 grind

theorem Xa {x y : Int} (hx : 0 ≤ x ∧ x < 10000) (hy : 0 ≤ y ∧ y < 10000) : 0 ≤ x * y ∧ x * y ≤ 99980001 := by
 have h1 := Int.mul_nonneg hx.1 hy.1
 have h2 : x * y ≤ 9999 * y := Int.mul_le_mul_of_nonneg_right (by omega) hy.1
 omega

theorem Akw {α : Type} {n : Nat} {a b : List Int} (ha : Lm a) (hb : Lm b) (i : Nat) (hi : i < a.length) {S : Nat} (hS : a.length + b.length < S) (hN : S ≤ 1099511627776) {T : Int} (hT : T < 10000 ^ S) {k0 : List Int → List Int → Int → List Int → Option α} :
  ∀ (m k : Nat) (c : Int) (o : List Int), Lm o → o.length = S → 0 ≤ c → c < 10000 → i + k ≤ S → vl o + 10000 ^ (i + k) * (c + a.getD i 0 * vl (b.drop k)) = T → S + 1 ≤ i + k + m →
  ∃ o', Lm o' ∧ o'.length = S ∧ vl o' = T ∧ Jw n m a b (i : Int) c (k : Int) o k0 = k0 a b (i : Int) o'
 | 0, k, c, o, hlo, ho, hc0, hc1, hik, hv, hm => by omega
 | m + 1, k, c, o, hlo, ho, hc0, hc1, hik, hv, hm => by
  rw [Ao7]
  unfold Yy
  dsimp only
  have h1 := ha.get i
  have h2 := hb.get k
  have h3 := hlo.get (i + k)
  have h4 := Xa h1 h2
  have hvo := B5 hlo
  have go : ∀ y : Int, i + k < S → (k < b.length ∨ b.length ≤ k) → y = o.getD (i + k) 0 + c + a.getD i 0 * b.getD k 0 →
    ∃ o', Lm o' ∧ o'.length = S ∧ vl o' = T ∧ Jw n m a b (i : Int) (W (Int.tdiv y 10000)) (W ((k : Int) + 1)) (o.set (i + k) (Int.tmod y 10000)) k0 = k0 a b (i : Int) o' := by
   intro y hlt hk hy
   rw [tdv (by omega), tmd (by omega), Ab (by omega) (by omega), Ab (by omega) (by omega)]
   refine Akw (n := n) ha hb i hi hS hN hT m (k + 1) _ _ (hlo.set _ (by omega)) (by simpa using ho) (by omega) (by omega) (by omega) ?_ (by omega)
   rw [Ka _ (by omega), show i + (k + 1) = (i + k) + 1 by omega, Bg]
   have hyy : y = 10000 * (y / 10000) + y % 10000 := by omega
   refine A9h (bk := b.getD k 0) ?_ hy hyy
   rcases hk with hk | hk
   · rw [← Jo hk]; exact hv
   · rw [List.drop_of_length_le (by omega)] at hv ⊢
     rw [Bp hk]
     simpa [vl] using hv
  by_cases hB : k < b.length
  · have dB : decide ((k : Int) < (b.length : Int)) = true := by rw [decide_eq_true_eq]; omega
    simp only [dB, cond_true, Int.toNat_natCast]
    rw [Ab (x := (i : Int) + (k : Int)) (by omega) (by omega)]
    have e : ((i : Int) + (k : Int)).toNat = i + k := by omega
    simp only [e]
    rw [A4 (by simp; try omega), A4 (by simp; try omega), A4 (by simp; try omega), A4 (by simp; try omega), Ab (x := a.getD i 0 * b.getD k 0) (by omega) (by omega), Ab (x := o.getD (i + k) 0 + c) (by omega) (by omega), Ab (x := o.getD (i + k) 0 + c + a.getD i 0 * b.getD k 0) (by omega) (by omega), A4 (by simp; try omega), A4 (by simp; try omega)]
    exact go _ (by omega) (.inl hB) rfl
  · have dB : decide ((k : Int) < (b.length : Int)) = false := by rw [decide_eq_false_iff_not]; omega
    simp only [dB, cond_false]
    rw [Bool.cond_decide]
    rw [List.drop_of_length_le (by omega)] at hv
    by_cases hc : 0 < c
    · have hlt : i + k < S := by
       refine Agz ?_
       have h5 : (10000 : Int) ^ (i + k) * 1 ≤ 10000 ^ (i + k) * c := Int.mul_le_mul_of_nonneg_left (by omega) (by have := Ex (i + k); omega)
       simp only [vl, Int.mul_zero, Int.add_zero] at hv
       omega
      rw [if_pos (by omega), Ab (x := (i : Int) + (k : Int)) (by omega) (by omega)]
      have e : ((i : Int) + (k : Int)).toNat = i + k := by omega
      simp only [e]
      rw [A4 (by simp; try omega), A4 (by simp; try omega), A4 (by simp; try omega), A4 (by simp; try omega), Ab (x := o.getD (i + k) 0 + c) (by omega) (by omega)]
      exact go _ hlt (.inr (by omega)) (by rw [Bp (l := b) (by omega)]; omega)
    · rw [if_neg (by omega)]
      obtain rfl : c = 0 := by omega
      exact ⟨o, hlo, ho, by simpa [vl] using hv, rfl⟩

theorem Akv {a b : List Int} (ha : Lm a) (hb : Lm b) {i S : Nat} (hS : i + b.length ≤ S) : vl (a.take i) * vl b < 10000 ^ S := by
 have h1 := Gh (ha.take i)
 have h2 := Gh hb
 have h3 := B5 (ha.take i)
 have h4 := B5 hb
 have h5 : (10000 : Int) ^ (a.take i).length ≤ 10000 ^ i := U7 (by simp; omega)
 have h6 := Ex i
 have h7 := Ex b.length
 have h8 : vl (a.take i) * vl b ≤ vl (a.take i) * 10000 ^ b.length := Int.mul_le_mul_of_nonneg_left (by omega) h3
 have h9 : vl (a.take i) * 10000 ^ b.length < 10000 ^ i * 10000 ^ b.length := Int.mul_lt_mul_of_pos_right (by omega) h7
 rw [← Int.pow_add] at h9
 have h10 : (10000 : Int) ^ (i + b.length) ≤ 10000 ^ S := U7 hS
 omega

theorem Aes {α : Type} {n : Nat} {a b : List Int} (ha : Lm a) (hb : Lm b) {S : Nat} (hS : a.length + b.length < S) (hN : S ≤ 1099511627776) (hn : S + 1 ≤ n) {k0 : List Int → Option α} :
  ∀ (m i : Nat) (o : List Int), Lm o → o.length = S → i ≤ a.length → vl o = vl (a.take i) * vl b → a.length + 1 ≤ i + m →
  ∃ o', Lm o' ∧ o'.length = S ∧ vl o' = vl a * vl b ∧ Jy n m a b (i : Int) o k0 = k0 o'
 | 0, i, o, hlo, ho, hi, hv, hm => by omega
 | m + 1, i, o, hlo, ho, hi, hv, hm => by
  rw [Ao9]
  unfold Z1
  dsimp only
  rw [Bool.cond_decide]
  by_cases hA : i < a.length
  · rw [if_pos (by omega)]
    have hT : vl (a.take (i + 1)) * vl b < 10000 ^ S := Akv ha hb (by omega)
    obtain ⟨o', q1, q2, q3, q4⟩ := Akw (n := n) ha hb i hA hS hN hT (k0 := fun z_1 z_2 z_3 z_4 => Jy n m z_1 z_2 (W (z_3 + 1)) z_4 k0) n 0 0 o hlo ho (by omega) (by omega) (by omega) (by
     rw [hv, B2, List.drop_zero, Nat.add_zero]
     generalize (10000 : Int) ^ i = P
     grind) (by omega)
    have q4 : Jw n n a b (i : Int) 0 0 o _ = _ := q4
    rw [q4, Ab (by omega) (by omega)]
    exact Aes (n := n) ha hb hS hN hn m (i + 1) o' q1 q2 (by omega) q3 (by omega)
  · rw [if_neg (by omega)]
    obtain rfl : i = a.length := by omega
    rw [List.take_length] at hv
    exact ⟨o, hlo, ho, hv, rfl⟩

theorem Awb {n : Nat} {a b : List Int} (ha : Lm a) (hb : Lm b) (hN : a.length + b.length ≤ 1099511627770) (hn : a.length + b.length + 2 ≤ n) : f178 n a b = some (dg (vl a * vl b).toNat) := by
 unfold f178
 rw [Ab (x := (a.length : Int) + (b.length : Int)) (by omega) (by omega), Ab (x := (a.length : Int) + (b.length : Int) + 1) (by omega) (by omega), A4 (by simp; try omega)]
 have e : ((a.length : Int) + (b.length : Int) + 1).toNat = a.length + b.length + 1 := by omega
 rw [e]
 obtain ⟨o, q1, q2, q3, q4⟩ := Aes (n := n) ha hb (S := a.length + b.length + 1) (by omega) (by omega) (by omega) (k0 := fun z_5 => ob (f203 n z_5) fun r_6 => some r_6) n 0 (List.replicate (a.length + b.length + 1) 0) (Lm.rep _) (by simp) (by omega) (by rw [Rh]; simp [vl]) (by omega)
 have q4 : Jy n n a b 0 _ _ = _ := q4
 rw [q4, V1 q1 (by omega) (by omega), A3, q3]

theorem Akx {α : Type} {n : Nat} {a b : List Int} (ha : Lm a) (hb : Lm b) (i : Nat) (hi : i < a.length) {S : Nat} (hS : a.length + b.length ≤ S) (hN : S ≤ 1099511627776) {T : Int} (hT : T < 10000 ^ S) (q1 : List Int) (q2 q3 : Int) {k0 : List Int → List Int → Int → Int → List Int → Option α} :
  ∀ (m k : Nat) (c : Int) (o : List Int), Lm o → o.length = S → 0 ≤ c → c < 10000 → i + k ≤ S → vl o + 10000 ^ (i + k) * (c + a.getD i 0 * vl (b.drop k)) = T → S + 1 ≤ i + k + m →
  ∃ o', Lm o' ∧ o'.length = S ∧ vl o' = T ∧ K0 n m b (i : Int) (a.getD i 0) c (k : Int) q1 q2 q3 o k0 = k0 b q1 q2 q3 o'
 | 0, k, c, o, hlo, ho, hc0, hc1, hik, hv, hm => by omega
 | m + 1, k, c, o, hlo, ho, hc0, hc1, hik, hv, hm => by
  rw [Apa]
  unfold Zt
  dsimp only
  have h1 := ha.get i
  have h2 := hb.get k
  have h3 := hlo.get (i + k)
  have h4 := Xa h1 h2
  have hvo := B5 hlo
  have go : ∀ y : Int, i + k < S → (k < b.length ∨ b.length ≤ k) → y = o.getD (i + k) 0 + c + a.getD i 0 * b.getD k 0 →
    ∃ o', Lm o' ∧ o'.length = S ∧ vl o' = T ∧ K0 n m b (i : Int) (a.getD i 0) (W (Int.tdiv y 10000)) (W ((k : Int) + 1)) q1 q2 q3 (o.set (i + k) (Int.tmod y 10000)) k0 = k0 b q1 q2 q3 o' := by
   intro y hlt hk hy
   rw [tdv (by omega), tmd (by omega), Ab (by omega) (by omega), Ab (by omega) (by omega)]
   refine Akx (n := n) ha hb i hi hS hN hT q1 q2 q3 m (k + 1) _ _ (hlo.set _ (by omega)) (by simpa using ho) (by omega) (by omega) (by omega) ?_ (by omega)
   rw [Ka _ (by omega), show i + (k + 1) = (i + k) + 1 by omega, Bg]
   have hyy : y = 10000 * (y / 10000) + y % 10000 := by omega
   refine A9h (bk := b.getD k 0) ?_ hy hyy
   rcases hk with hk | hk
   · rw [← Jo hk]; exact hv
   · rw [List.drop_of_length_le (by omega)] at hv ⊢
     rw [Bp hk]
     simpa [vl] using hv
  by_cases hB : k < b.length
  · have dB : decide ((k : Int) < (b.length : Int)) = true := by rw [decide_eq_true_eq]; omega
    simp only [dB, cond_true, Int.toNat_natCast]
    rw [Ab (x := (i : Int) + (k : Int)) (by omega) (by omega)]
    have e : ((i : Int) + (k : Int)).toNat = i + k := by omega
    simp only [e]
    rw [A4 (by simp; try omega), Ab (x := a.getD i 0 * b.getD k 0) (by omega) (by omega), Ab (x := c + a.getD i 0 * b.getD k 0) (by omega) (by omega), A4 (by simp; try omega), A4 (by simp; try omega), A4 (by simp; try omega), A4 (by simp; try omega), Ab (x := c + a.getD i 0 * b.getD k 0 + o.getD (i + k) 0) (by omega) (by omega)]
    exact go _ (by omega) (.inl hB) (by omega)
  · have dB : decide ((k : Int) < (b.length : Int)) = false := by rw [decide_eq_false_iff_not]; omega
    simp only [dB, cond_false]
    rw [Bool.cond_decide]
    rw [List.drop_of_length_le (by omega)] at hv
    by_cases hc : 0 < c
    · have hlt : i + k < S := by
       refine Agz ?_
       have h5 : (10000 : Int) ^ (i + k) * 1 ≤ 10000 ^ (i + k) * c := Int.mul_le_mul_of_nonneg_left (by omega) (by have := Ex (i + k); omega)
       simp only [vl, Int.mul_zero, Int.add_zero] at hv
       omega
      rw [if_pos (by omega), Ab (x := (i : Int) + (k : Int)) (by omega) (by omega)]
      have e : ((i : Int) + (k : Int)).toNat = i + k := by omega
      simp only [e]
      rw [A4 (by simp; try omega), A4 (by simp; try omega), A4 (by simp; try omega), A4 (by simp; try omega), Ab (x := c + o.getD (i + k) 0) (by omega) (by omega)]
      exact go _ hlt (.inr (by omega)) (by rw [Bp (l := b) (by omega)]; omega)
    · rw [if_neg (by omega)]
      obtain rfl : c = 0 := by omega
      exact ⟨o, hlo, ho, by simpa [vl] using hv, rfl⟩

theorem Aet {α : Type} {n : Nat} {a b : List Int} (ha : Lm a) (hb : Lm b) {S : Nat} (hS : a.length + b.length ≤ S) (hN : S ≤ 1099511627776) (hn : S + 1 ≤ n) {k0 : List Int → Option α} :
  ∀ (m i : Nat) (o : List Int), Lm o → o.length = S → i ≤ a.length → vl o = vl (a.take i) * vl b → a.length + 1 ≤ i + m →
  ∃ o', Lm o' ∧ o'.length = S ∧ vl o' = vl a * vl b ∧ K5 n m b a (a.length : Int) (i : Int) o k0 = k0 o'
 | 0, i, o, hlo, ho, hi, hv, hm => by omega
 | m + 1, i, o, hlo, ho, hi, hv, hm => by
  rw [Apc]
  unfold Zw
  dsimp only
  rw [Bool.cond_decide]
  by_cases hA : i < a.length
  · rw [if_pos (by omega), A4 (by simp; try omega)]
    simp only [Int.toNat_natCast]
    have hT : vl (a.take (i + 1)) * vl b < 10000 ^ S := Akv ha hb (by omega)
    obtain ⟨o', q1, q2, q3, q4⟩ := Akx (n := n) ha hb i hA hS hN hT a (a.length : Int) (i : Int) (k0 := fun z_1 z_2 z_3 z_4 z_5 => K5 n m z_1 z_2 z_3 (W (z_4 + 1)) z_5 k0) n 0 0 o hlo ho (by omega) (by omega) (by omega) (by
     rw [hv, B2, List.drop_zero, Nat.add_zero]
     generalize (10000 : Int) ^ i = P
     grind) (by omega)
    have q4 : K0 n n b (i : Int) (a.getD i 0) 0 0 a (a.length : Int) (i : Int) o _ = _ := q4
    rw [q4, Ab (by omega) (by omega)]
    exact Aet (n := n) ha hb hS hN hn m (i + 1) o' q1 q2 (by omega) q3 (by omega)
  · rw [if_neg (by omega)]
    obtain rfl : i = a.length := by omega
    rw [List.take_length] at hv
    exact ⟨o, hlo, ho, hv, rfl⟩

theorem Ax1 {n : Nat} {a b : List Int} (ha : Lm a) (hb : Lm b) (hN : a.length + b.length ≤ 1099511627770) (hn : a.length + b.length + 2 ≤ n) : f143 n a b = some (dg (vl a * vl b).toNat) := by
 unfold f143
 rw [Ab (x := (a.length : Int) + (b.length : Int)) (by omega) (by omega), A4 (by simp; try omega)]
 have e : ((a.length : Int) + (b.length : Int)).toNat = a.length + b.length := by omega
 rw [e]
 obtain ⟨o, q1, q2, q3, q4⟩ := Aet (n := n) ha hb (S := a.length + b.length) (by omega) (by omega) (by omega) (k0 := fun z_5 => ob (f185 n z_5) fun r_6 => some r_6) n 0 (List.replicate (a.length + b.length) 0) (Lm.rep _) (by simp) (by omega) (by rw [Rh]; simp [vl]) (by omega)
 have q4 : K5 n n b a (a.length : Int) 0 _ _ = _ := q4
 rw [q4, Ve q1 (by omega) (by omega), A3, q3]

theorem pwc (k : Nat) : ((10000 ^ k : Nat) : Int) = (10000 : Int) ^ k := by rw [Int.natCast_pow]; rfl

theorem Axu (Q : Nat) : ((10000 * Q : Nat) : Int) = 10000 * (Q : Int) := by omega

theorem A0t (Q q : Nat) : ((10000 * Q + q : Nat) : Int) = 10000 * (Q : Int) + q := by omega

theorem A8g (Q q : Nat) : ((q + 10000 * Q : Nat) : Int) = q + 10000 * (Q : Int) := by omega

theorem A11 {n k : Nat} (h : n < 10000 ^ k) : (dg n).length ≤ k := O2.2 (by rw [← pwc]; omega)

theorem A0w (n : Nat) : n < 10000 ^ (dg n).length := by
 have := O2.1 (Nat.le_refl (dg n).length)
 rw [← pwc] at this
 omega

theorem Js {n k : Nat} (h : (dg n).length ≤ k) : n < 10000 ^ k := by
 have := O2.1 h
 rw [← pwc] at this
 omega

theorem Hp (a b : Nat) : (dg (a * b)).length ≤ (dg a).length + (dg b).length := by
 refine A11 ?_
 rw [Nat.pow_add]
 exact Nat.mul_lt_mul'' (A0w a) (A0w b)

theorem Aur (a b : Nat) : (dg (a + b)).length ≤ max (dg a).length (dg b).length + 1 := by
 refine A11 ?_
 have h1 : a < 10000 ^ max (dg a).length (dg b).length := Js (by omega)
 have h2 : b < 10000 ^ max (dg a).length (dg b).length := Js (by omega)
 rw [Nat.pow_succ]
 omega

theorem Aez {a : Nat} (h : a < 10000) : (dg a).length ≤ 1 := A11 (by simpa using h)

theorem Auq (a : Nat) (x : Nat) (h : x < 10000) : (dg (x + 10000 * a)).length ≤ (dg a).length + 1 := by
 refine A11 ?_
 have := A0w a
 rw [Nat.pow_succ]
 omega

theorem A8e {n a b : Nat} (h : (dg a).length ≤ 1099511627776) (hn : (dg a).length < n) : f187 n (dg a) (dg b) = some (cm a b) := by
 rw [Aw4 (Hh a) (Hh b) h hn, B0, B0]

theorem A0p {n a b : Nat} (h : (dg a).length + (dg b).length ≤ 1099511627770) (hn : (dg a).length + (dg b).length + 2 ≤ n) : f178 n (dg a) (dg b) = some (dg (a * b)) := by
 rw [Awb (Dj a) (Dj b) h hn, B0, B0]; congr 1

theorem B1f {n a b : Nat} (h : (dg a).length ≤ 1099511627776) (h' : (dg b).length ≤ 1099511627776) (hn : max (dg a).length (dg b).length + 2 ≤ n) : f186 n (dg a) (dg b) = some (dg (a + b)) := by
 rw [Aw6 (Hh a) (Hh b) h h' hn, B0, B0]; congr 1

theorem Agu {n a b : Nat} (h : (dg a).length ≤ 1099511627776) (hn : (dg a).length + 1 ≤ n) (hab : b ≤ a) : f188 n (dg a) (dg b) = some (dg (a - b)) := by
 rw [Aw2 (Hh a) (Hh b) h hn (by rw [B0, B0]; omega), B0, B0]
 congr 2
 omega

theorem Atw {n a b : Nat} (h : (dg a).length + (dg b).length ≤ 1099511627770) (hn : (dg a).length + (dg b).length + 2 ≤ n) : f143 n (dg a) (dg b) = some (dg (a * b)) := by
 rw [Ax1 (Dj a) (Dj b) h hn, B0, B0]; congr 1

theorem Ahc {n a b : Nat} (h : (dg a).length ≤ 1099511627776) : f170 n (dg a) (dg b) = some (cm a b) := by
 rw [Awd (Hh a) (Hh b) h, B0, B0]

theorem Aco {α : Type} {n B R : Nat} (hBl : (dg B).length ≤ 1099511627700) (hn : (dg B).length + 20 ≤ n) (s0 : List Int) (s8 : Int) (b14 : List Int) {k0 : List Int → List Int → List Int → Int → Int → List Int → Option α} :
  ∀ (m lo hi : Nat), lo < hi → hi ≤ 10000 → lo * B ≤ R → R < hi * B → hi ≤ lo + m →
  Kv n m s0 (dg B) (dg R) s8 (lo : Int) (hi : Int) b14 k0 = k0 s0 (dg B) (dg R) s8 ((R / B : Nat) : Int) b14
 | 0, lo, hi, h1, h2, h3, h4, h5 => by omega
 | m + 1, lo, hi, h1, h2, h3, h4, h5 => by
  rw [Aih]
  unfold T3
  dsimp only
  rw [Ab (x := (hi : Int) - (lo : Int)) (by omega) (by omega), Ab (x := (lo : Int) + (hi : Int)) (by omega) (by omega)]
  have e : Int.tdiv ((lo : Int) + (hi : Int)) 2 = (((lo + hi) / 2 : Nat) : Int) := by
   rw [Int.tdiv_eq_ediv_of_nonneg (by omega)]; omega
  rw [e, Ab (x := (((lo + hi) / 2 : Nat) : Int)) (by omega) (by omega)]
  generalize hmid : (lo + hi) / 2 = mid
  by_cases hc : lo + 1 < hi
  · rw [Bool.cond_decide, if_pos (by omega), Afq (by omega) (by omega), A3]
    have hl := Aez (a := mid) (by omega)
    have hm := Hp B mid
    rw [A0p (by omega) (by omega), A3, A8e (by omega) (by omega), A3, Bool.cond_decide]
    by_cases hle : B * mid ≤ R
    · have : cm ((B * mid : Nat) : Int) (R : Int) ≤ 0 := by
       rcases Nat.lt_or_eq_of_le hle with h | h
       · rw [G4 (by omega)]; omega
       · rw [Ii (by omega)]; omega
      rw [if_pos this]
      exact Aco hBl hn s0 s8 b14 m mid hi (by omega) h2 (by rw [Nat.mul_comm]; exact hle) h4 (by omega)
    · have : ¬ cm ((B * mid : Nat) : Int) (R : Int) ≤ 0 := by
       rw [G5 (by omega)]; omega
      rw [if_neg this]
      exact Aco hBl hn s0 s8 b14 m lo mid (by omega) (by omega) h3 (by rw [Nat.mul_comm]; omega) (by omega)
  · rw [Bool.cond_decide, if_neg (by omega)]
    obtain rfl : hi = lo + 1 := by omega
    have : R / B = lo := by
     rw [Nat.div_eq_iff (Nat.pos_of_ne_zero (by rintro rfl; simp at h4))]
     rw [Nat.add_mul] at h4
     omega
    rw [this]

theorem Acc {α : Type} {n L A B : Nat} (hB : 0 < B) (hA : (dg A).length ≤ L) (hBl : (dg B).length ≤ L) (hL : L ≤ 1099511627000) (hn : L + 10040 ≤ n) {k0 : List Int → List Int → Option α} :
  ∀ (k m Q R : Nat) (o : List Int), k < m → k ≤ (dg A).length → R < B → o.length = (dg A).length → Lm o → (∀ i, i < k → o.getD i 0 = 0) → vl o = 10000 ^ k * (Q : Int) → (Q : Int) * B + R = vl ((dg A).drop k) →
  ∃ o', Lm o' ∧ o'.length = (dg A).length ∧ vl o' = ((A / B : Nat) : Int) ∧ Ni n m (dg A) (dg B) (dg R) ((k : Int) - 1) o k0 = k0 (dg (A % B)) o'
 | _, 0, _, _, _, h1, _, _, _, _, _, _, _ => by omega
 | 0, m + 1, Q, R, o, h1, h2, h3, h4, h5, h6, h7, h8 => by
  rw [A6l]
  unfold Pg
  dsimp only
  rw [Bool.cond_decide, if_neg (by omega)]
  rw [List.drop_zero, B0] at h8
  have h8 : Q * B + R = A := by
   have : ((Q * B + R : Nat) : Int) = A := by rw [Int.natCast_add, Int.natCast_mul]; exact h8
   omega
  have h9 : A / B = Q := by rw [← h8, Nat.add_comm, Nat.add_mul_div_right _ _ hB, Nat.div_eq_of_lt h3, Nat.zero_add]
  have h10 : A % B = R := by rw [← h8, Nat.mul_add_mod_self_right, Nat.mod_eq_of_lt h3]
  exact ⟨o, h5, h4, by rw [h7, h9]; simp, by rw [h10]⟩
 | k + 1, m + 1, Q, R, o, h1, h2, h3, h4, h5, h6, h7, h8 => by
  rw [A6l]
  unfold Pg
  dsimp only
  rw [Bool.cond_decide, if_pos (by omega)]
  rw [show (((k + 1 : Nat) : Int) - 1) = (k : Int) by omega]
  simp only [Int.toNat_natCast]
  have hg := (Dj A).get k
  obtain ⟨x, hx⟩ : ∃ x : Nat, (dg A).getD k 0 = (x : Int) := ⟨((dg A).getD k 0).toNat, by omega⟩
  have hlR : (dg R).length ≤ L := Nat.le_trans (Bx (by omega)) hBl
  have hlRx := Auq R x (by omega)
  have hRx : vl ((dg A).drop k) = (x : Int) + 10000 * ((Q : Int) * B + R) := by
   rw [Jo (by omega), hx, ← h8]
  have hR' : x + 10000 * R < 10000 * B := by omega
  rw [hx, A4 (by simp; try omega), A4 (by simp; try omega), V1 (Lm.app (Lm.cons (by omega) Lm.nil) (Dj R)) (by simp; omega) (by simp; omega), A3]
  have e1 : (vl ([(x : Int)] ++ dg R)).toNat = x + 10000 * R := by
   rw [List.cons_append, List.nil_append, vl, B0]; omega
  rw [e1, A8e (by omega) (by omega), A3, Ab (x := (k : Int) - 1) (by omega) (by omega), Bool.cond_decide]
  by_cases hlt : x + 10000 * R < B
  · rw [if_pos (by rw [G4 (by omega)]; omega)]
    refine Acc hB hA hBl hL hn k m (10000 * Q) (x + 10000 * R) o (by omega) (by omega) hlt h4 h5 (fun i hi => h6 i (by omega)) ?_ ?_
    · rw [h7, Bg, Axu]; grind
    · rw [hRx, Axu, A8g]; grind
  · rw [if_neg (by
     rcases Nat.lt_or_eq_of_le (Nat.le_of_not_lt hlt) with h | h
     · rw [G5 (by omega)]; omega
     · rw [Ii (by omega)]; omega)]
    have hbis := Aco (n := n) (B := B) (R := x + 10000 * R) (by omega) (by omega) (dg A) (k : Int) o (k0 := fun z_3 z_4 z_5 z_6 z_7 z_8 => (
            gd (decide (0 ≤ z_6) && decide (z_6 < (z_8.length : Int))) (
             gd (decide (z_6.toNat < z_8.length)) (
              ob (f172 n z_7) fun r_9 =>
              ob (f178 n z_4 r_9) fun r_10 =>
              ob (f188 n z_5 r_10) fun r_11 =>
              Ni n m z_3 z_4 r_11 (W (z_6 - 1)) (z_8.set z_6.toNat z_7) k0)))) n 0 10000 (by omega) (by omega) (by omega) hR' (by omega)
    have hbis : Kv n n (dg A) (dg B) (dg (x + 10000 * R)) (k : Int) 0 10000 o _ = _ := hbis
    rw [hbis]
    simp only [Int.toNat_natCast]
    have hq : (x + 10000 * R) / B < 10000 := by
     rw [Nat.div_lt_iff_lt_mul hB]; omega
    have hqr := Nat.div_add_mod (x + 10000 * R) B
    have hqm := Nat.mod_lt (x + 10000 * R) hB
    generalize hqq : (x + 10000 * R) / B = q at *
    generalize hrr : (x + 10000 * R) % B = r at *
    have hl1 := Aez hq
    have hl2 := Hp B q
    rw [A4 (by simp; try omega), A4 (by simp; try omega), Afq (by omega) (by omega), A3, A0p (by omega) (by omega), A3, Agu (by omega) (by omega) (by omega), A3, Ab (x := (k : Int) - 1) (by omega) (by omega), show x + 10000 * R - B * q = r by omega]
    refine Acc hB hA hBl hL hn k m (10000 * Q + q) r _ (by omega) (by omega) hqm (by simpa using h4) (h5.set _ (by omega)) (fun i hi => ?_) ?_ ?_
    · rw [List.getD_eq_getElem?_getD, List.getElem?_set_ne (by omega), ← List.getD_eq_getElem?_getD]
      exact h6 i (by omega)
    · rw [Ka _ (by omega), h7, h6 k (by omega), Bg, A0t]
      generalize (10000 : Int) ^ k = P
      grind
    · rw [hRx]
      have : (B : Int) * q + r = x + 10000 * R := by
       rw [← A8g, ← hqr, Int.natCast_add, Int.natCast_mul]
      rw [A0t]
      grind

theorem Agv {n L A B : Nat} (hB : 0 < B) (hA : (dg A).length ≤ L) (hBl : (dg B).length ≤ L) (hL : L ≤ 1099511627000) (hn : L + 10040 ≤ n) : f202 n (dg A) (dg B) = some (dg (A / B), dg (A % B)) := by
 unfold f202
 rw [A4 (by simp; try omega), Ab (x := ((dg A).length : Int) - 1) (by omega) (by omega)]
 simp only [Int.toNat_natCast]
 obtain ⟨o, h1, h2, h3, h4⟩ := Acc (n := n) hB hA hBl hL hn (k0 := fun z_12 z_13 => (
       ob (f203 n z_13) fun r_14 =>
       some (r_14, z_12))) (dg A).length n 0 0 (List.replicate (dg A).length 0) (by omega) (Nat.le_refl _) hB (by simp) (Lm.rep _) (fun i hi => by simp [List.getD_eq_getElem?_getD, List.getElem?_replicate, hi]) (by rw [Rh]; simp) (by simp [vl])
 rw [Cb] at h4
 rw [h4, V1 h1 (by omega) (by omega), A3, h3]
 rfl

theorem A9q {a b : Nat} (hb : 0 < b) (hr : 0 < a % b) {j : Nat} (h : b < 2 ^ (j + 1)) : b % (a % b) < 2 ^ j := by
 have h1 := Nat.mod_lt a hb
 have h2 := Nat.mod_lt b hr
 have h3 := Nat.div_add_mod b (a % b)
 generalize a % b = r at *
 have h4 : 1 ≤ b / r := by rw [Nat.le_div_iff_mul_le hr]; omega
 have h5 : r * 1 ≤ r * (b / r) := Nat.mul_le_mul_left r h4
 rw [Nat.pow_succ] at h
 omega

theorem Axy {α : Type} {n L : Nat} (hL : L ≤ 1099511627000) (hn : L + 10040 ≤ n) {k0 : List Int → Option α} :
  ∀ (j m a b : Nat), b < 2 ^ j → 2 * j + 1 ≤ m → (dg a).length ≤ L → (dg b).length ≤ L → Hx n m (dg a) (dg b) k0 = k0 (dg (Nat.gcd b a)) := by
 have stop : ∀ (m a : Nat), 0 < m → Hx n m (dg a) (dg 0) k0 = k0 (dg (Nat.gcd 0 a)) := fun m a hm => by
  obtain ⟨m, rfl⟩ : ∃ m', m = m' + 1 := ⟨m - 1, by omega⟩
  rw [A6s, Nat.gcd_zero_left, Cb]; rfl
 have step : ∀ (m a b : Nat), 0 < b → (dg a).length ≤ L → (dg b).length ≤ L → Hx n (m + 1) (dg a) (dg b) k0 = Hx n m (dg b) (dg (a % b)) k0 := fun m a b hb ha hbl => by
  rw [A6s]
  unfold Yc
  have : 0 < (dg b).length := by rw [Dt (by omega)]; simp
  rw [Bool.cond_decide, if_pos (by omega), Agv hb ha hbl hL hn, A3]
 intro j
 induction j with
 | zero =>
  intro m a b h1 h2 h3 h4
  obtain rfl : b = 0 := by simpa using h1
  exact stop m a (by omega)
 | succ j ih =>
  intro m a b h1 h2 h3 h4
  rcases Nat.eq_zero_or_pos b with rfl | hb
  · exact stop m a (by omega)
  obtain ⟨m, rfl⟩ : ∃ m', m = m' + 2 := ⟨m - 2, by omega⟩
  have h5 : (dg (a % b)).length ≤ L := Nat.le_trans (Bx (Nat.le_of_lt (Nat.mod_lt a hb))) h4
  rw [step _ _ _ hb h3 h4, Nat.gcd_rec b a]
  rcases Nat.eq_zero_or_pos (a % b) with hr | hr
  · rw [hr]; exact stop _ _ (by omega)
  have h6 : (dg (b % (a % b))).length ≤ L := Nat.le_trans (Bx (Nat.le_of_lt (Nat.mod_lt b hr))) h5
  rw [step _ _ _ hr h4 h5, Nat.gcd_rec (a % b) b]
  exact ih m _ _ (A9q hb hr h1) (by omega) h5 h6

theorem Aeo {b L : Nat} (h : b < 10000 ^ L) : b < 2 ^ (14 * L) := by
 rw [Nat.pow_mul]
 exact Nat.lt_of_lt_of_le h (Nat.pow_le_pow_left (by decide) L)

theorem Atl {n L a b : Nat} (hL : L ≤ 1099511627000) (hn : 28 * L + 10040 ≤ n) (ha : (dg a).length ≤ L) (hb : (dg b).length ≤ L) : f190 n (dg a) (dg b) = some (dg (Nat.gcd a b)) := by
 unfold f190
 have h1 : (dg (Nat.gcd b a)).length ≤ L := by
  rcases Nat.eq_zero_or_pos b with rfl | h
  · rw [Nat.gcd_zero_left]; exact ha
  · exact Nat.le_trans (Bx (Nat.gcd_le_left a h)) hb
 rw [Axy hL (by omega) (14 * L) n a b (Aeo (Js hb)) (by omega) ha hb, A4 (by simp; try omega), Nat.gcd_comm]

theorem N5 {pre w post : List Int} {i : Nat} (h : i < w.length) : (pre ++ w ++ post).getD (pre.length + i) 0 = w.getD i 0 := by
 rw [List.append_assoc, List.getD_eq_getElem?_getD, List.getElem?_append_right (by omega), Nat.add_sub_cancel_left, List.getElem?_append_left h, ← List.getD_eq_getElem?_getD]

theorem Aeu {pre w post : List Int} {i : Nat} (h : i < w.length) (x : Int) : (pre ++ w ++ post).set (pre.length + i) x = pre ++ w.set i x ++ post := by
 rw [List.append_assoc, List.set_append_right _ _ (by omega), Nat.add_sub_cancel_left, List.set_append_left _ _ h, List.append_assoc]

theorem Aqc {y : Int} (h : y < 0) (h' : -1099511627776 < y) : W (Int.tdiv (W (W (y - 10000) + 1)) 10000) = y / 10000 := by
 rw [Ab (x := y - 10000) (by omega) (by omega), Ab (x := y - 10000 + 1) (by omega) (by omega)]
 have : Int.tdiv (y - 10000 + 1) 10000 = y / 10000 := by
  rw [show y - 10000 + 1 = -(9999 - y) by omega, Int.neg_tdiv, Int.tdiv_eq_ediv_of_nonneg (by omega)]
  omega
 rw [this, Ab (by omega) (by omega)]

theorem Aqz {o P q c wi bi v' T y d r : Int} (h : o + P * (c - q * (bi + 10000 * v')) = T) (hy : y = wi + c - q * bi) (hd : y = 10000 * d + r) : o + P * (r - wi) + 10000 * P * (d - q * v') = T := by
 grind

theorem Akp {o P c wi bi v' T y d r : Int} (h : o + P * (c + (bi + 10000 * v')) = T) (hy : y = wi + c + bi) (hd : y = 10000 * d + r) : o + P * (r - wi) + 10000 * P * (d + v') = T := by
 grind

theorem A8r {l : List Int} (k : Nat) : vl (l.drop k) = l.getD k 0 + 10000 * vl (l.drop (k + 1)) := by
 rcases Nat.lt_or_ge k l.length with h | h
 · exact Jo h
 · rw [List.drop_of_length_le h, List.drop_of_length_le (by omega), Bp h]; rfl

theorem Aka {α : Type} {n N : Nat} {b pre post : List Int} (hb : Lm b) (hbN : b.length = N) (hN : pre.length + N + 1 + post.length ≤ 1099511627776) {q : Int} (hq : 0 ≤ q ∧ q < 10000) {T : Int} {k0 : Nat → Nat → List Int → Int → Int → Int → List Int → Option α} :
  ∀ (m i : Nat) (c : Int) (w : List Int), Lm w → w.length = N + 1 → -9999 ≤ c → c ≤ 0 → i ≤ N + 1 → vl w + 10000 ^ i * (c - q * vl (b.drop i)) = T → N + 2 ≤ i + m →
  ∃ w' c', Lm w' ∧ w'.length = N + 1 ∧ c' ≤ 0 ∧ vl w' + 10000 ^ (N + 1) * c' = T ∧ F0 n m pre.length (N + 1) b (b.length : Int) q c ((N + 1 : Nat) : Int) (i : Int) (pre ++ w ++ post) k0 = k0 pre.length (N + 1) b (b.length : Int) q c' (pre ++ w' ++ post)
 | 0, i, c, w, h1, h2, h3, h4, h5, h6, h7 => by omega
 | m + 1, i, c, w, h1, h2, h3, h4, h5, h6, h7 => by
  rw [Aid]
  unfold Sx
  dsimp only
  by_cases hi : i < N + 1
  · rw [Bool.cond_decide, if_pos (by omega)]
    simp only [Int.toNat_natCast]
    rw [A4 (by simp; try omega), A4 (by simp; try omega)]
    simp only [N5 (pre := pre) (post := post) (w := w) (i := i) (by omega)]
    have g1 := h1.get i
    have g2 := hb.get i
    have g3 := Xa hq g2
    have go : ∀ y : Int, y = w.getD i 0 + c - q * b.getD i 0 →
      ∃ w' c', Lm w' ∧ w'.length = N + 1 ∧ c' ≤ 0 ∧ vl w' + 10000 ^ (N + 1) * c' = T ∧ 
      (bif (decide (y < 0)) then (gd (decide (0 ≤ (i : Int)) && decide ((i : Int) < ((N + 1 : Nat) : Int))) (
        gd (decide ((pre.length + i) < (pre ++ w ++ post).length)) (
         F0 n m pre.length (N + 1) b (b.length : Int) q (W (Int.tdiv (W ((W (y - 10000)) + 1)) 10000)) ((N + 1 : Nat) : Int) (W ((i : Int) + 1)) ((pre ++ w ++ post).set (pre.length + i) (W (y - (W ((W (Int.tdiv (W ((W (y - 10000)) + 1)) 10000)) * 10000))))) k0)))
       else (gd (decide (0 ≤ (i : Int)) && decide ((i : Int) < ((N + 1 : Nat) : Int))) (
        gd (decide ((pre.length + i) < (pre ++ w ++ post).length)) (
         F0 n m pre.length (N + 1) b (b.length : Int) q 0 ((N + 1 : Nat) : Int) (W ((i : Int) + 1)) ((pre ++ w ++ post).set (pre.length + i) (W (y - (W (0 * 10000))))) k0)))) = k0 pre.length (N + 1) b (b.length : Int) q c' (pre ++ w' ++ post) := by
     intro y hy
     have hd : y = 10000 * (y / 10000) + y % 10000 := by omega
     have go2 : ∀ d : Int, d = y / 10000 → ∃ w' c', Lm w' ∧ w'.length = N + 1 ∧ c' ≤ 0 ∧ vl w' + 10000 ^ (N + 1) * c' = T ∧ (gd (decide (0 ≤ (i : Int)) && decide ((i : Int) < ((N + 1 : Nat) : Int))) (
           gd (decide ((pre.length + i) < (pre ++ w ++ post).length)) (
            F0 n m pre.length (N + 1) b (b.length : Int) q d ((N + 1 : Nat) : Int) (W ((i : Int) + 1)) ((pre ++ w ++ post).set (pre.length + i) (W (y - (W (d * 10000))))) k0))) = k0 pre.length (N + 1) b (b.length : Int) q c' (pre ++ w' ++ post) := by
      intro d hdd
      rw [A4 (by simp; try omega), A4 (by simp; try omega), Aeu (by omega), Ab (x := d * 10000) (by omega) (by omega), Ab (x := y - d * 10000) (by omega) (by omega), Ab (x := (i : Int) + 1) (by omega) (by omega)]
      refine Aka (n := n) hb hbN hN hq m (i + 1) d _ (h1.set _ (by omega)) (by simpa using h2) (by omega) (by omega) (by omega) ?_ (by omega)
      rw [Ka _ (by omega), Bg]
      refine Aqz (bi := b.getD i 0) ?_ hy (by omega)
      rw [← A8r]; exact h6
     rw [Bool.cond_decide]
     by_cases hneg : y < 0
     · rw [if_pos hneg]
       simp only [Aqc hneg (by omega)]
       exact go2 _ rfl
     · rw [if_neg hneg]
       exact go2 0 (by omega)
    by_cases hB : i < b.length
    · have dB : decide ((i : Int) < (b.length : Int)) = true := by rw [decide_eq_true_eq]; omega
      simp only [dB, cond_true]
      rw [A4 (by simp; try omega)]
      simp only [Ab (x := q * b.getD i 0) (by omega) (by omega), Ab (x := w.getD i 0 + c) (by omega) (by omega), Ab (x := w.getD i 0 + c - q * b.getD i 0) (by omega) (by omega)]
      exact go _ rfl
    · have dB : decide ((i : Int) < (b.length : Int)) = false := by rw [decide_eq_false_iff_not]; omega
      simp only [dB, cond_false]
      simp only [Ab (x := w.getD i 0 + c) (by omega) (by omega)]
      exact go _ (by rw [Bp (l := b) (by omega)]; omega)
  · rw [Bool.cond_decide, if_neg (by omega)]
    obtain rfl : i = N + 1 := by omega
    rw [List.drop_of_length_le (by omega)] at h6
    exact ⟨w, c, h1, h2, h4, by simpa [vl] using h6, rfl⟩

theorem Aep {α : Type} {n N : Nat} {b pre post : List Int} (hb : Lm b) (hbN : b.length = N) (hN : pre.length + N + 1 + post.length ≤ 1099511627776) {q z : Int} {T : Int} {k0 : Nat → Nat → List Int → Int → Int → Int → Int → List Int → Option α} :
  ∀ (m i : Nat) (c : Int) (w : List Int), Lm w → w.length = N + 1 → 0 ≤ c → c ≤ 1 → i ≤ N + 1 → vl w + 10000 ^ i * (c + vl (b.drop i)) = T → N + 2 ≤ i + m →
  ∃ w' c', Lm w' ∧ w'.length = N + 1 ∧ 0 ≤ c' ∧ c' ≤ 1 ∧ vl w' + 10000 ^ (N + 1) * c' = T ∧ Gd n m pre.length (N + 1) b (b.length : Int) q z c ((N + 1 : Nat) : Int) (i : Int) (pre ++ w ++ post) k0 = k0 pre.length (N + 1) b (b.length : Int) q z c' (pre ++ w' ++ post)
 | 0, i, c, w, h1, h2, h3, h4, h5, h6, h7 => by omega
 | m + 1, i, c, w, h1, h2, h3, h4, h5, h6, h7 => by
  rw [Adp]
  unfold Pa
  dsimp only
  by_cases hi : i < N + 1
  · rw [Bool.cond_decide, if_pos (by omega)]
    simp only [Int.toNat_natCast]
    rw [A4 (by simp; try omega), A4 (by simp; try omega), N5 (by omega)]
    have g1 := h1.get i
    have g2 := hb.get i
    have go : ∀ y : Int, y = w.getD i 0 + c + b.getD i 0 → ∃ w' c', Lm w' ∧ w'.length = N + 1 ∧ 0 ≤ c' ∧ c' ≤ 1 ∧ vl w' + 10000 ^ (N + 1) * c' = T ∧ (gd (decide (0 ≤ (i : Int)) && decide ((i : Int) < ((N + 1 : Nat) : Int))) (
            gd (decide ((pre.length + i) < (pre ++ w ++ post).length)) (
             Gd n m pre.length (N + 1) b (b.length : Int) q z (W (Int.tdiv y 10000)) ((N + 1 : Nat) : Int) (W ((i : Int) + 1)) ((pre ++ w ++ post).set (pre.length + i) (Int.tmod y 10000)) k0))) = k0 pre.length (N + 1) b (b.length : Int) q z c' (pre ++ w' ++ post) := by
     intro y hy
     have hd : y = 10000 * (y / 10000) + y % 10000 := by omega
     rw [A4 (by simp; try omega), A4 (by simp; try omega), Aeu (by omega), tdv (by omega), tmd (by omega), Ab (x := y / 10000) (by omega) (by omega), Ab (x := (i : Int) + 1) (by omega) (by omega)]
     refine Aep (n := n) hb hbN hN m (i + 1) _ _ (h1.set _ (by omega)) (by simpa using h2) (by omega) (by omega) (by omega) ?_ (by omega)
     rw [Ka _ (by omega), Bg]
     refine Akp (bi := b.getD i 0) ?_ hy hd
     rw [← A8r]; exact h6
    by_cases hB : i < b.length
    · have dB : decide ((i : Int) < (b.length : Int)) = true := by rw [decide_eq_true_eq]; omega
      simp only [dB, cond_true]
      rw [A4 (by simp; try omega)]
      simp only [Ab (x := w.getD i 0 + c) (by omega) (by omega), Ab (x := w.getD i 0 + c + b.getD i 0) (by omega) (by omega)]
      exact go _ rfl
    · have dB : decide ((i : Int) < (b.length : Int)) = false := by rw [decide_eq_false_iff_not]; omega
      simp only [dB, cond_false]
      simp only [Ab (x := w.getD i 0 + c) (by omega) (by omega)]
      exact go _ (by rw [Bp (l := b) (by omega)]; omega)
  · rw [Bool.cond_decide, if_neg (by omega)]
    obtain rfl : i = N + 1 := by omega
    rw [List.drop_of_length_le (by omega)] at h6
    exact ⟨w, c, h1, h2, h3, h4, by simpa [vl] using h6, rfl⟩

theorem Ata {P v c R qB : Int} (h1 : v < P) (hP : 0 < P) (h : v + P * c = R - qB) (hc : c < 0) : R - qB < 0 := by
 have : P * c ≤ P * (-1) := Int.mul_le_mul_of_nonneg_left (by omega) (by omega)
 omega

theorem Atb {P v c R q B : Int} (h0 : v < P) (h : v + P * c = R - q * B) (hB : 0 ≤ B) (hBP : B < P) (hR : 0 ≤ R) (hq : q < 10000) (hq0 : 0 ≤ q) : -10000 ≤ c := by
 have h9 : q * B ≤ 10000 * B := Int.mul_le_mul_of_nonneg_right (by omega) (by omega)
 rcases Int.lt_or_le c (-10000) with h1 | h1
 · have h8 : P * c ≤ P * (-10001) := Int.mul_le_mul_of_nonneg_left (by omega) (by omega)
   exfalso
   omega
 · exact h1

theorem At9 {v v' x x' R qB B : Int} (h : v + x = R - qB) (h' : v' + x' = v + B) : v' + (x + x') = R - (qB - B) := by omega

theorem Agh {α : Type} {n N R B : Nat} {pre post : List Int} (hB : 0 < B) (hbN : (dg B).length = N) (hN : pre.length + N + 1 + post.length ≤ 1099511627776) (hn : N + 2 ≤ n) {k0 : Int → List Int → Option α} :
  ∀ (m q : Nat) (c : Int) (w : List Int), Lm w → w.length = N + 1 → c ≤ 0 → vl w + 10000 ^ (N + 1) * c = (R : Int) - q * B → R / B ≤ q → q < 10000 → q < m →
  ∃ w', Lm w' ∧ w'.length = N + 1 ∧ vl w' = ((R % B : Nat) : Int) ∧ Ge n m pre.length (N + 1) (dg B) ((dg B).length : Int) (q : Int) c (pre ++ w ++ post) k0 = k0 ((R / B : Nat) : Int) (pre ++ w' ++ post)
 | 0, q, c, w, h1, h2, h3, h4, h5, h6, h7 => by omega
 | m + 1, q, c, w, h1, h2, h3, h4, h5, h6, h7 => by
  rw [Adr]
  unfold Pd
  dsimp only
  have hw := Gh h1
  have hw0 := B5 h1
  rw [h2] at hw
  rw [Bool.cond_decide]
  have hP := Ex (N + 1)
  have hBP := A0w B
  rw [hbN] at hBP
  have hdm := Nat.div_add_mod R B
  have hml := Nat.mod_lt R hB
  by_cases hc : c < 0
  · rw [if_pos hc]
    have hneg := Ata hw hP h4 hc
    have hlt : R / B < q := by
     rw [Nat.div_lt_iff_lt_mul hB]
     have : ((q * B : Nat) : Int) = (q : Int) * B := Int.natCast_mul q B
     omega
    have hq0 : 0 < q := Nat.lt_of_le_of_lt (Nat.zero_le _) hlt
    have hBi : (B : Int) < 10000 ^ N := by rw [← pwc]; omega
    have hBP' : (B : Int) < 10000 ^ (N + 1) := by
     have := U7 (show N ≤ N + 1 by omega)
     omega
    have hcm := Atb (q := (q : Int)) hw h4 (by omega) hBP' (by omega) (by omega) (by omega)
    rw [Ab (x := (q : Int) - 1) (by omega) (by omega), show (q : Int) - 1 = ((q - 1 : Nat) : Int) by omega]
    obtain ⟨w', c', q1, q2, q3, q4, q5, q6⟩ := Aep (n := n) (Dj B) hbN hN (q := ((q - 1 : Nat) : Int)) (z := c) (T := vl w + B) (k0 := fun z_12 z_13 z_14 z_15 z_16 z_17 z_18 z_19 => (
     Ge n m z_12 z_13 z_14 z_15 z_16 (W (z_17 + z_18)) z_19 k0)) n 0 0 w h1 h2 (by omega) (by omega) (by omega) (by rw [List.drop_zero, B0, Int.pow_zero, Int.one_mul, Int.zero_add]) (by omega)
    have q6 : Gd n n pre.length (N + 1) (dg B) ((dg B).length : Int) ((q - 1 : Nat) : Int) c 0 ((N + 1 : Nat) : Int) 0 (pre ++ w ++ post) _ = _ := q6
    rw [q6]
    have hq1 : ((q - 1 : Nat) : Int) * B = q * B - B := by
     rw [show ((q - 1 : Nat) : Int) = (q : Int) - 1 by omega, Int.sub_mul, Int.one_mul]
    have hnew : vl w' + 10000 ^ (N + 1) * (c + c') = (R : Int) - ((q - 1 : Nat) : Int) * B := by
     rw [Int.mul_add, hq1]
     exact At9 h4 q5
    rw [Ab (x := c + c') (by omega) (by omega)]
    exact Agh hB hbN hN hn m (q - 1) (c + c') w' q1 q2 (by omega) hnew (by omega) (by omega) (by omega)
  · rw [if_neg hc]
    obtain rfl : c = 0 := by omega
    rw [Int.mul_zero, Int.add_zero] at h4
    have e : R / B = q := by
     refine Nat.le_antisymm h5 ?_
     rw [Nat.le_div_iff_mul_le hB]
     have : ((q * B : Nat) : Int) = (q : Int) * B := Int.natCast_mul q B
     omega
    refine ⟨w, h1, h2, ?_, by rw [e]⟩
    have : ((B * q : Nat) : Int) = (q : Int) * B := by rw [Int.natCast_mul, Int.mul_comm]
    rw [e] at hdm
    omega

theorem B1m {P lowR lowB high top t R B : Int} (hR : R = lowR + P * high) (hB : B = lowB + P * top) (h1 : lowR < P) (h2 : 0 ≤ lowB) (hP : 0 < P) (ht : 0 ≤ t) (hle : t * B ≤ R) : t * top ≤ high := by
 have h3 : t * (P * top) ≤ t * B := Int.mul_le_mul_of_nonneg_left (by omega) ht
 have h4 : P * (t * top) < P * (high + 1) := by
  rw [Int.mul_add, Int.mul_one, show P * (t * top) = t * (P * top) by grind]; omega
 have := Int.lt_of_mul_lt_mul_left h4 (by omega)
 omega

theorem Asg {n M R B : Nat} {pre w post : List Int} (hbN : (dg B).length = M + 2) (hN : pre.length + (M + 2) + 1 + post.length ≤ 1099511627776) (hn : M + 10010 ≤ n) (hw : Lm w) (hwl : w.length = M + 3) (hv : vl w = (R : Int)) (hR : R < 10000 * B) :
  ∃ w', Lm w' ∧ w'.length = M + 3 ∧ vl w' = ((R % B : Nat) : Int) ∧ A8j n (pre ++ w ++ post, pre.length, M + 3) (dg B) = some (((R / B : Nat) : Int), pre ++ w' ++ post) := by
 have hB : 0 < B := by omega
 unfold A8j
 dsimp only
 rw [hbN]
 rw [Ab (x := ((M + 2 : Nat) : Int) - 1) (by omega) (by omega), Ab (x := ((M + 2 : Nat) : Int) - 2) (by omega) (by omega), show ((M + 2 : Nat) : Int) - 1 = ((M + 1 : Nat) : Int) by omega, show ((M + 2 : Nat) : Int) - 2 = (M : Int) by omega]
 simp only [Int.toNat_natCast]
 have hb := Dj B
 have g0 := hw.get (M + 2)
 have g1 := hw.get (M + 1)
 have g2 := hw.get M
 have b1 := hb.get (M + 1)
 have b2 := hb.get M
 have bt : (dg B).getD (M + 1) 0 ≠ 0 := by
  have := (Hh B).2 (List.length_pos_iff.1 (by omega))
  rw [hbN] at this
  exact this
 rw [A4 (by simp; try omega), A4 (by simp; try omega), A4 (by simp; try omega), A4 (by simp; try omega), A4 (by simp; try omega), A4 (by simp; try omega), A4 (by simp; try omega), A4 (by simp; try omega)]
 simp only [N5 (pre := pre) (post := post) (w := w) (i := M + 2) (by omega), N5 (pre := pre) (post := post) (w := w) (i := M + 1) (by omega), N5 (pre := pre) (post := post) (w := w) (i := M) (by omega)]
 simp only [Ab (x := (dg B).getD (M + 1) 0 * 10000) (by omega) (by omega), Ab (x := (dg B).getD (M + 1) 0 * 10000 + (dg B).getD M 0) (by omega) (by omega), Ab (x := w.getD (M + 2) 0 * 10000) (by omega) (by omega), Ab (x := w.getD (M + 2) 0 * 10000 + w.getD (M + 1) 0) (by omega) (by omega), Ab (x := (w.getD (M + 2) 0 * 10000 + w.getD (M + 1) 0) * 10000) (by omega) (by omega), Ab (x := (w.getD (M + 2) 0 * 10000 + w.getD (M + 1) 0) * 10000 + w.getD M 0) (by omega) (by omega)]
 rw [A4 (by simp only [decide_eq_true_eq]; omega)]
 have vw : (R : Int) = vl (w.take M) + 10000 ^ M * ((w.getD (M + 2) 0 * 10000 + w.getD (M + 1) 0) * 10000 + w.getD M 0) := by
  have t1 := B2 w (M + 2)
  have t2 := B2 w (M + 1)
  have t3 := B2 w M
  rw [Mz w (by omega), hv] at t1
  rw [t1, t2, t3, Bg, Bg]
  grind
 have vb : (B : Int) = vl ((dg B).take M) + 10000 ^ M * ((dg B).getD (M + 1) 0 * 10000 + (dg B).getD M 0) := by
  have t2 := B2 (dg B) (M + 1)
  have t3 := B2 (dg B) M
  rw [Mz (dg B) (by omega), B0] at t2
  rw [t2, t3, Bg]
  grind
 have lw := Gh (hw.take M)
 rw [List.length_take, Nat.min_eq_left (by omega)] at lw
 have lb := B5 (hb.take M)
 generalize hhigh : (w.getD (M + 2) 0 * 10000 + w.getD (M + 1) 0) * 10000 + w.getD M 0 = high at *
 generalize htop : (dg B).getD (M + 1) 0 * 10000 + (dg B).getD M 0 = top at *
 have htop0 : 0 < top := by omega
 have hh0 : 0 ≤ high ∧ high < 1000000000000 := by omega
 rw [Int.tdiv_eq_ediv_of_nonneg (by omega)]
 have hd0 : 0 ≤ high / top := Int.ediv_nonneg (by omega) (by omega)
 have hd1 : high / top ≤ high := Int.ediv_le_self _ (by omega)
 rw [Ab (x := high / top) (by omega) (by omega)]
 obtain ⟨q, hq⟩ : ∃ q : Nat, min (high / top) 9999 = (q : Int) := ⟨(min (high / top) 9999).toNat, by omega⟩
 have hql : q < 10000 := by omega
 have hqr : R / B ≤ q := by
  have h1 : (((R / B : Nat) : Int)) * top ≤ high := by
   refine B1m vw vb lw lb (Ex M) (Int.natCast_nonneg _) ?_
   have := Nat.div_mul_le_self R B
   rw [← Int.natCast_mul]; omega
  have h2 : ((R / B : Nat) : Int) ≤ high / top := by rw [Int.le_ediv_iff_mul_le htop0]; exact h1
  have h3 : R / B < 10000 := by rw [Nat.div_lt_iff_lt_mul hB]; omega
  omega
 rw [hq]
 obtain ⟨w1, c1, r1, r2, r3, r4, r5⟩ := Aka (n := n) (N := M + 2) (b := dg B) (pre := pre) (post := post) hb hbN hN (q := (q : Int)) (by omega) (T := (R : Int) - q * B) (k0 := fun z_5 z_6 z_7 z_8 z_9 z_10 z_11 => (
                       Ge n n z_5 z_6 z_7 z_8 z_9 z_10 z_11
                        (fun z_20 z_21 => (
                         some (z_20, z_21))))) n 0 0 w hw hwl (by omega) (by omega) (by omega) (by rw [List.drop_zero, B0, hv, Int.pow_zero, Int.one_mul, Int.zero_sub, Int.sub_eq_add_neg]) (by omega)
 obtain ⟨w2, s1, s2, s3, s4⟩ := Agh (n := n) (N := M + 2) (R := R) (B := B) (pre := pre) (post := post) hB hbN hN (by omega) (k0 := fun z_20 z_21 => (some (z_20, z_21))) n q c1 w1 r1 r2 r3 r4 hqr hql (by omega)
 refine ⟨w2, s1, s2, s3, ?_⟩
 rw [hbN] at r5 s4
 have r5 : F0 n n pre.length (M + 3) (dg B) ((M + 2 : Nat) : Int) (q : Int) 0 ((M + 3 : Nat) : Int) 0 (pre ++ w ++ post) _ = _ := r5
 rw [r5]
 exact s4

theorem B1e (y b : Nat) : Int.tdiv (y : Int) (b : Int) = ((y / b : Nat) : Int) := by
 rw [Int.tdiv_eq_ediv_of_nonneg (by omega), Int.natCast_ediv]

theorem B1d (y b : Nat) : Int.tmod (y : Int) (b : Int) = ((y % b : Nat) : Int) := by
 rw [Int.tmod_eq_emod_of_nonneg (by omega), Int.natCast_emod]

theorem Ael {o : List Int} {k i : Nat} {x : Int} (h : ∀ i, i < k + 1 → o.getD i 0 = 0) (hi : i < k) : (o.set k x).getD i 0 = 0 := by
 rw [List.getD_eq_getElem?_getD, List.getElem?_set_ne (by omega), ← List.getD_eq_getElem?_getD]
 exact h i (by omega)

theorem A8y {Q B R x q r y : Nat} (hy : x + 10000 * R = y) (hqr : B * q + r = y) {V : Int} (hV : (Q : Int) * B + R = V) : ((10000 * Q + q : Nat) : Int) * B + r = x + 10000 * V := by
 have : (B : Int) * q + r = x + 10000 * R := by
  rw [← A8g, hy, ← hqr, Int.natCast_add, Int.natCast_mul]
 rw [A0t, ← hV]
 grind

theorem Aks {α : Type} {n A B : Nat} (hB : 0 < B) (hB1 : B < 10000) (hlA : (dg A).length ≤ 1099511627000) {k0 : Int → List Int → Option α} :
  ∀ (k Q R : Nat) (o : List Int), k ≤ (dg A).length → R < B → o.length = (dg A).length → Lm o → (∀ i, i < k → o.getD i 0 = 0) → vl o = 10000 ^ k * (Q : Int) → (Q : Int) * B + R = vl ((dg A).drop k) →
  ∃ o', Lm o' ∧ o'.length = (dg A).length ∧ vl o' = ((A / B : Nat) : Int) ∧ Hy n (dg A) k (dg A) [(B : Int)] (R : Int) o k0 = k0 ((A % B : Nat) : Int) o'
 | 0, Q, R, o, h2, h3, h4, h5, h6, h7, h8 => by
  rw [Ao2]
  rw [List.drop_zero, B0] at h8
  have h8 : Q * B + R = A := by
   have : ((Q * B + R : Nat) : Int) = A := by rw [Int.natCast_add, Int.natCast_mul]; exact h8
   omega
  have h9 : A / B = Q := by rw [← h8, Nat.add_comm, Nat.add_mul_div_right _ _ hB, Nat.div_eq_of_lt h3, Nat.zero_add]
  have h10 : A % B = R := by rw [← h8, Nat.mul_add_mod_self_right, Nat.mod_eq_of_lt h3]
  exact ⟨o, h5, h4, by rw [h7, h9]; simp, by rw [h10]⟩
 | k + 1, Q, R, o, h2, h3, h4, h5, h6, h7, h8 => by
  rw [Ao0]
  unfold Ys
  dsimp only
  have hg := (Dj A).get k
  obtain ⟨x, hx⟩ : ∃ x : Nat, (dg A).getD k 0 = (x : Int) := ⟨((dg A).getD k 0).toNat, by omega⟩
  have hRx : vl ((dg A).drop k) = (x : Int) + 10000 * vl ((dg A).drop (k + 1)) := by
   rw [Jo (by omega), hx]
  simp only [Int.toNat_natCast]
  rw [A4 (by simp; try omega), A4 (by simp; omega), A4 (by simp; try omega), A4 (by simp; omega), A4 (by simp; try omega), A4 (by simp; try omega), A4 (by simp), hx]
  rw [Ab (x := (R : Int) * 10000) (by omega) (by omega), Ab (x := (R : Int) * 10000 + (x : Int)) (by omega) (by omega), show (R : Int) * 10000 + (x : Int) = ((x + 10000 * R : Nat) : Int) by omega]
  have e0 : ([(B : Int)]).getD 0 0 = (B : Int) := rfl
  rw [e0, B1e, B1d]
  have hq : (x + 10000 * R) / B < 10000 := by
   rw [Nat.div_lt_iff_lt_mul hB]; omega
  have hqr := Nat.div_add_mod (x + 10000 * R) B
  have hqm := Nat.mod_lt (x + 10000 * R) hB
  generalize (x + 10000 * R) / B = q at *
  generalize (x + 10000 * R) % B = r at *
  rw [Ab (x := (q : Int)) (by omega) (by omega)]
  refine Aks hB hB1 hlA k (10000 * Q + q) r _ (by omega) hqm (by simpa using h4) (h5.set _ (by omega)) (fun i hi => Ael h6 hi) ?_ ?_
  · rw [Ka _ (by omega), h7, h6 k (by omega), Bg, A0t]
    generalize (10000 : Int) ^ k = P
    grind
  · rw [hRx, ← h8]
    exact A8y rfl hqr rfl

theorem Aex {α : Type} {n A B M : Nat} (hM : (dg B).length = M + 2) (hla : (dg B).length ≤ (dg A).length) (hlA : (dg A).length ≤ 1099511627000) (hn : (dg A).length + 10040 ≤ n) {k0 : List Int → List Int → Option α} :
  ∀ (k m Q R : Nat) (o u : List Int), k < m → k ≤ (dg A).length - (M + 1) → R < B → o.length = (dg A).length - (M + 1) → Lm o → (∀ i, i < k → o.getD i 0 = 0) → vl o = 10000 ^ k * (Q : Int) →
  Lm u → u.length + k = (dg A).length + 1 → vl u = (R : Int) → (Q : Int) * B + R = vl ((dg A).drop k) →
  ∃ o' u', Lm o' ∧ o'.length = (dg A).length - (M + 1) ∧ vl o' = ((A / B : Nat) : Int) ∧ Lm u' ∧ u'.length = (dg A).length + 1 ∧ vl u' = ((A % B : Nat) : Int) ∧
   Ps n m ((dg B).length : Int) ((k : Int) - 1) (dg B) o ((dg A).take k ++ u) k0 = k0 o' u'
 | _, 0, _, _, _, _, h1, _, _, _, _, _, _, _, _, _, _ => by omega
 | 0, m + 1, Q, R, o, u, h1, h2, h3, h4, h5, h6, h7, u1, u2, u3, h8 => by
  rw [A1r]
  unfold M3
  dsimp only
  rw [Bool.cond_decide, if_neg (by omega)]
  rw [List.drop_zero, B0] at h8
  have h8 : Q * B + R = A := by
   have : ((Q * B + R : Nat) : Int) = A := by rw [Int.natCast_add, Int.natCast_mul]; exact h8
   omega
  have hB : 0 < B := by omega
  have h9 : A / B = Q := by rw [← h8, Nat.add_comm, Nat.add_mul_div_right _ _ hB, Nat.div_eq_of_lt h3, Nat.zero_add]
  have h10 : A % B = R := by rw [← h8, Nat.mul_add_mod_self_right, Nat.mod_eq_of_lt h3]
  exact ⟨o, u, h5, h4, by rw [h7, h9]; simp, u1, by omega, by rw [u3, h10], by simp⟩
 | k + 1, m + 1, Q, R, o, u, h1, h2, h3, h4, h5, h6, h7, u1, u2, u3, h8 => by
  rw [A1r]
  unfold M3
  dsimp only
  have hB : 0 < B := by omega
  rw [Bool.cond_decide, if_pos (by omega)]
  rw [show (((k + 1 : Nat) : Int) - 1) = (k : Int) by omega]
  have hg := (Dj A).get k
  obtain ⟨x, hx⟩ : ∃ x : Nat, (dg A).getD k 0 = (x : Int) := ⟨((dg A).getD k 0).toNat, by omega⟩
  have hRx : vl ((dg A).drop k) = (x : Int) + 10000 * vl ((dg A).drop (k + 1)) := by
   rw [Jo (by omega), hx]
  have htk : (dg A).take (k + 1) ++ u = (dg A).take k ++ ((x : Int) :: u) := by
   rw [List.take_succ_eq_append_getElem (by omega), List.append_assoc]
   congr 1
   rw [← hx, List.getD_eq_getElem?_getD, List.getElem?_eq_getElem (by omega)]
   rfl
  have hL : Lm ((x : Int) :: u) := Lm.cons (by omega) u1
  have hv : vl ((x : Int) :: u) = ((x + 10000 * R : Nat) : Int) := by rw [vl, u3, A8g]
  have hlt : x + 10000 * R < 10000 * B := by omega
  obtain ⟨w, post, hwp, hw, hp, hwl⟩ : ∃ w post, (x : Int) :: u = w ++ post ∧ Lm w ∧ Lm post ∧ w.length = M + 3 :=
   ⟨((x : Int) :: u).take (M + 3), ((x : Int) :: u).drop (M + 3), (List.take_append_drop _ _).symm, hL.take _, hL.drop _, by rw [List.length_take, List.length_cons]; omega⟩
  have hlp : w.length + post.length = u.length + 1 := by
   have := congrArg List.length hwp
   simpa using this.symm
  have hvp : vl post = 0 := by
   have e := hv
   rw [hwp, A0k, hwl] at e
   have h10 : B < 10000 ^ (M + 2) := Js (by omega)
   have h11 : ((x + 10000 * R : Nat) : Int) < 10000 ^ (M + 3) := by
    rw [Bg, ← pwc]; omega
   have h12 := B5 hw
   have h13 := B5 hp
   rcases Int.lt_or_eq_of_le h13 with h | h
   · exfalso
     have h14 : (10000 : Int) ^ (M + 3) * 1 ≤ 10000 ^ (M + 3) * vl post := Int.mul_le_mul_of_nonneg_left (by omega) (by have := Ex (M + 3); omega)
     generalize (10000 : Int) ^ (M + 3) * vl post = z at *
     generalize (10000 : Int) ^ (M + 3) = P at *
     omega
   · exact h.symm
  have hvw : vl w = ((x + 10000 * R : Nat) : Int) := by
   rw [← hv, hwp, A0k, hvp]; simp
  rw [htk, hwp, ← List.append_assoc]
  have hpl : ((dg A).take k).length = k := by rw [List.length_take]; omega
  obtain ⟨w', q1, q2, q3, q4⟩ := Asg (n := n) (pre := (dg A).take k) (post := post) hM (by omega) (by omega) hw hwl hvw hlt
  rw [hpl] at q4
  rw [Ab (x := (k : Int) + ((dg B).length : Int)) (by omega) (by omega), Ab (x := (k : Int) + ((dg B).length : Int) + 1) (by omega) (by omega)]
  rw [A4 (by simp only [Bool.and_eq_true, decide_eq_true_eq, List.length_append, hpl]; omega)]
  rw [show ((k : Int) + ((dg B).length : Int) + 1).toNat - (k : Int).toNat = M + 3 by omega]
  simp only [Int.toNat_natCast]
  rw [q4, A3]
  dsimp only
  have hqm := Nat.mod_lt (x + 10000 * R) hB
  have hqr := Nat.div_add_mod (x + 10000 * R) B
  have hq : (x + 10000 * R) / B < 10000 := by
   rw [Nat.div_lt_iff_lt_mul hB]; omega
  generalize (x + 10000 * R) / B = q at *
  generalize (x + 10000 * R) % B = r at *
  rw [A4 (by simp [hwl, q2]), A4 (by simp; try omega), A4 (by simp; try omega), Ab (x := (k : Int) - 1) (by omega) (by omega), List.append_assoc]
  refine Aex hM hla hlA hn k m (10000 * Q + q) r _ _ (by omega) (by omega) hqm (by simpa using h4) (h5.set _ (by omega)) (fun i hi => Ael h6 hi) ?_ (q1.app hp) ?_ ?_ ?_
  · rw [Ka _ (by omega), h7, h6 k (by omega), Bg, A0t]
    generalize (10000 : Int) ^ k = P
    grind
  · rw [List.length_append]; omega
  · rw [A0k, hvp, q3]; simp
  · rw [hRx, ← h8]
    exact A8y rfl hqr rfl

theorem A4p (n : Nat) {l : List Int} (h : l.length ≤ 17592186044416) : f145 n l = some l := by
 unfold f145
 cases l with
 | nil => rfl
 | cons x r =>
  unfold Aji
  rw [Bool.cond_eq_ite, if_neg (by simp), A4 (by rfl), A4 (by simp only [decide_eq_true_eq]; simp only [List.length_cons] at *; omega)]

theorem At0 (n : Nat) {l : List Int} (h : l.length ≤ 17592186044416) (h0 : l ≠ []) : M7 n l = some l := by
 unfold M7
 cases l with
 | nil => exact absurd rfl h0
 | cons x r => rw [A4 (by rfl), A4 (by simp only [decide_eq_true_eq]; simp only [List.length_cons] at *; omega)]

theorem B1l {n L A B : Nat} (hB : 0 < B) (hA : (dg A).length ≤ L) (hBl : (dg B).length ≤ L) (hL : L ≤ 1099511627000) (hn : L + 10040 ≤ n) : f184 n (dg A) (dg B) = some (dg (A / B), dg (A % B)) := by
 unfold f184
 rw [Ahc (by omega), A3, Bool.cond_decide]
 by_cases hlt : A < B
 · rw [if_pos (by rw [G4 (by omega)]; omega), A4p n (by omega), A3, Nat.div_eq_of_lt hlt, Nat.mod_eq_of_lt hlt, Cb]
 · rw [if_neg (by
    rcases Nat.lt_or_eq_of_le (Nat.le_of_not_lt hlt) with h | h
    · rw [G5 (by omega)]; omega
    · rw [Ii (by omega)]; omega)]
   have hmn : (dg B).length ≤ (dg A).length := Bx (by omega)
   have hb0 : 0 < (dg B).length := by rw [Dt (by omega)]; simp
   rw [Bool.cond_eq_ite]
   by_cases h1 : (dg B).length = 1
   · rw [if_pos (by simp [h1])]
     have hB1 : B < 10000 := by have := Js (n := B) (k := 1) (by omega); simpa using this
     have hBd : dg B = [(B : Int)] := by
      rw [Dt (by omega), Nat.mod_eq_of_lt hB1, Nat.div_eq_of_lt hB1, Cb]
     rw [A4 (by simp; try omega), show f201 n (dg A) = some (dg A) from rfl, A3, Ao1, A4 (by simp; try omega), hBd]
     simp only [Int.toNat_natCast]
     obtain ⟨o, q1, q2, q3, q4⟩ := Aks (n := n) (A := A) hB hB1 (by omega) (k0 := fun z_4 z_5 => (
           ob (f185 n z_5) fun r_6 =>
           ob (f160 n z_4) fun r_7 =>
           some (r_6, r_7))) (dg A).length 0 0 (List.replicate (dg A).length 0) (Nat.le_refl _) hB (by simp) (Lm.rep _) (fun i hi => by simp [List.getD_eq_getElem?_getD, List.getElem?_replicate, hi]) (by rw [Rh]; simp) (by simp [vl])
     have q4 : Hy n (dg A) (dg A).length (dg A) [(B : Int)] 0 _ _ = _ := q4
     have hm := Nat.mod_lt A hB
     rw [q4, Ve q1 (by omega) (by omega), A3, Awl (by omega) (by omega), A3, q3]
     rfl
   · rw [if_neg (by simp; omega)]
     obtain ⟨M, hM⟩ : ∃ M, (dg B).length = M + 2 := ⟨(dg B).length - 2, by omega⟩
     rw [At0 n (by omega) (List.length_pos_iff.1 (by omega)), A3, A4 (by simp; try omega)]
     rw [Ab (x := ((dg A).length : Int) - ((dg B).length : Int)) (by omega) (by omega), Ab (x := ((dg A).length : Int) - ((dg B).length : Int) + 1) (by omega) (by omega), A4 (by simp; try omega)]
     rw [show (((dg A).length : Int) - ((dg B).length : Int) + 1).toNat = (dg A).length - (M + 1) by omega]
     have hR0 := B5 ((Dj A).drop ((dg A).length - (M + 1)))
     obtain ⟨R, hR⟩ : ∃ R : Nat, vl ((dg A).drop ((dg A).length - (M + 1))) = (R : Int) := ⟨_, (Int.toNat_of_nonneg hR0).symm⟩
     have hRB : R < B := by
      have := Gh ((Dj A).drop ((dg A).length - (M + 1)))
      rw [List.length_drop, show (dg A).length - ((dg A).length - (M + 1)) = M + 1 by omega, hR] at this
      have h2 := (Hh B).ge (List.length_pos_iff.1 (by omega))
      rw [hM, B0] at h2
      have h2 : (10000 : Int) ^ (M + 1) ≤ B := h2
      generalize (10000 : Int) ^ (M + 1) = P at *
      omega
     obtain ⟨o, u, q1, q2, q3, q4, q5, q6, q7⟩ := Aex (n := n) (A := A) (B := B) hM hmn (by omega) (by omega) (k0 := fun z_10 z_11 => (
             ob (f185 n z_10) fun r_12 =>
             ob (f185 n z_11) fun r_13 =>
             some (r_12, r_13))) ((dg A).length - (M + 1)) n 0 R (List.replicate ((dg A).length - (M + 1)) 0) ((dg A).drop ((dg A).length - (M + 1)) ++ [0]) (by omega) (Nat.le_refl _) hRB (by simp) (Lm.rep _) (fun i hi => by simp [List.getD_eq_getElem?_getD, List.getElem?_replicate, hi]) (by rw [Rh]; simp) (((Dj A).drop _).app (Lm.cons (by omega) Lm.nil)) (by simp; omega) (by rw [U4, hR]; simp) (by rw [hR]; simp)
     rw [← List.append_assoc, List.take_append_drop] at q7
     rw [show ((dg A).length : Int) - ((dg B).length : Int) = (((dg A).length - (M + 1) : Nat) : Int) - 1 by omega, q7, Ve q1 (by omega) (by omega), A3, Ve q4 (by omega) (by omega), A3, q3, q6]
     rfl

theorem Axx {α : Type} {n L : Nat} (hL : L ≤ 1099511627000) (hn : L + 10040 ≤ n) {k0 : List Int → Option α} :
  ∀ (j m a b : Nat), b < 2 ^ j → 2 * j + 1 ≤ m → (dg a).length ≤ L → (dg b).length ≤ L → I0 n m (dg a) (dg b) k0 = k0 (dg (Nat.gcd b a)) := by
 have stop : ∀ (m a : Nat), 0 < m → I0 n m (dg a) (dg 0) k0 = k0 (dg (Nat.gcd 0 a)) := fun m a hm => by
  obtain ⟨m, rfl⟩ : ∃ m', m = m' + 1 := ⟨m - 1, by omega⟩
  rw [A70, Nat.gcd_zero_left, Cb]; rfl
 have step : ∀ (m a b : Nat), 0 < b → (dg a).length ≤ L → (dg b).length ≤ L → I0 n (m + 1) (dg a) (dg b) k0 = I0 n m (dg b) (dg (a % b)) k0 := fun m a b hb ha hbl => by
  rw [A70]
  unfold Yv
  have : 0 < (dg b).length := by rw [Dt (by omega)]; simp
  rw [Bool.cond_decide, if_pos (by omega), B1l hb ha hbl hL hn, A3]
 intro j
 induction j with
 | zero =>
  intro m a b h1 h2 h3 h4
  obtain rfl : b = 0 := by simpa using h1
  exact stop m a (by omega)
 | succ j ih =>
  intro m a b h1 h2 h3 h4
  rcases Nat.eq_zero_or_pos b with rfl | hb
  · exact stop m a (by omega)
  obtain ⟨m, rfl⟩ : ∃ m', m = m' + 2 := ⟨m - 2, by omega⟩
  have h5 : (dg (a % b)).length ≤ L := Nat.le_trans (Bx (Nat.le_of_lt (Nat.mod_lt a hb))) h4
  rw [step _ _ _ hb h3 h4, Nat.gcd_rec b a]
  rcases Nat.eq_zero_or_pos (a % b) with hr | hr
  · rw [hr]; exact stop _ _ (by omega)
  have h6 : (dg (b % (a % b))).length ≤ L := Nat.le_trans (Bx (Nat.le_of_lt (Nat.mod_lt b hr))) h5
  rw [step _ _ _ hr h4 h5, Nat.gcd_rec (a % b) b]
  exact ih m _ _ (A9q hb hr h1) (by omega) h5 h6

theorem B1k {n L a b : Nat} (hL : L ≤ 1099511627000) (hn : 28 * L + 10040 ≤ n) (ha : (dg a).length ≤ L) (hb : (dg b).length ≤ L) : f183 n (dg a) (dg b) = some (dg (Nat.gcd a b)) := by
 unfold f183
 rw [Axx hL (by omega) (14 * L) n a b (Aeo (Js hb)) (by omega) ha hb, Nat.gcd_comm]

abbrev Rt := Bool × List Int × List Int

abbrev Av : Rt := (false, [], [])

def Sm (x : Rt) : Prop := x.2.1.length ≤ 1048576 ∧ x.2.2.length ≤ 1048576

def Bd (x : Rt) : Prop := x.2.1.length ≤ 9223372036854775807 ∧ x.2.2.length ≤ 9223372036854775807

theorem Ag9 {n : Nat} {l : List Int} {B : Int} (hB : 0 ≤ B ∧ B ≤ 1048576) (hl : l.length ≤ 9223372036854775807) : f131 n l B = some (if (l.length : Int) ≤ B then B - l.length else -1) := by
 unfold f131
 rw [Ab (x := B - (l.length : Int)) (by omega) (by omega), Bool.cond_decide]
 by_cases h : (l.length : Int) ≤ B
 · rw [if_neg (by omega), if_pos h]
 · rw [if_pos (by omega), if_neg h]

theorem Amd {n : Nat} {x : Rt} {B : Int} (hB : 0 ≤ B ∧ B ≤ 1048576) (hx : Bd x) : ∃ r, f60 n x B = some r ∧ (r = -1 ∨ (0 ≤ r ∧ r ≤ B ∧ Sm x)) := by
 unfold f60
 rw [Ag9 hB hx.1, A3]
 by_cases h : (x.2.1.length : Int) ≤ B
 · rw [if_pos h, Bool.cond_decide, if_neg (by omega), Ag9 (by omega) hx.2, A3]
   by_cases h' : (x.2.2.length : Int) ≤ B - x.2.1.length
   · rw [if_pos h', Bool.cond_decide, if_neg (by omega)]
     exact ⟨_, rfl, .inr ⟨by omega, by omega, by unfold Sm; omega⟩⟩
   · rw [if_neg h', Bool.cond_decide, if_pos (by omega)]
     exact ⟨_, rfl, .inl rfl⟩
 · rw [if_neg h, Bool.cond_decide, if_pos (by omega)]
   exact ⟨_, rfl, .inl rfl⟩

theorem Ab3 {n : Nat} {l : List Rt} (hl : l.length ≤ 1048576) (hb : ∀ x ∈ l, Bd x) : ∀ (m i : Nat) (B : Int), 0 ≤ B ∧ B ≤ 1048576 → i ≤ l.length → l.length < i + m →
  ∃ r, A1o n m l B (i : Int) (fun z => some z) (fun z => some z) = some r ∧ (r = -1 ∨ (0 ≤ r ∧ r ≤ B ∧ ∀ x ∈ l.drop i, Sm x))
 | 0, i, B, hB, hi, hm => by omega
 | m + 1, i, B, hB, hi, hm => by
  rw [Asl]
  unfold A4f
  dsimp only
  rw [Bool.cond_decide]
  by_cases h : i < l.length
  · rw [if_pos (by omega), A4 (by simp; try omega)]
    simp only [Int.toNat_natCast]
    have hd : l.drop i = l.getD i Av :: l.drop (i + 1) := by
     rw [List.drop_eq_getElem_cons h, List.getD_eq_getElem?_getD, List.getElem?_eq_getElem h]; rfl
    have hmem : l.getD i Av ∈ l := List.mem_of_mem_drop (i := i) (by rw [hd]; simp)
    obtain ⟨r, h1, h2⟩ := Amd (n := n) hB (hb _ hmem)
    rw [h1, A3]
    rcases h2 with rfl | ⟨h2, h3, h4⟩
    · exact ⟨-1, rfl, .inl rfl⟩
    · rw [Bool.cond_decide, if_neg (by omega), Ab (x := (i : Int) + 1) (by omega) (by omega)]
      obtain ⟨r', q1, q2⟩ := Ab3 hl hb m (i + 1) r (by omega) (by omega) (by omega)
      refine ⟨r', q1, q2.imp id fun ⟨q3, q4, q5⟩ => ⟨q3, by omega, fun x hx => ?_⟩⟩
      rw [hd] at hx
      rcases List.mem_cons.1 hx with rfl | hx
      · exact h4
      · exact q5 x hx
  · rw [if_neg (by omega)]
    refine ⟨_, rfl, .inr ⟨hB.1, Int.le_refl _, fun x hx => ?_⟩⟩
    rw [List.drop_of_length_le (by omega)] at hx
    cases hx

theorem Azs {n : Nat} {l : List Rt} {B : Int} (hB : 0 ≤ B ∧ B ≤ 1048576) (hl : l.length ≤ 9223372036854775807) (hb : ∀ x ∈ l, Bd x) (hn : 1048577 ≤ n) : ∃ r, f18 n l B = some r ∧ (r = -1 ∨ (0 ≤ r ∧ r ≤ B ∧ l.length ≤ 1048576 ∧ ∀ x ∈ l, Sm x)) := by
 unfold f18
 rw [Ab (x := B - (l.length : Int)) (by omega) (by omega), Bool.cond_decide]
 by_cases h : (l.length : Int) ≤ B
 · rw [if_neg (by omega)]
   obtain ⟨r, h1, h2⟩ := Ab3 (n := n) (l := l) (by omega) hb n 0 (B - l.length) (by omega) (by omega) (by omega)
   exact ⟨r, h1, h2.imp id fun ⟨q1, q2, q3⟩ => ⟨q1, by omega, by omega, by simpa using q3⟩⟩
 · rw [if_pos (by omega)]
   exact ⟨_, rfl, .inl rfl⟩

theorem Ql {α : Type} {l z : List α} {i : Nat} {d : α} (hi : i < l.length) (hz : z.length = l.length - i) : (l.take i ++ z).set i (l.getD i d) = l.take (i + 1) ++ z.drop 1 := by
 rw [List.set_append_right _ _ (by rw [List.length_take]; omega), List.length_take, Nat.min_eq_left (by omega), Nat.sub_self]
 cases z with
 | nil => simp at hz; omega
 | cons y z => rw [List.set_cons_zero, List.take_succ_eq_append_getElem hi, List.getD_eq_getElem?_getD, List.getElem?_eq_getElem hi, List.append_assoc]; rfl

theorem A7g {α : Type} {n : Nat} {l : List Int} (hl : l.length ≤ 1048576) {k0 : List Int → Option α} : ∀ (m i : Nat) (z : List Int), z.length = l.length - i → i ≤ l.length → l.length < i + m → Vp n m l (i : Int) (l.take i ++ z) k0 = k0 l
 | 0, i, z, hz, hi, hm => by omega
 | m + 1, i, z, hz, hi, hm => by
  rw [Apj]
  unfold A02
  dsimp only
  rw [Bool.cond_decide]
  by_cases h : i < l.length
  · rw [if_pos (by omega)]
    simp only [Int.toNat_natCast]
    rw [A4 (by simp; try omega), A4 (by simp [hz]; omega), A4 (by simp [hz]; omega), Ql h hz, Ab (x := (i : Int) + 1) (by omega) (by omega)]
    exact A7g hl m (i + 1) _ (by simp [hz]; omega) (by omega) (by omega)
  · rw [if_neg (by omega)]
    obtain rfl : z = [] := List.eq_nil_of_length_eq_zero (by omega)
    rw [List.take_of_length_le (by omega), List.append_nil]

theorem Ag7 {n : Nat} {l : List Int} (hl : l.length ≤ 1048576) (hn : 1048577 ≤ n) : f132 n l = some l := by
 unfold f132
 rw [A4 (by simp; try omega)]
 have := A7g (n := n) hl (k0 := fun z_1 => some z_1) n 0 (List.replicate l.length 0) (by simp) (by omega) (by omega)
 simpa using this

theorem Amb {n : Nat} {x : Rt} (h : Sm x) (hn : 1048577 ≤ n) : f61 n x = some x := by
 unfold f61
 rw [Ag7 h.1 hn, A3, Ag7 h.2 hn, A3]

theorem Sm.get {l : List Rt} (h : ∀ x ∈ l, Sm x) (i : Nat) : Sm (l.getD i Av) := by
 rw [List.getD_eq_getElem?_getD]
 cases e : l[i]? with
 | none => exact ⟨by simp, by simp⟩
 | some x => exact h x (List.mem_of_getElem? e)

theorem Aat {α : Type} {n : Nat} {l : List Rt} (hl : l.length ≤ 1048576) (hs : ∀ x ∈ l, Sm x) (hn : 1048577 ≤ n) {k0 : List Rt → Option α} : ∀ (m i : Nat) (z : List Rt), z.length = l.length - i → i ≤ l.length → l.length < i + m → A1m n m l (i : Int) (l.take i ++ z) k0 = k0 l
 | 0, i, z, hz, hi, hm => by omega
 | m + 1, i, z, hz, hi, hm => by
  rw [Ash]
  unfold A4c
  dsimp only
  rw [Bool.cond_decide]
  by_cases h : i < l.length
  · rw [if_pos (by omega)]
    simp only [Int.toNat_natCast]
    rw [A4 (by simp; try omega), Amb (Sm.get hs i) hn, A3, A4 (by simp [hz]; omega), A4 (by simp [hz]; omega), Ql h hz, Ab (x := (i : Int) + 1) (by omega) (by omega)]
    exact Aat hl hs hn m (i + 1) _ (by simp [hz]; omega) (by omega) (by omega)
  · rw [if_neg (by omega)]
    obtain rfl : z = [] := List.eq_nil_of_length_eq_zero (by omega)
    rw [List.take_of_length_le (by omega), List.append_nil]

theorem A1l {n : Nat} {l : List Rt} (hl : l.length ≤ 1048576) (hs : ∀ x ∈ l, Sm x) (hn : 1048577 ≤ n) : f19 n l = some l := by
 unfold f19
 rw [A4 (by simp; try omega)]
 have := Aat (n := n) hl hs hn (k0 := fun z_1 => some z_1) n 0 (List.replicate l.length Av) (by simp) (by omega) (by omega)
 simpa using this

theorem A7e {α : Type} {n : Nat} {l : List Int} (hl : l.length ≤ 1048576) {k0 : Bool → Option α} {k1 : Unit → Option α} : ∀ (m i : Nat), i ≤ l.length → l.length < i + m → Vo n m l l (i : Int) k0 k1 = k1 ()
 | 0, i, hi, hm => by omega
 | m + 1, i, hi, hm => by
  rw [Apg]
  unfold Zz
  dsimp only
  rw [Bool.cond_decide]
  by_cases h : i < l.length
  · rw [if_pos (by omega), A4 (by simp; try omega), A4 (by simp; try omega), bne_self_eq_false, cond_false, Ab (x := (i : Int) + 1) (by omega) (by omega)]
    exact A7e hl m (i + 1) (by omega) (by omega)
  · rw [if_neg (by omega)]

theorem Ag5 {n : Nat} {l : List Int} (hl : l.length ≤ 1048576) (hn : 1048577 ≤ n) : f133 n l l = some true := by
 unfold f133
 rw [bne_self_eq_false, cond_false]
 exact A7e hl n 0 (by omega) (by omega)

theorem Am9 {n : Nat} {x : Rt} (h : Sm x) (hn : 1048577 ≤ n) : f62 n x x = some true := by
 unfold f62
 rw [Ag5 h.1 hn, Ag5 h.2 hn]
 simp

theorem Aaj {α : Type} {n : Nat} {l : List Rt} (hl : l.length ≤ 1048576) (hs : ∀ x ∈ l, Sm x) (hn : 1048577 ≤ n) {k0 : Bool → Option α} {k1 : Unit → Option α} : ∀ (m i : Nat), i ≤ l.length → l.length < i + m → A1g n m l l (i : Int) k0 k1 = k1 ()
 | 0, i, hi, hm => by omega
 | m + 1, i, hi, hm => by
  rw [Asc]
  unfold A44
  dsimp only
  rw [Bool.cond_decide]
  by_cases h : i < l.length
  · rw [if_pos (by omega), A4 (by simp; try omega), A4 (by simp; try omega)]
    simp only [Int.toNat_natCast]
    rw [Am9 (Sm.get hs i) hn, A3, Ab (x := (i : Int) + 1) (by omega) (by omega)]
    exact Aaj hl hs hn m (i + 1) (by omega) (by omega)
  · rw [if_neg (by omega)]

theorem Ss {n : Nat} {l : List Rt} (hl : l.length ≤ 1048576) (hs : ∀ x ∈ l, Sm x) (hn : 1048577 ≤ n) : f20 n l l = some true := by
 unfold f20
 rw [bne_self_eq_false, cond_false]
 exact Aaj hl hs hn n 0 (by omega) (by omega)

def Ga (x : Int) : Bool := decide (0 ≤ x ∧ x ≤ 9999)

def R6 (l : List Int) : Bool := decide (l.length ≤ 40) && l.all Ga && (l.isEmpty || decide (0 < l.getD (l.length - 1) 0))

theorem In {l : List Int} (h : R6 l = true) : Cn l ∧ l.length ≤ 40 := by
 unfold R6 at h
 simp only [Bool.and_eq_true, decide_eq_true_eq, Bool.or_eq_true, List.all_eq_true, List.isEmpty_iff] at h
 obtain ⟨⟨h1, h2⟩, h3⟩ := h
 refine ⟨⟨fun x hx => ?_, fun hn => ?_⟩, h1⟩
 · have := h2 x hx
   unfold Ga at this
   rw [decide_eq_true_eq] at this
   omega
 · rcases h3 with h3 | h3
   · exact absurd h3 hn
   · omega

theorem K8 {α : Type} {l : List α} {p : α → Bool} {i : Nat} (h : i < l.length) (d : α) : (l.drop i).all p = (p (l.getD i d) && (l.drop (i + 1)).all p) := by
 rw [List.drop_eq_getElem_cons h, List.all_cons, List.getD_eq_getElem?_getD, List.getElem?_eq_getElem h]; rfl

theorem N8 {n : Nat} {a lo hi : Int} : f65 n a lo hi = some (decide (lo ≤ a ∧ a ≤ hi)) := by
 unfold f65; by_cases h : lo ≤ a <;> simp [h]

theorem Sn {n : Nat} {a lo hi : Int} : f70 n a lo hi = some (decide (lo ≤ a ∧ a ≤ hi)) := by
 unfold f70; by_cases h : lo ≤ a <;> simp [h]

theorem A6t {α : Type} {n : Nat} {l : List Int} (hl : l.length ≤ 1048576) {k0 : Bool → Option α} {k1 : List Int → Option α} : ∀ (m i : Nat), i ≤ l.length → l.length < i + m → Nk n m l (i : Int) k0 k1 = if (l.drop i).all Ga = true then k1 l else k0 false
 | 0, i, hi, hm => by omega
 | m + 1, i, hi, hm => by
  rw [Ann]
  unfold Yf
  dsimp only
  rw [Bool.cond_decide]
  by_cases h : i < l.length
  · rw [if_pos (by omega), A4 (by simp; try omega)]
    simp only [Int.toNat_natCast]
    rw [N8, A3, K8 h 0]
    cases hp : Ga (l.getD i 0) with
    | true =>
     unfold Ga at hp
     rw [hp, Ab (x := (i : Int) + 1) (by omega) (by omega)]
     simp only [Bool.not_true, cond_false, Bool.true_and]
     exact A6t hl m (i + 1) (by omega) (by omega)
    | false =>
     unfold Ga at hp
     rw [hp]
     simp
  · rw [if_neg (by omega), List.drop_of_length_le (by omega)]
    rfl

theorem Afn {n : Nat} {l : List Int} (hn : 1048577 ≤ n) : f189 n l = some (R6 l) := by
 unfold f189 R6
 rw [Bool.cond_decide]
 by_cases h : l.length ≤ 4096
 · rw [if_neg (by omega)]
   have := A6t (n := n) (l := l) (by omega) (k0 := fun z_2 => some z_2) (k1 := fun z_3 => (
     bif (decide ((z_3.length : Int) ≤ 40)) then
      bif ((z_3.length : Int) == 0) then
       some true
      else
       gd (decide (0 ≤ (W ((z_3.length : Int) - 1))) && decide ((W ((z_3.length : Int) - 1)) < (z_3.length : Int))) (
        some (decide ((z_3.getD ((W ((z_3.length : Int) - 1)).toNat) 0) > 0)))
     else
      some false)) n 0 (by omega) (by omega)
   have this : Nk n n l 0 _ _ = _ := this
   rw [this, List.drop_zero]
   cases l.all Ga with
   | false => simp
   | true =>
    rw [if_pos rfl, Bool.cond_decide]
    by_cases h40 : l.length ≤ 40
    · rw [if_pos (by omega)]
      cases l with
      | nil => rfl
      | cons x r =>
       rw [Bool.cond_eq_ite, if_neg (by simp; omega), Ab (x := ((x :: r).length : Int) - 1) (by omega) (by omega), A4 (by simp; omega), show (((x :: r).length : Int) - 1).toNat = (x :: r).length - 1 by omega]
       have h41 : r.length ≤ 39 := by simpa using h40
       simp [h41]
    · rw [if_neg (by omega)]
      simp [h40]
 · rw [if_pos (by omega), decide_eq_false (by omega)]
   rfl

theorem R9 {n : Nat} {l : List Int} (hl : l.length ≤ 1048576) : ∀ (m i : Nat), i ≤ l.length → l.length < i + m → ∃ r, Fv n m l (l.length : Int) (i : Int) (fun z => some z) (fun (_ : Unit) => some (-1)) = some r ∧ decide (r ≥ 0) = !(l.drop i).all Ga
 | 0, i, hi, hm => by omega
 | m + 1, i, hi, hm => by
  rw [A80]
  unfold Kq
  dsimp only
  rw [Bool.cond_decide]
  by_cases h : i < l.length
  · rw [if_pos (by omega), A4 (by simp; try omega)]
    simp only [Int.toNat_natCast]
    have e : f211 n (l.getD i 0) = some (!Ga (l.getD i 0)) := by
     unfold f211 Ga
     rw [Bool.cond_decide]
     generalize l.getD i 0 = x
     by_cases h1 : x < 0
     · rw [if_pos h1, decide_eq_false (by omega)]; rfl
     · rw [if_neg h1]
       by_cases h2 : x ≤ 9999
       · rw [decide_eq_false (by omega), decide_eq_true (by omega)]; rfl
       · rw [decide_eq_true (by omega), decide_eq_false (by omega)]; rfl
    rw [e, A3, K8 h 0]
    cases hp : Ga (l.getD i 0) with
    | true =>
     rw [Ab (x := (i : Int) + 1) (by omega) (by omega)]
     simp only [Bool.not_true, cond_false, Bool.true_and]
     exact R9 hl m (i + 1) (by omega) (by omega)
    | false =>
     exact ⟨i, rfl, by simp⟩
  · rw [if_neg (by omega), List.drop_of_length_le (by omega)]
    exact ⟨-1, rfl, rfl⟩

theorem Wm {n : Nat} {l : List Int} (hl : l.length ≤ 1048576) (hn : 1048577 ≤ n) : Kt n l () = some (!l.all Ga) := by
 unfold Kt Xj
 obtain ⟨r, h1, h2⟩ := R9 (n := n) hl n 0 (by omega) (by omega)
 have h1 : Fv n n l (l.length : Int) 0 _ _ = _ := h1
 rw [h1, A3, h2, List.drop_zero]

theorem Afi {n : Nat} {l : List Int} (hn : 1048577 ≤ n) : f197 n l = some (R6 l) := by
 unfold f197 R6
 rw [Bool.cond_decide]
 by_cases h : l.length ≤ 40
 · rw [if_neg (by omega), decide_eq_true h, Bool.true_and, Bool.cond_decide]
   cases l with
   | nil => rw [if_neg (by simp), Wm (by omega) hn]; rfl
   | cons x r =>
    rw [if_pos (by simp), Ab (x := ((x :: r).length : Int) - 1) (by omega) (by omega), A4 (by simp; omega), show (((x :: r).length : Int) - 1).toNat = (x :: r).length - 1 by omega]
    rw [Wm (by omega) hn, A3, Bool.not_not, Bool.cond_eq_ite]
    by_cases hz : (x :: r).getD ((x :: r).length - 1) 0 = 0
    · rw [if_pos (by rw [hz]; rfl), hz]; simp
    · rw [if_neg (by rw [beq_iff_eq]; exact hz)]
      cases ha : (x :: r).all Ga with
      | false => rfl
      | true =>
       have : Ga ((x :: r).getD ((x :: r).length - 1) 0) = true := by
        rw [List.all_eq_true] at ha
        apply ha
        rw [List.getD_eq_getElem?_getD, List.getElem?_eq_getElem (by simp)]
        simp only [Option.getD_some]
        exact List.getElem_mem _
       unfold Ga at this
       rw [decide_eq_true_eq] at this
       rw [decide_eq_true (by omega)]
       simp
 · rw [if_pos (by omega), decide_eq_false h]; rfl

theorem Aha {α : Type} (l : List α) : ((l.length : Int) == 0) = l.isEmpty := by
 cases l with
 | nil => rfl
 | cons x r => rw [beq_eq_false_iff_ne.2 (by simp; omega)]; rfl

def C4 (x : Rt) : Bool := R6 x.2.1 && R6 x.2.2 && !x.2.2.isEmpty && !(x.2.1.isEmpty && x.1) && decide (Nat.gcd (vl x.2.1).toNat (vl x.2.2).toNat = 1)

theorem Aq3 : dg 1 = [1] := by rw [Dt (by omega), show 1 / 10000 = 0 from rfl, Cb]; rfl

theorem Aq6 {g : Nat} : (cm (g : Int) ((1 : Nat) : Int) == 0) = decide (g = 1) := by
 unfold cm
 by_cases h : g = 1
 · subst h; rfl
 · rw [decide_eq_false h]
   by_cases h2 : (g : Int) < (1 : Nat)
   · rw [if_pos h2]; rfl
   · rw [if_neg h2, if_neg (by omega)]; rfl

theorem Af3 {a b : Nat} (ha : (dg a).length ≤ 40) (hb : (dg b).length ≤ 40) : (dg (Nat.gcd a b)).length ≤ 40 := by
 rcases Nat.eq_zero_or_pos a with rfl | h
 · rw [Nat.gcd_zero_left]; exact hb
 · exact Nat.le_trans (Bx (Nat.gcd_le_left b h)) ha

theorem Ag1 {n : Nat} {x : Rt} (hn : 1048577 ≤ n) : f148 n x = some (C4 x) := by
 obtain ⟨s, a, b⟩ := x
 unfold f148 C4
 dsimp only
 simp only [Aha]
 rw [Afn hn, A3, Afn hn, A3]
 cases ha : R6 a with
 | false => rfl
 | true =>
  cases hb : R6 b with
  | false => rfl
  | true =>
   obtain ⟨ca, la⟩ := In ha
   obtain ⟨cb, lb⟩ := In hb
   have ea := H7 ca
   have eb := H7 cb
   have hg : f190 n a b = some (dg (Nat.gcd (vl a).toNat (vl b).toNat)) := by
    conv => lhs; rw [← ea, ← eb]
    exact Atl (L := 40) (by omega) (by omega) (by rw [ea]; exact la) (by rw [eb]; exact lb)
   have hgl := Af3 (a := (vl a).toNat) (b := (vl b).toNat) (by rw [ea]; exact la) (by rw [eb]; exact lb)
   rw [hg, A3, ← Aq3, A8e (by omega) (by omega), A3, Aq6]
   cases b <;> cases a <;> cases s <;> simp

theorem Afu {n : Nat} {x : Rt} (hn : 1048577 ≤ n) : f163 n x = some (C4 x) := by
 obtain ⟨s, a, b⟩ := x
 unfold f163 C4
 dsimp only
 rw [Afi hn, A3, Afi hn, A3]
 cases ha : R6 a with
 | false => rfl
 | true =>
  cases hb : R6 b with
  | false => rfl
  | true =>
   obtain ⟨ca, la⟩ := In ha
   obtain ⟨cb, lb⟩ := In hb
   have ea := H7 ca
   have eb := H7 cb
   have hg : f183 n a b = some (dg (Nat.gcd (vl a).toNat (vl b).toNat)) := by
    conv => lhs; rw [← ea, ← eb]
    exact B1k (L := 40) (by omega) (by omega) (by rw [ea]; exact la) (by rw [eb]; exact lb)
   have hgl := Af3 (a := (vl a).toNat) (b := (vl b).toNat) (by rw [ea]; exact la) (by rw [eb]; exact lb)
   rw [hg, A3, show f161 n = some [1] from rfl, A3, ← Aq3, Ahc (by omega), A3, Aq6, show f74 n (s, a, b) = some ((a.length : Int) == 0) from rfl, A3, Aha, Aha]
   cases b <;> cases a <;> cases s <;> simp

theorem Rb {n : Nat} {l : List Rt} (hl : l.length ≤ 1048576) (hn : 1048577 ≤ n) : ∀ (m i : Nat), i ≤ l.length → l.length < i + m → ∃ r, Fw n m l (l.length : Int) (i : Int) (fun z => some z) (fun (_ : Unit) => some (-1)) = some r ∧ decide (r ≥ 0) = !(l.drop i).all C4
 | 0, i, hi, hm => by omega
 | m + 1, i, hi, hm => by
  rw [A83]
  unfold L5
  dsimp only
  rw [Bool.cond_decide]
  by_cases h : i < l.length
  · rw [if_pos (by omega), A4 (by simp; try omega)]
    simp only [Int.toNat_natCast]
    have e : f162 n (l.getD i Av) = some (!C4 (l.getD i Av)) := by
     unfold f162
     rw [Afu hn, A3]
    rw [e, A3, K8 h Av]
    cases hp : C4 (l.getD i Av) with
    | true =>
     rw [Ab (x := (i : Int) + 1) (by omega) (by omega)]
     simp only [Bool.not_true, cond_false, Bool.true_and]
     exact Rb hl hn m (i + 1) (by omega) (by omega)
    | false => exact ⟨i, rfl, by simp⟩
  · rw [if_neg (by omega), List.drop_of_length_le (by omega)]
    exact ⟨-1, rfl, rfl⟩

theorem Ae5 {n : Nat} {l : List Rt} (hl : l.length ≤ 1048576) (hn : 1048577 ≤ n) : Qg n l () = some (!l.all C4) := by
 unfold Qg Z2
 obtain ⟨r, h1, h2⟩ := Rb (n := n) hl hn n 0 (by omega) (by omega)
 have h1 : Fw n n l (l.length : Int) 0 _ _ = _ := h1
 rw [h1, A3, h2, List.drop_zero]

theorem Ay3 {n : Nat} {l : List Rt} (hl : l.length ≤ 1048576) (hn : 1048577 ≤ n) : f94 n l = some (if l.all C4 = true then 0 else 1) := by
 unfold f94
 rw [Ae5 hl hn, A3]
 cases l.all C4 <;> rfl

def B1 (l : List Rt) : Bool := decide (1 ≤ l.length ∧ l.length ≤ 4) && l.all C4

theorem A7i {α : Type} {n : Nat} {l : List Rt} (hl : l.length ≤ 1048576) (hn : 1048577 ≤ n) {k0 : Bool → Option α} {k1 : List Rt → Option α} : ∀ (m i : Nat), i ≤ l.length → l.length < i + m → O0 n m l (i : Int) k0 k1 = if (l.drop i).all C4 = true then k1 l else k0 false
 | 0, i, hi, hm => by omega
 | m + 1, i, hi, hm => by
  rw [Apr]
  unfold A07
  dsimp only
  rw [Bool.cond_decide]
  by_cases h : i < l.length
  · rw [if_pos (by omega), A4 (by simp; try omega)]
    simp only [Int.toNat_natCast]
    rw [Ag1 hn, A3, K8 h Av]
    cases hp : C4 (l.getD i Av) with
    | true =>
     rw [Ab (x := (i : Int) + 1) (by omega) (by omega)]
     simp only [Bool.not_true, cond_false, Bool.true_and]
     exact A7i hl hn m (i + 1) (by omega) (by omega)
    | false => simp
  · rw [if_neg (by omega), List.drop_of_length_le (by omega)]
    rfl

theorem Agb {n : Nat} {l : List Rt} (hn : 1048577 ≤ n) : f114 n l = some (B1 l) := by
 unfold f114 B1
 rw [Bool.cond_decide]
 by_cases h : l.length ≤ 4096
 · rw [if_neg (by omega)]
   have h1 := A7i (n := n) (l := l) (by omega) hn (k0 := fun z_3 => some z_3) (k1 := fun z_4 => (
     ob (f65 n (z_4.length : Int) 1 4) fun r_5 =>
     some r_5)) n 0 (by omega) (by omega)
   have h1 : O0 n n l 0 _ _ = _ := h1
   rw [h1, List.drop_zero, N8, A3]
   have e : decide ((1 : Int) ≤ (l.length : Int) ∧ (l.length : Int) ≤ 4) = decide (1 ≤ l.length ∧ l.length ≤ 4) := by
    apply decide_eq_decide.2; omega
   rw [e]
   cases l.all C4 <;> simp
 · rw [if_pos (by omega), decide_eq_false (by omega)]; rfl

theorem A4z {n : Nat} {l : List Rt} (hn : 1048577 ≤ n) : f109 n l = some (B1 l) := by
 unfold f109 B1
 rw [Bool.cond_decide, Bool.cond_decide]
 by_cases h : 1 ≤ l.length ∧ l.length ≤ 4
 · rw [if_pos (by omega), if_pos (by omega), Ay3 (by omega) hn, decide_eq_true h, A3]
   cases l.all C4 <;> rfl
 · rw [decide_eq_false h]
   split
   · rw [if_neg (by omega)]; rfl
   · rfl

theorem A72 {n : Nat} {l : List Int} (hl : l.length ≤ 1048576) : ∀ (m i : Nat), i ≤ l.length → l.length < i + m → ∃ c, No n m 4096 l (l.length : Int) (i : Int) (fun z => some z) (fun (_ : Unit) => some 0) = some c ∧ ((c = 0 ∧ ∀ x ∈ l.drop i, x ≤ 4096) ∨ (c = 2 ∧ ∃ x ∈ l, 4096 < x))
 | 0, i, hi, hm => by omega
 | m + 1, i, hi, hm => by
  rw [Aoj]
  unfold Z9
  dsimp only
  rw [Bool.cond_decide]
  by_cases h : i < l.length
  · rw [if_pos (by omega), A4 (by simp; try omega)]
    simp only [Int.toNat_natCast]
    rw [Bool.cond_decide]
    by_cases hx : 4096 < l.getD i 0
    · rw [if_pos hx]
      refine ⟨2, rfl, .inr ⟨rfl, l.getD i 0, ?_, hx⟩⟩
      rw [List.getD_eq_getElem?_getD, List.getElem?_eq_getElem h]
      exact List.getElem_mem h
    · rw [if_neg hx, Ab (x := (i : Int) + 1) (by omega) (by omega)]
      obtain ⟨c, h1, h2⟩ := A72 (n := n) hl m (i + 1) (by omega) (by omega)
      refine ⟨c, h1, h2.imp (fun ⟨e, h3⟩ => ⟨e, fun x hx' => ?_⟩) (fun h => h)⟩
      rw [List.drop_eq_getElem_cons h] at hx'
      rcases List.mem_cons.1 hx' with rfl | hx'
      · rw [List.getD_eq_getElem?_getD, List.getElem?_eq_getElem h] at hx
        exact Int.not_lt.1 hx
      · exact h3 x hx'
  · rw [if_neg (by omega)]
    refine ⟨0, rfl, .inl ⟨rfl, fun x hx => ?_⟩⟩
    rw [List.drop_of_length_le (by omega)] at hx
    cases hx

theorem A9v {α : Type} {n : Nat} {L : List (List Rt)} (hl : L.length ≤ 1048576) {k0 : List Int → Option α} : ∀ (m i : Nat) (o : List Int), o.length ≤ i → i ≤ L.length → L.length < i + m → Sk n m L (L.length : Int) (i : Int) o k0 = k0 (o ++ (L.drop i).map fun v => (v.length : Int))
 | 0, i, o, ho, hi, hm => by omega
 | m + 1, i, o, ho, hi, hm => by
  rw [Arr]
  unfold A3h
  dsimp only
  rw [Bool.cond_decide]
  by_cases h : i < L.length
  · rw [if_pos (by omega), A4 (by simp; try omega), A4 (by simp only [decide_eq_true_eq]; omega)]
    simp only [Int.toNat_natCast]
    rw [Ab (x := (i : Int) + 1) (by omega) (by omega), show (i : Int) + 1 = ((i + 1 : Nat) : Int) from rfl, A9v hl m (i + 1) _ (by simp; omega) (by omega) (by omega), List.drop_eq_getElem_cons h, List.getD_eq_getElem?_getD, List.getElem?_eq_getElem h, List.append_assoc]
    rfl
  · rw [if_neg (by omega), List.drop_of_length_le (by omega)]
    simp

theorem Alj {n : Nat} {L : List (List Rt)} (hl : L.length ≤ 1048576) (hn : 1048577 ≤ n) : ∃ c, f98 n L = some c ∧ ((c = 0 ∧ ∀ v ∈ L, v.length ≤ 4096) ∨ (c = 2 ∧ ∃ v ∈ L, 4096 < v.length)) := by
 unfold f98
 have h1 := A9v (n := n) (L := L) hl (k0 := fun z_1 => (
   ob (f167 n 4096 z_1) fun r_2 =>
   some r_2)) n 0 [] (by simp) (by omega) (by omega)
 have h1 : Sk n n L (L.length : Int) 0 [] _ = _ := h1
 rw [h1, List.drop_zero, List.nil_append]
 unfold f167
 obtain ⟨c, h2, h3⟩ := A72 (n := n) (l := L.map fun v => (v.length : Int)) (by simpa using hl) n 0 (by omega) (by simp; omega)
 have h2 : No n n 4096 _ _ 0 _ _ = _ := h2
 refine ⟨c, by rw [h2, A3], h3.imp (fun ⟨e, h⟩ => ⟨e, fun v hv => by have := h _ (by rw [List.drop_zero]; exact List.mem_map.2 ⟨v, hv, rfl⟩); omega⟩) fun ⟨e, x, hx, hx'⟩ => ⟨e, ?_⟩⟩
 obtain ⟨v, hv, rfl⟩ := List.mem_map.1 hx
 exact ⟨v, hv, by omega⟩

theorem A66 {α : Type} {n : Nat} {L : List (List Rt)} (hl : L.length ≤ 1048576) (hn : 1048577 ≤ n) {k0 : Int → Option α} {k1 : List (List Rt) → Option α} : ∀ (m i : Nat), i ≤ L.length → L.length < i + m → Sl n m L L (L.length : Int) (i : Int) k0 k1 = if (L.drop i).all B1 = true then k1 L else k0 1
 | 0, i, hi, hm => by omega
 | m + 1, i, hi, hm => by
  rw [Art]
  unfold A3l
  dsimp only
  rw [Bool.cond_decide]
  by_cases h : i < L.length
  · rw [if_pos (by omega), A4 (by simp; try omega)]
    simp only [Int.toNat_natCast]
    rw [A4z hn, A3, K8 h []]
    cases hp : B1 (L.getD i []) with
    | true =>
     rw [Ab (x := (i : Int) + 1) (by omega) (by omega)]
     simp only [Bool.not_true, cond_false, Bool.true_and]
     exact A66 hl hn m (i + 1) (by omega) (by omega)
    | false => simp
  · rw [if_neg (by omega), List.drop_of_length_le (by omega)]
    rfl

theorem A18 {α : Type} {n : Nat} {L : List (List Rt)} (hl : L.length ≤ 1048576) {k0 : Int → Option α} {k1 : Unit → Option α} : ∀ (m i : Nat), i ≤ L.length → L.length < i + m → Ju n m L L (L.length : Int) (i : Int) k0 k1 = if ((L.drop i).all fun v => v.length == (L.getD 0 []).length) = true then k1 () else k0 8
 | 0, i, hi, hm => by omega
 | m + 1, i, hi, hm => by
  rw [Alq]
  unfold Xf
  dsimp only
  rw [Bool.cond_decide]
  by_cases h : i < L.length
  · rw [if_pos (by omega), A4 (by simp; try omega), A4 (by simp only [decide_eq_true_eq]; omega)]
    simp only [Int.toNat_natCast]
    rw [K8 h []]
    by_cases hp : (L.getD i []).length = (L.getD 0 []).length
    · rw [hp, Ab (x := (i : Int) + 1) (by omega) (by omega), bne_self_eq_false, cond_false, BEq.rfl, Bool.true_and]
      exact A18 hl m (i + 1) (by omega) (by omega)
    · rw [show (((L.getD i []).length : Int) != ((L.getD 0 []).length : Int)) = true by rw [bne_iff_ne]; omega, show ((L.getD i []).length == (L.getD 0 []).length) = false by rw [beq_eq_false_iff_ne]; exact hp]
      simp
  · rw [if_neg (by omega), List.drop_of_length_le (by omega)]
    rfl

theorem Ay5 {n : Nat} {L : List (List Rt)} (hl : L.length ≤ 1048576) (hn : 1048577 ≤ n) : ∃ c, f93 n L = some c ∧ (c == 0) = (L.all B1 && L.all fun v => v.length == (L.getD 0 []).length) := by
 unfold f93
 obtain ⟨c, h1, h2⟩ := Alj hl hn
 rw [h1, A3]
 rcases h2 with ⟨rfl, _⟩ | ⟨rfl, v, hv, hlv⟩
 · rw [bne_self_eq_false, cond_false]
   have h5 := A66 (n := n) (L := L) hl hn (k0 := fun z_3 => some z_3) (k1 := fun z_4 => (
     Ju n n z_4 z_4 (z_4.length : Int) 0
      (fun z_5 => (
       some z_5))
      (fun (_ : Unit) => (
       some 0)))) n 0 (by omega) (by omega)
   have h5 : Sl n n L L (L.length : Int) 0 _ _ = _ := h5
   rw [h5, List.drop_zero]
   cases L.all B1 with
   | false => exact ⟨1, rfl, rfl⟩
   | true =>
    have h6 := A18 (n := n) (L := L) hl (k0 := fun z_5 => some z_5) (k1 := fun (_ : Unit) => some 0) n 0 (by omega) (by omega)
    have h6 : Ju n n L L (L.length : Int) 0 _ _ = _ := h6
    rw [if_pos rfl, h6, List.drop_zero]
    cases L.all fun v => v.length == (L.getD 0 []).length with
    | false => exact ⟨8, rfl, rfl⟩
    | true => exact ⟨0, rfl, rfl⟩
 · refine ⟨2, rfl, ?_⟩
   have : L.all B1 = false := by
    rw [List.all_eq_false]
    refine ⟨v, hv, ?_⟩
    unfold B1
    rw [decide_eq_false (by omega)]
    simp
   rw [this]; rfl

def Wy (a b c : List Rt) : Bool := B1 a && B1 b && B1 c && (b.length == a.length) && (c.length == a.length)

theorem Alo {n : Nat} {a b c : List Rt} (hn : 1048577 ≤ n) : ∃ r, f93 n [a, b, c] = some r ∧ (r == 0) = Wy a b c := by
 obtain ⟨r, h1, h2⟩ := Ay5 (n := n) (L := [a, b, c]) (by simp) hn
 refine ⟨r, h1, ?_⟩
 rw [h2]
 unfold Wy
 simp only [List.all_cons, List.all_nil, Bool.and_true, List.getD_cons_zero, BEq.rfl, Bool.true_and]
 cases B1 a <;> cases B1 b <;> cases B1 c <;> simp

theorem B30 {a b : Nat} : ((a : Int) == (b : Int)) = (a == b) := by
 by_cases h : a = b
 · subst h; simp
 · rw [beq_eq_false_iff_ne.2 h, beq_eq_false_iff_ne.2 (by omega)]

def BdL (l : List Rt) : Prop := l.length ≤ 9223372036854775807 ∧ ∀ x ∈ l, Bd x

def J8 (l : List Rt) : Prop := l.length ≤ 1048576 ∧ ∀ x ∈ l, Sm x

theorem V9 {n : Nat} {l : List Rt} {B : Int} (hB : 0 ≤ B ∧ B ≤ 1048576) (hl : BdL l) (hn : 1048577 ≤ n) : ∃ r, f18 n l B = some r ∧ (r = -1 ∨ ((0 ≤ r ∧ r ≤ 1048576) ∧ J8 l)) := by
 obtain ⟨r, h1, h2⟩ := Azs (n := n) hB hl.1 hl.2 hn
 exact ⟨r, h1, h2.imp id fun ⟨q1, q2, q3, q4⟩ => ⟨⟨q1, by omega⟩, q3, q4⟩⟩

abbrev Nod := Int × Int × Int × Int

def Er (op : Int) : Int := if op = 3 ∨ op = 4 ∨ op = 5 ∨ op = 6 then 2 else if op = 7 ∨ op = 8 then 1 else 0

theorem Afb {n : Nat} {x : Nod} : f214 n x = some (Er x.1) := by
 unfold f214 Er
 simp only [Bool.cond_eq_ite, beq_iff_eq]
 grind

def A38 (x : Nod) : Prop := if x.1 = 1 then 0 ≤ x.2.2.2 ∧ x.2.2.2 ≤ 999999999 else if x.1 = 2 then 0 ≤ x.2.2.2 ∧ x.2.2.2 ≤ 3 else if x.1 = 8 then 0 ≤ x.2.2.2 ∧ x.2.2.2 ≤ 8 else x.2.2.2 = 0

instance (x : Nod) : Decidable (A38 x) := by unfold A38; infer_instance

theorem Avf {n : Nat} {x : Nod} : f231 n x = some (decide (A38 x)) := by
 unfold f231 A38
 simp only [Bool.cond_eq_ite, beq_iff_eq, Sn, A3]
 grind

theorem Avd {n : Nat} {h : Bool} {k i : Int} (hi : 0 ≤ i ∧ i < 1152921504606846976) : f232 n h k i = some (decide (if h = true then 0 ≤ k ∧ k ≤ i - 1 else k = 0)) := by
 unfold f232
 simp only [Sn, A3, Ab (x := i - 1) (by omega) (by omega), Bool.cond_eq_ite]
 cases h <;> grind

def Im (x : Nod) (i : Int) : Prop := (1 ≤ x.1 ∧ x.1 ≤ 8) ∧ A38 x ∧ (if Er x.1 > 0 then 0 ≤ x.2.1 ∧ x.2.1 ≤ i - 1 else x.2.1 = 0) ∧ (if Er x.1 > 1 then 0 ≤ x.2.2.1 ∧ x.2.2.1 ≤ i - 1 else x.2.2.1 = 0)

instance (x : Nod) (i : Int) : Decidable (Im x i) := by unfold Im; infer_instance

theorem Avi {n : Nat} {x : Nod} {i : Int} (hi : 0 ≤ i ∧ i < 1152921504606846976) : f225 n x i = some (decide (Im x i)) := by
 unfold f225 Im
 simp only [Sn, Avf, Afb, A3, Avd hi, Bool.cond_eq_ite, decide_eq_true_eq]
 grind

theorem A48 {n : Nat} {a : Int} : f206 n a = some (decide (3 ≤ a ∧ a ≤ 6)) := by
 unfold f206; simp [N8]

theorem A46 {n : Nat} {a : Int} : f208 n a = some (decide (a = 7 ∨ a = 8)) := by
 unfold f208; simp only [Bool.cond_eq_ite, beq_iff_eq]; grind

def Ib (x : Nod) (i : Int) : Prop := (1 ≤ x.1 ∧ x.1 ≤ 8) ∧ (if 3 ≤ x.1 ∧ x.1 ≤ 6 then (0 ≤ x.2.1 ∧ x.2.1 ≤ i - 1) ∧ (x.2.1 + 1 ≤ x.2.2.1 ∧ x.2.2.1 ≤ i - 1) ∧ x.2.2.2 = 0
 else if x.1 = 7 ∨ x.1 = 8 then x.2.1 = i - 1 ∧ 0 < i ∧ x.2.2.1 = 0 ∧ 0 ≤ x.2.2.2 ∧ x.2.2.2 ≤ (if x.1 = 8 then 8 else 0)
 else if x.1 = 2 then x.2.1 = 0 ∧ x.2.2.1 = 0 ∧ 0 ≤ x.2.2.2 ∧ x.2.2.2 ≤ 3 else x.2.1 = 0 ∧ x.2.2.1 = 0 ∧ 0 ≤ x.2.2.2 ∧ x.2.2.2 ≤ 999999999)

instance (x : Nod) (i : Int) : Decidable (Ib x i) := by unfold Ib; infer_instance

theorem Avr {n : Nat} {x : Nod} {i : Int} (hi : 0 ≤ i ∧ i < 1152921504606846976) : f205 n x i = some (decide (Ib x i)) := by
 unfold f205 Ib
 simp only [N8, A48, A46, Nu, A3, Ab (x := i - 1) (by omega) (by omega), Bool.cond_eq_ite, decide_eq_true_eq, beq_iff_eq]
 by_cases h0 : 1 ≤ x.1 ∧ x.1 ≤ 8
 · by_cases h1 : 3 ≤ x.1 ∧ x.1 ≤ 6
   · by_cases h2 : 0 ≤ x.2.1 ∧ x.2.1 ≤ i - 1
     · rw [Ab (x := x.2.1 + 1) (by omega) (by omega)]
       simp only [h0, h1, h2]
       by_cases h3 : x.2.1 + 1 ≤ x.2.2.1 ∧ x.2.2.1 ≤ i - 1
       · simp [h3]; rfl
       · simp [h3]
     · simp [h0, h1, h2]
   · by_cases h2 : x.1 = 7 ∨ x.1 = 8
     · have e : W (8 * (if (x.1 == 8) = true then 1 else 0)) = if x.1 = 8 then 8 else 0 := by
        by_cases h : x.1 = 8 <;> simp [h] <;> exact Ab (by omega) (by omega)
       simp only [beq_iff_eq] at e
       simp only [h0, h1, h2, e]
       grind
     · grind
 · simp [h0]

def Dg (bs : List Int) (x : Nod) (i : Int) : Prop := Ib x i ∧ (3 ≤ x.1 ∧ x.1 ≤ 6 → x.2.2.1 = i - 1 ∧ bs.getD x.2.2.1.toNat 0 = x.2.1 + 1)

instance (bs : List Int) (x : Nod) (i : Int) : Decidable (Dg bs x i) := by unfold Dg; infer_instance

def nb (bs : List Int) (x : Nod) (i : Int) : Int := if 3 ≤ x.1 ∧ x.1 ≤ 8 then bs.getD x.2.1.toNat 0 else i

def nd (ds : List Int) (x : Nod) : Int := if 3 ≤ x.1 ∧ x.1 ≤ 6 then 1 + max (ds.getD x.2.1.toNat 0) (ds.getD x.2.2.1.toNat 0) else if x.1 = 7 ∨ x.1 = 8 then 1 + ds.getD x.2.1.toNat 0 else 1

def En : List Int → List Int → List Nod → Option (List Int × List Int)
 | bs, ds, [] => some (bs, ds)
 | bs, ds, x :: r => if Dg bs x bs.length then En (bs ++ [nb bs x bs.length]) (ds ++ [nd ds x]) r else none

structure Mw (bs ds : List Int) : Prop where
 len : ds.length = bs.length
 small : bs.length ≤ 1048576
 b : ∀ j, j < bs.length → 0 ≤ bs.getD j 0 ∧ bs.getD j 0 ≤ j
 d : ∀ j, j < ds.length → 1 ≤ ds.getD j 0 ∧ ds.getD j 0 ≤ j + 1

theorem Kc {a : Int} {k : Nat} (h0 : 0 ≤ a) (h : a ≤ (k : Int) - 1) : a.toNat < k := by omega

theorem Mw.step {bs ds : List Int} (h : Mw bs ds) {x : Nod} (hx : Dg bs x bs.length) (hs : bs.length + 1 ≤ 1048576) : Mw (bs ++ [nb bs x bs.length]) (ds ++ [nd ds x]) := by
 obtain ⟨h1, h2, h3, h4⟩ := h
 have hn := hx.1
 unfold Ib at hn
 refine ⟨by simp [h1], by simpa using hs, fun j hj => ?_, fun j hj => ?_⟩
 · simp only [List.length_append, List.length_cons, List.length_nil] at hj
   rcases Nat.lt_or_ge j bs.length with hlt | hge
   · rw [Bl hlt]; exact h3 j hlt
   · obtain rfl : j = bs.length := by omega
     rw [By]
     unfold nb
     split
     · have ha : 0 ≤ x.2.1 ∧ x.2.1 ≤ (bs.length : Int) - 1 := by
        split at hn
        · omega
        · split at hn
          · omega
          · omega
       have := h3 _ (Kc ha.1 ha.2)
       omega
     · omega
 · simp only [List.length_append, List.length_cons, List.length_nil] at hj
   rcases Nat.lt_or_ge j ds.length with hlt | hge
   · rw [Bl hlt]; exact h4 j hlt
   · obtain rfl : j = ds.length := by omega
     rw [By]
     unfold nd
     split
     · rename_i h2'
       rw [if_pos h2'] at hn
       have ha := h4 _ (by rw [h1]; exact Kc (k := bs.length) (a := x.2.1) (by omega) (by omega))
       have hb := h4 _ (by rw [h1]; exact Kc (k := bs.length) (a := x.2.2.1) (by omega) (by omega))
       omega
     · rename_i h2'
       rw [if_neg h2'] at hn
       split
       · rename_i h3'
         rw [if_pos h3'] at hn
         have ha := h4 _ (by rw [h1]; exact Kc (k := bs.length) (a := x.2.1) (by omega) (by omega))
         omega
       · omega

theorem Ar7 {bs ds : List Int} (h : Mw bs ds) {x : Nod} : Dg bs x bs.length ↔ Im x bs.length ∧ (Er x.1 = 1 → x.2.1 = (bs.length : Int) - 1) ∧ (Er x.1 = 2 → x.2.2.1 = (bs.length : Int) - 1 ∧ x.2.1 = bs.getD x.2.2.1.toNat 0 - 1) := by
 obtain ⟨h1, h2, h3, h4⟩ := h
 unfold Dg Ib Im A38 Er
 by_cases h2 : 3 ≤ x.1 ∧ x.1 ≤ 6
 · have e : x.1 = 3 ∨ x.1 = 4 ∨ x.1 = 5 ∨ x.1 = 6 := by omega
   have e1 : ¬ x.1 = 1 := by omega
   have e2 : ¬ x.1 = 2 := by omega
   have e3 : ¬ x.1 = 8 := by omega
   simp only [if_pos e, if_pos h2, if_neg e1, if_neg e2, if_neg e3]
   constructor
   · rintro ⟨⟨ha, hb, hc, hd⟩, hf⟩
     obtain ⟨hf1, hf2⟩ := hf h2
     refine ⟨⟨ha, hd, by rw [if_pos (by decide)]; omega, by rw [if_pos (by decide)]; omega⟩, fun h => absurd h (by decide), fun _ => by omega⟩
   · rintro ⟨⟨ha, hb, hc, hd⟩, _, hf⟩
     obtain ⟨hf1, hf2⟩ := hf trivial
     rw [if_pos (by decide)] at hc hd
     have := h3 _ (Kc hd.1 hd.2)
     refine ⟨⟨ha, hc, ?_, hb⟩, fun _ => ⟨hf1, by omega⟩⟩
     omega
 · have e : ¬ (x.1 = 3 ∨ x.1 = 4 ∨ x.1 = 5 ∨ x.1 = 6) := by omega
   simp only [if_neg e, if_neg h2]
   by_cases h5 : x.1 = 7 ∨ x.1 = 8
   · have e1 : ¬ x.1 = 1 := by omega
     have e2 : ¬ x.1 = 2 := by omega
     simp only [if_pos h5, if_neg e1, if_neg e2]
     constructor
     · rintro ⟨⟨ha, hb, hc, hd, hn⟩, _⟩
       refine ⟨⟨ha, ?_, by rw [if_pos (by decide)]; omega, by rw [if_neg (by decide)]; exact hd⟩, fun _ => hb, fun h => absurd h (by decide)⟩
       split <;> (split at hn <;> omega)
     · rintro ⟨⟨ha, hb, hc, hd⟩, hf, _⟩
       rw [if_pos (by decide)] at hc
       rw [if_neg (by decide)] at hd
       have hf := hf trivial
       refine ⟨⟨ha, hf, by omega, hd, ?_⟩, fun h => absurd h h2⟩
       split at hb <;> split <;> omega
   · have e3 : ¬ x.1 = 8 := by omega
     simp only [if_neg h5, if_neg e3]
     constructor
     · rintro ⟨⟨ha, hb⟩, _⟩
       refine ⟨⟨ha, ?_, ?_, ?_⟩, fun h => absurd h (by decide), fun h => absurd h (by decide)⟩
       · have hb1 : x.1 = 1 ∨ x.1 = 2 := by omega
         rcases hb1 with h1' | h1'
         · rw [if_neg (by omega)] at hb; rw [if_pos h1']; omega
         · rw [if_pos h1'] at hb; rw [if_neg (by omega), if_pos h1']; omega
       · rw [if_neg (by decide)]; split at hb <;> omega
       · rw [if_neg (by decide)]; split at hb <;> omega
     · rintro ⟨⟨ha, hb, hc, hd⟩, _, _⟩
       rw [if_neg (by decide)] at hc hd
       refine ⟨⟨ha, ?_⟩, fun h => absurd h h2⟩
       have hb1 : x.1 = 1 ∨ x.1 = 2 := by omega
       rcases hb1 with h1' | h1'
       · rw [if_pos h1'] at hb; rw [if_neg (by omega)]; omega
       · rw [if_neg (by omega), if_pos h1'] at hb; rw [if_pos h1']; omega

theorem Ade {α : Type} {n k : Nat} {e : List Nod} {bs ds : List Int} {f} {k0 : Bool → Option α} {k1} (hi : Mw bs ds) (hk : bs.length = k) (hlt : k < e.length) (hN : e.length ≤ 1048576) :
  Kr n e (e.length : Int) (k : Int) bs ds f k0 k1 = if Dg bs (e.getD k (0, 0, 0, 0)) (bs.length : Nat) then f e (e.length : Int) ((k + 1 : Nat) : Int) (bs ++ [nb bs (e.getD k (0, 0, 0, 0)) (bs.length : Nat)]) (ds ++ [nd ds (e.getD k (0, 0, 0, 0))]) else k0 false := by
 have hp := Ar7 hi (x := e.getD k (0, 0, 0, 0))
 obtain ⟨h1, h2, h3, h4⟩ := hi
 subst hk
 unfold Kr
 generalize hx : e.getD bs.length (0, 0, 0, 0) = x at hp ⊢
 rw [Bool.cond_decide, if_pos (by omega), A4 (by simp; omega)]
 simp only [Int.toNat_natCast, hx, Avi (x := x) (i := (bs.length : Int)) (by omega), Afb, A3, Ab (x := (bs.length : Int) - 1) (by omega) (by omega), Ab (x := (bs.length : Int) + 1) (by omega) (by omega)]
 by_cases hpl : Im x bs.length
 · simp only [hpl, decide_true, Bool.not_true, cond_false]
   have hpl' := hpl
   unfold Im at hpl'
   by_cases k1' : Er x.1 = 1
   · have hop : x.1 = 7 ∨ x.1 = 8 := by unfold Er at k1'; grind
     simp only [k1', beq_self_eq_true, cond_true]
     rw [if_pos (by rw [k1']; decide)] at hpl'
     by_cases ha : x.2.1 = (bs.length : Int) - 1
     · have hok : Dg bs x bs.length := hp.2 ⟨hpl, fun _ => ha, fun h => by omega⟩
       have hd := h4 x.2.1.toNat (by omega)
       rw [if_pos hok]
       have e1 : (x.2.1 != (bs.length : Int) - 1) = false := by simp [ha]
       rw [e1, cond_false, A4 (by simp; omega), A4 (by simp; omega), A4 (by simp; omega), A4 (by simp; omega), A4 (by simp; omega), A4 (by simp; omega), Ab (by omega) (by omega)]
       have e2 : nb bs x bs.length = bs.getD x.2.1.toNat 0 := by unfold nb; rw [if_pos (by omega)]
       have e3 : nd ds x = ds.getD x.2.1.toNat 0 + 1 := by unfold nd; rw [if_neg (by omega), if_pos hop]; omega
       rw [e2, e3]
       rfl
     · have hok : ¬ Dg bs x bs.length := fun h => ha ((hp.1 h).2.1 k1')
       rw [if_neg hok]
       have e1 : (x.2.1 != (bs.length : Int) - 1) = true := by simp [ha]
       rw [e1, cond_true]
   · have e0 : (Er x.1 == 1) = false := by simp [k1']
     rw [e0, cond_false]
     by_cases k2' : Er x.1 = 2
     · have hop : 3 ≤ x.1 ∧ x.1 ≤ 6 := by unfold Er at k2'; grind
       simp only [k2', beq_self_eq_true, cond_true]
       rw [if_pos (by rw [k2']; decide), if_pos (by rw [k2']; decide)] at hpl'
       by_cases hb : x.2.2.1 = (bs.length : Int) - 1
       · have e1 : (x.2.2.1 != (bs.length : Int) - 1) = false := by simp [hb]
         have hbb := h3 x.2.2.1.toNat (by omega)
         rw [e1, cond_false, A4 (by simp; omega), A4 (by simp; omega), Ab (x := bs.getD x.2.2.1.toNat 0 - 1) (by omega) (by omega)]
         by_cases ha : x.2.1 = bs.getD x.2.2.1.toNat 0 - 1
         · have hok : Dg bs x bs.length := hp.2 ⟨hpl, fun h => by omega, fun _ => ⟨hb, ha⟩⟩
           have hd := h4 x.2.1.toNat (by omega)
           have hd' := h4 x.2.2.1.toNat (by omega)
           rw [if_pos hok]
           have e1 : (x.2.1 != bs.getD x.2.2.1.toNat 0 - 1) = false := by rw [← ha]; simp
           rw [e1, cond_false, A4 (by simp; omega), A4 (by simp; omega), A4 (by simp; omega), A4 (by simp; omega), A4 (by simp; omega), A4 (by simp; omega), A4 (by simp; omega), A4 (by simp; omega), Ab (by omega) (by omega)]
           have e2 : nb bs x bs.length = bs.getD x.2.1.toNat 0 := by unfold nb; rw [if_pos (by omega)]
           have e3 : nd ds x = max (ds.getD x.2.1.toNat 0) (ds.getD x.2.2.1.toNat 0) + 1 := by unfold nd; rw [if_pos hop]; omega
           rw [e2, e3]
           rfl
         · have hok : ¬ Dg bs x bs.length := fun h => ha ((hp.1 h).2.2 k2').2
           rw [if_neg hok]
           have e1 : (x.2.1 != bs.getD x.2.2.1.toNat 0 - 1) = true := by simp only [bne_iff_ne, ne_eq]; exact ha
           rw [e1, cond_true]
       · have hok : ¬ Dg bs x bs.length := fun h => hb ((hp.1 h).2.2 k2').1
         rw [if_neg hok]
         have e1 : (x.2.2.1 != (bs.length : Int) - 1) = true := by simp [hb]
         rw [e1, cond_true]
     · have e0 : (Er x.1 == 2) = false := by simp [k2']
       rw [e0, cond_false]
       have hok : Dg bs x bs.length := hp.2 ⟨hpl, fun h => absurd h k1', fun h => absurd h k2'⟩
       have hop : x.1 = 1 ∨ x.1 = 2 := by unfold Er at k1' k2'; grind
       rw [if_pos hok, A4 (by simp; omega), A4 (by simp; omega)]
       have e2 : nb bs x bs.length = bs.length := by unfold nb; rw [if_neg (by omega)]
       have e3 : nd ds x = 1 := by unfold nd; rw [if_neg (by omega), if_neg (by omega)]
       rw [e2, e3]
       rfl
 · have hok : ¬ Dg bs x bs.length := fun h => hpl (hp.1 h).1
   rw [if_neg hok]
   simp only [hpl, decide_false, Bool.not_false, cond_true]

theorem Oi : ∀ (r : List Nod) (bs ds bs' ds' : List Int), Mw bs ds → bs.length + r.length ≤ 1048576 → En bs ds r = some (bs', ds') → Mw bs' ds' ∧ bs'.length = bs.length + r.length ∧ (∀ j, j < bs.length → bs'.getD j 0 = bs.getD j 0) ∧ (∀ j, j < ds.length → ds'.getD j 0 = ds.getD j 0)
 | [], bs, ds, bs', ds', hi, _, h => by
  simp only [En, Option.some.injEq, Prod.mk.injEq] at h
  obtain ⟨rfl, rfl⟩ := h
  exact ⟨hi, by simp, fun _ _ => rfl, fun _ _ => rfl⟩
 | x :: r, bs, ds, bs', ds', hi, hl, h => by
  simp only [En] at h
  simp only [List.length_cons] at hl
  split at h
  · rename_i hok
    obtain ⟨h1, h2, h3, h4⟩ := Oi r _ _ bs' ds' (hi.step hok (by omega)) (by simp; omega) h
    refine ⟨h1, by rw [h2]; simp; omega, fun j hj => ?_, fun j hj => ?_⟩
    · rw [h3 j (by simp; omega), Bl hj]
    · rw [h4 j (by simp; omega), Bl hj]
  · cases h

theorem A0o {α : Type} {n : Nat} {e : List Nod} (hN : e.length ≤ 1048576) {k0 : Bool → Option α} {k1 : List Int → List Int → Option α} : ∀ (r : List Nod) (m : Nat) (bs ds : List Int), Mw bs ds → e.drop bs.length = r → bs.length + r.length = e.length → r.length < m →
  Uw n m e (e.length : Int) (bs.length : Int) bs ds k0 k1 = match En bs ds r with
   | some (bs', ds') => k1 bs' ds'
   | none => k0 false
 | [], m + 1, bs, ds, hi, hd, hl, hm => by
  rw [A6g]
  unfold Kr
  simp only [List.length_nil] at hl
  rw [Bool.cond_decide, if_neg (by omega)]
  rfl
 | x :: r, m + 1, bs, ds, hi, hd, hl, hm => by
  obtain ⟨hx, hlt, hd'⟩ := Ck (d := (0, 0, 0, 0)) hd
  rw [A6g, Ade hi rfl hlt hN, hx]
  simp only [En]
  by_cases hok : Dg bs x bs.length
  · rw [if_pos hok, if_pos hok]
    have ih := A0o hN r m (bs ++ [nb bs x bs.length]) (ds ++ [nd ds x]) (hi.step hok (by omega)) (by simpa using hd') (by simp; simp at hl; omega) (by simp at hm; omega) (n := n) (k0 := k0) (k1 := k1)
    simp only [List.length_append, List.length_cons, List.length_nil, Nat.zero_add] at ih
    exact ih
  · rw [if_neg hok, if_neg hok]

theorem Ahb : Mw [] [] := ⟨rfl, by simp, fun j hj => by simp at hj, fun j hj => by simp at hj⟩

theorem Avn {n : Nat} {e : List Nod} (hN : e.length ≤ 1048576) (hn : 1048577 ≤ n) : f212 n e = some (match En [] [] e with
  | some (bs, ds) => (bs, ds, true)
  | none => ([], [], false)) := by
 unfold f212
 have := A0o (n := n) hN (k0 := fun z => some ([], [], z)) (k1 := fun a b => some (a, b, true)) e n [] [] Ahb rfl (by simp) (by omega)
 simp only [List.length_nil] at this
 refine Eq.trans this ?_
 cases En [] [] e with
 | none => rfl
 | some p => rfl

theorem A9k {α : Type} {n : Nat} {l : List Int} (hN : l.length ≤ 1048576) {k0 : Int → Option α} : ∀ (r : List Int) (m k : Nat) (a : Int), l.drop k = r → k + r.length = l.length → r.length < m → Uv n m l a (k : Int) k0 = k0 (r.foldl max a)
 | [], m + 1, k, a, hd, hl, hm => by
  rw [A6e]
  unfold P4
  simp only [List.length_nil] at hl
  rw [Bool.cond_decide, if_neg (by omega)]
  rfl
 | x :: r, m + 1, k, a, hd, hl, hm => by
  obtain ⟨hx, hlt, hd'⟩ := Ck (d := 0) hd
  rw [A6e]
  unfold P4
  rw [Bool.cond_decide, if_pos (by omega), A4 (by simp; omega), Ab (by omega) (by omega)]
  simp only [Int.toNat_natCast, hx]
  simp only [List.length_cons] at hl hm
  exact A9k hN r m (k + 1) (max a x) hd' (by omega) (by omega)

theorem Avl {n : Nat} {l : List Int} (hN : l.length ≤ 1048576) (hn : 1048577 ≤ n) (h0 : 0 < l.length) : ∃ r, f213 n l = some r ∧ (r ≤ 12 ↔ ∀ x ∈ l, x ≤ 12) := by
 cases l with
 | nil => cases h0
 | cons x r =>
  refine ⟨r.foldl max x, ?_, ?_⟩
  · unfold f213
    rw [Bool.cond_decide, if_neg (by simp only [List.length_cons]; omega), A4 (by simp)]
    have := A9k (n := n) (k0 := fun z => some z) hN r n 1 x rfl (by simp only [List.length_cons]; omega) (by simp at hN; omega)
    exact this
  · rw [A9r]
    simp

def If (e : List Nod) : Prop := (1 ≤ e.length ∧ e.length ≤ 60) ∧ ∃ bs ds, En [] [] e = some (bs, ds) ∧ bs.getD (e.length - 1) 0 = 0 ∧ ∀ x ∈ ds, x ≤ 12

open Classical in
theorem Avu {n : Nat} {e : List Nod} (hN : e.length ≤ 1048576) (hn : 1048577 ≤ n) : f198 n e = some (decide (If e)) := by
 unfold f198
 rw [Sn, A3]
 by_cases h1 : (1 : Int) ≤ (e.length : Int) ∧ (e.length : Int) ≤ 60
 · simp only [h1, and_self, decide_true, Bool.not_true, cond_false]
   rw [Avn hN hn, A3]
   cases hr : En [] [] e with
   | none =>
    have : ¬ If e := fun ⟨_, _, _, h, _⟩ => by rw [hr] at h; cases h
    simp [this]
   | some p =>
    obtain ⟨bs, ds⟩ := p
    obtain ⟨hi, hl, _, _⟩ := Oi e [] [] bs ds Ahb (by simpa using hN) hr
    simp only [List.length_nil, Nat.zero_add] at hl
    simp only [cond_true]
    rw [Ab (x := (e.length : Int) - 1) (by omega) (by omega), A4 (by simp; omega)]
    have et : ((e.length : Int) - 1).toNat = e.length - 1 := by omega
    rw [et]
    by_cases hb : bs.getD (e.length - 1) 0 = 0
    · obtain ⟨r, hr1, hr2⟩ := Avl (n := n) (l := ds) (by rw [hi.len]; omega) hn (by rw [hi.len]; omega)
      rw [hr1, A3]
      have e1 : (bs.getD (e.length - 1) 0 == 0) = true := by rw [hb]; rfl
      rw [e1, cond_true]
      congr 1
      rw [decide_eq_decide, hr2]
      constructor
      · intro h; exact ⟨by omega, bs, ds, hr, hb, h⟩
      · rintro ⟨_, bs', ds', h, _, h'⟩
        rw [hr] at h
        simp only [Option.some.injEq, Prod.mk.injEq] at h
        obtain ⟨rfl, rfl⟩ := h
        exact h'
    · have e1 : (bs.getD (e.length - 1) 0 == 0) = false := by simp only [beq_eq_false_iff_ne, ne_eq]; exact hb
      have : ¬ If e := fun ⟨_, bs', ds', h, hb', _⟩ => by
       rw [hr] at h
       simp only [Option.some.injEq, Prod.mk.injEq] at h
       obtain ⟨rfl, rfl⟩ := h
       exact hb hb'
      rw [e1, cond_false]
      simp [this]
 · have : ¬ If e := fun ⟨h, _⟩ => h1 (by omega)
   simp only [h1, decide_false, Bool.not_false, cond_true, this]

theorem Ahf {α : Type} {n : Nat} {e : List Nod} {bs : List Int} (hN : e.length ≤ 1048576)
  (hb : ∀ j, j < bs.length → Dg (bs.take j) (e.getD j (0, 0, 0, 0)) j ∧ bs.getD j 0 = nb (bs.take j) (e.getD j (0, 0, 0, 0)) j) (hl : bs.length ≤ e.length) {k0 : Int → Option α} :
  ∀ (j m : Nat), j < bs.length → j < m → Uz n m (j : Int) e (e.getD j (0, 0, 0, 0)).1 (e.getD j (0, 0, 0, 0)).2.1 (e.getD j (0, 0, 0, 0)).2.2.1 (e.getD j (0, 0, 0, 0)).2.2.2 k0 = k0 (bs.getD j 0) := by
 intro j
 induction j using Nat.strongRecOn with
 | ind j ih =>
  intro m hj hm
  obtain ⟨m, rfl⟩ : ∃ m', m = m' + 1 := ⟨m - 1, by omega⟩
  obtain ⟨hok, hv⟩ := hb j hj
  rw [Amy]
  unfold Xv
  rw [hv]
  generalize hx : e.getD j (0, 0, 0, 0) = x at hok hv ⊢
  have hn := hok.1
  unfold Ib at hn
  simp only [A48, A46, A3, Bool.cond_decide]
  by_cases h1 : 3 ≤ x.1 ∧ x.1 ≤ 8
  · have ha : 0 ≤ x.2.1 ∧ x.2.1 ≤ (j : Int) - 1 := by
     split at hn
     · omega
     · split at hn
       · omega
       · omega
    have hlt : x.2.1.toNat < j := by omega
    have e1 : nb (bs.take j) x j = bs.getD x.2.1.toNat 0 := by
     unfold nb
     rw [if_pos h1]
     simp [List.getD_eq_getElem?_getD, List.getElem?_take, hlt]
    have key := ih x.2.1.toNat hlt m (by omega) (by omega)
    have et : ((x.2.1.toNat : Nat) : Int) = x.2.1 := by omega
    rw [et] at key
    rw [e1, A4 (by simp; omega)]
    by_cases h2 : 3 ≤ x.1 ∧ x.1 ≤ 6
    · rw [if_pos h2]; exact key
    · rw [if_neg h2, if_pos (by omega)]; exact key
  · rw [if_neg (by omega), if_neg (by omega)]
    unfold nb
    rw [if_neg h1]

def Ran (e : List Nod) (bs : List Int) : Prop := ∀ j, j < bs.length → Dg (bs.take j) (e.getD j (0, 0, 0, 0)) j ∧ bs.getD j 0 = nb (bs.take j) (e.getD j (0, 0, 0, 0)) j

theorem Aff {n : Nat} {e : List Nod} {bs : List Int} (hN : e.length ≤ 1048576) (hn : 1048577 ≤ n) (hb : Ran e bs) (hl : bs.length ≤ e.length) {j : Int} (hj : 0 ≤ j ∧ j < (bs.length : Int)) : f207 n e j = some (bs.getD j.toNat 0) := by
 unfold f207
 rw [A4 (by simp; omega)]
 have := Ahf (n := n) hN hb hl (k0 := fun z => some z) j.toNat n (by omega) (by omega)
 rw [show ((j.toNat : Nat) : Int) = j by omega] at this
 exact this

theorem Ran.step {e : List Nod} {bs : List Int} (h : Ran e bs) {x : Nod} (hx : e.getD bs.length (0, 0, 0, 0) = x) (hok : Dg bs x bs.length) : Ran e (bs ++ [nb bs x bs.length]) := by
 intro j hj
 simp only [List.length_append, List.length_cons, List.length_nil] at hj
 rcases Nat.lt_or_ge j bs.length with hlt | hge
 · rw [Bl hlt, List.take_append_of_le_length (by omega)]
   exact h j hlt
 · obtain rfl : j = bs.length := by omega
   rw [By, List.take_left', hx]
   · exact ⟨hok, rfl⟩
   · rfl

theorem A5m {α : Type} {n : Nat} {e : List Nod} (hN : e.length ≤ 1048576) (hn : 1048577 ≤ n) {k0 : Bool → Option α} {k1 : List Nod → Option α} : ∀ (r : List Nod) (m : Nat) (bs ds : List Int), Mw bs ds → Ran e bs → (∀ x ∈ ds, x ≤ 12) → e.drop bs.length = r → bs.length + r.length = e.length → r.length < m →
  V8 n m (bs.length : Int) e ds k0 k1 = match En bs ds r with
   | some (_, ds') => if ∀ x ∈ ds', x ≤ 12 then k1 e else k0 false
   | none => k0 false
 | [], m + 1, bs, ds, hi, hr, h12, hd, hl, hm => by
  rw [A6q]
  unfold Kw
  simp only [List.length_nil] at hl
  rw [Bool.cond_decide, if_neg (by omega)]
  simp only [En]
  rw [if_pos h12]
 | x :: r, m + 1, bs, ds, hi, hr, h12, hd, hl, hm => by
  obtain ⟨hx, hlt, hd'⟩ := Ck (d := (0, 0, 0, 0)) hd
  have hi0 := hi
  obtain ⟨h1, h2, h3, h4⟩ := hi
  simp only [List.length_cons] at hl hm
  have round : ∀ f : Int → List Nod → List Int → Option α, Kw n (bs.length : Int) e ds f k0 k1 = if Dg bs x bs.length ∧ nd ds x ≤ 12 then f ((bs.length + 1 : Nat) : Int) e (ds ++ [nd ds x]) else k0 false := by
   intro f
   unfold Kw
   rw [Bool.cond_decide, if_pos (by omega), A4 (by simp; omega)]
   simp only [Int.toNat_natCast, hx, Avr (x := x) (i := (bs.length : Int)) (by omega), A48, A46, A3, Ab (x := (bs.length : Int) - 1) (by omega) (by omega), Ab (x := (bs.length : Int) + 1) (by omega) (by omega)]
   by_cases hno : Ib x bs.length
   · simp only [hno, decide_true, Bool.not_true, cond_false]
     have hno' := hno
     unfold Ib at hno'
     by_cases h5 : 3 ≤ x.1 ∧ x.1 ≤ 6
     · have h6 : ¬ (x.1 = 7 ∨ x.1 = 8) := by omega
       rw [if_pos h5] at hno'
       simp only [h5, h6, and_self, decide_true, cond_true, decide_false, cond_false]
       by_cases hb : x.2.2.1 = (bs.length : Int) - 1
       · have e1 : (x.2.2.1 != (bs.length : Int) - 1) = false := by simp [hb]
         rw [e1, cond_false, Aff hN hn hr (by omega) (by omega), A3, Ab (x := x.2.1 + 1) (by omega) (by omega)]
         by_cases ha : bs.getD x.2.2.1.toNat 0 = x.2.1 + 1
         · have hok : Dg bs x bs.length := ⟨hno, fun _ => ⟨hb, ha⟩⟩
           have e1 : (bs.getD x.2.2.1.toNat 0 != x.2.1 + 1) = false := by rw [ha]; simp
           have da := h4 x.2.1.toNat (by omega)
           have db := h4 x.2.2.1.toNat (by omega)
           have e3 : nd ds x = 1 + max (ds.getD x.2.1.toNat 0) (ds.getD x.2.2.1.toNat 0) := by unfold nd; rw [if_pos h5]
           rw [e1, cond_false, A4 (by simp; omega), A4 (by simp; omega), A4 (by simp; omega), A4 (by simp; omega), Ab (by omega) (by omega), ← e3, Bool.cond_decide]
           by_cases h12' : nd ds x ≤ 12
           · rw [if_neg (by omega), A4 (by simp; omega), if_pos ⟨hok, h12'⟩]
             rfl
           · rw [if_pos (by omega), if_neg (fun h => h12' h.2)]
         · have hok : ¬ Dg bs x bs.length := fun h => ha (h.2 h5).2
           have e1 : (bs.getD x.2.2.1.toNat 0 != x.2.1 + 1) = true := by simp only [bne_iff_ne, ne_eq]; exact ha
           rw [e1, cond_true, if_neg (fun h => hok h.1)]
       · have hok : ¬ Dg bs x bs.length := fun h => hb (h.2 h5).1
         have e1 : (x.2.2.1 != (bs.length : Int) - 1) = true := by simp [hb]
         rw [e1, cond_true, if_neg (fun h => hok h.1)]
     · rw [if_neg h5] at hno'
       have hok : Dg bs x bs.length := ⟨hno, fun h => absurd h h5⟩
       simp only [h5, decide_false, cond_false]
       by_cases h6 : x.1 = 7 ∨ x.1 = 8
       · rw [if_pos h6] at hno'
         have da := h4 x.2.1.toNat (by omega)
         have e3 : nd ds x = 1 + ds.getD x.2.1.toNat 0 := by unfold nd; rw [if_neg h5, if_pos h6]
         simp only [h6, decide_true, cond_true]
         rw [A4 (by simp; omega), A4 (by simp; omega), Ab (by omega) (by omega), ← e3, Bool.cond_decide]
         by_cases h12' : nd ds x ≤ 12
         · rw [if_neg (by omega), A4 (by simp; omega), if_pos ⟨hok, h12'⟩]
           rfl
         · rw [if_pos (by omega), if_neg (fun h => h12' h.2)]
       · simp only [h6, decide_false, cond_false]
         have e3 : nd ds x = 1 := by unfold nd; rw [if_neg h5, if_neg h6]
         rw [Bool.cond_decide, if_neg (by omega), A4 (by simp; omega), if_pos ⟨hok, by omega⟩, e3]
         rfl
   · have hok : ¬ Dg bs x bs.length := fun h => hno h.1
     simp only [hno, decide_false, Bool.not_false, cond_true]
     rw [if_neg (fun h => hok h.1)]
  rw [A6q, round]
  simp only [En]
  by_cases hok : Dg bs x bs.length
  · rw [if_pos hok]
    by_cases h12' : nd ds x ≤ 12
    · rw [if_pos ⟨hok, h12'⟩]
      have ih := A5m hN hn r m (bs ++ [nb bs x bs.length]) (ds ++ [nd ds x]) (hi0.step hok (by omega)) (hr.step hx hok) (fun y hy => by
       rcases List.mem_append.1 hy with hy | hy
       · exact h12 y hy
       · simp only [List.mem_singleton] at hy; subst hy; exact h12') (by simpa using hd') (by simp; omega) (by omega) (k0 := k0) (k1 := k1)
      simp only [List.length_append, List.length_cons, List.length_nil, Nat.zero_add] at ih
      exact ih
    · rw [if_neg (fun h => h12' h.2)]
      cases hrun : En (bs ++ [nb bs x bs.length]) (ds ++ [nd ds x]) r with
      | none => rfl
      | some p =>
       obtain ⟨bs', ds'⟩ := p
       obtain ⟨q1, q2, _, q4⟩ := Oi r _ _ bs' ds' (hi0.step hok (by omega)) (by simp; omega) hrun
       have hlt' : ds.length < ds'.length := by rw [q1.len, q2]; simp; omega
       have hv := q4 ds.length (by simp)
       rw [By] at hv
       have hm' : nd ds x ∈ ds' := by
        rw [← hv]
        simp only [List.getD_eq_getElem?_getD, List.getElem?_eq_getElem hlt', Option.getD_some]
        exact List.getElem_mem hlt'
       simp only
       rw [if_neg (fun h => h12' (h _ hm'))]
  · rw [if_neg hok, if_neg (fun h => hok h.1)]

theorem A95 {e : List Nod} : ∀ (r : List Nod) (bs ds bs' ds' : List Int), Ran e bs → e.drop bs.length = r → En bs ds r = some (bs', ds') → Ran e bs'
 | [], bs, ds, bs', ds', hr, _, h => by
  simp only [En, Option.some.injEq, Prod.mk.injEq] at h
  obtain ⟨rfl, _⟩ := h
  exact hr
 | x :: r, bs, ds, bs', ds', hr, hd, h => by
  obtain ⟨hx, _, hd'⟩ := Ck (d := (0, 0, 0, 0)) hd
  simp only [En] at h
  split at h
  · rename_i hok
    exact A95 r _ _ bs' ds' (hr.step hx hok) (by simpa using hd') h
  · cases h

open Classical in
theorem Aw1 {n : Nat} {e : List Nod} (hN : e.length ≤ 1048576) (hn : 1048577 ≤ n) : f191 n e = some (decide (If e)) := by
 unfold f191
 rw [N8, A3]
 by_cases h1 : (1 : Int) ≤ (e.length : Int) ∧ (e.length : Int) ≤ 60
 · simp only [h1, and_self, decide_true, Bool.not_true, cond_false]
   have := A5m (n := n) hN hn (k0 := fun z => some z) (k1 := fun z => ob (f207 n z (W ((z.length : Int) - 1))) fun r => some (r == 0)) e n [] [] Ahb (fun j hj => by simp at hj) (by simp) rfl (by simp) (by omega)
   simp only [List.length_nil] at this
   refine Eq.trans this ?_
   cases hr : En [] [] e with
   | none =>
    have : ¬ If e := fun ⟨_, _, _, h, _⟩ => by rw [hr] at h; cases h
    simp [this]
   | some p =>
    obtain ⟨bs, ds⟩ := p
    obtain ⟨hi, hl, _, _⟩ := Oi e [] [] bs ds Ahb (by simpa using hN) hr
    simp only [List.length_nil, Nat.zero_add] at hl
    have hran := A95 e [] [] bs ds (fun j hj => by simp at hj) rfl hr
    simp only
    by_cases h12 : ∀ x ∈ ds, x ≤ 12
    · rw [if_pos h12, Ab (by omega) (by omega), Aff hN hn hran (by omega) (by omega), A3]
      have et : ((e.length : Int) - 1).toNat = e.length - 1 := by omega
      rw [et]
      by_cases hb : bs.getD (e.length - 1) 0 = 0
      · have : If e := ⟨by omega, bs, ds, hr, hb, h12⟩
        rw [hb]
        simp [this]
      · have : ¬ If e := fun ⟨_, bs', ds', h, hb', _⟩ => by
         rw [hr] at h
         simp only [Option.some.injEq, Prod.mk.injEq] at h
         obtain ⟨rfl, rfl⟩ := h
         exact hb hb'
        have e1 : (bs.getD (e.length - 1) 0 == 0) = false := by simp only [beq_eq_false_iff_ne, ne_eq]; exact hb
        rw [e1]
        simp [this]
    · have : ¬ If e := fun ⟨_, bs', ds', h, _, h'⟩ => by
       rw [hr] at h
       simp only [Option.some.injEq, Prod.mk.injEq] at h
       obtain ⟨rfl, rfl⟩ := h
       exact h12 h'
      rw [if_neg h12]
      simp [this]
 · have : ¬ If e := fun ⟨h, _⟩ => h1 (by omega)
   simp only [h1, decide_false, Bool.not_false, cond_true, this]

theorem A7m {α : Type} {n : Nat} {e : List Nod} (hN : e.length ≤ 1048576) {k0 : List Nod → Option α} : ∀ (r : List Nod) (m : Nat) (out : List Nod), e.drop out.length = r → out.length + r.length = e.length → r.length < m →
  (∀ j, j < out.length → out.getD j (0, 0, 0, 0) = e.getD j (0, 0, 0, 0)) → Nt n m e (out.length : Int) (out ++ List.replicate r.length (0, 0, 0, 0)) k0 = k0 e
 | [], m + 1, out, hd, hl, hm, ho => by
  rw [A79]
  unfold Q6
  simp only [List.length_nil] at hl
  rw [Bool.cond_decide, if_neg (by omega)]
  congr 1
  simp only [List.length_nil, List.replicate_zero, List.append_nil]
  apply List.ext_getElem (by omega)
  intro j h1 h2
  have := ho j h1
  simpa [List.getD_eq_getElem?_getD, h1, h2] using this
 | x :: r, m + 1, out, hd, hl, hm, ho => by
  obtain ⟨hx, hlt, hd'⟩ := Ck (d := (0, 0, 0, 0)) hd
  rw [A79]
  unfold Q6
  simp only [List.length_cons] at hl hm
  rw [Bool.cond_decide, if_pos (by omega), A4 (by simp; omega), Ab (by omega) (by omega)]
  simp only [Int.toNat_natCast, hx]
  unfold f193
  rw [A3, A4 (by simp; omega), A4 (by simp)]
  have es : (out ++ List.replicate (x :: r).length (0, 0, 0, 0)).set out.length x = (out ++ [x]) ++ List.replicate r.length (0, 0, 0, 0) := by
   rw [List.set_append_right _ _ (Nat.le_refl _)]
   simp [List.replicate_succ]
  rw [es]
  have ih := A7m hN r m (out ++ [x]) (by simpa using hd') (by simp; omega) (by omega) (fun j hj => by
   simp only [List.length_append, List.length_cons, List.length_nil] at hj
   rcases Nat.lt_or_ge j out.length with h | h
   · rw [Bl h]; exact ho j h
   · obtain rfl : j = out.length := by omega
     rw [By, hx]) (n := n) (k0 := k0)
  simp only [List.length_append, List.length_cons, List.length_nil, Nat.zero_add] at ih
  exact ih

theorem Ayg {n : Nat} {e : List Nod} (hN : e.length ≤ 1048576) (hn : 1048577 ≤ n) : f83 n e = some e := by
 unfold f83 f152
 rw [A4 (by simp; omega)]
 have := A7m (n := n) hN (k0 := fun z => some z) e n [] rfl (by simp) (by omega) (fun j hj => by simp at hj)
 simp only [List.length_nil, List.nil_append] at this
 rw [Int.toNat_natCast]
 have this : Nt n n e 0 (List.replicate e.length (0, 0, 0, 0)) (fun z => some z) = some e := this
 rw [this]
 rfl

theorem Anc {n : Nat} {x : Nod} : f195 n x x = some true := by unfold f195; simp

theorem A5p {α : Type} {n : Nat} {e : List Nod} (hN : e.length ≤ 1048576) {k0 : Bool → Option α} {k1 : Unit → Option α} : ∀ (m k : Nat), k ≤ e.length → e.length - k < m → Nr n m e e (k : Int) k0 k1 = k1 ()
 | m + 1, k, hk, hm => by
  rw [Aoy]
  unfold Zl
  by_cases h : k < e.length
  · rw [Bool.cond_decide, if_pos (by omega), A4 (by simp; omega), Ab (by omega) (by omega)]
    simp only [Anc, A3, Bool.not_true, cond_false]
    rw [A4 (by simp; omega)]
    exact A5p hN m (k + 1) (by omega) (by omega)
  · rw [Bool.cond_decide, if_neg (by omega)]

theorem Ayc {n : Nat} {e : List Nod} (hN : e.length ≤ 1048576) (hn : 1048577 ≤ n) : f86 n e e = some true := by
 unfold f86 f154
 simp only [bne_self_eq_false, cond_false]
 have := A5p (n := n) hN (k0 := fun z => some z) (k1 := fun _ => some true) n 0 (by omega) (by omega)
 have this : Nr n n e e 0 (fun z => some z) (fun _ => some true) = some true := this
 rw [this]
 rfl

theorem Aym {n : Nat} {e : List Nod} (hlen : e.length ≤ 9223372036854775807) : f80 n e 1048576 = some (if e.length ≤ 1048576 then 1048576 - (e.length : Int) else -1) := by
 unfold f80 f149
 rw [Ab (by omega) (by omega)]
 by_cases h : e.length ≤ 1048576
 · rw [Bool.cond_decide, if_neg (by omega), A3, Bool.cond_decide, if_neg (by omega), if_pos h]
 · rw [Bool.cond_decide, if_pos (by omega), A3, if_neg h]
   rfl

theorem Jq {x : Rt} (h : C4 x = true) : ∃ (s : Bool) (N D : Nat), x = (s, dg N, dg D) ∧ (dg N).length ≤ 40 ∧ (dg D).length ≤ 40 ∧ 0 < D ∧ (s = true → 0 < N) := by
 obtain ⟨s, a, b⟩ := x
 unfold C4 at h
 simp only [Bool.and_eq_true, Bool.not_eq_true', decide_eq_true_eq] at h
 obtain ⟨⟨⟨⟨ha, hb⟩, hb0⟩, hs⟩, _⟩ := h
 obtain ⟨ca, la⟩ := In ha
 obtain ⟨cb, lb⟩ := In hb
 have hb0 : b ≠ [] := by rintro rfl; cases hb0
 refine ⟨s, (vl a).toNat, (vl b).toNat, by rw [H7 ca, H7 cb], by rw [H7 ca]; exact la, by rw [H7 cb]; exact lb, ?_, fun e => ?_⟩
 · have := cb.pos hb0; omega
 · have ha0 : a ≠ [] := by rintro rfl; rw [e] at hs; cases hs
   have := ca.pos ha0; omega

theorem Tx {m : Nat} : (((dg m).length : Int) == 0) = decide (m = 0) := by
 rw [Aha]
 by_cases h : m = 0
 · subst h; rw [Cb]; rfl
 · rw [decide_eq_false h, Dt h]; rfl

theorem Aq2 {m : Nat} : decide (((dg m).length : Int) > 0) = decide (m ≠ 0) := by
 by_cases h : m = 0
 · subst h; rw [Cb]; rfl
 · rw [Dt h]; simp [h]

def gtP (sa : Bool) (p : Nat) (sb : Bool) (q : Nat) : Bool := decide ((if sb = true then -(q : Int) else q) < (if sa = true then -(p : Int) else p))

def Gu (a b : Rt) : Bool := gtP a.1 ((vl a.2.1).toNat * (vl b.2.2).toNat) b.1 ((vl b.2.1).toNat * (vl a.2.2).toNat)

theorem A3a {n x d : Nat} {s : Bool} (hd : 0 < d) (hx : (dg x).length ≤ 100) (hdl : (dg d).length ≤ 100) (hn : 1048577 ≤ n) : ∃ y, f177 n s (dg x) (dg d) = some y ∧ f135 n y = some (if x = 0 then 0 else if s = true then -1 else 1) := by
 have hg : 0 < Nat.gcd x d := Nat.gcd_pos_of_pos_right x hd
 have hgl : (dg (Nat.gcd x d)).length ≤ 100 := Nat.le_trans (Bx (Nat.gcd_le_right x hd)) hdl
 have hz : (x / Nat.gcd x d = 0) ↔ x = 0 := by
  constructor
  · intro h
    have := Nat.div_mul_cancel (Nat.gcd_dvd_left x d)
    rw [h, Nat.zero_mul] at this
    exact this.symm
  · intro h; rw [h, Nat.zero_div]
 unfold f177
 rw [Atl (L := 100) (by omega) (by omega) hx hdl, A3, Agv (L := 100) hg hx hgl (by omega) (by omega), A3, Agv (L := 100) hg hdl hgl (by omega) (by omega), A3]
 dsimp only
 rw [Aq2]
 generalize hq : x / Nat.gcd x d = q at *
 cases s with
 | true =>
  refine ⟨_, rfl, ?_⟩
  unfold f135 f116
  rw [A3]
  dsimp only
  rw [Tx]
  by_cases h : x = 0
  · rw [decide_eq_true (hz.2 h), if_pos h]; rfl
  · rw [decide_eq_false (fun e => h (hz.1 e)), if_neg h, decide_eq_true (show q ≠ 0 from fun e => h (hz.1 e))]; rfl
 | false =>
  refine ⟨_, rfl, ?_⟩
  unfold f135 f116
  rw [A3]
  dsimp only
  rw [Tx]
  by_cases h : x = 0
  · rw [decide_eq_true (hz.2 h), if_pos h]; rfl
  · rw [decide_eq_false (fun e => h (hz.1 e)), if_neg h]; rfl

theorem Af1 {sa sb sb' : Bool} {p q : Nat} (hp : sa = true → 0 < p) (hq : sb = true → 0 < q) (hs : sb' = (!sb && decide (q ≠ 0))) (he : sa = sb') :
  ((if p + q = 0 then (0 : Int) else if sa = true then -1 else 1) > 0 ↔ (if sb = true then -(q : Int) else q) < (if sa = true then -(p : Int) else p)) ∧ ((if p + q = 0 then (0 : Int) else if sa = true then -1 else 1) < 0 ↔ (if sa = true then -(p : Int) else p) < (if sb = true then -(q : Int) else q)) := by
 refine ⟨?_, ?_⟩
 · cases sa <;> cases sb <;> by_cases hz : q = 0 <;> grind
 · cases sa <;> cases sb <;> by_cases hz : q = 0 <;> grind

theorem Aty {sa sb sb' : Bool} {p q : Nat} (hp : sa = true → 0 < p) (hq : sb = true → 0 < q) (hs : sb' = (!sb && decide (q ≠ 0))) (he : sa ≠ sb') (hle : q ≤ p) :
  ((if p - q = 0 then (0 : Int) else if sa = true then -1 else 1) > 0 ↔ (if sb = true then -(q : Int) else q) < (if sa = true then -(p : Int) else p)) ∧ ((if p - q = 0 then (0 : Int) else if sa = true then -1 else 1) < 0 ↔ (if sa = true then -(p : Int) else p) < (if sb = true then -(q : Int) else q)) := by
 refine ⟨?_, ?_⟩
 · by_cases h : p - q = 0
   · rw [if_pos h]
     cases sa <;> cases sb <;> by_cases hz : q = 0 <;> grind
   · rw [if_neg h]
     cases sa <;> cases sb <;> by_cases hz : q = 0 <;> grind
 · by_cases h : p - q = 0
   · rw [if_pos h]
     cases sa <;> cases sb <;> by_cases hz : q = 0 <;> grind
   · rw [if_neg h]
     cases sa <;> cases sb <;> by_cases hz : q = 0 <;> grind

theorem Atx {sa sb sb' : Bool} {p q : Nat} (hp : sa = true → 0 < p) (hq : sb = true → 0 < q) (hs : sb' = (!sb && decide (q ≠ 0))) (he : sa ≠ sb') (hle : ¬ q ≤ p) :
  ((if q - p = 0 then (0 : Int) else if sb' = true then -1 else 1) > 0 ↔ (if sb = true then -(q : Int) else q) < (if sa = true then -(p : Int) else p)) ∧ ((if q - p = 0 then (0 : Int) else if sb' = true then -1 else 1) < 0 ↔ (if sa = true then -(p : Int) else p) < (if sb = true then -(q : Int) else q)) := by
 refine ⟨?_, ?_⟩
 · rw [if_neg (by omega)]
   cases sa <;> cases sb <;> by_cases hz : q = 0 <;> grind
 · rw [if_neg (by omega)]
   cases sa <;> cases sb <;> by_cases hz : q = 0 <;> grind

theorem At2 {n Na Da Nb Db : Nat} {sa sb : Bool} (a1 : (dg Na).length ≤ 40) (a2 : (dg Da).length ≤ 40) (a3 : 0 < Da) (a4 : sa = true → 0 < Na) (b1 : (dg Nb).length ≤ 40) (b2 : (dg Db).length ≤ 40) (b3 : 0 < Db) (b4 : sb = true → 0 < Nb) (hn : 1048577 ≤ n) :
  ∃ r, f134 n (sa, dg Na, dg Da) (sb, dg Nb, dg Db) = some r ∧ decide (r > 0) = gtP sa (Na * Db) sb (Nb * Da) ∧ decide (r < 0) = gtP sb (Nb * Da) sa (Na * Db) := by
 have l1 := Hp Na Db
 have l2 := Hp Nb Da
 have l3 := Hp Da Db
 have l4 := Aur (Na * Db) (Nb * Da)
 have hd : 0 < Da * Db := Nat.mul_pos a3 b3
 have hp : sa = true → 0 < Na * Db := fun h => Nat.mul_pos (a4 h) b3
 have hq : sb = true → 0 < Nb * Da := fun h => Nat.mul_pos (b4 h) a3
 have hq0 : Nb ≠ 0 ↔ Nb * Da ≠ 0 := by
  constructor
  · intro h; have := Nat.mul_pos (Nat.pos_of_ne_zero h) a3; omega
  · rintro h rfl; rw [Nat.zero_mul] at h; exact h rfl
 have key : ∀ sb' : Bool, sb' = (!sb && decide (Nb ≠ 0)) → ∃ r, (ob (ob (f146 n (sa, dg Na, dg Da) (sb', dg Nb, dg Db)) fun r_2 => some r_2) fun r_1 => ob (f135 n r_1) fun r_2 => some r_2) = some r ∧ decide (r > 0) = gtP sa (Na * Db) sb (Nb * Da) ∧ decide (r < 0) = gtP sb (Nb * Da) sa (Na * Db) := by
  intro sb' hs
  have hsb : sb' = (!sb && decide (Nb * Da ≠ 0)) := by
   rw [hs]; congr 1; exact decide_eq_decide.2 hq0
  unfold f146
  dsimp only
  rw [A0p (by omega) (by omega), A3, A0p (by omega) (by omega), A3, A0p (by omega) (by omega), A3]
  generalize hpe : Na * Db = p at *
  generalize hqe : Nb * Da = q at *
  generalize Da * Db = d at *
  have lp : (dg (p - q)).length ≤ 100 := Nat.le_trans (Bx (Nat.sub_le p q)) (by omega)
  have lq : (dg (q - p)).length ≤ 100 := Nat.le_trans (Bx (Nat.sub_le q p)) (by omega)
  unfold gtP
  rw [Bool.cond_eq_ite]
  by_cases he : sa = sb'
  · rw [if_pos (by rw [he]; simp), B1f (by omega) (by omega) (by omega), A3]
    obtain ⟨y, e1, e2⟩ := A3a (n := n) (x := p + q) (d := d) (s := sa) hd (by omega) (by omega) hn
    rw [e1, A3, A3, A3, e2, A3]
    exact ⟨_, rfl, decide_eq_decide.2 (Af1 hp hq hsb he).1, decide_eq_decide.2 (Af1 hp hq hsb he).2⟩
  · rw [if_neg (by simpa using he), A8e (by omega) (by omega), A3, Bool.cond_decide]
    by_cases hle : q ≤ p
    · rw [if_pos (by
       rcases Nat.lt_or_eq_of_le hle with h | h
       · rw [G5 (by omega)]; omega
       · rw [Ii (by omega)]; omega), Agu (by omega) (by omega) hle, A3]
      obtain ⟨y, e1, e2⟩ := A3a (n := n) (x := p - q) (d := d) (s := sa) hd lp (by omega) hn
      rw [e1, A3, A3, A3, e2, A3]
      exact ⟨_, rfl, decide_eq_decide.2 (Aty hp hq hsb he hle).1, decide_eq_decide.2 (Aty hp hq hsb he hle).2⟩
    · rw [if_neg (by rw [G4 (by omega)]; omega), Agu (by omega) (by omega) (by omega), A3]
      obtain ⟨y, e1, e2⟩ := A3a (n := n) (x := q - p) (d := d) (s := sb') hd lq (by omega) hn
      rw [e1, A3, A3, A3, e2, A3]
      exact ⟨_, rfl, decide_eq_decide.2 (Atx hp hq hsb he hle).1, decide_eq_decide.2 (Atx hp hq hsb he hle).2⟩
 unfold f134 f119 f138
 dsimp only
 rw [Aq2]
 cases sb with
 | true =>
  have := key false rfl
  simp only [Bool.not_true, cond_false, A3]
  exact this
 | false =>
  have := key (decide (Nb ≠ 0)) (by simp)
  simp only [Bool.not_false, cond_true, A3]
  exact this

theorem Aek {n N : Nat} {D : List Int} {s : Bool} : f141 n (s, dg N, D) = some (if N = 0 then 0 else if s = true then -1 else 1) := by
 unfold f141
 rw [show f74 n (s, dg N, D) = some (((dg N).length : Int) == 0) from rfl, A3, Tx]
 by_cases h : N = 0
 · rw [decide_eq_true h, if_pos h]; rfl
 · rw [decide_eq_false h, if_neg h]
   cases s <;> rfl

theorem A2f {sa sb : Bool} {Na Nb p q : Nat} (hp : Na = 0 ↔ p = 0) (hq : Nb = 0 ↔ q = 0) (ha : sa = true → 0 < p) (hb : sb = true → 0 < q)
  (he : (if Na = 0 then (0 : Int) else if sa = true then -1 else 1) ≠ (if Nb = 0 then (0 : Int) else if sb = true then -1 else 1)) :
  (((if Na = 0 then (0 : Int) else if sa = true then -1 else 1) - (if Nb = 0 then (0 : Int) else if sb = true then -1 else 1)) > 0 ↔ (if sb = true then -(q : Int) else q) < (if sa = true then -(p : Int) else p)) ∧ (((if Na = 0 then (0 : Int) else if sa = true then -1 else 1) - (if Nb = 0 then (0 : Int) else if sb = true then -1 else 1)) < 0 ↔ (if sa = true then -(p : Int) else p) < (if sb = true then -(q : Int) else q)) := by
 refine ⟨?_, ?_⟩
 · by_cases h1 : Na = 0 <;> by_cases h2 : Nb = 0 <;> cases sa <;> cases sb <;> grind
 · by_cases h1 : Na = 0 <;> by_cases h2 : Nb = 0 <;> cases sa <;> cases sb <;> grind

theorem Ack {sa sb : Bool} {Na Nb p q : Nat} (hp : Na = 0 ↔ p = 0) (hq : Nb = 0 ↔ q = 0) (ha : sa = true → 0 < p) (hb : sb = true → 0 < q)
  (he : (if Na = 0 then (0 : Int) else if sa = true then -1 else 1) = (if Nb = 0 then (0 : Int) else if sb = true then -1 else 1)) :
  ((if sa = true then 0 - cm (p : Int) (q : Int) else cm (p : Int) (q : Int)) > 0 ↔ (if sb = true then -(q : Int) else q) < (if sa = true then -(p : Int) else p)) ∧ ((if sa = true then 0 - cm (p : Int) (q : Int) else cm (p : Int) (q : Int)) < 0 ↔ (if sa = true then -(p : Int) else p) < (if sb = true then -(q : Int) else q)) := by
 refine ⟨?_, ?_⟩
 · rcases Int.lt_trichotomy (p : Int) (q : Int) with h | h | h
   · rw [G4 h]
     by_cases h1 : Na = 0 <;> by_cases h2 : Nb = 0 <;> cases sa <;> cases sb <;> grind
   · rw [Ii h]
     by_cases h1 : Na = 0 <;> by_cases h2 : Nb = 0 <;> cases sa <;> cases sb <;> grind
   · rw [G5 h]
     by_cases h1 : Na = 0 <;> by_cases h2 : Nb = 0 <;> cases sa <;> cases sb <;> grind
 · rcases Int.lt_trichotomy (p : Int) (q : Int) with h | h | h
   · rw [G4 h]
     by_cases h1 : Na = 0 <;> by_cases h2 : Nb = 0 <;> cases sa <;> cases sb <;> grind
   · rw [Ii h]
     by_cases h1 : Na = 0 <;> by_cases h2 : Nb = 0 <;> cases sa <;> cases sb <;> grind
   · rw [G5 h]
     by_cases h1 : Na = 0 <;> by_cases h2 : Nb = 0 <;> cases sa <;> cases sb <;> grind

theorem B16 (x y : Int) : -1 ≤ cm x y ∧ cm x y ≤ 1 := by
 unfold cm
 split
 · omega
 · split <;> omega

theorem Ast {n Na Da Nb Db : Nat} {sa sb : Bool} (a1 : (dg Na).length ≤ 40) (a2 : (dg Da).length ≤ 40) (a3 : 0 < Da) (a4 : sa = true → 0 < Na) (b1 : (dg Nb).length ≤ 40) (b2 : (dg Db).length ≤ 40) (b3 : 0 < Db) (b4 : sb = true → 0 < Nb) (hn : 1048577 ≤ n) :
  ∃ r, f181 n (sa, dg Na, dg Da) (sb, dg Nb, dg Db) = some r ∧ decide (r > 0) = gtP sa (Na * Db) sb (Nb * Da) ∧ decide (r < 0) = gtP sb (Nb * Da) sa (Na * Db) := by
 have l1 := Hp Na Db
 have l2 := Hp Nb Da
 have hp : sa = true → 0 < Na * Db := fun h => Nat.mul_pos (a4 h) b3
 have hq : sb = true → 0 < Nb * Da := fun h => Nat.mul_pos (b4 h) a3
 have hp0 : Na = 0 ↔ Na * Db = 0 := by
  constructor
  · rintro rfl; rw [Nat.zero_mul]
  · intro h
    rcases Nat.mul_eq_zero.1 h with h | h
    · exact h
    · omega
 have hq0 : Nb = 0 ↔ Nb * Da = 0 := by
  constructor
  · rintro rfl; rw [Nat.zero_mul]
  · intro h
    rcases Nat.mul_eq_zero.1 h with h | h
    · exact h
    · omega
 unfold f181
 rw [Aek, A3, Aek, A3]
 dsimp only
 rw [Bool.cond_eq_ite]
 by_cases he : (if Na = 0 then (0 : Int) else if sa = true then -1 else 1) = (if Nb = 0 then (0 : Int) else if sb = true then -1 else 1)
 · rw [if_neg (by rw [he]; simp), Atw (by omega) (by omega), A3, Atw (by omega) (by omega), A3, Ahc (by omega), A3]
   have hr := B16 ((Na * Db : Nat) : Int) ((Nb * Da : Nat) : Int)
   rw [Ab (x := 0 - cm ((Na * Db : Nat) : Int) ((Nb * Da : Nat) : Int)) (by omega) (by omega)]
   refine ⟨if sa = true then 0 - cm ((Na * Db : Nat) : Int) ((Nb * Da : Nat) : Int) else cm ((Na * Db : Nat) : Int) ((Nb * Da : Nat) : Int), by cases sa <;> rfl, ?_⟩
   exact ⟨decide_eq_decide.2 (Ack hp0 hq0 hp hq he).1, decide_eq_decide.2 (Ack hp0 hq0 hp hq he).2⟩
 · rw [if_pos (by rw [bne_iff_ne]; exact he), A3, A3]
   have h1 : -1 ≤ (if Na = 0 then (0 : Int) else if sa = true then -1 else 1) ∧ (if Na = 0 then (0 : Int) else if sa = true then -1 else 1) ≤ 1 := by
    split
    · omega
    · split <;> omega
   have h2 : -1 ≤ (if Nb = 0 then (0 : Int) else if sb = true then -1 else 1) ∧ (if Nb = 0 then (0 : Int) else if sb = true then -1 else 1) ≤ 1 := by
    split
    · omega
    · split <;> omega
   rw [Ab (by omega) (by omega)]
   exact ⟨_, rfl, decide_eq_decide.2 (A2f hp0 hq0 hp hq he).1, decide_eq_decide.2 (A2f hp0 hq0 hp hq he).2⟩

theorem Uh {sa sb : Bool} {Na Da Nb Db : Nat} : Gu (sa, dg Na, dg Da) (sb, dg Nb, dg Db) = gtP sa (Na * Db) sb (Nb * Da) := by
 unfold Gu
 dsimp only
 rw [B0, B0, B0, B0]
 rfl

theorem Vn {n : Nat} {a b : Rt} (ha : C4 a = true) (hb : C4 b = true) (hn : 1048577 ≤ n) : ∃ r, f134 n a b = some r ∧ decide (r > 0) = Gu a b ∧ decide (r < 0) = Gu b a := by
 obtain ⟨sa, Na, Da, rfl, a1, a2, a3, a4⟩ := Jq ha
 obtain ⟨sb, Nb, Db, rfl, b1, b2, b3, b4⟩ := Jq hb
 rw [Uh, Uh]
 exact At2 a1 a2 a3 a4 b1 b2 b3 b4 hn

theorem A4i {n : Nat} {a b : Rt} (ha : C4 a = true) (hb : C4 b = true) (hn : 1048577 ≤ n) : ∃ r, f181 n a b = some r ∧ decide (r > 0) = Gu a b ∧ decide (r < 0) = Gu b a := by
 obtain ⟨sa, Na, Da, rfl, a1, a2, a3, a4⟩ := Jq ha
 obtain ⟨sb, Nb, Db, rfl, b1, b2, b3, b4⟩ := Jq hb
 rw [Uh, Uh]
 exact Ast a1 a2 a3 a4 b1 b2 b3 b4 hn

theorem B4 {l : List Rt} (h : B1 l = true) {i : Nat} (hi : i < l.length) : C4 (l.getD i Av) = true := by
 unfold B1 at h
 rw [Bool.and_eq_true, List.all_eq_true] at h
 refine h.2 _ ?_
 rw [List.getD_eq_getElem?_getD, List.getElem?_eq_getElem hi]
 exact List.getElem_mem hi

theorem Fc {l : List Rt} (h : B1 l = true) : l.length ≤ 4 := by
 unfold B1 at h
 rw [Bool.and_eq_true, decide_eq_true_eq] at h
 exact h.1.2

theorem A6h {n : Nat} {a b : List Rt} (ha : B1 a = true) (hb : B1 b = true) (hab : a.length = b.length) (hn : 1048577 ≤ n) : ∀ (m i : Nat), i ≤ a.length → a.length < i + m →
  ∃ r, Uy n m b a (a.length : Int) (i : Int) (fun z => some z) (fun (_ : Unit) => some true) = some r ∧ (r = true ↔ ∀ j, i ≤ j → j < a.length → Gu (a.getD j Av) (b.getD j Av) = false)
 | 0, i, hi, hm => by omega
 | m + 1, i, hi, hm => by
  rw [Amv]
  unfold Xs
  dsimp only
  have hla := Fc ha
  rw [Bool.cond_decide]
  by_cases h : i < a.length
  · rw [if_pos (by omega), A4 (by simp; try omega), A4 (by simp; try omega)]
    simp only [Int.toNat_natCast]
    obtain ⟨r, h1, h2, _⟩ := A4i (n := n) (B4 ha h) (B4 hb (i := i) (by omega)) hn
    rw [h1, A3, h2]
    cases hg : Gu (a.getD i Av) (b.getD i Av) with
    | true =>
     refine ⟨false, rfl, ?_⟩
     constructor
     · intro e; cases e
     · intro e; rw [e i (Nat.le_refl _) h] at hg; cases hg
    | false =>
     rw [Ab (x := (i : Int) + 1) (by omega) (by omega)]
     obtain ⟨r', q1, q2⟩ := A6h ha hb hab hn m (i + 1) (by omega) (by omega)
     refine ⟨r', q1, q2.trans ⟨fun e j hj hj' => ?_, fun e j hj hj' => e j (by omega) hj'⟩⟩
     rcases Nat.eq_or_lt_of_le hj with rfl | hj
     · exact hg
     · exact e j hj hj'
  · rw [if_neg (by omega)]
    exact ⟨true, rfl, fun _ j hj hj' => by omega, fun _ => rfl⟩

theorem Afd {n : Nat} {a b : List Rt} (ha : B1 a = true) (hb : B1 b = true) (hab : a.length = b.length) (hn : 1048577 ≤ n) :
  ∃ r, f209 n a b = some r ∧ (r = true ↔ ∀ j, j < a.length → Gu (a.getD j Av) (b.getD j Av) = false) := by
 unfold f209
 have hla := Fc ha
 obtain ⟨r, h1, h2⟩ := A6h ha hb hab hn n 0 (by omega) (by omega)
 exact ⟨r, h1, h2.trans ⟨fun e j hj => e j (Nat.zero_le _) hj, fun e j _ hj => e j hj⟩⟩

theorem A7a {n : Nat} {x lo hi : List Rt} (hx : B1 x = true) (hlo : B1 lo = true) (hhi : B1 hi = true) (h1 : lo.length = x.length) (h2 : lo.length = hi.length) (hn : 1048577 ≤ n) (c0 : List Nod) (c4 : Int) (c5 : Bool) (c6 c7 : List Int) (c8 c9 : Int) : ∀ (m i : Nat), i ≤ lo.length → lo.length < i + m →
  ∃ r, Vj n m (i : Int) c0 x lo hi c4 c5 c6 c7 c8 c9 (fun z => some z) (fun (_ : Unit) => some true) = some r ∧ (r = true ↔ ∀ j, i ≤ j → j < lo.length → Gu (lo.getD j Av) (x.getD j Av) = false ∧ Gu (x.getD j Av) (hi.getD j Av) = false)
 | 0, i, hi', hm => by omega
 | m + 1, i, hi', hm => by
  rw [Ap4]
  unfold Zq
  dsimp only
  have hla := Fc hlo
  rw [Bool.cond_decide]
  by_cases h : i < lo.length
  · rw [if_pos (by omega), A4 (by simp; try omega), A4 (by simp; try omega)]
    simp only [Int.toNat_natCast]
    obtain ⟨r, e1, e2, _⟩ := Vn (n := n) (B4 hlo h) (B4 hx (i := i) (by omega)) hn
    rw [e1, A3, e2]
    cases hg : Gu (lo.getD i Av) (x.getD i Av) with
    | true =>
     refine ⟨false, rfl, ?_⟩
     constructor
     · intro e; cases e
     · intro e; rw [(e i (Nat.le_refl _) h).1] at hg; cases hg
    | false =>
     rw [cond_false, A4 (by simp; try omega), A4 (by simp; try omega)]
     obtain ⟨r, e1, e2, _⟩ := Vn (n := n) (B4 hx (i := i) (by omega)) (B4 hhi (i := i) (by omega)) hn
     rw [e1, A3, e2]
     cases hg2 : Gu (x.getD i Av) (hi.getD i Av) with
     | true =>
      refine ⟨false, rfl, ?_⟩
      constructor
      · intro e; cases e
      · intro e; rw [(e i (Nat.le_refl _) h).2] at hg2; cases hg2
     | false =>
      rw [Ab (x := (i : Int) + 1) (by omega) (by omega)]
      obtain ⟨r', q1, q2⟩ := A7a hx hlo hhi h1 h2 hn c0 c4 c5 c6 c7 c8 c9 m (i + 1) (by omega) (by omega)
      refine ⟨r', q1, q2.trans ⟨fun e j hj hj' => ?_, fun e j hj hj' => e j (by omega) hj'⟩⟩
      rcases Nat.eq_or_lt_of_le hj with rfl | hj
      · exact ⟨hg, hg2⟩
      · exact e j hj hj'
  · rw [if_neg (by omega)]
    exact ⟨true, rfl, fun _ j hj hj' => by omega, fun _ => rfl⟩

def A09 (s : Int) (l : List Nod) : Int := l.foldl (fun s x => if x.1 = 2 then max s (W (x.2.2.2 + 1)) else s) s

abbrev nd0 : Nod := (0, 0, 0, 0)

theorem Acd {l : List Nod} {i : Nat} (h : i < l.length) (s : Int) : A09 s (l.drop i) = A09 (if (l.getD i nd0).1 = 2 then max s (W ((l.getD i nd0).2.2.2 + 1)) else s) (l.drop (i + 1)) := by
 rw [List.drop_eq_getElem_cons h, List.getD_eq_getElem?_getD, List.getElem?_eq_getElem h]; rfl

theorem T5 {α : Type} {n : Nat} {l : List Nod} (hl : l.length ≤ 1048576) {k0 : Int → Option α} : ∀ (m i : Nat) (s : Int), i ≤ l.length → l.length < i + m → V7 n m s (i : Int) l k0 = k0 (A09 s (l.drop i))
 | 0, i, s, hi, hm => by omega
 | m + 1, i, s, hi, hm => by
  rw [Anf]
  unfold Y7
  dsimp only
  rw [Bool.cond_decide]
  by_cases h : i < l.length
  · rw [if_pos (by omega), A4 (by simp; try omega), A4 (by simp; try omega), Acd h]
    simp only [Int.toNat_natCast]
    rw [Bool.cond_eq_ite, Ab (x := (i : Int) + 1) (by omega) (by omega)]
    by_cases hv : (l.getD i nd0).1 = 2
    · rw [if_pos (by rw [beq_iff_eq]; exact hv), if_pos hv]
      exact T5 hl m (i + 1) _ (by omega) (by omega)
    · rw [if_neg (by rw [beq_iff_eq]; exact hv), if_neg hv]
      exact T5 hl m (i + 1) _ (by omega) (by omega)
  · rw [if_neg (by omega), List.drop_of_length_le (by omega)]
    rfl

theorem Tc {α : Type} {n : Nat} {l : List Nod} (hl : l.length ≤ 1048576) {k0 : Int → Option α} : ∀ (m i : Nat) (s : Int), i ≤ l.length → l.length < i + m → Vh n m s l (l.length : Int) (i : Int) k0 = k0 (A09 s (l.drop i))
 | 0, i, s, hi, hm => by omega
 | m + 1, i, s, hi, hm => by
  rw [Aon]
  unfold Zc
  dsimp only
  rw [Bool.cond_decide]
  by_cases h : i < l.length
  · rw [if_pos (by omega), A4 (by simp; try omega), Acd h]
    simp only [Int.toNat_natCast]
    rw [Bool.cond_eq_ite, Ab (x := (i : Int) + 1) (by omega) (by omega)]
    by_cases hv : (l.getD i nd0).1 = 2
    · rw [if_pos (by rw [beq_iff_eq]; exact hv), if_pos hv]
      exact Tc hl m (i + 1) _ (by omega) (by omega)
    · rw [if_neg (by rw [beq_iff_eq]; exact hv), if_neg hv]
      exact Tc hl m (i + 1) _ (by omega) (by omega)
  · rw [if_neg (by omega), List.drop_of_length_le (by omega)]
    rfl

theorem Avz {n : Nat} {l : List Nod} (hl : l.length ≤ 1048576) (hn : 1048577 ≤ n) : f192 n l = some (A09 0 l) := by
 unfold f192
 have := T5 (n := n) hl (k0 := fun z_3 => some z_3) n 0 0 (by omega) (by omega)
 simpa using this

theorem Awg {n : Nat} {l : List Nod} (hl : l.length ≤ 1048576) (hn : 1048577 ≤ n) : f165 n l = some (A09 0 l) := by
 unfold f165
 have := Tc (n := n) hl (k0 := fun z_2 => some z_2) n 0 0 (by omega) (by omega)
 simpa using this

abbrev Prb := List Nod × List Rt × List Rt × List Rt × Int × Rt × Int × Int

theorem Auj {n : Nat} {x : Rt} (hx : C4 x = true) : ∃ r, f135 n x = some r ∧ decide (r < 0) = x.1 := by
 obtain ⟨s, N, D, rfl, a1, a2, a3, a4⟩ := Jq hx
 unfold f135 f116
 rw [A3]
 dsimp only
 rw [Tx]
 by_cases h : N = 0
 · rw [decide_eq_true h]
   refine ⟨0, rfl, ?_⟩
   cases s with
   | true => have := a4 rfl; omega
   | false => rfl
 · rw [decide_eq_false h]
   cases s with
   | true => exact ⟨-1, rfl, rfl⟩
   | false => exact ⟨1, rfl, rfl⟩

theorem Ako {n : Nat} {p : Prb} (he : p.1.length ≤ 1048576) (hn : 1048577 ≤ n) : ∃ r, f150 n p = some r ∧ f194 n p = some r ∧ (r = true → B1 p.2.1 = true ∧ ((p.2.2.1.length = 0 ∧ p.2.2.2.1.length = 0) ∨ Wy p.2.1 p.2.2.1 p.2.2.2.1 = true)) := by
 unfold f150 f194
 obtain ⟨d0, x1, x2⟩ : ∃ d, f191 n p.1 = some d ∧ f198 n p.1 = some d := ⟨_, Aw1 he hn, Avu he hn⟩
 rw [x1, A3, x2, A3]
 cases d0 with
 | false => exact ⟨false, rfl, rfl, nofun⟩
 | true =>
 simp only [Bool.not_true, cond_false, Agb hn, A4z hn, A3]
 cases hx : B1 p.2.1 with
 | false => exact ⟨false, rfl, rfl, nofun⟩
 | true =>
 simp only [Bool.not_true, cond_false, Avz he hn, Awg he hn, A3]
 cases hd : decide (A09 0 p.1 > (p.2.1.length : Int)) with
 | true => exact ⟨false, rfl, rfl, nofun⟩
 | false =>
 simp only [cond_false, N8, Sn, A3]
 cases decide (1 ≤ p.2.2.2.2.1 ∧ p.2.2.2.2.1 ≤ 4) with
 | false => exact ⟨false, rfl, rfl, nofun⟩
 | true =>
 simp only [Bool.not_true, cond_false, Ag1 hn, Afu hn, A3]
 cases hr : C4 p.2.2.2.2.2.1 with
 | false => exact ⟨false, rfl, rfl, nofun⟩
 | true =>
 obtain ⟨r, s1, s2⟩ := Auj (n := n) hr
 simp only [Bool.not_true, cond_false, s1, A3, s2]
 cases p.2.2.2.2.2.1.1 with
 | true => exact ⟨false, rfl, rfl, nofun⟩
 | false =>
 simp only [cond_false]
 cases decide (0 ≤ p.2.2.2.2.2.2.1 ∧ p.2.2.2.2.2.2.1 ≤ 6) with
 | false => exact ⟨false, rfl, rfl, nofun⟩
 | true =>
 simp only [Bool.not_true, cond_false]
 cases decide (0 ≤ p.2.2.2.2.2.2.2 ∧ p.2.2.2.2.2.2.2 ≤ 30) with
 | false => exact ⟨false, rfl, rfl, nofun⟩
 | true =>
 simp only [Bool.not_true, cond_false]
 obtain ⟨v, v1, v2⟩ := Alo (n := n) (a := p.2.1) (b := p.2.2.1) (c := p.2.2.2.1) hn
 unfold f155
 simp only [v1, v2, A3]
 by_cases hlh : p.2.2.1.length = p.2.2.2.1.length
 · rw [hlh, bne_self_eq_false]
   by_cases h0 : p.2.2.2.1.length = 0
   · rw [h0]
     exact ⟨true, rfl, rfl, fun _ => ⟨trivial, .inl ⟨rfl, rfl⟩⟩⟩
   · rw [show decide ((p.2.2.2.1.length : Int) > 0) = true by rw [decide_eq_true_eq]; omega, show ((p.2.2.2.1.length : Int) == 0) = false by rw [beq_eq_false_iff_ne]; omega]
     simp only [Bool.not_true, cond_false]
     unfold Wy
     rw [hx, hlh]
     by_cases hlx : p.2.2.2.1.length = p.2.1.length
     · rw [hlx, bne_self_eq_false, BEq.rfl]
       simp only [cond_false, Bool.true_and, Bool.and_true]
       cases hlo : B1 p.2.2.1 with
       | false => exact ⟨false, rfl, rfl, nofun⟩
       | true =>
       cases hhi : B1 p.2.2.2.1 with
       | false => exact ⟨false, rfl, rfl, nofun⟩
       | true =>
       have hl4 := Fc hx
       obtain ⟨r1, t1, t2⟩ := A7a hx hlo hhi (by omega) hlh hn p.1 p.2.2.2.2.1 false p.2.2.2.2.2.1.2.1 p.2.2.2.2.2.1.2.2 p.2.2.2.2.2.2.1 p.2.2.2.2.2.2.2 n 0 (by omega) (by omega)
       refine ⟨r1, t1, ?_⟩
       obtain ⟨r2, u1, u2⟩ := Afd (n := n) hlo hx (by omega) hn
       obtain ⟨r3, w1, w2⟩ := Afd (n := n) hx hhi (by omega) hn
       simp only [u1, w1, A3]
       have e : r1 = (r2 && r3) := by
        rw [Bool.eq_iff_iff, t2, Bool.and_eq_true, u2, w2]
        constructor
        · intro h
          exact ⟨fun j hj => (h j (Nat.zero_le _) hj).1, fun j hj => (h j (Nat.zero_le _) (by omega)).2⟩
        · rintro ⟨h, h'⟩ j _ hj
          exact ⟨h j hj, h' j (by omega)⟩
       refine ⟨by rw [e]; cases r2 <;> rfl, fun _ => ⟨trivial, .inr rfl⟩⟩
     · rw [show ((p.2.2.2.1.length : Int) != (p.2.1.length : Int)) = true by rw [bne_iff_ne]; omega, show (p.2.2.2.1.length == p.2.1.length) = false by rw [beq_eq_false_iff_ne]; exact hlx]
       simp only [Bool.and_false]
       exact ⟨false, rfl, rfl, nofun⟩
 · have hv : Wy p.2.1 p.2.2.1 p.2.2.2.1 = false := by
    unfold Wy
    by_cases h1 : p.2.2.1.length = p.2.1.length
    · rw [show (p.2.2.2.1.length == p.2.1.length) = false by rw [beq_eq_false_iff_ne]; omega, Bool.and_false]
    · rw [show (p.2.2.1.length == p.2.1.length) = false by rw [beq_eq_false_iff_ne]; exact h1, Bool.and_false, Bool.false_and]
   rw [hv, show ((p.2.2.1.length : Int) != (p.2.2.2.1.length : Int)) = true by rw [bne_iff_ne]; omega]
   refine ⟨false, rfl, ?_, nofun⟩
   by_cases h1 : p.2.2.1.length = 0
   · rw [h1, show ((p.2.2.2.1.length : Int) == 0) = false by rw [beq_eq_false_iff_ne]; omega]
     rfl
   · rw [show ((p.2.2.1.length : Int) == 0) = false by rw [beq_eq_false_iff_ne]; omega]
     rfl

theorem Av8 {n : Nat} {e : List Nod} (hl : e.length ≤ 9223372036854775807) : ∃ r, f80 n e 1048576 = some r ∧ (r = -1 ∨ ((0 ≤ r ∧ r ≤ 1048576) ∧ e.length ≤ 1048576)) := by
 refine ⟨_, Aym hl, ?_⟩
 by_cases h : e.length ≤ 1048576
 · rw [if_pos h]; exact .inr ⟨by omega, h⟩
 · rw [if_neg h]; exact .inl rfl

theorem Ayz {n : Nat} {s : Prb} (h0 : s.1.length ≤ 9223372036854775807) (h1 : BdL s.2.1) (h2 : BdL s.2.2.1) (h3 : BdL s.2.2.2.1) (h4 : Bd s.2.2.2.2.2.1) (hn : 1048577 ≤ n) : ∃ r, f28 n s 1048576 = some r ∧ (r = -1 ∨ ((0 ≤ r ∧ r ≤ 1048576) ∧ s.1.length ≤ 1048576 ∧ J8 s.2.1 ∧ J8 s.2.2.1 ∧ J8 s.2.2.2.1 ∧ Sm s.2.2.2.2.2.1)) := by
 unfold f28
 obtain ⟨r0, e0, c0⟩ := Av8 (n := n) h0
 rw [e0, A3]
 rcases c0 with rfl | ⟨b0, c0⟩
 · exact ⟨-1, rfl, .inl rfl⟩
 obtain ⟨r1, e1, c1⟩ := V9 b0 h1 hn
 rw [Bool.cond_decide, if_neg (by omega), e1, A3]
 rcases c1 with rfl | ⟨b1, c1⟩
 · exact ⟨-1, rfl, .inl rfl⟩
 obtain ⟨r2, e2, c2⟩ := V9 b1 h2 hn
 rw [Bool.cond_decide, if_neg (by omega), e2, A3]
 rcases c2 with rfl | ⟨b2, c2⟩
 · exact ⟨-1, rfl, .inl rfl⟩
 obtain ⟨r3, e3, c3⟩ := V9 b2 h3 hn
 rw [Bool.cond_decide, if_neg (by omega), e3, A3]
 rcases c3 with rfl | ⟨b3, c3⟩
 · exact ⟨-1, rfl, .inl rfl⟩
 obtain ⟨r4, e4, c4⟩ := Amd (n := n) b3 h4
 rw [Bool.cond_decide, if_neg (by omega), e4, A3]
 rcases c4 with rfl | ⟨b4, b5, c4⟩
 · exact ⟨-1, rfl, .inl rfl⟩
 rw [Bool.cond_decide, if_neg (by omega)]
 exact ⟨r4, rfl, .inr ⟨⟨b4, by omega⟩, c0, c1, c2, c3, c4⟩⟩

theorem Ayw {n : Nat} {s : Prb} (c0 : s.1.length ≤ 1048576) (c1 : J8 s.2.1) (c2 : J8 s.2.2.1) (c3 : J8 s.2.2.2.1) (c4 : Sm s.2.2.2.2.2.1) (hn : 1048577 ≤ n) : f30 n s = some s := by
 unfold f30
 rw [Ayg c0 hn, A3, A1l c1.1 c1.2 hn, A3, A1l c2.1 c2.2 hn, A3, A1l c3.1 c3.2 hn, A3, Amb c4 hn, A3]

theorem Ayv {n : Nat} {s : Prb} (c0 : s.1.length ≤ 1048576) (c1 : J8 s.2.1) (c2 : J8 s.2.2.1) (c3 : J8 s.2.2.2.1) (c4 : Sm s.2.2.2.2.2.1) (hn : 1048577 ≤ n) : f32 n s s = some true := by
 unfold f32
 rw [Ayc c0 hn, A3, Ss c1.1 c1.2 hn, A3, Ss c2.1 c2.2 hn, A3, Ss c3.1 c3.2 hn, A3, Am9 c4 hn, A3]
 simp

def rq (x : Rat) : Rt := (decide (x.num < 0), dg x.num.natAbs, dg x.den)

def mq (s : Bool) (a d : Nat) : Rat := mkRat (if s = true then -(a : Int) else a) d

def Sz (x : Rat) (L : Nat) : Prop := (dg x.num.natAbs).length ≤ L ∧ (dg x.den).length ≤ L

theorem S4 (s : Bool) (a : Nat) : (if s = true then -(a : Int) else a).natAbs = a := by cases s <;> simp

theorem Aky {s : Bool} {a d : Nat} (hd : 0 < d) : (mq s a d).num = if s = true then -((a / Nat.gcd a d : Nat) : Int) else ((a / Nat.gcd a d : Nat) : Int) := by
 unfold mq
 rw [Rat.num_mkRat, if_neg (by omega), S4, Nat.gcd_comm d a]
 cases s with
 | false => simp
 | true =>
  simp only [if_true]
  rw [Int.neg_ediv_of_dvd (by exact_mod_cast Nat.gcd_dvd_left a d)]
  simp

theorem Akz {s : Bool} {a d : Nat} (hd : 0 < d) : (mq s a d).den = d / Nat.gcd a d := by
 unfold mq
 rw [Rat.den_mkRat, if_neg (by omega), S4, Nat.gcd_comm d a]

theorem B1g {s : Bool} {a d : Nat} (hd : 0 < d) : rq (mq s a d) = (s && decide (a / Nat.gcd a d ≠ 0), dg (a / Nat.gcd a d), dg (d / Nat.gcd a d)) := by
 unfold rq
 rw [Aky hd, Akz hd]
 generalize a / Nat.gcd a d = q
 cases s with
 | false => simp
 | true =>
  simp only [if_true, Bool.true_and, Int.natAbs_neg, Int.natAbs_natCast]
  congr 1
  apply decide_eq_decide.2
  omega

theorem B2n {s : Bool} {a d L : Nat} (hd : 0 < d) (h1 : (dg a).length ≤ L) (h2 : (dg d).length ≤ L) : Sz (mq s a d) L := by
 unfold Sz
 rw [Aky hd, Akz hd, S4]
 exact ⟨Nat.le_trans (Bx (Nat.div_le_self _ _)) h1, Nat.le_trans (Bx (Nat.div_le_self _ _)) h2⟩

theorem Sz.mono {x : Rat} {L M : Nat} (h : Sz x L) (hLM : L ≤ M) : Sz x M := ⟨Nat.le_trans h.1 hLM, Nat.le_trans h.2 hLM⟩

theorem Axq {r : Rt} (h : C4 r = true) : ∃ x : Rat, r = rq x ∧ Sz x 40 := by
 obtain ⟨s, N, D, rfl, h1, h2, h3, h4⟩ := Jq h
 have hg : Nat.gcd N D = 1 := by
  unfold C4 at h
  simp only [Bool.and_eq_true, decide_eq_true_eq, B0, Int.toNat_natCast] at h
  exact h.2
 refine ⟨mq s N D, ?_, B2n h3 h1 h2⟩
 rw [B1g h3, hg, Nat.div_one, Nat.div_one]
 congr 1
 cases s with
 | false => rfl
 | true => have := h4 rfl; rw [decide_eq_true (by omega)]; rfl

def vq (x : List Rat) : List Rt := x.map rq

def Sv (x : List Rat) (L : Nat) : Prop := ∀ a ∈ x, Sz a L

def B13 (acc : Rat) : List Rat → List Rat → Rat
 | a :: x, b :: y => B13 (acc + a * b) x y
 | _, _ => acc

def Sj (x : Rat) : Bool := decide ((dg x.num.natAbs).length ≤ 40) && decide ((dg x.den).length ≤ 40)

theorem Arm {x : Rat} : Sj x = true ↔ Sz x 40 := by unfold Sj Sz; simp

@[simp] theorem Ik (x : List Rat) : (vq x).length = x.length := by simp [vq]

theorem Ak7 {x : List Rat} {i : Nat} (h : i < x.length) : (vq x).getD i (false, [], []) = rq (x.getD i 0) := by
 unfold vq
 rw [List.getD_eq_getElem?_getD, List.getElem?_map, List.getD_eq_getElem?_getD, List.getElem?_eq_getElem h]; rfl

theorem B1h {x : List Rat} {i : Nat} (h : i < x.length) : x.drop i = x.getD i 0 :: x.drop (i + 1) := by
 rw [List.drop_eq_getElem_cons h, List.getD_eq_getElem?_getD, List.getElem?_eq_getElem h]; rfl

theorem Sv.get {x : List Rat} {L i : Nat} (hs : Sv x L) (h : i < x.length) : Sz (x.getD i 0) L := by
 refine hs _ ?_
 rw [List.getD_eq_getElem?_getD, List.getElem?_eq_getElem h]; exact List.getElem_mem h

theorem Sv.mono {x : List Rat} {L M : Nat} (h : Sv x L) (hLM : L ≤ M) : Sv x M := fun a ha => (h a ha).mono hLM

theorem Aa7 {n : Nat} {x : List Rat} (hl : x.length ≤ 4096) (hs : Sv x 100000) {k1 : List Rt → Option (List Rt × Int)} : ∀ (m i : Nat) (o : List Rt), o.length ≤ i → i ≤ x.length → x.length < i + m →
  Sr n m (vq x) (i : Int) o (fun z_5 z_6 => some (z_6, z_5)) k1 = if (x.drop i).all Sj = true then k1 (o ++ vq (x.drop i)) else some ([], 7)
 | 0, i, o, ho, hi, hm => by omega
 | m + 1, i, o, ho, hi, hm => by
  rw [As4]
  unfold A3v
  dsimp only
  rw [Bool.cond_decide, Ik]
  by_cases h : i < x.length
  · rw [if_pos (by omega), A4 (by simp; omega), Int.toNat_natCast, Ak7 h, B1h h, List.all_cons]
    have hz := hs.get h
    have e : f121 n (rq (x.getD i 0)) = some (Sj (x.getD i 0)) := by
     unfold f121 rq Sj
     dsimp only
     generalize (dg (x.getD i 0).num.natAbs).length = p
     generalize (dg (x.getD i 0).den).length = q
     rw [Bool.cond_decide]
     by_cases c : p ≤ 40
     · rw [if_pos (by omega), decide_eq_true c, Bool.true_and]; congr 1; exact decide_eq_decide.2 (by omega)
     · rw [if_neg (by omega), decide_eq_false c, Bool.false_and]
    have e2 : f122 n (rq (x.getD i 0)) = some (rq (x.getD i 0)) := by
     obtain ⟨z1, z2⟩ := hz
     unfold f122
     rw [A4 (by simp only [decide_eq_true_eq]; show (0 + (dg (x.getD i 0).num.natAbs).length) * 8 ≤ _; omega), A4 (by simp only [decide_eq_true_eq]; show (0 + (dg (x.getD i 0).den).length) * 8 ≤ _; omega)]
    rw [e, A3]
    cases hf : Sj (x.getD i 0) with
    | false => simp
    | true =>
     rw [Bool.not_true, cond_false, A4 (by simp; omega), e2, A3, A4 (by simp; omega), Ab (x := (i : Int) + 1) (by omega) (by omega), Bool.true_and]
     have := Aa7 hl hs (n := n) (k1 := k1) m (i + 1) (o ++ [rq (x.getD i 0)]) (by simp; omega) (by omega) (by omega)
     rw [show (i : Int) + 1 = ((i + 1 : Nat) : Int) from rfl, this, List.append_assoc]
     rfl
  · rw [if_neg (by omega), List.drop_of_length_le (by omega)]
    simp [vq]

theorem Axo {n : Nat} {x : List Rat} (hl : x.length ≤ 4096) (hs : Sv x 100000) (hn : 1048577 ≤ n) : f54 n (vq x) = some (if x.all Sj = true then (vq x, 0) else ([], 7)) := by
 unfold f54
 have h1 := Aa7 (n := n) hl hs (k1 := fun z_7 => some (z_7, 0)) n 0 [] (by simp) (by omega) (by omega)
 have h1 : Sr n n (vq x) 0 [] _ _ = _ := h1
 rw [h1, List.drop_zero]
 split <;> rfl

theorem B18 {x : List Rat} (h : Sv x 40) : x.all Sj = true := List.all_eq_true.2 fun a ha => Arm.2 (h a ha)

def Bq (x : Rat) (N D : Nat) : Prop := x.num.natAbs ≤ N ∧ x.den ≤ D

def Bv (x : List Rat) (N D : Nat) : Prop := ∀ a ∈ x, Bq a N D

theorem Bq.mono {x : Rat} {N D N' D' : Nat} (h : Bq x N D) (h1 : N ≤ N') (h2 : D ≤ D') : Bq x N' D' := ⟨Nat.le_trans h.1 h1, Nat.le_trans h.2 h2⟩

theorem Bv.get {x : List Rat} {N D i : Nat} (hs : Bv x N D) (h : i < x.length) : Bq (x.getD i 0) N D := by
 refine hs _ ?_
 rw [List.getD_eq_getElem?_getD, List.getElem?_eq_getElem h]; exact List.getElem_mem h

theorem A24 {α : Type} {n : Nat} {l : List Int} (hl : l.length ≤ 1048576) {k0 : List Int → Option α} : ∀ (m i : Nat) (z : List Int), z.length = l.length - i → i ≤ l.length → l.length < i + m → Qc n m l (i : Int) (l.take i ++ z) k0 = k0 l
 | 0, i, z, hz, hi, hm => by omega
 | m + 1, i, z, hz, hi, hm => by
  rw [Ajn]
  unfold To
  dsimp only
  rw [Bool.cond_decide]
  by_cases h : i < l.length
  · rw [if_pos (by omega)]
    simp only [Int.toNat_natCast]
    rw [A4 (by simp; try omega), A4 (by simp [hz]; omega), A4 (by simp [hz]; omega), Ql h hz, Ab (x := (i : Int) + 1) (by omega) (by omega)]
    exact A24 hl m (i + 1) _ (by simp [hz]; omega) (by omega) (by omega)
  · rw [if_neg (by omega)]
    obtain rfl : z = [] := List.eq_nil_of_length_eq_zero (by omega)
    rw [List.take_of_length_le (by omega), List.append_nil]

theorem Ac3 {n : Nat} {l : List Int} (hl : l.length ≤ 1048576) (hn : 1048577 ≤ n) : A26 n l = some l := by
 unfold A26
 rw [A4 (by simp; try omega)]
 have := A24 (n := n) hl (k0 := fun z_1 => some z_1) n 0 (List.replicate l.length 0) (by simp) (by omega) (by omega)
 simpa using this

theorem Af8 {n : Nat} {x : Rt} (h : Sm x) (hn : 1048577 ≤ n) : Aa6 n x = some x := by
 unfold Aa6
 rw [Ac3 h.1 hn, A3, Ac3 h.2 hn, A3]

theorem A6m {α : Type} {n : Nat} {l : List Rt} (hl : l.length ≤ 1048576) (hs : ∀ x ∈ l, Sm x) (hn : 1048577 ≤ n) {k0 : List Rt → Option α} : ∀ (m i : Nat) (z : List Rt), z.length = l.length - i → i ≤ l.length → l.length < i + m → V6 n m l (i : Int) (l.take i ++ z) k0 = k0 l
 | 0, i, z, hz, hi, hm => by omega
 | m + 1, i, z, hz, hi, hm => by
  rw [An9]
  unfold Y3
  dsimp only
  rw [Bool.cond_decide]
  by_cases h : i < l.length
  · rw [if_pos (by omega)]
    simp only [Int.toNat_natCast]
    rw [A4 (by simp; try omega), Af8 (Sm.get hs i) hn, A3, A4 (by simp [hz]; omega), A4 (by simp [hz]; omega), Ql h hz, Ab (x := (i : Int) + 1) (by omega) (by omega)]
    exact A6m hl hs hn m (i + 1) _ (by simp [hz]; omega) (by omega) (by omega)
  · rw [if_neg (by omega)]
    obtain rfl : z = [] := List.eq_nil_of_length_eq_zero (by omega)
    rw [List.take_of_length_le (by omega), List.append_nil]

theorem V5 {n : Nat} {l : List Rt} (h : J8 l) (hn : 1048577 ≤ n) : Y4 n l = some l := by
 obtain ⟨hl, hs⟩ := h
 unfold Y4
 rw [A4 (by simp; try omega)]
 have := A6m (n := n) hl hs hn (k0 := fun z_1 => some z_1) n 0 (List.replicate l.length Av) (by simp) (by omega) (by omega)
 simpa using this

def Cm (k : Int) : Nat → List Int
 | 0 => []
 | m + 1 => k :: Cm (k + 1) m

theorem Cl : ∀ (m : Nat) (k : Int), (Cm k m).length = m
 | 0, _ => rfl
 | m + 1, k => by simp [Cm, Cl m]

theorem A9i {β : Type} {pre r : List β} {x y : β} : (pre ++ x :: r).set pre.length y = pre ++ y :: r := by
 rw [List.set_append_right _ _ (Nat.le_refl _)]; simp

theorem Arb {β : Type} {pre r : List β} {x d : β} : (pre ++ x :: r).getD pre.length d = x := by simp

theorem Arc {β : Type} {pre r : List β} {x : β} : pre ++ x :: r = (pre ++ [x]) ++ r := by simp

theorem A67 {α : Type} {n : Nat} {k0 : Int → List Int → Option α} : ∀ (r : List Int) (m : Nat) (pre : List Int) (k : Int), pre.length + r.length ≤ 1048576 → r.length < m → 0 ≤ k → k + r.length ≤ 1152921504606846976 →
  Uq n m k (pre.length : Int) (pre ++ r) k0 = k0 (k + r.length) (pre ++ Cm k r.length)
 | [], m + 1, pre, k, hN, hm, h0, hk => by
  rw [A69]
  unfold Oy
  rw [Bool.cond_decide, if_neg (by simp)]
  simp [Cm]
 | x :: r, m + 1, pre, k, hN, hm, h0, hk => by
  simp only [List.length_cons] at hN hm hk
  rw [A69]
  unfold Oy
  rw [Bool.cond_decide, if_pos (by simp; omega), A4 (by simp; omega), A4 (by simp)]
  rw [Int.toNat_natCast, A9i, Ab (x := k + 1) (by omega) (by omega), Ab (x := (pre.length : Int) + 1) (by omega) (by omega), Arc]
  have ih := A67 (n := n) (k0 := k0) r m (pre ++ [k]) (k + 1) (by simp; omega) (by omega) (by omega) (by omega)
  simp only [List.length_append, List.length_cons, List.length_nil, Nat.zero_add] at ih
  refine Eq.trans ih ?_
  rw [show k + 1 + (r.length : Int) = k + ((r.length + 1 : Nat) : Int) by omega]
  simp [Cm]

theorem N9 {n : Nat} {l : List Int} {k : Int} (hl : l.length ≤ 1048576) (h0 : 0 ≤ k) (hk : k + l.length ≤ 1152921504606846976) (hn : 1048577 ≤ n) : Sq n l k = some (k + l.length, Cm k l.length) := by
 unfold Sq
 exact A67 (n := n) (k0 := fun z w => some (z, w)) l n [] k (by simpa using hl) (by omega) h0 hk

theorem Av9 {n : Nat} {k : Int} (hn : 1048577 ≤ n) : f63 n [] k = some k := by
 unfold f63
 obtain ⟨m, rfl⟩ : ∃ m, n = m + 1 := ⟨n - 1, by omega⟩
 rw [As2]
 rfl

theorem A9z {α : Type} {n : Nat} {l : List Int} {k0 k1 : Int → Option α} (hl : l.length ≤ 1048576) : ∀ (q m i : Nat) (k : Int), l.drop i = Cm k q → i + q = l.length → q < m → 0 ≤ k → k + q ≤ 1152921504606846976 →
  A1b n m l k (i : Int) k0 k1 = k1 (k + q)
 | 0, m + 1, i, k, hd, hq, hm, h0, hk => by
  rw [Aa1]
  unfold Un
  rw [Bool.cond_decide, if_neg (by omega)]
  simp
 | q + 1, m + 1, i, k, hd, hq, hm, h0, hk => by
  have hlt : i < l.length := by omega
  have hx : l.drop i = l.getD i 0 :: l.drop (i + 1) := by
   rw [List.drop_eq_getElem_cons hlt]; simp [List.getD_eq_getElem?_getD, hlt]
  rw [hx] at hd
  simp only [Cm, List.cons.injEq] at hd
  rw [Aa1]
  unfold Un
  rw [Bool.cond_decide, if_pos (by omega), A4 (by simp; omega), Int.toNat_natCast, hd.1, bne_self_eq_false, cond_false, Ab (x := k + 1) (by omega) (by omega), Ab (x := (i : Int) + 1) (by omega) (by omega)]
  refine (A9z (n := n) (k0 := k0) (k1 := k1) hl q m (i + 1) (k + 1) hd.2 (by omega) (by omega) (by omega) (by omega)).trans ?_
  rw [show k + 1 + (q : Int) = k + ((q + 1 : Nat) : Int) by omega]

theorem Am3 {n m : Nat} {k : Int} (hm : m ≤ 1048576) (h0 : 0 ≤ k) (hk : k + m ≤ 1152921504606846976) (hn : 1048577 ≤ n) : f64 n (Cm k m) k = some (k + m) := by
 unfold f64
 exact A9z (n := n) (k0 := fun z => some z) (k1 := fun z => some z) (by rw [Cl]; exact hm) m n 0 k rfl (by rw [Cl]; omega) (by omega) h0 hk

theorem Av2 {n : Nat} {x : Rt} {k : Int} (hx : Sm x) (h0 : 0 ≤ k) (hk : k ≤ 1125899906842624) (hn : 1048577 ≤ n) :
  Ahk n x k = some (k + x.2.1.length + x.2.2.length, Cm k x.2.1.length, Cm (k + x.2.1.length) x.2.2.length) := by
 obtain ⟨h1, h2⟩ := hx
 unfold Ahk
 rw [N9 h1 h0 (by omega) hn, A3, A4 (by simp [Cl]), N9 h2 (by omega) (by dsimp only; omega) hn, A3, A4 (by simp [Cl])]

def Aq : List Rt → Int → Int × List Rt
 | [], k => (k, [])
 | x :: r, k => ((Aq r (k + 1 + x.2.1.length + x.2.2.length)).1, (Int.tmod k 3 == 0, Cm (k + 1) x.2.1.length, Cm (k + 1 + x.2.1.length) x.2.2.length) :: (Aq r (k + 1 + x.2.1.length + x.2.2.length)).2)

theorem Dx : ∀ (l : List Rt) (k : Int), (Aq l k).2.length = l.length
 | [], _ => rfl
 | x :: r, k => by simp [Aq, Dx r]

theorem Hn : ∀ (l : List Rt) (k : Int), k ≤ (Aq l k).1
 | [], k => Int.le_refl k
 | x :: r, k => by have := Hn r (k + 1 + x.2.1.length + x.2.2.length); simp only [Aq]; omega

theorem A6a {α : Type} {n : Nat} (hn : 1048577 ≤ n) {k0 : Int → List Rt → Option α} : ∀ (r : List Rt) (m : Nat) (pre : List Rt) (k : Int), pre.length + r.length ≤ 1048576 → (∀ x ∈ r, Sm x) → r.length < m → 0 ≤ k → k + 2097153 * r.length ≤ 1125899906842624 →
  Nf n m k (pre.length : Int) (pre ++ r) k0 = k0 (Aq r k).1 (pre ++ (Aq r k).2)
 | [], m + 1, pre, k, hN, hs, hm, h0, hk => by
  rw [A6c]
  unfold P1
  rw [Bool.cond_decide, if_neg (by simp)]
  simp [Aq]
 | x :: r, m + 1, pre, k, hN, hs, hm, h0, hk => by
  simp only [List.length_cons] at hN hm hk
  obtain ⟨s, a, b⟩ := x
  obtain ⟨h1, h2⟩ := hs (s, a, b) (by simp)
  simp only at h1 h2
  have ih := fun y => A6a hn (k0 := k0) r m (pre ++ [y]) (k + 1 + a.length + b.length) (by simp; omega) (fun z hz => hs z (by simp [hz])) (by omega) (by omega) (by omega)
  simp only [List.length_append, List.length_cons, List.length_nil, Nat.zero_add] at ih
  have ea : ∀ (l : List Int) (k : Int), l.isEmpty = true → Cm k l.length = l ∧ k + (l.length : Int) = k := fun l k h => by
   rw [List.isEmpty_iff] at h; subst h; simp [Cm]
  rw [A6c]
  unfold P1
  rw [Bool.cond_decide, if_pos (by simp; omega), A4 (by simp; omega), A4 (by simp)]
  simp only [Int.toNat_natCast, A9i, Arb]
  have g1 : ∀ (y : Rt), (decide (0 ≤ (pre.length : Int)) && decide ((pre.length : Int) < ((pre ++ y :: r).length : Int))) = true := fun y => by simp; omega
  have g2 : ∀ (y : Rt), decide (pre.length < (pre ++ y :: r).length) = true := fun y => by simp
  have w1 : W (k + 1) = k + 1 := Ab (by omega) (by omega)
  have w2 : W ((pre.length : Int) + 1) = ((pre.length + 1 : Nat) : Int) := by rw [Ab (by omega) (by omega)]; rfl
  simp only [g1, g2, Fh, w1, w2, Av9 hn, N9 h1 (show 0 ≤ k + 1 by omega) (show k + 1 + (a.length : Int) ≤ 1152921504606846976 by omega) hn, A3, Cl, Nat.beq_refl, Bool.and_true]
  have fin : ∀ (y : Rt), Nf n m (k + 1 + a.length + b.length) ((pre.length + 1 : Nat) : Int) (pre ++ y :: r) k0 = k0 (Aq r (k + 1 + a.length + b.length)).1 (pre ++ y :: (Aq r (k + 1 + a.length + b.length)).2) := fun y => by
   have := ih y
   rw [List.append_assoc, List.append_assoc] at this
   exact this
  show _ = k0 (Aq r (k + 1 + a.length + b.length)).1 (pre ++ (Int.tmod k 3 == 0, Cm (k + 1) a.length, Cm (k + 1 + a.length) b.length) :: (Aq r (k + 1 + a.length + b.length)).2)
  rw [← fin]
  cases ha : a.isEmpty with
  | true =>
   obtain rfl := List.isEmpty_iff.1 ha
   cases hb : b.isEmpty with
   | true =>
    obtain rfl := List.isEmpty_iff.1 hb
    simp [Cm]
   | false =>
    simp only [cond_true, cond_false, N9 h2 (show 0 ≤ k + 1 by omega) (show k + 1 + (b.length : Int) ≤ 1152921504606846976 by omega) hn, A3, Cl, Nat.beq_refl, Bool.and_true, Fh]
    simp [Cm]
  | false =>
   cases hb : b.isEmpty with
   | true =>
    obtain rfl := List.isEmpty_iff.1 hb
    simp [Cm]
   | false =>
    simp only [cond_false, N9 h2 (show 0 ≤ k + 1 + (a.length : Int) by omega) (show k + 1 + (a.length : Int) + (b.length : Int) ≤ 1152921504606846976 by omega) hn, A3, Cl, Nat.beq_refl, Bool.and_true, Fh]

theorem Nd {n : Nat} {l : List Rt} {k : Int} (hl : J8 l) (h0 : 0 ≤ k) (hk : k ≤ 8796093022208) (hn : 1048577 ≤ n) : P2 n l k = some (Aq l k) := by
 unfold P2
 refine (A6a (n := n) hn (k0 := fun z w => some (z, w)) l n [] k (by simpa using hl.1) hl.2 (by have := hl.1; omega) h0 ?_).trans ?_
 · have := hl.1; omega
 · simp

theorem Aac {α : Type} {n : Nat} {l : List Rt} {k0 k1 : Int → Option α} (hl : l.length ≤ 1048576) (hn : 1048577 ≤ n) : ∀ (r : List Rt) (m i : Nat) (k : Int), l.drop i = (Aq r k).2 → i + r.length = l.length → (∀ x ∈ r, Sm x) → r.length < m → 0 ≤ k → k + 2097153 * r.length ≤ 1125899906842624 →
  A1c n m l k (i : Int) k0 k1 = k1 (Aq r k).1
 | [], m + 1, i, k, hd, hq, hs, hm, h0, hk => by
  rw [Xi]
  unfold Ut
  rw [Bool.cond_decide, if_neg (by simp at hq; omega)]
  rfl
 | x :: r, m + 1, i, k, hd, hq, hs, hm, h0, hk => by
  simp only [List.length_cons] at hq hm hk
  obtain ⟨h1, h2⟩ := hs x (by simp)
  have hlt : i < l.length := by omega
  have hx : l.drop i = l.getD i (false, [], []) :: l.drop (i + 1) := by
   rw [List.drop_eq_getElem_cons hlt]; simp [List.getD_eq_getElem?_getD, hlt]
  rw [hx] at hd
  simp only [Aq, List.cons.injEq] at hd
  rw [Xi]
  unfold Ut
  rw [Bool.cond_decide, if_pos (by omega), A4 (by simp; omega)]
  simp only [Int.toNat_natCast, hd.1, BEq.rfl, Bool.not_true, cond_false]
  rw [A4 (by simp; omega), Ab (x := k + 1) (by omega) (by omega), Am3 h1 (by omega) (by omega) hn, A3, Bool.cond_decide, if_neg (by omega), A4 (by simp; omega), Am3 h2 (by omega) (by omega) hn, A3, Bool.cond_decide, if_neg (by omega),
   Ab (x := (i : Int) + 1) (by omega) (by omega)]
  exact Aac (n := n) (k0 := k0) (k1 := k1) hl hn r m (i + 1) _ hd.2 (by omega) (fun z hz => hs z (by simp [hz])) (by omega) (by omega) (by omega)

theorem Az2 {n : Nat} {l : List Rt} {k : Int} (hl : J8 l) (h0 : 0 ≤ k) (hk : k ≤ 8796093022208) (hn : 1048577 ≤ n) : f22 n (Aq l k).2 k = some (Aq l k).1 := by
 unfold f22
 have := hl.1
 exact Aac (n := n) (k0 := fun z => some z) (k1 := fun z => some z) (by rw [Dx]; exact hl.1) hn l n 0 k rfl (by rw [Dx]; omega) hl.2 (by omega) h0 (by omega)

theorem Avj {n : Nat} {k : Int} (hn : 1048577 ≤ n) : f21 n [] k = some k := by
 unfold f21
 obtain ⟨m, rfl⟩ : ∃ m, n = m + 1 := ⟨n - 1, by omega⟩
 rw [As9]
 rfl

theorem Avg {n : Nat} {k : Int} (hn : 1048577 ≤ n) : f22 n [] k = some k := by
 unfold f22
 obtain ⟨m, rfl⟩ : ∃ m, n = m + 1 := ⟨n - 1, by omega⟩
 rw [Xi]
 rfl

theorem A7d {n : Nat} {l : List Int} (h : l.length ≤ 17592186044416) : Nv n l = some (if l = [] then .inr () else .inl l) := by
 unfold Nv M7
 cases l with
 | nil => rfl
 | cons a r =>
  simp only [List.isEmpty_cons, cond_false, Bool.not_false, Fh]
  rw [A4 (by simp at h ⊢; omega)]
  rfl

theorem Ago : ∀ {l : List Rt}, l.all C4 = true → ∃ X : List Rat, l = vq X ∧ Sv X 40
 | [], _ => ⟨[], rfl, fun a h => by simp at h⟩
 | r :: l, h => by
  simp only [List.all_cons, Bool.and_eq_true] at h
  obtain ⟨x, rfl, hx⟩ := Axq h.1
  obtain ⟨X, rfl, hX⟩ := Ago h.2
  exact ⟨x :: X, rfl, fun a ha => by rcases List.mem_cons.1 ha with rfl | ha; exact hx; exact hX a ha⟩

theorem Axk {l : List Rt} (h : B1 l = true) : ∃ X : List Rat, l = vq X ∧ Sv X 40 ∧ 1 ≤ X.length ∧ X.length ≤ 4 := by
 unfold B1 at h
 simp only [Bool.and_eq_true, decide_eq_true_eq] at h
 obtain ⟨X, rfl, hX⟩ := Ago h.2
 rw [Ik] at h
 exact ⟨X, rfl, hX, h.1.1, h.1.2⟩

theorem B2o {x : Rat} {L : Nat} (h : Sz x L) (hL : L ≤ 1048576) : Sm (rq x) := ⟨Nat.le_trans h.1 hL, Nat.le_trans h.2 hL⟩

theorem B1b {X : List Rat} {L : Nat} (h : Sv X L) (hL : L ≤ 1048576) (hl : X.length ≤ 1048576) : J8 (vq X) := ⟨by rw [Ik]; exact hl, fun r hr => by
 obtain ⟨x, hx, rfl⟩ := List.mem_map.1 hr
 exact B2o (h x hx) hL⟩

def Atf (r : List Rt × Int) : (List Rt × Int) ⊕ (Unit × Int) := if r.2 = 0 then .inl r else .inr ((), r.2)

theorem B14 {x : Rat} : (rq x).2.2 ≠ [] := by
 unfold rq
 dsimp only
 intro h
 have h2 := Tx (m := x.den)
 rw [h] at h2
 have h3 := x.den_nz
 rw [decide_eq_false h3] at h2
 cases h2

theorem Auz {n : Nat} {x : Rat} (h : Sz x 1000000) : A3i n (rq x) = some (if (rq x).2.1 = [] then .inr (.inl ((rq x).1, (), (rq x).2.2)) else .inl (rq x)) := by
 obtain ⟨h1, h2⟩ := h
 have h1 : (rq x).2.1.length ≤ 1000000 := h1
 have h2 : (rq x).2.2.length ≤ 1000000 := h2
 unfold A3i
 rw [A7d (by omega), A3, A7d (by omega), A3]
 rw [if_neg B14]
 by_cases c : (rq x).2.1 = []
 · rw [if_pos c, if_pos c]; rfl
 · rw [if_neg c, if_neg c]; rfl

theorem A7o {α : Type} {n : Nat} {x : Rat} {b : List Rt} {k : List Rt → Option α} {z : Option α} (h : Sz x 1000000) (hb : b.length ≤ 1048576) :
  (ob (A3i n (rq x)) fun r_2 =>
  Cq r_2 (fun r_3 =>
   gd (decide ((b.length + 1) * 56 ≤ 140737488355328)) (
    k (b ++ [r_3]))) (fun r_4 =>
   Cq r_4 (fun r_5 =>
    gd (decide ((b.length + 1) * 56 ≤ 140737488355328)) (
     k (b ++ [(r_5.1, [], r_5.2.2)]))) (fun r_6 =>
    Cq r_6 (fun r_7 =>
     gd (decide ((b.length + 1) * 56 ≤ 140737488355328)) (
      k (b ++ [(r_7.1, r_7.2.1, [])]))) (fun r_8 => z)))) = k (b ++ [rq x]) := by
 rw [Auz h, A3]
 have g : decide ((b.length + 1) * 56 ≤ 140737488355328) = true := by simp; omega
 by_cases c : (rq x).2.1 = []
 · rw [if_pos c]
   simp only [Cq, g, Fh]
   congr 2
   rw [show rq x = ((rq x).1, (rq x).2.1, (rq x).2.2) from rfl, c]
 · rw [if_neg c]
   simp only [Cq, g, Fh]

theorem On : ∀ (l : List Rt) (k : Int), (∀ x ∈ l, Sm x) → (Aq l k).1 ≤ k + 2097153 * l.length
 | [], k, _ => by simp [Aq]
 | x :: r, k, h => by
  obtain ⟨h1, h2⟩ := h x (by simp)
  have := On r (k + 1 + x.2.1.length + x.2.2.length) fun y hy => h y (by simp [hy])
  simp only [Aq, List.length_cons]
  omega

theorem Aed {X : List Rat} {i : Nat} (h : i < X.length) : (vq X).getD i (false, [], []) = rq (X.getD i 0) := Ak7 h

theorem Atq : J8 ([] : List Rt) := ⟨by simp, fun x h => by simp at h⟩

def A8o (w : Nat) (row : List Rt) (v : Nat → Rat) : Prop := row.length = w ∧ ∀ c, c < w → row.getD c Av = rq (v c)

def Ad3 (m w : Nat) (R : List (List Rt)) (M : Nat → Nat → Rat) : Prop := R.length = m ∧ ∀ r, r < m → A8o w (R.getD r []) (M r)

def SzM (M : Nat → Nat → Rat) (L : Nat) : Prop := ∀ r c, Sz (M r c) L

theorem SzM.mono {M : Nat → Nat → Rat} {L L' : Nat} (h : SzM M L) (hL : L ≤ L') : SzM M L' := fun r c => (h r c).mono hL

theorem A8o.congr {w : Nat} {row : List Rt} {u v : Nat → Rat} (h : A8o w row u) (e : ∀ c, c < w → u c = v c) : A8o w row v := ⟨h.1, fun c hc => by rw [h.2 c hc, e c hc]⟩

theorem Ad3.congr {m w : Nat} {R : List (List Rt)} {M M' : Nat → Nat → Rat} (h : Ad3 m w R M) (e : ∀ r c, r < m → c < w → M r c = M' r c) : Ad3 m w R M' := ⟨h.1, fun r hr => (h.2 r hr).congr fun c hc => e r c hr hc⟩

structure A5b (m : Nat) (a b : List Rt) (M : Nat → Nat → Rat) : Prop where
 la : a.length = m * m
 lb : b.length = m
 at_ : ∀ r c, r < m → c < m → a.getD (r * m + c) Av = rq (M r c)
 bt : ∀ r, r < m → b.getD r Av = rq (M r m)

theorem A5b.congr {m : Nat} {a b : List Rt} {M M' : Nat → Nat → Rat} (h : A5b m a b M) (e : ∀ r c, r < m → c ≤ m → M r c = M' r c) : A5b m a b M' :=
 ⟨h.la, h.lb, fun r c hr hc => by rw [h.at_ r c hr hc, e r c hr (by omega)], fun r hr => by rw [h.bt r hr, e r m hr (Nat.le_refl _)]⟩

def B2t (M : Nat → Nat → Rat) (m i : Nat) : List Rat := (List.range m).map (M i)

def bsV (M : Nat → Nat → Rat) (m i : Nat) (X : List Rat) : Rat := (M i m - B13 0 (B2t M m i) X) / M i i

def bs (M : Nat → Nat → Rat) (m : Nat) : Nat → List Rat → List Rat
 | 0, X => X
 | i + 1, X => bs M m i (X.set i (bsV M m i X))

theorem A2e {α : Type} {n : Nat} {e : List Nod} (hN : e.length ≤ 1048576) {k0 : List Nod → Option α} : ∀ (r : List Nod) (m : Nat) (out : List Nod), e.drop out.length = r → out.length + r.length = e.length → r.length < m →
  (∀ j, j < out.length → out.getD j (0, 0, 0, 0) = e.getD j (0, 0, 0, 0)) → La n m e (out.length : Int) (out ++ List.replicate r.length (0, 0, 0, 0)) k0 = k0 e
 | [], m + 1, out, hd, hl, hm, ho => by
  rw [A21]
  unfold M6
  simp only [List.length_nil] at hl
  rw [Bool.cond_decide, if_neg (by omega)]
  congr 1
  simp only [List.length_nil, List.replicate_zero, List.append_nil]
  apply List.ext_getElem (by omega)
  intro j h1 h2
  have := ho j h1
  simpa [List.getD_eq_getElem?_getD, h1, h2] using this
 | x :: r, m + 1, out, hd, hl, hm, ho => by
  obtain ⟨hx, hlt, hd'⟩ := Ck (d := (0, 0, 0, 0)) hd
  rw [A21]
  unfold M6
  simp only [List.length_cons] at hl hm
  rw [Bool.cond_decide, if_pos (by omega), A4 (by simp; omega), Ab (by omega) (by omega)]
  simp only [Int.toNat_natCast, hx]
  unfold f193
  rw [A3, A4 (by simp; omega), A4 (by simp)]
  have es : (out ++ List.replicate (x :: r).length (0, 0, 0, 0)).set out.length x = (out ++ [x]) ++ List.replicate r.length (0, 0, 0, 0) := by
   rw [List.set_append_right _ _ (Nat.le_refl _)]
   simp [List.replicate_succ]
  rw [es]
  have ih := A2e hN r m (out ++ [x]) (by simpa using hd') (by simp; omega) (by omega) (fun j hj => by
   simp only [List.length_append, List.length_cons, List.length_nil] at hj
   rcases Nat.lt_or_ge j out.length with h | h
   · rw [Bl h]; exact ho j h
   · obtain rfl : j = out.length := by omega
     rw [By, hx]) (n := n) (k0 := k0)
  simp only [List.length_append, List.length_cons, List.length_nil, Nat.zero_add] at ih
  exact ih

theorem Av7 {n : Nat} {e : List Nod} (hN : e.length ≤ 1048576) (hn : 1048577 ≤ n) : Aho n e = some e := by
 unfold Aho Ajg
 rw [A4 (by simp; omega)]
 have := A2e (n := n) hN (k0 := fun z => some z) e n [] rfl (by simp) (by omega) (fun j hj => by simp at hj)
 simp only [List.length_nil, List.nil_append] at this
 rw [Int.toNat_natCast]
 have this : La n n e 0 (List.replicate e.length (0, 0, 0, 0)) (fun z => some z) = some e := this
 rw [this]
 rfl

def mkL (k : Int) : Nat → List Nod
 | 0 => []
 | m + 1 => (k, k + 1, k + 2, k + 3) :: mkL (k + 4) m

theorem N4 : ∀ (m : Nat) (k : Int), (mkL k m).length = m
 | 0, _ => rfl
 | m + 1, k => by simp [mkL, N4 m]

theorem gds {l : List Nod} {i : Nat} {a d : Nod} (h : i < l.length) : (l.set i a).getD i d = a := by
 simp [List.getD_eq_getElem?_getD, h]

theorem Ah7 {α : Type} {n : Nat} {b : List Nod} {i : Nat} {k : Int} (hi : i < b.length) (hN : b.length ≤ 1048576) (hk : 0 ≤ k ∧ k < 1000000000) {f} {k0 : Int → List Nod → Option α} :
  Iq n k (i : Int) b f k0 = f (k + 4) ((i : Int) + 1) (b.set i (k, k + 1, k + 2, k + 3)) := by
 unfold Iq
 have w1 : W (k + 1) = k + 1 := Ab (by omega) (by omega)
 have w2 : W (k + 1 + 1) = k + 2 := by rw [Ab (by omega) (by omega)]; omega
 have w3 : W (k + 2 + 1) = k + 3 := by rw [Ab (by omega) (by omega)]; omega
 have w4 : W (k + 3 + 1) = k + 4 := by rw [Ab (by omega) (by omega)]; omega
 simp only [w1, w2, w3, w4, Int.toNat_natCast, List.set_set, gds hi, List.length_set]
 have g1 : (decide (0 ≤ (i : Int)) && decide ((i : Int) < (b.length : Int))) = true := by simp; omega
 have g2 : decide (i < b.length) = true := by simpa using hi
 rw [Bool.cond_decide, if_pos (by omega)]
 simp only [g1, g2, Fh]
 rw [Ab (by omega) (by omega)]

theorem A5t {α : Type} {n : Nat} {k0 : Int → List Nod → Option α} : ∀ (r : List Nod) (m : Nat) (pre : List Nod) (k : Int), pre.length + r.length ≤ 1048576 → r.length < m → 0 ≤ k → k + 4 * r.length < 1000000000 →
  Q2 n m k (pre.length : Int) (pre ++ r) k0 = k0 (k + 4 * r.length) (pre ++ mkL k r.length)
 | [], m + 1, pre, k, hN, hm, h0, hk => by
  rw [A1z]
  unfold Iq
  rw [Bool.cond_decide, if_neg (by simp)]
  simp [mkL]
 | x :: r, m + 1, pre, k, hN, hm, h0, hk => by
  simp only [List.length_cons] at hN hm hk
  rw [A1z, Ah7 (by simp) (by simp; omega) ⟨h0, by omega⟩]
  have es : (pre ++ x :: r).set pre.length (k, k + 1, k + 2, k + 3) = (pre ++ [(k, k + 1, k + 2, k + 3)]) ++ r := by
   rw [List.set_append_right _ _ (Nat.le_refl _)]
   simp
  rw [es]
  have ih := A5t (n := n) (k0 := k0) r m (pre ++ [(k, k + 1, k + 2, k + 3)]) (k + 4) (by simp; omega) (by omega) (by omega) (by omega)
  simp only [List.length_append, List.length_cons, List.length_nil, Nat.zero_add] at ih
  refine Eq.trans ih ?_
  rw [show k + 4 + 4 * (r.length : Int) = k + 4 * ((r.length + 1 : Nat) : Int) by omega]
  simp [mkL]

theorem Asw {n : Nat} {e : List Nod} (hN : e.length ≤ 1048576) (hn : 1048577 ≤ n) : A8k n e 1 = some (1 + 4 * (e.length : Int), mkL 1 e.length) := by
 unfold A8k
 exact A5t (n := n) (k0 := fun z w => some (z, w)) e n [] 1 (by simpa using hN) (by omega) (by omega) (by omega)

theorem Av4 {n : Nat} {e : List Nod} (hN : e.length ≤ 1048576) (hn : 1048577 ≤ n) : Ahl n e 1 = some (1 + 4 * (e.length : Int), mkL 1 e.length) := by
 unfold Ahl
 rw [Asw hN hn, A3, A4 (by simp [N4])]

theorem Age {n : Nat} {x : Rt} (h : C4 x = true) : f97 n x = some x := by
 obtain ⟨s, a, b⟩ := x
 unfold C4 at h
 simp only [Bool.and_eq_true] at h
 have la := (In h.1.1.1.1).2
 have lb := (In h.1.1.1.2).2
 unfold f97
 rw [A4p n (l := a) (by omega), A3, A4p n (l := b) (by omega), A3]

def H9 (x lo hi : Rt) : Rt := if Gu lo x = true then lo else if Gu x hi = true then hi else x

theorem A7q {x lo hi : Rt} (hx : C4 x = true) (hl : C4 lo = true) (hh : C4 hi = true) : C4 (H9 x lo hi) = true := by
 unfold H9
 split
 · exact hl
 · split
   · exact hh
   · exact hx

def D6 (x lo hi : List Rt) (i k : Nat) : List Rt := (List.range' i k).map fun j => H9 (x.getD j Av) (lo.getD j Av) (hi.getD j Av)

theorem A2h (x lo hi : List Rt) (i k : Nat) : (D6 x lo hi i k).length = k := by simp [D6]

theorem A2i {x lo hi : List Rt} {k j : Nat} (h : j < k) : (D6 x lo hi 0 k).getD j Av = H9 (x.getD j Av) (lo.getD j Av) (hi.getD j Av) := by
 unfold D6
 rw [List.getD_eq_getElem?_getD, List.getElem?_map, List.getElem?_range' h]
 simp

theorem A9g {n i : Nat} {x lo hi : List Rt} (hx : B1 x = true) (hl : B1 lo = true) (hh : B1 hi = true) (h1 : lo.length = x.length) (h2 : hi.length = x.length) (hn : 1048577 ≤ n) (hi' : i < x.length) :
  f196 n (i : Int) x lo hi = some (H9 (x.getD i Av) (lo.getD i Av) (hi.getD i Av)) := by
 unfold f196 H9
 dsimp only
 have hx4 := Fc hx
 rw [A4 (by simp; try omega), A4 (by simp; try omega)]
 simp only [Int.toNat_natCast]
 obtain ⟨r, e1, _, e2⟩ := A4i (n := n) (B4 hx hi') (B4 hl (i := i) (by omega)) hn
 rw [e1, A3, e2]
 cases Gu (lo.getD i Av) (x.getD i Av) with
 | true => rw [cond_true, A4 (by simp; try omega), if_pos rfl]
 | false =>
  rw [cond_false, A4 (by simp; try omega), A4 (by simp; try omega)]
  obtain ⟨r, e1, e2, _⟩ := A4i (n := n) (B4 hx hi') (B4 hh (i := i) (by omega)) hn
  rw [e1, A3, e2]
  cases Gu (x.getD i Av) (hi.getD i Av) with
  | true => rw [cond_true, A4 (by simp; try omega)]; rfl
  | false => rw [cond_false, A4 (by simp; try omega)]; rfl

theorem N3 {α : Type} {n : Nat} {x lo hi : List Rt} (hx : B1 x = true) (hl : B1 lo = true) (hh : B1 hi = true) (h1 : lo.length = x.length) (h2 : hi.length = x.length) (hn : 1048577 ≤ n) {k0 : List Rt → Option α} :
  ∀ (m i : Nat) (o : List Rt), o.length = i → i ≤ x.length → x.length < i + m → Fx n m (x, lo, hi) (x.length : Int) (i : Int) o k0 = k0 (o ++ D6 x lo hi i (x.length - i))
 | 0, i, o, ho, hi', hm => by omega
 | m + 1, i, o, ho, hi', hm => by
  rw [A86]
  unfold Ld
  dsimp only
  have hx4 := Fc hx
  rw [Bool.cond_decide]
  by_cases h : i < x.length
  · rw [if_pos (by omega), A9g hx hl hh h1 h2 hn h, A3, Age (A7q (B4 hx h) (B4 hl (by omega)) (B4 hh (by omega))), A3, A4 (by simp; try omega), Ab (x := (i : Int) + 1) (by omega) (by omega), show (i : Int) + 1 = ((i + 1 : Nat) : Int) from rfl,
     N3 hx hl hh h1 h2 hn m (i + 1) _ (by simp [ho]) (by omega) (by omega)]
    rw [show x.length - i = (x.length - (i + 1)) + 1 by omega]
    unfold D6
    rw [List.range'_succ, List.map_cons, List.append_assoc]
    rfl
  · rw [if_neg (by omega), show x.length - i = 0 by omega]
    simp [D6]

theorem A0s {α : Type} {n : Nat} {x lo hi : List Rt} (hx : B1 x = true) (hl : B1 lo = true) (hh : B1 hi = true) (h1 : lo.length = x.length) (h2 : hi.length = x.length) (hn : 1048577 ≤ n) {k0 : List Rt → Option α} :
  ∀ (m i : Nat) (o : List Rt), o.length = i → i ≤ x.length → x.length < i + m → Jz n m x lo hi (i : Int) o k0 = k0 (o ++ D6 x lo hi i (x.length - i))
 | 0, i, o, ho, hi', hm => by omega
 | m + 1, i, o, ho, hi', hm => by
  rw [Aov]
  unfold Zi
  dsimp only
  have hx4 := Fc hx
  rw [Bool.cond_decide]
  by_cases h : i < x.length
  · have nx : D6 x lo hi i (x.length - i) = H9 (x.getD i Av) (lo.getD i Av) (hi.getD i Av) :: D6 x lo hi (i + 1) (x.length - (i + 1)) := by
     rw [show x.length - i = (x.length - (i + 1)) + 1 by omega]
     unfold D6
     rw [List.range'_succ, List.map_cons]
    have go : ∀ y : Rt, y = H9 (x.getD i Av) (lo.getD i Av) (hi.getD i Av) → Jz n m x lo hi (W ((i : Int) + 1)) (o ++ [y]) k0 = k0 (o ++ D6 x lo hi i (x.length - i)) := by
     intro y hy
     rw [Ab (x := (i : Int) + 1) (by omega) (by omega), show (i : Int) + 1 = ((i + 1 : Nat) : Int) from rfl, A0s hx hl hh h1 h2 hn m (i + 1) _ (by simp [ho]) (by omega) (by omega), nx, hy, List.append_assoc]
     rfl
    unfold H9 at go
    rw [if_pos (by omega), A4 (by simp; try omega), A4 (by simp; try omega)]
    simp only [Int.toNat_natCast]
    obtain ⟨r, e1, _, e2⟩ := Vn (n := n) (B4 hx h) (B4 hl (i := i) (by omega)) hn
    rw [e1, A3, e2]
    cases hg : Gu (lo.getD i Av) (x.getD i Av) with
    | true =>
     rw [cond_true, A4 (by simp; try omega), A4 (by simp; try omega)]
     exact go _ (by rw [if_pos hg])
    | false =>
     rw [cond_false, A4 (by simp; try omega), A4 (by simp; try omega)]
     obtain ⟨r, e1, e2, _⟩ := Vn (n := n) (B4 hx h) (B4 hh (i := i) (by omega)) hn
     rw [e1, A3, e2]
     cases hg2 : Gu (x.getD i Av) (hi.getD i Av) with
     | true =>
      rw [cond_true, A4 (by simp; try omega), A4 (by simp; try omega)]
      exact go _ (by rw [if_neg (by rw [hg]; decide), if_pos hg2])
     | false =>
      rw [cond_false, A4 (by simp; try omega), A4 (by simp; try omega)]
      exact go _ (by rw [if_neg (by rw [hg]; decide), if_neg (by rw [hg2]; decide)])
  · rw [if_neg (by omega), show x.length - i = 0 by omega]
    simp [D6]

theorem Rf {α : Type} {n : Nat} {x : List Rt} (hx : B1 x = true) (hn : 1048577 ≤ n) {k0 : List Rt → Option α} :
  ∀ (m i : Nat) (o : List Rt), o.length = i → i ≤ x.length → x.length < i + m → Fy n m x (x.length : Int) (i : Int) o k0 = k0 (o ++ x.drop i)
 | 0, i, o, ho, hi', hm => by omega
 | m + 1, i, o, ho, hi', hm => by
  rw [A88]
  unfold Lg
  dsimp only
  have hx4 := Fc hx
  rw [Bool.cond_decide]
  by_cases h : i < x.length
  · have e : f168 n (i : Int) x = some (x.getD i Av) := by
     unfold f168
     rw [A4 (by simp; try omega)]
     simp only [Int.toNat_natCast]
    rw [if_pos (by omega), e, A3, Age (B4 hx h), A3, A4 (by simp; try omega), Ab (x := (i : Int) + 1) (by omega) (by omega), show (i : Int) + 1 = ((i + 1 : Nat) : Int) from rfl,
     Rf hx hn m (i + 1) _ (by simp [ho]) (by omega) (by omega), List.append_assoc, List.drop_eq_getElem_cons h, List.getD_eq_getElem?_getD, List.getElem?_eq_getElem h]
    rfl
  · rw [if_neg (by omega), List.drop_of_length_le (by omega), List.append_nil]

def fnz : List Int → Int
 | [] => 0
 | x :: r => if x = 0 then fnz r else x

theorem A5r {n : Nat} {l : List Int} (hl : l.length ≤ 1048576) : ∀ (m i : Nat), i ≤ l.length → l.length < i + m → A1a n m l (l.length : Int) (i : Int) (fun z => some z) (fun (_ : Unit) => some 0) = some (fnz (l.drop i))
 | 0, i, hi, hm => by omega
 | m + 1, i, hi, hm => by
  rw [Arx]
  unfold A3o
  dsimp only
  rw [Bool.cond_decide]
  by_cases h : i < l.length
  · rw [if_pos (by omega), A4 (by simp; try omega)]
    simp only [Int.toNat_natCast]
    rw [List.drop_eq_getElem_cons h, fnz, List.getD_eq_getElem?_getD, List.getElem?_eq_getElem h, Option.getD_some]
    by_cases hz : l[i] = 0
    · rw [hz, if_pos rfl, bne_self_eq_false, cond_false, Ab (x := (i : Int) + 1) (by omega) (by omega)]
      exact A5r hl m (i + 1) (by omega) (by omega)
    · rw [if_neg hz, show (l[i] != 0) = true by rw [bne_iff_ne]; exact hz, cond_true]
  · rw [if_neg (by omega), List.drop_of_length_le (by omega)]
    rfl

theorem U9 {n : Nat} {l : List Int} (hl : l.length ≤ 1048576) (hn : 1048577 ≤ n) : f68 n l = some (fnz l) := by
 unfold f68
 have := A5r (n := n) hl n 0 (by omega) (by omega)
 exact this

theorem So {n : Nat} {b : Bool} {c : Int} : f69 n b c = some (if b = true then 0 else c) := by
 unfold f69; cases b <;> rfl

def Fo (v : Bool) (p : Prb) (x : List Rt) : Int :=
 if 4096 < x.length then 2 else if v = true ∧ B1 x = true then (if x.length = p.2.1.length then 0 else 8) else 1

theorem Ayj {n : Nat} {p : Prb} {x : List Rt} {v : Bool} (hv : f150 n p = some v) (hn : 1048577 ≤ n) : f81 n p x = some (Fo v p x) := by
 unfold f81 Fo
 rw [Bool.cond_decide]
 by_cases h : 4096 < x.length
 · rw [if_pos (by omega), if_pos h]
 · rw [if_neg (by omega), if_neg h, hv, A3, Agb hn, A3]
   cases v with
   | false => rfl
   | true =>
    cases B1 x with
    | false => rfl
    | true =>
     by_cases hl : x.length = p.2.1.length
     · rw [hl, bne_self_eq_false, if_pos ⟨rfl, rfl⟩, if_pos rfl]; rfl
     · rw [show ((x.length : Int) != (p.2.1.length : Int)) = true by rw [bne_iff_ne]; omega, if_pos ⟨rfl, rfl⟩, if_neg hl]; rfl

theorem Ayd {n : Nat} {p : Prb} {x : List Rt} {v : Bool} (hv : f194 n p = some v) (hn : 1048577 ≤ n) : f84 n p x = some (Fo v p x) := by
 unfold f84 Fo f153
 obtain ⟨c, h1, h2⟩ := Alj (n := n) (L := [x]) (by simp) hn
 rw [h1, A3, hv, A3, So, A3, A3, A4z hn, A3, So, A3, U9 (by simp) hn, A3]
 have hc : c = if 4096 < x.length then 2 else 0 := by
  rcases h2 with ⟨rfl, h⟩ | ⟨rfl, y, hy, h⟩
  · rw [if_neg (by have := h x (by simp); omega)]
  · rw [List.mem_singleton.1 hy] at h
    rw [if_pos h]
 rw [hc]
 by_cases h : 4096 < x.length
 · rw [if_pos h, if_pos h]
   have e : fnz [2, if v = true then 0 else 1, if B1 x = true then 0 else 1] = 2 := rfl
   rw [e]
   simp only [So, A3, U9 (l := [2, _]) (by simp) hn]
   rfl
 · rw [if_neg h, if_neg h]
   by_cases hb : v = true ∧ B1 x = true
   · rw [hb.1, hb.2, B30]
     have e : fnz [0, if true = true then 0 else 1, if true = true then 0 else 1] = 0 := rfl
     rw [e, show (if true = true ∧ true = true then (if x.length = p.2.1.length then (0 : Int) else 8) else 1) = if x.length = p.2.1.length then 0 else 8 from if_pos ⟨rfl, rfl⟩]
     simp only [So, A3, U9 (l := [0, _]) (by simp) hn]
     by_cases hl : x.length = p.2.1.length
     · rw [if_pos hl, hl]
       simp [fnz]
     · rw [if_neg hl, show (x.length == p.2.1.length) = false by rw [beq_eq_false_iff_ne]; exact hl]
       rfl
   · rw [if_neg hb]
     have e : fnz [0, if v = true then 0 else 1, if B1 x = true then 0 else 1] = 1 := by
      cases v <;> cases h1 : B1 x <;> first | rfl | exact absurd ⟨rfl, h1⟩ hb
     rw [e]
     simp only [So, A3, U9 (l := [1, _]) (by simp) hn]
     rfl

theorem Nw {α : Type} {n : Nat} {s1 : List Rt × List Rt × List Rt} {g : Nat → Rat} {N : Nat} (hN : N ≤ 4096) (hg : ∀ i, i < N → f196 n (i : Int) s1.1 s1.2.1 s1.2.2 = some (rq (g i)) ∧ Sz (g i) 1000000) {k0 : List Rt → Option α} : ∀ (m i : Nat), i ≤ N → N < i + m →
  F1 n m s1 (N : Int) (i : Int) (vq ((List.range i).map g)) k0 = k0 (vq ((List.range N).map g))
 | 0, i, hi, hm => by omega
 | m + 1, i, hi, hm => by
  rw [A4t]
  unfold J3
  rw [Bool.cond_decide]
  by_cases h : i < N
  · rw [if_pos (by omega), (hg i h).1, A3]
    refine (A7o (k := fun l => F1 n m s1 (N : Int) (W ((i : Int) + 1)) l k0) (hg i h).2 (by simp [vq]; omega)).trans ?_
    have e : vq ((List.range i).map g) ++ [rq (g i)] = vq ((List.range (i + 1)).map g) := by simp [vq, List.range_succ]
    rw [e, Ab (x := (i : Int) + 1) (by omega) (by omega)]
    exact Nw hN hg m (i + 1) (by omega) (by omega)
  · obtain rfl : i = N := by omega
    rw [if_neg (by omega)]

theorem Ac6 {n : Nat} {s1 : List Rt × List Rt × List Rt} {g : Nat → Rat} {N : Nat} (hN : N ≤ 4096) (hg : ∀ i, i < N → f196 n (i : Int) s1.1 s1.2.1 s1.2.2 = some (rq (g i)) ∧ Sz (g i) 1000000) (hn : 1048577 ≤ n) : M9 n (N : Int) s1 = some (vq ((List.range N).map g)) := by
 unfold M9
 exact Nw (n := n) hN hg n 0 (by omega) (by omega)

theorem Ny {α : Type} {n : Nat} {s1 : List Rt} {g : Nat → Rat} {N : Nat} (hN : N ≤ 4096) (hg : ∀ i, i < N → f168 n (i : Int) s1 = some (rq (g i)) ∧ Sz (g i) 1000000) {k0 : List Rt → Option α} : ∀ (m i : Nat), i ≤ N → N < i + m →
  F2 n m s1 (N : Int) (i : Int) (vq ((List.range i).map g)) k0 = k0 (vq ((List.range N).map g))
 | 0, i, hi, hm => by omega
 | m + 1, i, hi, hm => by
  rw [A4w]
  unfold J6
  rw [Bool.cond_decide]
  by_cases h : i < N
  · rw [if_pos (by omega), (hg i h).1, A3]
    refine (A7o (k := fun l => F2 n m s1 (N : Int) (W ((i : Int) + 1)) l k0) (hg i h).2 (by simp [vq]; omega)).trans ?_
    have e : vq ((List.range i).map g) ++ [rq (g i)] = vq ((List.range (i + 1)).map g) := by simp [vq, List.range_succ]
    rw [e, Ab (x := (i : Int) + 1) (by omega) (by omega)]
    exact Ny hN hg m (i + 1) (by omega) (by omega)
  · obtain rfl : i = N := by omega
    rw [if_neg (by omega)]

theorem Ac8 {n : Nat} {s1 : List Rt} {g : Nat → Rat} {N : Nat} (hN : N ≤ 4096) (hg : ∀ i, i < N → f168 n (i : Int) s1 = some (rq (g i)) ∧ Sz (g i) 1000000) (hn : 1048577 ≤ n) : Ma n (N : Int) s1 = some (vq ((List.range N).map g)) := by
 unfold Ma
 exact Ny (n := n) hN hg n 0 (by omega) (by omega)

theorem A0q : ∀ (Y : List Rat), (List.range Y.length).map (fun i => Y.getD i 0) = Y := fun Y => by
 apply List.ext_getElem
 · simp
 · intro i h1 h2
   simp [List.getD_eq_getElem?_getD, List.getElem?_eq_getElem h2]

theorem Axj {y : List Rt} (h : ∀ i, i < y.length → C4 (y.getD i Av) = true) : y.all C4 = true := List.all_eq_true.2 fun r hr => by
 obtain ⟨i, hi, rfl⟩ := List.getElem_of_mem hr
 have := h i hi
 rw [List.getD_eq_getElem?_getD, List.getElem?_eq_getElem hi] at this
 exact this

theorem Ar5 {n : Nat} {s : Prb} {x : List Rt} (c0 : s.1.length ≤ 1048576) (hn : 1048577 ≤ n) : ∃ R, f33 n s x = some R ∧ f34 n s x = some R ∧ Ai0 n s x = some (Atf R) ∧ J8 R.1 ∧ (R.2 ≠ 0 → R.1 = []) := by
 obtain ⟨v, v1, v2, v3⟩ := Ako (n := n) (p := s) c0 hn
 unfold f33 f34 Ai0
 rw [Ayj v1 hn, Ayd v2 hn, A3, A3, A3]
 by_cases hlong : 4096 < x.length
 · rw [Bool.cond_decide, if_pos (by omega)]
   have e : Fo v s x = 2 := by unfold Fo; rw [if_pos hlong]
   rw [e]
   exact ⟨([], 2), rfl, rfl, rfl, Atq, fun _ => rfl⟩
 · rw [Bool.cond_decide, if_neg (by omega)]
   by_cases hz : Fo v s x = 0
   · rw [hz, bne_self_eq_false, cond_false, cond_false, cond_false]
     have hv : v = true ∧ B1 x = true ∧ x.length = s.2.1.length := by
      unfold Fo at hz
      rw [if_neg hlong] at hz
      by_cases hb : v = true ∧ B1 x = true
      · rw [if_pos hb] at hz
        by_cases hl : x.length = s.2.1.length
        · exact ⟨hb.1, hb.2, hl⟩
        · rw [if_neg hl] at hz; omega
      · rw [if_neg hb] at hz; omega
     obtain ⟨hv1, hx, hxl⟩ := hv
     have hx4 := Fc hx
     obtain ⟨_, hbox⟩ := v3 hv1
     have hy : ∃ Y : List Rat, f87 n s x = some (vq Y) ∧ f88 n s x = some (vq Y) ∧ Ahm n s x = some (vq Y) ∧ Y.length = x.length ∧ Sv Y 40 := by
      unfold f87 f88 Ahm f155 f157
      rw [A3, A3, A3]
      rcases hbox with ⟨hb0, _⟩ | hb3
      · rw [hb0]
        obtain ⟨X, rfl, hX, _, _⟩ := Axk hx
        rw [Ik] at hx4
        refine ⟨X, ?_, ?_, ?_, by rw [Ik], hX⟩
        · rw [show (!decide (((0 : Nat) : Int) > 0)) = true from rfl, cond_true, A4 (by simp; omega)]
        · rw [show (!decide (((0 : Nat) : Int) > 0)) = true from rfl, cond_true]
          unfold f100 A04
          have h := Rf (n := n) hx hn (k0 := fun z_3 => some z_3) n 0 [] rfl (by omega) (by rw [Ik]; omega)
          have h : Fy n n (vq X) ((vq X).length : Int) 0 [] _ = _ := h
          rw [h, A3, A3, List.drop_zero, List.nil_append]
        · rw [show (!decide (((0 : Nat) : Int) > 0)) = true from rfl, cond_true]
          unfold Ajt
          rw [Ik, Ac8 (n := n) (s1 := vq X) (g := fun i => X.getD i 0) (N := X.length) (by omega) (fun i hi => ⟨by
           unfold f168
           rw [A4 (by simp; omega), Int.toNat_natCast, Aed hi], (hX.get hi).mono (by omega)⟩) hn, A3, A3, A0q]
      · unfold Wy at hb3
        simp only [Bool.and_eq_true, beq_iff_eq] at hb3
        obtain ⟨⟨⟨⟨q1, q2⟩, q3⟩, q4⟩, q5⟩ := hb3
        have hlo : 1 ≤ s.2.2.1.length := by
         unfold B1 at q2
         rw [Bool.and_eq_true, decide_eq_true_eq] at q2
         exact q2.1.1
        have hcl := A2h x s.2.2.1 s.2.2.2.1 0 x.length
        obtain ⟨Y, eY, hY⟩ := Ago (l := D6 x s.2.2.1 s.2.2.2.1 0 x.length) (Axj fun i hi => by
         rw [A2h] at hi
         rw [A2i hi]
         exact A7q (B4 hx hi) (B4 q2 (by omega)) (B4 q3 (by omega)))
        have lY : Y.length = x.length := by rw [← hcl, eY, Ik]
        rw [show (!decide ((s.2.2.1.length : Int) > 0)) = false by rw [decide_eq_true (by omega)]; rfl, cond_false, cond_false, cond_false]
        refine ⟨Y, ?_, ?_, ?_, lY, hY⟩
        · unfold f156
          have h := A0s (n := n) hx q2 q3 (by omega) (by omega) hn (k0 := fun z_10 => some z_10) n 0 [] rfl (by omega) (by omega)
          have h : Jz n n x s.2.2.1 s.2.2.2.1 0 [] _ = _ := h
          rw [h, A3, Nat.sub_zero, List.nil_append, eY]
        · unfold f158 A03
          have h := N3 (n := n) hx q2 q3 (by omega) (by omega) hn (k0 := fun z_3 => some z_3) n 0 [] rfl (by omega) (by omega)
          have h : Fx n n (x, s.2.2.1, s.2.2.2.1) (x.length : Int) 0 [] _ = _ := h
          rw [h, A3, A3, Nat.sub_zero, List.nil_append, eY]
        · unfold Ajb
          have h := Ac6 (n := n) (s1 := (x, s.2.2.1, s.2.2.2.1)) (g := fun i => Y.getD i 0) (N := x.length) (by omega) (fun i hi => ⟨by
           have e1 := A9g (n := n) hx q2 q3 (by omega) (by omega) hn hi
           refine e1.trans ?_
           rw [← A2i hi, eY]
           exact congrArg some (Aed (by omega)), (hY.get (by omega)).mono (by omega)⟩) hn
          rw [h, A3, A3, ← lY, A0q]
     obtain ⟨Y, y1, y2, y3, y4, y5⟩ := hy
     rw [y1, y2, y3, A3, A3, A3, Axo (by omega) (y5.mono (by omega)) hn, if_pos (B18 y5), A3]
     exact ⟨(vq Y, 0), rfl, rfl, rfl, B1b y5 (by omega) (by omega), fun h => absurd rfl h⟩
   · have hne : (Fo v s x != 0) = true := by rw [bne_iff_ne]; exact hz
     rw [hne]
     exact ⟨([], Fo v s x), rfl, rfl, by unfold Atf; rw [if_neg hz]; rfl, Atq, fun _ => rfl⟩

theorem B1t {n : Nat} {s : Prb} {x : List Rt} (h0 : s.1.length ≤ 9223372036854775807) (h1 : BdL s.2.1) (h2 : BdL s.2.2.1) (h3 : BdL s.2.2.2.1) (h4 : Bd s.2.2.2.2.2.1) (h5 : BdL x) (hn : 1048577 ≤ n) : f8 n s x = some true := by
 unfold f8
 obtain ⟨r, e, c⟩ := Ayz h0 h1 h2 h3 h4 hn
 rw [e, A3]
 rcases c with rfl | ⟨b, c0, c1, c2, c3, c4⟩
 · rfl
 obtain ⟨r', e', c'⟩ := V9 b h5 hn
 rw [Bool.cond_decide, if_neg (by omega), e', A3]
 rcases c' with rfl | ⟨b', sx⟩
 · rfl
 obtain ⟨R, a1, a2, a3, a4, a5⟩ := Ar5 (n := n) (s := s) (x := x) c0 hn
 have p1 := Ayw c0 c1 c2 c3 c4 hn
 have p2 := Ayv c0 c1 c2 c3 c4 hn
 obtain ⟨E, st, lo, hi, so, ⟨sg, nu, de⟩, it, bk⟩ := s
 dsimp only at c0 c1 c2 c3 c4
 have pB : Ai1 n (E, st, lo, hi, so, (sg, nu, de), it, bk) = some (E, st, lo, hi, so, sg, nu, de, it, bk) := by
  unfold Ai1
  rw [Av7 c0 hn, A3, V5 c1 hn, A3, V5 c2 hn, A3, V5 c3 hn, A3, Af8 c4 hn, A3]
 have u1 := On st (1 + 4 * (E.length : Int)) c1.2
 have w1 := Hn st (1 + 4 * (E.length : Int))
 have l1 := c1.1
 have l2 := c2.1
 have l3 := c3.1
 generalize hK1 : 1 + 4 * (E.length : Int) = K1 at u1 w1
 have u2 := On lo (Aq st K1).1 c2.2
 have w2 := Hn lo (Aq st K1).1
 have u3 := On hi (Aq lo (Aq st K1).1).1 c3.2
 have w3 := Hn hi (Aq lo (Aq st K1).1).1
 generalize hK2 : (Aq st K1).1 = K2 at *
 generalize hK3 : (Aq lo K2).1 = K3 at *
 generalize hK4 : (Aq hi K3).1 = K4 at *
 have c4' : nu.length ≤ 1048576 ∧ de.length ≤ 1048576 := c4
 have mB : Aa9 n (E, st, lo, hi, so, sg, nu, de, it, bk) 1 = some (K4 + nu.length + de.length, mkL 1 E.length, (Aq st K1).2, (Aq lo K2).2, (Aq hi K3).2, Cm K4 nu.length, Cm (K4 + nu.length) de.length) := by
  unfold Aa9
  dsimp only
  rw [Av4 c0 hn, A3, A4 (by simp [N4]), hK1]
  dsimp only
  rw [Nd c1 (by omega) (by omega) hn, A3, A4 (by simp [Dx]), hK2, Nd c2 (by omega) (by omega) hn, A3, A4 (by simp [Dx]), hK3, Nd c3 (by omega) (by omega) hn, A3, A4 (by simp [Dx]), hK4, Av2 (x := (sg, nu, de)) c4 (by omega) (by omega) hn, A3, A4 (by simp [Cl])]
 have sxl := sx.1
 have m9 := Nd (n := n) (k := K4 + nu.length + de.length) sx (by omega) (by omega) hn
 have z6 : decide ((Aq x (K4 + nu.length + de.length)).1 < 0) = false := by
  have := Hn x (K4 + nu.length + de.length)
  simp; omega
 have c3y := A1l sx.1 sx.2 hn
 have c4y := V5 sx hn
 have c6y := Ss sx.1 sx.2 hn
 have c7 : f20 n R.1 R.1 = some true := Ss a4.1 a4.2 hn
 have m7 := Nd (n := n) (k := 1) a4 (by omega) (by omega) hn
 have m8 := Az2 (n := n) (k := 1) a4 (by omega) (by omega) hn
 have z8 : decide ((Aq R.1 1).1 < 0) = false := by
  have := Hn R.1 1
  simp; omega
 have z1 : decide ((1 : Int) < 0) = false := rfl
 rw [Bool.cond_decide, if_neg (by omega), p1, A3, c3y, A3, a1, A3, pB, A3, c4y, A3]
 dsimp only
 rw [a3, A3]
 unfold Atf
 by_cases e : R.2 = 0
 · rw [if_pos e]
   simp only [Cq, A3, c7, Bool.not_true, cond_false, bne_self_eq_false, c3y, c6y, p1, p2, mB, m9, m7, m8, Cl, Dx, N4, Nat.beq_refl, Bool.and_true, Fh, z6, z8, a2]
 · rw [if_neg e]
   have e0 := a5 e
   rw [e0] at c7
   simp only [Cq, A3, e0, c7, Bool.not_true, cond_false, bne_self_eq_false, c3y, c6y, p1, p2, mB, m9, Avj hn, Avg hn, Cl, Dx, N4, Nat.beq_refl, Bool.and_true, Fh, z6, z1, a2]

end Go.Ev
