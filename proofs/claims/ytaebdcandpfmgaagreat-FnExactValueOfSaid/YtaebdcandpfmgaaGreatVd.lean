/- DERIVED. The plain laws: what the models compute. -/
import Derived.Test.YtaebdcandpfmgaaGreatVc

set_option linter.all false
set_option linter.unusedVariables false
set_option linter.unusedSimpArgs false

namespace Go.Ev
open Go

theorem Ac {x : Int} (h : -9223372036854775808 <= x) (h' : x < 9223372036854775808) : W x = x := Amj h h'

@[simp] theorem A2 {α β : Type} (r : β) (k : β -> Option α) : ob (some r) k = k r := rfl

@[simp] theorem B96 {α β : Type} (k : β -> Option α) : ob (none : Option β) k = none := rfl

@[simp] theorem Hd {α : Type} (x : Option α) : gd true x = x := rfl

@[simp] theorem B91 {α : Type} (x : Option α) : gd false x = none := rfl

theorem A4 {α : Type} {g : Bool} (h : g = true) (x : Option α) : gd g x = x := by rw [h]; rfl

theorem Abx (l : List Int) (a b : Int) : l.foldl max a <= b ↔ a <= b /\ ∀ x ∈ l, x <= b := by
 induction l generalizing a with
 | nil => simp
 | cons y r ih =>
  simp only [List.foldl_cons, ih, QT, forall_eq_or_imp]; constructor
  . rintro ⟨h, h'⟩; exact ⟨by omega, by omega, h'⟩
  . rintro ⟨h, h', h''⟩; exact ⟨by omega, h''⟩

theorem Bw {α : Type} {l m : List α} {i : Nat} {d : α} (h : i < l.length) : (l ++ m).getD i d = l.getD i d := by
 simp [QH, QZ h]

theorem Cb {α : Type} {l : List α} {x d : α} : (l ++ [x]).getD l.length d = x := by
 simp [QH]

theorem D2 {α : Type} {l r : List α} {x d : α} {k : Nat} (h : l.drop k = x :: r) : l.getD k d = x /\ k < l.length /\ l.drop (k + 1) = r := by
 have hk : k < l.length := by
  rcases XL k l.length with h' | h'
  . exact h'
  . rw [ZE h'] at h; cases h
 have := XS hk; rw [h] at this; injection this with h1 h2
 exact ⟨by simp [QH, hk, h1], hk, h2.symm⟩

def vl : List Int -> Int
 | [] => 0
 | x :: r => x + 10000 * vl r

def Lm (l : List Int) : Prop := ∀ x ∈ l, 0 <= x /\ x < 10000

def dg (n : Nat) : List Int := if n = 0 then [] else ((n % 10000 : Nat) : Int) :: dg (n / 10000)
termination_by n
decreasing_by omega

theorem C6 : dg 0 = [] := by rw [dg]; rfl

theorem Ee {n : Nat} (h : n ≠ 0) : dg n = ((n % 10000 : Nat) : Int) :: dg (n / 10000) := by rw [dg, QJ h]

theorem Lm.nil : Lm [] := fun _ h => by cases h

theorem Lm.cons {x : Int} {l : List Int} (hx : 0 <= x /\ x < 10000) (hl : Lm l) : Lm (x :: l) := fun y hy => by
 rcases QT.1 hy with rfl | hy
 . exact hx
 . exact hl y hy

theorem Lm.head {x : Int} {l : List Int} (h : Lm (x :: l)) : 0 <= x /\ x < 10000 := h x (by simp)

theorem Lm.tail {x : Int} {l : List Int} (h : Lm (x :: l)) : Lm l := fun y hy => h y (by simp [hy])

theorem Lm.app {l m : List Int} (h : Lm l) (h' : Lm m) : Lm (l ++ m) := fun y hy => (QF.1 hy).elim (h y) (h' y)

theorem Lm.take {l : List Int} (h : Lm l) (k : Nat) : Lm (l.take k) := fun y hy => h y (Qap hy)

theorem Lm.drop {l : List Int} (h : Lm l) (k : Nat) : Lm (l.drop k) := fun y hy => h y (Qan hy)

theorem Lm.set {l : List Int} (h : Lm l) (k : Nat) {x : Int} (hx : 0 <= x /\ x < 10000) : Lm (l.set k x) := fun y hy => by
 rcases JW hy with hy | rfl
 . exact h y hy
 . exact hx

theorem Lm.get {l : List Int} (h : Lm l) (k : Nat) : 0 <= l.getD k 0 /\ l.getD k 0 < 10000 := by
 rw [QH]
 cases e : l[k]? with
 | none => simp
 | some x => exact h x (QW e)

theorem Lm.rep (n : Nat) : Lm (List.replicate n 0) := fun y hy => by
 obtain rfl := (List.mem_replicate.1 hy).2; omega

theorem D8 (n : Nat) : Lm (dg n) := by
 induction n using Nat.strongRecOn with
 | _ n ih =>
  by_cases h : n = 0
  . subst h; rw [C6]; exact Lm.nil
  . rw [Ee h]
    exact Lm.cons (by omega) (ih _ (by omega))

theorem Bb (n : Nat) : vl (dg n) = n := by
 induction n using Nat.strongRecOn with
 | _ n ih =>
  by_cases h : n = 0
  . subst h; rw [C6]; rfl
  . rw [Ee h, vl, ih _ (by omega)]
    omega

theorem Ay {l : List Int} (h : Lm l) : 0 <= vl l := by
 induction l with
 | nil => exact JP _
 | cons x r ih =>
  have := h.head; have := ih h.tail; simp only [vl]; omega

theorem Ew (k : Nat) : (0 : Int) < 10000 ^ k := Int.pow_pos (by omega)

theorem Bj (k : Nat) : (10000 : Int) ^ (k + 1) = 10000 * 10000 ^ k := by rw [Int.pow_succ, Int.mul_comm]

theorem Vn {i j : Nat} (h : i <= j) : (10000 : Int) ^ i <= 10000 ^ j := by
 induction j with
 | zero => obtain rfl : i = 0 := by omega
           exact JP _
 | succ j ih =>
  by_cases e : i = j + 1
  . subst e; exact JP _
  . have := ih (by omega)
    have := Ew j; rw [Bj]; omega

theorem Aj9 {i j : Nat} (h : (10000 : Int) ^ i < 10000 ^ j) : i < j := by
 rcases XL i j with h' | h'
 . exact h'
 . have := Vn h'; omega

theorem Gq {l : List Int} (h : Lm l) : vl l < 10000 ^ l.length := by
 induction l with
 | nil => simp [vl]
 | cons x r ih =>
  have := h.head; have := ih h.tail; simp only [vl, QU, Bj]; omega

theorem A2d (l m : List Int) : vl (l ++ m) = vl l + 10000 ^ l.length * vl m := by
 induction l with
 | nil => simp [vl]
 | cons x r ih => simp only [YI, vl, ih, QU, Bj]; grind

theorem O0 (l : List Int) (x : Int) : vl (l ++ [x]) = vl l + 10000 ^ l.length * x := by rw [A2d]; simp [vl]

theorem T8 (n : Nat) : vl (List.replicate n 0) = 0 := by
 induction n with
 | zero => rfl
 | succ n ih => simp [Qau, vl, ih]

theorem Bs {l : List Int} {k : Nat} (h : k < l.length) : vl (l.take (k + 1)) = vl (l.take k) + 10000 ^ k * l.getD k 0 := by
 rw [KZ h, O0, YM, JE (by omega), QH, QN h]
 rfl

theorem Jq {l : List Int} {k : Nat} (x : Int) (h : k < l.length) : vl (l.set k x) = vl l + 10000 ^ k * (x - l.getD k 0) := by
 induction l generalizing k with
 | nil => simp at h
 | cons y r ih =>
  cases k with
  | zero => simp [vl]; omega
  | succ k =>
   have := ih (k := k) (by simpa using h)
   simp only [List.set_cons_succ, vl, this, JT, Bj]; grind

def Cn (l : List Int) : Prop := Lm l /\ (l ≠ [] -> l.getD (l.length - 1) 0 ≠ 0)

theorem G4 (n : Nat) : Cn (dg n) := by
 refine ⟨D8 n, ?_⟩
 induction n using Nat.strongRecOn with
 | _ n ih =>
  by_cases h : n = 0
  . subst h; rw [C6]; exact fun h => absurd rfl h
  . rw [Ee h]; intro _; by_cases e : dg (n / 10000) = []
    . rw [e]
      have h0 : n / 10000 = 0 := by
       have := Bb (n / 10000); rw [e] at this; simp only [vl] at this; omega
      simp; omega
    . have := ih (n / 10000) (by omega) e
      have hl : 0 < (dg (n / 10000)).length := ZZ.2 e; simp only [QU, JZ]
      rw [show (dg (n / 10000)).length = ((dg (n / 10000)).length - 1) + 1 by omega, JT]
      exact this

theorem Cn.tail {x : Int} {l : List Int} (h : Cn (x :: l)) : Cn l := by
 refine ⟨h.1.tail, fun hn => ?_⟩
 have := h.2 (by simp)
 have hl : 0 < l.length := ZZ.2 hn; simp only [QU, JZ] at this
 rw [show l.length = (l.length - 1) + 1 by omega, JT] at this
 exact this

theorem Cn.pos {l : List Int} (h : Cn l) (hn : l ≠ []) : 0 < vl l := by
 induction l with
 | nil => exact absurd rfl hn
 | cons x r ih =>
  have hx := h.1.head; have hr := Ay h.1.tail; by_cases e : r = []
  . subst e
    have := h.2 (by simp)
    simp at this; simp only [vl]; omega
  . have := ih h.tail e; simp only [vl]; omega

theorem Gt {l : List Int} (h : Cn l) : dg (vl l).toNat = l := by
 induction l with
 | nil => exact C6
 | cons x r ih =>
  have hx := h.1.head; have hr := Ay h.1.tail
  have hp := h.pos (by simp)
  have ih := ih h.tail; simp only [vl] at hp ⊢
  rw [Ee (by omega)]
  congr 1
  . omega
  . rw [<- ih]; congr 1; rw [ih]; omega

theorem Cn.ge {l : List Int} (h : Cn l) (hn : l ≠ []) : (10000 : Int) ^ (l.length - 1) <= vl l := by
 have hl : 0 < l.length := ZZ.2 hn
 have h1 := Bs (l := l) (k := l.length - 1) (by omega)
 rw [show l.length - 1 + 1 = l.length by omega, YF] at h1
 have h2 := h.2 hn; have h3 := h.1.get (l.length - 1); have h4 := Ay (h.1.take (l.length - 1)); have h5 := Ew (l.length - 1)
 have h6 : (10000 : Int) ^ (l.length - 1) * 1 <= 10000 ^ (l.length - 1) * l.getD (l.length - 1) 0 := XJ (by omega) (by omega)
 omega

theorem P9 {n k : Nat} : (dg n).length <= k ↔ (n : Int) < 10000 ^ k := by
 constructor
 . intro h; have := Gq (D8 n); rw [Bb] at this; exact Int.lt_of_lt_of_le this (Vn h)
 . intro h; by_cases e : dg n = []
   . rw [e]; simp
   . have := (G4 n).ge e; rw [Bb] at this; have := Aj9 (Int.lt_of_le_of_lt this h); have hl : 0 < (dg n).length := ZZ.2 e; omega

theorem Asu {n : Nat} : dg n = [] ↔ n = 0 := by
 constructor
 . intro h; have := Bb n; rw [h] at this; simp only [vl] at this; omega
 . rintro rfl; exact C6

theorem B5 {a b : Nat} (h : a <= b) : (dg a).length <= (dg b).length := by
 refine P9.2 ?_; have := Gq (D8 b); rw [Bb] at this; omega

def cm (x y : Int) : Int := if x < y then -1 else if x = y then 0 else 1

theorem S6 {a b : List Int} (ha : Lm a) (hb : Lm b) {k : Nat} (h1 : k < a.length) (h2 : k < b.length) (h : a.getD k 0 < b.getD k 0) : vl (a.take (k + 1)) < vl (b.take (k + 1)) := by
 rw [Bs h1, Bs h2]; have q1 := Gq (ha.take k)
 rw [YM, JE (by omega)] at q1
 have q2 := Ay (hb.take k)
 have q3 : (10000 : Int) ^ k * (a.getD k 0 + 1) <= 10000 ^ k * b.getD k 0 := XJ (by omega) (by have := Ew k; omega)
 rw [Int.mul_add, Int.mul_one] at q3; omega

theorem Cn.lt_of_len {a b : List Int} (ha : Cn a) (hb : Cn b) (h : a.length < b.length) : vl a < vl b := by
 have h1 := Gq ha.1
 have h2 := hb.ge (by intro e; subst e; simp at h)
 have h3 : (10000 : Int) ^ a.length <= 10000 ^ (b.length - 1) := Vn (by omega)
 omega

theorem Cn.of_take {l : List Int} (h : Lm l) {t : Nat} (ht : t <= l.length) (hl : t = 0 \/ l.getD (t - 1) 0 ≠ 0) : Cn (l.take t) := by
 refine ⟨h.take t, fun hn => ?_⟩
 have hlen : (l.take t).length = t := by simp; omega
 rcases hl with rfl | hl
 . simp at hn
 . have ht0 : t ≠ 0 := by rintro rfl; simp at hn
   rw [hlen, QH, XA, QL (by omega), <- QH]
   exact hl

theorem tdv {x : Int} (h : 0 <= x) : Int.tdiv x 10000 = x / 10000 := KF h

theorem tmd {x : Int} (h : 0 <= x) : Int.tmod x 10000 = x % 10000 := Int.tmod_eq_emod_of_nonneg h

theorem Ago {α : Type} {n : Nat} {l : List Int} (hN : l.length <= 1099511627776) {k0 : List Int -> Int -> Option α} : ∀ (m k : Nat), k < m -> k <= l.length ->
  ∃ t, t <= k /\ Wr n m l (k : Int) k0 = k0 l (t : Int) /\ vl (l.take t) = vl (l.take k) /\ (t = 0 \/ l.getD (t - 1) 0 ≠ 0)
 | 0, k, h, _ => by omega
 | m + 1, k, h, hk => by
  rw [Apm]; unfold Zs; dsimp only; by_cases h0 : k = 0
  . subst h0; exact ⟨0, ZA _, rfl, rfl, .inl rfl⟩
  . rw [QI, QL (by omega), Ac (by omega) (by omega), A4 (by simp; omega)]
    have e : ((k : Int) - 1).toNat = k - 1 := by omega
    rw [e, XH]; by_cases hz : l.getD (k - 1) 0 = 0
    . rw [QL (by rw [hz]; rfl)]
      obtain ⟨t, h1, h2, h3, h4⟩ := Ago (n := n) hN (k0 := k0) m (k - 1) (by omega) (by omega)
      refine ⟨t, by omega, ?_, ?_, h4⟩
      . rw [show (k : Int) - 1 = ((k - 1 : Nat) : Int) by omega]; exact h2
      . rw [h3]
        have := Bs (l := l) (k := k - 1) (by omega)
        rw [show k - 1 + 1 = k by omega, hz] at this
        rw [this]; simp
    . rw [QJ (by simpa using hz)]
      exact ⟨k, ZA _, rfl, rfl, .inr hz⟩

theorem Wq {n : Nat} {l : List Int} (hl : Lm l) (hN : l.length <= 1099511627776) (hn : l.length < n) : f218 n l = some (dg (vl l).toNat) := by
 unfold f218; obtain ⟨t, h1, h2, h3, h4⟩ := Ago (n := n) hN (k0 := fun z_1 z_2 => gd (decide (0 <= z_2) && decide (z_2 <= (z_1.length : Int))) (gd (decide ((0 + ((z_1.drop 0).take (z_2.toNat - 0)).length) * 8 <= 140737488355328)) (some ((z_1.drop 0).take (z_2.toNat - 0))))) n l.length hn (ZA _)
 rw [h2, A4 (by simp; omega), A4 (by simp; omega)]
 simp only [XE, QS, Qak]; rw [YF] at h3
 rw [<- h3, Gt (Cn.of_take hl (by omega) h4)]

theorem Agn {α : Type} {n : Nat} {l : List Int} (hN : l.length <= 1099511627776) {k0 : List Int -> Int -> Option α} : ∀ (m k : Nat), k < m -> k <= l.length ->
  ∃ t, t <= k /\ Wo n m l (k : Int) k0 = k0 l (t : Int) /\ vl (l.take t) = vl (l.take k) /\ (t = 0 \/ l.getD (t - 1) 0 ≠ 0)
 | 0, k, h, _ => by omega
 | m + 1, k, h, hk => by
  rw [Apg]; unfold Zl; dsimp only; by_cases h0 : k = 0
  . subst h0; exact ⟨0, ZA _, rfl, rfl, .inl rfl⟩
  . rw [QI, QL (by omega), Ac (by omega) (by omega), A4 (by simp; omega)]
    have e : ((k : Int) - 1).toNat = k - 1 := by omega
    rw [e, XH]; by_cases hz : l.getD (k - 1) 0 = 0
    . rw [QL (by rw [hz]; rfl)]
      obtain ⟨t, h1, h2, h3, h4⟩ := Agn (n := n) hN (k0 := k0) m (k - 1) (by omega) (by omega)
      refine ⟨t, by omega, ?_, ?_, h4⟩
      . rw [show (k : Int) - 1 = ((k - 1 : Nat) : Int) by omega]; exact h2
      . rw [h3]
        have := Bs (l := l) (k := k - 1) (by omega)
        rw [show k - 1 + 1 = k by omega, hz] at this
        rw [this]; simp
    . rw [QJ (by simpa using hz)]
      exact ⟨k, ZA _, rfl, rfl, .inr hz⟩

theorem Oi {n : Nat} {l : List Int} (hl : Lm l) (hN : l.length <= 1099511627776) (hn : l.length < n) : f225 n l = some (dg (vl l).toNat) := by
 unfold f225; obtain ⟨t, h1, h2, h3, h4⟩ := Agn (n := n) hN (k0 := fun z_1 z_2 => gd (decide (0 <= z_2) && decide (z_2 <= (z_1.length : Int))) (some ((z_1.drop 0).take (z_2.toNat - 0)))) n l.length hn (ZA _)
 rw [h2, A4 (by simp; omega)]
 simp only [XE, QS, Qak]; rw [YF] at h3
 rw [<- h3, Gt (Cn.of_take hl (by omega) h4)]

theorem Aaw {α : Type} {n : Nat} {k0 : List Int -> Option α} : ∀ (m x : Nat) (o : List Int), (x : Int) <= 9223372036854775807 -> (dg x).length < m -> o.length + (dg x).length <= 1099511627776 -> X1 n m (x : Int) o k0 = k0 (o ++ dg x)
 | 0, x, o, _, h, _ => by omega
 | m + 1, x, o, hx, h, hN => by
  rw [Arb]; unfold A16; dsimp only; by_cases h0 : x = 0
  . subst h0; rw [C6]; simp
  . rw [Ee h0] at h hN ⊢; simp only [QU] at h hN
    rw [QI, QL (by omega), A4 (by simp; omega), tdv (by omega), tmd (by omega), Ac (by omega) (by omega), show (x : Int) / 10000 = ((x / 10000 : Nat) : Int) by omega, show (x : Int) % 10000 = ((x % 10000 : Nat) : Int) by omega]
    rw [Aaw (n := n) m (x / 10000) _ (by omega) (by omega) (by simp; omega)]
    simp

theorem Ow {n : Nat} {x : Nat} (hx : (x : Int) <= 9223372036854775807) (hn : 10 < n) : f181 n (x : Int) = some (dg x) := by
 have hl : (dg x).length <= 5 := P9.2 (by rw [show (10000 : Int) ^ 5 = 100000000000000000000 from rfl]; omega)
 unfold f181
 rw [Aaw (n := n) n x [] hx (by omega) (by simp; omega)]
 simp

theorem Aax {α : Type} {n : Nat} {k0 : List Int -> Option α} : ∀ (m x : Nat) (o : List Int), (x : Int) <= 9223372036854775807 -> (dg x).length < m -> o.length + (dg x).length <= 1099511627776 -> X2 n m (x : Int) o k0 = k0 (o ++ dg x)
 | 0, x, o, _, h, _ => by omega
 | m + 1, x, o, hx, h, hN => by
  rw [Ard]; unfold A19; dsimp only; by_cases h0 : x = 0
  . subst h0; rw [C6]; simp
  . rw [Ee h0] at h hN ⊢; simp only [QU] at h hN
    rw [QI, QL (by omega), A4 (by simp; omega), tdv (by omega), tmd (by omega), Ac (by omega) (by omega), show (x : Int) / 10000 = ((x / 10000 : Nat) : Int) by omega, show (x : Int) % 10000 = ((x % 10000 : Nat) : Int) by omega]
    rw [Aax (n := n) m (x / 10000) _ (by omega) (by omega) (by simp; omega)]
    simp

theorem A6a {n : Nat} {x : Nat} (hx : (x : Int) <= 9223372036854775807) (hn : 10 < n) : f179 n (x : Int) = some (dg x) := by
 have hl : (dg x).length <= 5 := P9.2 (by rw [show (10000 : Int) ^ 5 = 100000000000000000000 from rfl]; omega)
 unfold f179
 rw [Aax (n := n) n x [] hx (by omega) (by simp; omega)]
 simp

theorem P0 {n : Nat} {b : Bool} : f170 n b = some (if b = true then 1 else 0) := by cases b <;> rfl

theorem I7 {x y : Int} (h : x < y) : cm x y = -1 := by unfold cm; rw [QL h]

theorem I8 {x y : Int} (h : y < x) : cm x y = 1 := by unfold cm; rw [QJ (by omega), QJ (by omega)]

theorem Jm {x y : Int} (h : x = y) : cm x y = 0 := by unfold cm; rw [QJ (by omega), QL h]

theorem Asx (x y z : Int) : cm (x + z) (y + z) = cm x y := by
 rcases Int.lt_trichotomy x y with h | h | h
 . rw [I7 h, I7 (by omega)]
 . rw [Jm h, Jm (by omega)]
 . rw [I8 h, I8 (by omega)]

theorem Asw {α : Type} {n : Nat} {a b : List Int} (ha : Lm a) (hb : Lm b) (hab : a.length = b.length) (hN : a.length <= 1099511627776) {k0 : Int -> Option α} {k1 : Unit -> Option α} : ∀ (m k : Nat), k < m -> k <= a.length ->
  Wx n m a b ((k : Int) - 1) k0 k1 = if vl (a.take k) = vl (b.take k) then k1 () else k0 (cm (vl (a.take k)) (vl (b.take k)))
 | 0, k, h, _ => by omega
 | m + 1, k, h, hk => by
  rw [Ar0]; unfold A0s; dsimp only; by_cases h0 : k = 0
  . subst h0; simp
  . rw [QI, QL (by omega), A4 (by simp; omega), A4 (by simp; omega)]
    have e : ((k : Int) - 1).toNat = k - 1 := by omega
    rw [e, XH]
    have ta := Bs (l := a) (k := k - 1) (by omega)
    have tb := Bs (l := b) (k := k - 1) (by omega)
    rw [show k - 1 + 1 = k by omega] at ta tb
    by_cases hz : a.getD (k - 1) 0 = b.getD (k - 1) 0
    . rw [QJ (by simpa using hz), Ac (by omega) (by omega)]
      rw [show (k : Int) - 1 - 1 = ((k - 1 : Nat) : Int) - 1 by omega, Asw (n := n) ha hb hab hN m (k - 1) (by omega) (by omega)]
      rw [ta, tb, hz]; by_cases h1 : vl (a.take (k - 1)) = vl (b.take (k - 1))
      . rw [QL h1, QL (by omega)]
      . rw [QJ h1, QJ (by omega)]
        rw [Asx]
    . rw [QL (by simpa using hz), A4 (by simp; omega), A4 (by simp; omega), P0, A2]
      rcases Int.lt_or_gt_of_ne hz with h1 | h1
      . have := S6 ha hb (k := k - 1) (by omega) (by omega) h1
        rw [show k - 1 + 1 = k by omega] at this
        rw [show (if vl (a.take k) = vl (b.take k) then k1 () else k0 (cm (vl (a.take k)) (vl (b.take k)))) = k0 (-1) by rw [QJ (by omega), I7 this], QJ (by rw [QQ]; omega)]
        rfl
      . have := S6 hb ha (k := k - 1) (by omega) (by omega) h1
        rw [show k - 1 + 1 = k by omega] at this
        rw [show (if vl (a.take k) = vl (b.take k) then k1 () else k0 (cm (vl (a.take k)) (vl (b.take k)))) = k0 1 by rw [QJ (by omega), I8 this], QL (by rw [QQ]; omega)]
        rfl

theorem B0o {n : Nat} {a b : List Int} (ha : Cn a) (hb : Cn b) (hN : a.length <= 1099511627776) (hn : a.length < n) : f188 n a b = some (cm (vl a) (vl b)) := by
 unfold f188; rw [XH]; by_cases h : a.length = b.length
 . rw [QJ (by simp [h]), Ac (by omega) (by omega), Asw (n := n) ha.1 hb.1 h hN n a.length hn (ZA _)]
   rw [YF, h, YF]; by_cases h1 : vl a = vl b
   . rw [QL h1, Jm h1]
   . rw [QJ h1]
 . rw [QL (by simp; omega), P0, A2]
   rcases Nat.lt_or_gt_of_ne h with h1 | h1
   . rw [I7 (ha.lt_of_len hb h1), QJ (by simp; omega)]; rfl
   . rw [I8 (hb.lt_of_len ha h1), QL (by simp; omega)]; rfl

theorem Asv {α : Type} {n : Nat} {a b : List Int} (ha : Lm a) (hb : Lm b) (hab : a.length = b.length) {k0 k1 : Int -> Option α} : ∀ (k : Nat), k <= a.length ->
  M9 n a k a b 0 k0 k1 = if vl (a.take k) = vl (b.take k) then k0 0 else k1 (cm (vl (a.take k)) (vl (b.take k)))
 | 0, _ => by rw [Aq7]; simp
 | k + 1, hk => by
  rw [Aq5]; unfold A06; dsimp only
  rw [A4 (by simp; omega), XH]
  have ta := Bs (l := a) (k := k) (by omega)
  have tb := Bs (l := b) (k := k) (by omega)
  simp only [QS]; by_cases hz : a.getD k 0 = b.getD k 0
  . rw [QJ (by simpa using hz), A4 (by simp), Asv ha hb hab k (by omega)]
    rw [ta, tb, hz]; by_cases h1 : vl (a.take k) = vl (b.take k)
    . rw [QL h1, QL (by omega)]
    . rw [QJ h1, QJ (by omega)]
      rw [Asx]
  . rw [QL (by simpa using hz), A4 (by simp; omega), QI]
    rcases Int.lt_or_gt_of_ne hz with h1 | h1
    . have := S6 ha hb (k := k) (by omega) (by omega) h1
      rw [show (if vl (a.take (k + 1)) = vl (b.take (k + 1)) then k0 0 else k1 (cm (vl (a.take (k + 1))) (vl (b.take (k + 1))))) = k1 (-1) by rw [QJ (by omega), I7 this], QL h1]
    . have := S6 hb ha (k := k) (by omega) (by omega) h1
      rw [show (if vl (a.take (k + 1)) = vl (b.take (k + 1)) then k0 0 else k1 (cm (vl (a.take (k + 1))) (vl (b.take (k + 1))))) = k1 1 by rw [QJ (by omega), I8 this], QJ (by omega)]

theorem B01 {n : Nat} {a b : List Int} (ha : Cn a) (hb : Cn b) (hN : a.length <= 1099511627776) : f203 n a b = some (cm (vl a) (vl b)) := by
 unfold f203; rw [XH]; by_cases h : a.length = b.length
 . rw [QJ (by simp [h])]
   rw [show f228 n a = some a from rfl, A2, Aq6, A4 (by simp; omega), Asv ha.1 hb.1 h a.length (ZA _)]
   rw [YF, h, YF]; by_cases h1 : vl a = vl b
   . rw [QL h1, Jm h1]
   . rw [QJ h1]
 . rw [QL (by simp; omega), QI]
   rcases Nat.lt_or_gt_of_ne h with h1 | h1
   . rw [I7 (ha.lt_of_len hb h1), QL (by omega)]
   . rw [I8 (hb.lt_of_len ha h1), QJ (by omega)]

theorem Az (l : List Int) (k : Nat) : vl (l.take (k + 1)) = vl (l.take k) + 10000 ^ k * l.getD k 0 := by
 rcases XL k l.length with h | h
 . exact Bs h
 . rw [XV (by omega), XV (by omega), QH, YV h]
   simp

theorem B6 {l : List Int} {k : Nat} (h : l.length <= k) : l.getD k 0 = 0 := by
 rw [QH, YV h]; rfl

theorem Cn.of_ge {l : List Int} (h : Lm l) (hg : l ≠ [] -> (10000 : Int) ^ (l.length - 1) <= vl l) : Cn l := by
 refine ⟨h, fun hn e => ?_⟩; have hl : 0 < l.length := ZZ.2 hn; have h1 := Az l (l.length - 1)
 rw [show l.length - 1 + 1 = l.length by omega, YF, e] at h1
 have h2 := Gq (h.take (l.length - 1))
 rw [YM, JE (by omega)] at h2
 have := hg hn; omega

theorem Ih (l : List Int) {k : Nat} (h : l.length <= k) : l.take k = l := XV h

theorem Atd {α : Type} {n : Nat} {a b : List Int} (ha : Cn a) (hb : Cn b) (hN : a.length <= 1099511627776) (hNb : b.length <= 1099511627776) {k0 : List Int -> Option α} : ∀ (m i : Nat) (c : Int) (o : List Int), o.length = i -> Lm o -> 0 <= c -> c <= 1 ->
  vl o + 10000 ^ i * c = vl (a.take i) + vl (b.take i) -> (i <= max a.length b.length \/ (i = max a.length b.length + 1 /\ c = 0 /\ o.getD (i - 1) 0 ≠ 0)) -> max a.length b.length + 2 <= i + m ->
  Ot n m a b c (i : Int) o k0 = k0 (dg (vl a + vl b).toNat)
 | 0, i, c, o, ho, hlo, hc0, hc1, hv, hq, hm => by omega
 | m + 1, i, c, o, ho, hlo, hc0, hc1, hv, hq, hm => by
  rw [Ar3]; unfold A0v; dsimp only
  have fin : a.length <= i -> b.length <= i -> c = 0 -> o = dg (vl a + vl b).toNat := fun h1 h2 h3 => by
   rw [Ih a h1, Ih b h2, h3] at hv
   have hv' : vl o = vl a + vl b := by simpa using hv
   have : Cn o := Cn.of_ge hlo fun hn => by
    have hl : 0 < o.length := ZZ.2 hn; rcases hq with hq | ⟨hq1, _, hq3⟩
    . have hmx : i = max a.length b.length := by omega
      rw [ho, hv']; rcases Nat.le_total a.length b.length with hab | hab
      . have h4 := hb.ge (ZZ.1 (by omega))
        have h5 := Ay ha.1
        rw [show i - 1 = b.length - 1 by omega]; omega
      . have h4 := ha.ge (ZZ.1 (by omega))
        have h5 := Ay hb.1
        rw [show i - 1 = a.length - 1 by omega]; omega
    . have h1 := Az o (o.length - 1)
      rw [show o.length - 1 + 1 = o.length by omega, YF] at h1
      have h2 := Ay (hlo.take (o.length - 1)); have h3 := hlo.get (o.length - 1); rw [<- ho] at hq3; have h4 := Ew (o.length - 1)
      have h5 : (10000 : Int) ^ (o.length - 1) * 1 <= 10000 ^ (o.length - 1) * o.getD (o.length - 1) 0 := XJ (by omega) (by omega)
      omega
   rw [<- hv', Gt this]
  have go : ∀ (y : Int), y = c + a.getD i 0 + b.getD i 0 -> (i < max a.length b.length \/ (i = max a.length b.length /\ 0 < c)) -> Ot n m a b (W (Int.tdiv y 10000)) (W ((i : Int) + 1)) (o ++ [Int.tmod y 10000]) k0 = k0 (dg (vl a + vl b).toNat) := by
   intro y hy hi; have h1 := ha.1.get i; have h2 := hb.1.get i
   rw [tdv (by omega), tmd (by omega), Ac (by omega) (by omega), Ac (by omega) (by omega)]
   have ta := Az a i; have tb := Az b i
   have hyy : y = 10000 * (y / 10000) + y % 10000 := by omega
   refine Atd (n := n) ha hb hN hNb m (i + 1) _ _ (by simp [ho]) (hlo.app (Lm.cons (by omega) Lm.nil)) (by omega) (by omega) ?_ ?_ (by omega)
   . rw [O0, ho, ta, tb, Bj]; generalize y / 10000 = q at *; generalize y % 10000 = r at *; generalize (10000 : Int) ^ i = P at *; grind
   . rcases hi with hi | ⟨hi, hc⟩
     . exact .inl (by omega)
     . right
       have e1 : a.getD i 0 = 0 := B6 (by omega)
       have e2 : b.getD i 0 = 0 := B6 (by omega)
       have e3 : y = 1 := by omega
       subst e3
       refine ⟨by omega, by rfl, ?_⟩
       rw [JZ, <- ho, QH]; simp
  have hcases : (i < a.length \/ i < b.length \/ 0 < c) -> (i < max a.length b.length \/ (i = max a.length b.length /\ 0 < c)) := fun h => by
   rcases h with h | h | h
   . exact .inl (by omega)
   . exact .inl (by omega)
   . rcases hq with hq | ⟨_, h0, _⟩
     . omega
     . omega
  have ho2 : (decide ((o.length + 1) * 8 <= 140737488355328)) = true := by
   rw [QQ]; rcases hq with hq | ⟨hq, _⟩ <;> omega
  have h1 := ha.1.get i; have h2 := hb.1.get i; by_cases hA : i < a.length
  . have dA : decide ((i : Int) < (a.length : Int)) = true := by rw [QQ]; omega
    simp only [dA, ZM, QS]
    rw [A4 (by simp; try omega), Ac (x := c + a.getD i 0) (by omega) (by omega)]
    by_cases hB : i < b.length
    . have dB : decide ((i : Int) < (b.length : Int)) = true := by rw [QQ]; omega
      simp only [dB, ZM]
      rw [A4 (by simp; try omega), A4 ho2, Ac (x := c + a.getD i 0 + b.getD i 0) (by omega) (by omega)]
      exact go _ rfl (hcases (.inl hA))
    . have dB : decide ((i : Int) < (b.length : Int)) = false := by rw [ZS]; omega
      simp only [dB, QX]; rw [A4 ho2]
      exact go _ (by rw [B6 (l := b) (by omega)]; omega) (hcases (.inl hA))
  . have dA : decide ((i : Int) < (a.length : Int)) = false := by rw [ZS]; omega
    simp only [dA, QX, QS]; by_cases hB : i < b.length
    . have dB : decide ((i : Int) < (b.length : Int)) = true := by rw [QQ]; omega
      simp only [dB, ZM]
      rw [A4 (by simp; try omega), A4 ho2, Ac (x := c + b.getD i 0) (by omega) (by omega)]
      exact go _ (by rw [B6 (l := a) (by omega)]; omega) (hcases (.inr (.inl hB)))
    . have dB : decide ((i : Int) < (b.length : Int)) = false := by rw [ZS]; omega
      simp only [dB, QX]; rw [QI]; by_cases hc : 0 < c
      . rw [QL (by omega), A4 ho2]
        exact go _ (by rw [B6 (l := a) (by omega), B6 (l := b) (by omega)]; omega) (hcases (.inr (.inr hc)))
      . rw [QJ (by omega), fin (by omega) (by omega) (by omega)]

theorem B0q {n : Nat} {a b : List Int} (ha : Cn a) (hb : Cn b) (hN : a.length <= 1099511627776) (hNb : b.length <= 1099511627776) (hn : max a.length b.length + 2 <= n) : f187 n a b = some (dg (vl a + vl b).toNat) := by
 unfold f187
 have := Atd (n := n) ha hb hN hNb (k0 := fun z_6 => some z_6) n 0 0 [] rfl Lm.nil (by omega) (by omega) (by simp [vl]) (.inl (by omega)) (by omega)
 exact this

theorem Amo {α : Type} {n : Nat} {a b : List Int} (ha : Lm a) (hb : Lm b) (hN : a.length <= 1099511627776) {k0 : List Int -> Option α} : ∀ (m i : Nat) (c : Int) (o : List Int), o.length = i -> Lm o -> 0 <= c -> c <= 1 -> i <= a.length ->
  vl o - 10000 ^ i * c = vl (a.take i) - vl (b.take i) -> a.length + 1 <= i + m ->
  ∃ o' c', Lc n m a b c (i : Int) o k0 = k0 o' /\ o'.length = a.length /\ Lm o' /\ 0 <= c' /\ c' <= 1 /\ vl o' - 10000 ^ a.length * c' = vl a - vl (b.take a.length)
 | 0, i, c, o, ho, hlo, hc0, hc1, hi, hv, hm => by omega
 | m + 1, i, c, o, ho, hlo, hc0, hc1, hi, hv, hm => by
  rw [Aqy]; unfold A0p; dsimp only; by_cases hA : i < a.length
  . rw [QI, QL (by omega), A4 (by simp; try omega)]
    have h1 := ha.get i; have h2 := hb.get i; have ta := Az a i; have tb := Az b i
    have ho2 : (decide ((o.length + 1) * 8 <= 140737488355328)) = true := by
     rw [QQ]; omega
    have go : ∀ y : Int, y = a.getD i 0 - c - b.getD i 0 -> ∃ o' c', Lc n m a b (if y < 0 then 1 else 0) (W ((i : Int) + 1)) (o ++ [W (y + W ((if y < 0 then 1 else 0) * 10000))]) k0 = k0 o' /\ o'.length = a.length /\ Lm o' /\ 0 <= c' /\ c' <= 1 /\ vl o' - 10000 ^ a.length * c' = vl a - vl (b.take a.length) := by
     intro y hy
     obtain ⟨d, hd⟩ : ∃ d : Int, d = if y < 0 then 1 else 0 := ⟨_, rfl⟩
     have hd1 : 0 <= d /\ d <= 1 /\ 0 <= y + d * 10000 /\ y + d * 10000 < 10000 := by
      rw [hd]; split <;> omega
     rw [<- hd, Ac (x := d * 10000) (by omega) (by omega), Ac (x := y + d * 10000) (by omega) (by omega), Ac (x := (i : Int) + 1) (by omega) (by omega)]
     refine Amo (n := n) ha hb hN m (i + 1) d _ (by simp [ho]) (hlo.app (Lm.cons (by omega) Lm.nil)) (by omega) (by omega) (by omega) ?_ (by omega)
     rw [O0, ho, ta, tb, Bj]; generalize (10000 : Int) ^ i = P at *; grind
    simp only [QS]; by_cases hB : i < b.length
    . have dB : decide ((i : Int) < (b.length : Int)) = true := by rw [QQ]; omega
      simp only [dB, ZM]
      rw [A4 (by simp; try omega)]
      simp only [Ac (x := a.getD i 0 - c) (by omega) (by omega), Ac (x := a.getD i 0 - c - b.getD i 0) (by omega) (by omega)]
      rw [P0, A2, A4 ho2]; simp only [QQ]; exact go _ rfl
    . have dB : decide ((i : Int) < (b.length : Int)) = false := by rw [ZS]; omega
      simp only [dB, QX]
      simp only [Ac (x := a.getD i 0 - c) (by omega) (by omega)]
      rw [P0, A2, A4 ho2]; simp only [QQ]
      exact go _ (by rw [B6 (l := b) (by omega)]; omega)
  . rw [QI, QJ (by omega)]
    obtain rfl : i = a.length := by omega
    rw [YF] at hv; exact ⟨o, c, rfl, ho, hlo, hc0, hc1, hv⟩

theorem B0m {n : Nat} {a b : List Int} (ha : Cn a) (hb : Cn b) (hN : a.length <= 1099511627776) (hn : a.length + 1 <= n) (hab : vl b <= vl a) : f189 n a b = some (dg (vl a - vl b).toNat) := by
 have hl : b.length <= a.length := by
  rcases XL a.length b.length with h | h
  . have := ha.lt_of_len hb h; omega
  . exact h
 unfold f189
 obtain ⟨o, c, h1, h2, h3, h4, h5, h6⟩ := Amo (n := n) ha.1 hb.1 hN (k0 := fun z_4 => ob (f218 n z_4) fun r_5 => some r_5) n 0 0 [] rfl Lm.nil (by omega) (by omega) (by omega) (by simp [vl]) (by omega)
 have h1 : Lc n n a b 0 0 [] (fun z_4 => ob (f218 n z_4) fun r_5 => some r_5) = _ := h1
 rw [h1, Wq h3 (by omega) (by omega), A2]
 rw [Ih b hl] at h6; have h7 := Gq h3; rw [h2] at h7
 have : c = 0 := by
  rcases Int.lt_or_eq_of_le h4 with h | h
  . have : c = 1 := by omega
    rw [this] at h6; omega
  . exact h.symm
 rw [this] at h6
 rw [show vl o = vl a - vl b by simpa using h6]

theorem L3 {l : List Int} {k : Nat} (h : k < l.length) : vl (l.drop k) = l.getD k 0 + 10000 * vl (l.drop (k + 1)) := by
 rw [XS h, vl, QH, QN h]; rfl

theorem Abg {P o ok y q r c ai bk v' T : Int} (h : o + P * (c + ai * (bk + 10000 * v')) = T) (hy : y = ok + c + ai * bk) (hq : y = 10000 * q + r) : o + P * (r - ok) + 10000 * P * (q + ai * v') = T := by
 grind

theorem Yv {x y : Int} (hx : 0 <= x /\ x < 10000) (hy : 0 <= y /\ y < 10000) : 0 <= x * y /\ x * y <= 99980001 := by
 have h1 := Int.mul_nonneg hx.1 hy.1
 have h2 : x * y <= 9999 * y := Int.mul_le_mul_of_nonneg_right (by omega) hy.1
 omega

theorem Ane {α : Type} {n : Nat} {a b : List Int} (ha : Lm a) (hb : Lm b) (i : Nat) (hi : i < a.length) {S : Nat} (hS : a.length + b.length < S) (hN : S <= 1099511627776) {T : Int} (hT : T < 10000 ^ S) {k0 : List Int -> List Int -> Int -> List Int -> Option α} :
  ∀ (m k : Nat) (c : Int) (o : List Int), Lm o -> o.length = S -> 0 <= c -> c < 10000 -> i + k <= S -> vl o + 10000 ^ (i + k) * (c + a.getD i 0 * vl (b.drop k)) = T -> S + 1 <= i + k + m ->
  ∃ o', Lm o' /\ o'.length = S /\ vl o' = T /\ Ld n m a b (i : Int) c (k : Int) o k0 = k0 a b (i : Int) o'
 | 0, k, c, o, hlo, ho, hc0, hc1, hik, hv, hm => by omega
 | m + 1, k, c, o, hlo, ho, hc0, hc1, hik, hv, hm => by
  rw [Ar6]; unfold A0y; dsimp only; have h1 := ha.get i; have h2 := hb.get k; have h3 := hlo.get (i + k); have h4 := Yv h1 h2; have hvo := Ay hlo
  have go : ∀ y : Int, i + k < S -> (k < b.length \/ b.length <= k) -> y = o.getD (i + k) 0 + c + a.getD i 0 * b.getD k 0 ->
    ∃ o', Lm o' /\ o'.length = S /\ vl o' = T /\ Ld n m a b (i : Int) (W (Int.tdiv y 10000)) (W ((k : Int) + 1)) (o.set (i + k) (Int.tmod y 10000)) k0 = k0 a b (i : Int) o' := by
   intro y hlt hk hy
   rw [tdv (by omega), tmd (by omega), Ac (by omega) (by omega), Ac (by omega) (by omega)]
   refine Ane (n := n) ha hb i hi hS hN hT m (k + 1) _ _ (hlo.set _ (by omega)) (by simpa using ho) (by omega) (by omega) (by omega) ?_ (by omega)
   rw [Jq _ (by omega), show i + (k + 1) = (i + k) + 1 by omega, Bj]
   have hyy : y = 10000 * (y / 10000) + y % 10000 := by omega
   refine Abg (bk := b.getD k 0) ?_ hy hyy; rcases hk with hk | hk
   . rw [<- L3 hk]; exact hv
   . rw [ZE (by omega)] at hv ⊢
     rw [B6 hk]; simpa [vl] using hv
  by_cases hB : k < b.length
  . have dB : decide ((k : Int) < (b.length : Int)) = true := by rw [QQ]; omega
    simp only [dB, ZM, QS]
    rw [Ac (x := (i : Int) + (k : Int)) (by omega) (by omega)]
    have e : ((i : Int) + (k : Int)).toNat = i + k := by omega
    simp only [e]
    rw [A4 (by simp; try omega), A4 (by simp; try omega), A4 (by simp; try omega), A4 (by simp; try omega), Ac (x := a.getD i 0 * b.getD k 0) (by omega) (by omega), Ac (x := o.getD (i + k) 0 + c) (by omega) (by omega), Ac (x := o.getD (i + k) 0 + c + a.getD i 0 * b.getD k 0) (by omega) (by omega), A4 (by simp; try omega), A4 (by simp; try omega)]
    exact go _ (by omega) (.inl hB) rfl
  . have dB : decide ((k : Int) < (b.length : Int)) = false := by rw [ZS]; omega
    simp only [dB, QX]; rw [QI]
    rw [ZE (by omega)] at hv
    by_cases hc : 0 < c
    . have hlt : i + k < S := by
       refine Aj9 ?_
       have h5 : (10000 : Int) ^ (i + k) * 1 <= 10000 ^ (i + k) * c := XJ (by omega) (by have := Ew (i + k); omega)
       simp only [vl, Qaa, Qar] at hv; omega
      rw [QL (by omega), Ac (x := (i : Int) + (k : Int)) (by omega) (by omega)]
      have e : ((i : Int) + (k : Int)).toNat = i + k := by omega
      simp only [e]
      rw [A4 (by simp; try omega), A4 (by simp; try omega), A4 (by simp; try omega), A4 (by simp; try omega), Ac (x := o.getD (i + k) 0 + c) (by omega) (by omega)]
      exact go _ hlt (.inr (by omega)) (by rw [B6 (l := b) (by omega)]; omega)
    . rw [QJ (by omega)]
      obtain rfl : c = 0 := by omega
      exact ⟨o, hlo, ho, by simpa [vl] using hv, rfl⟩

theorem And {a b : List Int} (ha : Lm a) (hb : Lm b) {i S : Nat} (hS : i + b.length <= S) : vl (a.take i) * vl b < 10000 ^ S := by
 have h1 := Gq (ha.take i); have h2 := Gq hb; have h3 := Ay (ha.take i); have h4 := Ay hb
 have h5 : (10000 : Int) ^ (a.take i).length <= 10000 ^ i := Vn (by simp; omega)
 have h6 := Ew i; have h7 := Ew b.length
 have h8 : vl (a.take i) * vl b <= vl (a.take i) * 10000 ^ b.length := XJ (by omega) h3
 have h9 : vl (a.take i) * 10000 ^ b.length < 10000 ^ i * 10000 ^ b.length := Int.mul_lt_mul_of_pos_right (by omega) h7
 rw [<- Int.pow_add] at h9; have h10 : (10000 : Int) ^ (i + b.length) <= 10000 ^ S := Vn hS; omega

theorem Agz {α : Type} {n : Nat} {a b : List Int} (ha : Lm a) (hb : Lm b) {S : Nat} (hS : a.length + b.length < S) (hN : S <= 1099511627776) (hn : S + 1 <= n) {k0 : List Int -> Option α} :
  ∀ (m i : Nat) (o : List Int), Lm o -> o.length = S -> i <= a.length -> vl o = vl (a.take i) * vl b -> a.length + 1 <= i + m ->
  ∃ o', Lm o' /\ o'.length = S /\ vl o' = vl a * vl b /\ Le n m a b (i : Int) o k0 = k0 o'
 | 0, i, o, hlo, ho, hi, hv, hm => by omega
 | m + 1, i, o, hlo, ho, hi, hv, hm => by
  rw [Ar8]; unfold A11; dsimp only; rw [QI]; by_cases hA : i < a.length
  . rw [QL (by omega)]
    have hT : vl (a.take (i + 1)) * vl b < 10000 ^ S := And ha hb (by omega)
    obtain ⟨o', q1, q2, q3, q4⟩ := Ane (n := n) ha hb i hA hS hN hT (k0 := fun z_1 z_2 z_3 z_4 => Le n m z_1 z_2 (W (z_3 + 1)) z_4 k0) n 0 0 o hlo ho (by omega) (by omega) (by omega) (by
     rw [hv, Az, XE, YX]; generalize (10000 : Int) ^ i = P
     grind) (by omega)
    have q4 : Ld n n a b (i : Int) 0 0 o _ = _ := q4
    rw [q4, Ac (by omega) (by omega)]
    exact Agz (n := n) ha hb hS hN hn m (i + 1) o' q1 q2 (by omega) q3 (by omega)
  . rw [QJ (by omega)]
    obtain rfl : i = a.length := by omega
    rw [YF] at hv; exact ⟨o, hlo, ho, hv, rfl⟩

theorem B0t {n : Nat} {a b : List Int} (ha : Lm a) (hb : Lm b) (hN : a.length + b.length <= 1099511627770) (hn : a.length + b.length + 2 <= n) : f185 n a b = some (dg (vl a * vl b).toNat) := by
 unfold f185
 rw [Ac (x := (a.length : Int) + (b.length : Int)) (by omega) (by omega), Ac (x := (a.length : Int) + (b.length : Int) + 1) (by omega) (by omega), A4 (by simp; try omega)]
 have e : ((a.length : Int) + (b.length : Int) + 1).toNat = a.length + b.length + 1 := by omega
 rw [e]
 obtain ⟨o, q1, q2, q3, q4⟩ := Agz (n := n) ha hb (S := a.length + b.length + 1) (by omega) (by omega) (by omega) (k0 := fun z_5 => ob (f218 n z_5) fun r_6 => some r_6) n 0 (List.replicate (a.length + b.length + 1) 0) (Lm.rep _) (by simp) (by omega) (by rw [T8]; simp [vl]) (by omega)
 have q4 : Le n n a b 0 _ _ = _ := q4
 rw [q4, Wq q1 (by omega) (by omega), A2, q3]

theorem Anf {α : Type} {n : Nat} {a b : List Int} (ha : Lm a) (hb : Lm b) (i : Nat) (hi : i < a.length) {S : Nat} (hS : a.length + b.length <= S) (hN : S <= 1099511627776) {T : Int} (hT : T < 10000 ^ S) (q1 : List Int) (q2 q3 : Int) {k0 : List Int -> List Int -> Int -> Int -> List Int -> Option α} :
  ∀ (m k : Nat) (c : Int) (o : List Int), Lm o -> o.length = S -> 0 <= c -> c < 10000 -> i + k <= S -> vl o + 10000 ^ (i + k) * (c + a.getD i 0 * vl (b.drop k)) = T -> S + 1 <= i + k + m ->
  ∃ o', Lm o' /\ o'.length = S /\ vl o' = T /\ La n m b (i : Int) (a.getD i 0) c (k : Int) q1 q2 q3 o k0 = k0 b q1 q2 q3 o'
 | 0, k, c, o, hlo, ho, hc0, hc1, hik, hv, hm => by omega
 | m + 1, k, c, o, hlo, ho, hc0, hc1, hik, hv, hm => by
  rw [Aqd]; unfold A0c; dsimp only; have h1 := ha.get i; have h2 := hb.get k; have h3 := hlo.get (i + k); have h4 := Yv h1 h2; have hvo := Ay hlo
  have go : ∀ y : Int, i + k < S -> (k < b.length \/ b.length <= k) -> y = o.getD (i + k) 0 + c + a.getD i 0 * b.getD k 0 ->
    ∃ o', Lm o' /\ o'.length = S /\ vl o' = T /\ La n m b (i : Int) (a.getD i 0) (W (Int.tdiv y 10000)) (W ((k : Int) + 1)) q1 q2 q3 (o.set (i + k) (Int.tmod y 10000)) k0 = k0 b q1 q2 q3 o' := by
   intro y hlt hk hy
   rw [tdv (by omega), tmd (by omega), Ac (by omega) (by omega), Ac (by omega) (by omega)]
   refine Anf (n := n) ha hb i hi hS hN hT q1 q2 q3 m (k + 1) _ _ (hlo.set _ (by omega)) (by simpa using ho) (by omega) (by omega) (by omega) ?_ (by omega)
   rw [Jq _ (by omega), show i + (k + 1) = (i + k) + 1 by omega, Bj]
   have hyy : y = 10000 * (y / 10000) + y % 10000 := by omega
   refine Abg (bk := b.getD k 0) ?_ hy hyy; rcases hk with hk | hk
   . rw [<- L3 hk]; exact hv
   . rw [ZE (by omega)] at hv ⊢
     rw [B6 hk]; simpa [vl] using hv
  by_cases hB : k < b.length
  . have dB : decide ((k : Int) < (b.length : Int)) = true := by rw [QQ]; omega
    simp only [dB, ZM, QS]
    rw [Ac (x := (i : Int) + (k : Int)) (by omega) (by omega)]
    have e : ((i : Int) + (k : Int)).toNat = i + k := by omega
    simp only [e]
    rw [A4 (by simp; try omega), Ac (x := a.getD i 0 * b.getD k 0) (by omega) (by omega), Ac (x := c + a.getD i 0 * b.getD k 0) (by omega) (by omega), A4 (by simp; try omega), A4 (by simp; try omega), A4 (by simp; try omega), A4 (by simp; try omega), Ac (x := c + a.getD i 0 * b.getD k 0 + o.getD (i + k) 0) (by omega) (by omega)]
    exact go _ (by omega) (.inl hB) (by omega)
  . have dB : decide ((k : Int) < (b.length : Int)) = false := by rw [ZS]; omega
    simp only [dB, QX]; rw [QI]
    rw [ZE (by omega)] at hv
    by_cases hc : 0 < c
    . have hlt : i + k < S := by
       refine Aj9 ?_
       have h5 : (10000 : Int) ^ (i + k) * 1 <= 10000 ^ (i + k) * c := XJ (by omega) (by have := Ew (i + k); omega)
       simp only [vl, Qaa, Qar] at hv; omega
      rw [QL (by omega), Ac (x := (i : Int) + (k : Int)) (by omega) (by omega)]
      have e : ((i : Int) + (k : Int)).toNat = i + k := by omega
      simp only [e]
      rw [A4 (by simp; try omega), A4 (by simp; try omega), A4 (by simp; try omega), A4 (by simp; try omega), Ac (x := c + o.getD (i + k) 0) (by omega) (by omega)]
      exact go _ hlt (.inr (by omega)) (by rw [B6 (l := b) (by omega)]; omega)
    . rw [QJ (by omega)]
      obtain rfl : c = 0 := by omega
      exact ⟨o, hlo, ho, by simpa [vl] using hv, rfl⟩

theorem Ah0 {α : Type} {n : Nat} {a b : List Int} (ha : Lm a) (hb : Lm b) {S : Nat} (hS : a.length + b.length <= S) (hN : S <= 1099511627776) (hn : S + 1 <= n) {k0 : List Int -> Option α} :
  ∀ (m i : Nat) (o : List Int), Lm o -> o.length = S -> i <= a.length -> vl o = vl (a.take i) * vl b -> a.length + 1 <= i + m ->
  ∃ o', Lm o' /\ o'.length = S /\ vl o' = vl a * vl b /\ Lb n m b a (a.length : Int) (i : Int) o k0 = k0 o'
 | 0, i, o, hlo, ho, hi, hv, hm => by omega
 | m + 1, i, o, hlo, ho, hi, hv, hm => by
  rw [Aqf]; unfold A0f; dsimp only; rw [QI]; by_cases hA : i < a.length
  . rw [QL (by omega), A4 (by simp; try omega)]
    simp only [QS]
    have hT : vl (a.take (i + 1)) * vl b < 10000 ^ S := And ha hb (by omega)
    obtain ⟨o', q1, q2, q3, q4⟩ := Anf (n := n) ha hb i hA hS hN hT a (a.length : Int) (i : Int) (k0 := fun z_1 z_2 z_3 z_4 z_5 => Lb n m z_1 z_2 z_3 (W (z_4 + 1)) z_5 k0) n 0 0 o hlo ho (by omega) (by omega) (by omega) (by
     rw [hv, Az, XE, YX]; generalize (10000 : Int) ^ i = P
     grind) (by omega)
    have q4 : La n n b (i : Int) (a.getD i 0) 0 0 a (a.length : Int) (i : Int) o _ = _ := q4
    rw [q4, Ac (by omega) (by omega)]
    exact Ah0 (n := n) ha hb hS hN hn m (i + 1) o' q1 q2 (by omega) q3 (by omega)
  . rw [QJ (by omega)]
    obtain rfl : i = a.length := by omega
    rw [YF] at hv; exact ⟨o, hlo, ho, hv, rfl⟩

theorem B07 {n : Nat} {a b : List Int} (ha : Lm a) (hb : Lm b) (hN : a.length + b.length <= 1099511627770) (hn : a.length + b.length + 2 <= n) : f200 n a b = some (dg (vl a * vl b).toNat) := by
 unfold f200
 rw [Ac (x := (a.length : Int) + (b.length : Int)) (by omega) (by omega), A4 (by simp; try omega)]
 have e : ((a.length : Int) + (b.length : Int)).toNat = a.length + b.length := by omega
 rw [e]
 obtain ⟨o, q1, q2, q3, q4⟩ := Ah0 (n := n) ha hb (S := a.length + b.length) (by omega) (by omega) (by omega) (k0 := fun z_5 => ob (f225 n z_5) fun r_6 => some r_6) n 0 (List.replicate (a.length + b.length) 0) (Lm.rep _) (by simp) (by omega) (by rw [T8]; simp [vl]) (by omega)
 have q4 : Lb n n b a (a.length : Int) 0 _ _ = _ := q4
 rw [q4, Oi q1 (by omega) (by omega), A2, q3]

theorem pwc (k : Nat) : ((10000 ^ k : Nat) : Int) = (10000 : Int) ^ k := by rw [Int.natCast_pow]; rfl

theorem B2u (Q : Nat) : ((10000 * Q : Nat) : Int) = 10000 * (Q : Int) := by omega

theorem A2n (Q q : Nat) : ((10000 * Q + q : Nat) : Int) = 10000 * (Q : Int) + q := by omega

theorem Aa7 (Q q : Nat) : ((q + 10000 * Q : Nat) : Int) = q + 10000 * (Q : Int) := by omega

theorem Jy {n k : Nat} (h : n < 10000 ^ k) : (dg n).length <= k := P9.2 (by rw [<- pwc]; omega)

theorem A2p (n : Nat) : n < 10000 ^ (dg n).length := by
 have := P9.1 (ZA (dg n).length); rw [<- pwc] at this; omega

theorem L6 {n k : Nat} (h : (dg n).length <= k) : n < 10000 ^ k := by
 have := P9.1 h; rw [<- pwc] at this; omega

theorem B7 (a b : Nat) : (dg (a * b)).length <= (dg a).length + (dg b).length := by
 refine Jy ?_; rw [Nat.pow_add]; exact Nat.mul_lt_mul'' (A2p a) (A2p b)

theorem A4z (a b : Nat) : (dg (a + b)).length <= max (dg a).length (dg b).length + 1 := by
 refine Jy ?_
 have h1 : a < 10000 ^ max (dg a).length (dg b).length := L6 (by omega)
 have h2 : b < 10000 ^ max (dg a).length (dg b).length := L6 (by omega)
 rw [KL]; omega

theorem A4y {a : Nat} (h : a < 10000) : (dg a).length <= 1 := Jy (by simpa using h)

theorem Aye (a : Nat) (x : Nat) (h : x < 10000) : (dg (x + 10000 * a)).length <= (dg a).length + 1 := by
 refine Jy ?_; have := A2p a; rw [KL]; omega

theorem Aa4 {n a b : Nat} (h : (dg a).length <= 1099511627776) (hn : (dg a).length < n) : f188 n (dg a) (dg b) = some (cm a b) := by
 rw [B0o (G4 a) (G4 b) h hn, Bb, Bb]

theorem Kk {n a b : Nat} (h : (dg a).length + (dg b).length <= 1099511627770) (hn : (dg a).length + (dg b).length + 2 <= n) : f185 n (dg a) (dg b) = some (dg (a * b)) := by
 rw [B0t (D8 a) (D8 b) h hn, Bb, Bb]; congr 1

theorem B78 {n a b : Nat} (h : (dg a).length <= 1099511627776) (h' : (dg b).length <= 1099511627776) (hn : max (dg a).length (dg b).length + 2 <= n) : f187 n (dg a) (dg b) = some (dg (a + b)) := by
 rw [B0q (G4 a) (G4 b) h h' hn, Bb, Bb]; congr 1

theorem Aj3 {n a b : Nat} (h : (dg a).length <= 1099511627776) (hn : (dg a).length + 1 <= n) (hab : b <= a) : f189 n (dg a) (dg b) = some (dg (a - b)) := by
 rw [B0m (G4 a) (G4 b) h hn (by rw [Bb, Bb]; omega), Bb, Bb]
 congr 2; omega

theorem Kq {n a b : Nat} (h : (dg a).length + (dg b).length <= 1099511627770) (hn : (dg a).length + (dg b).length + 2 <= n) : f200 n (dg a) (dg b) = some (dg (a * b)) := by
 rw [B07 (D8 a) (D8 b) h hn, Bb, Bb]; congr 1

theorem Aa8 {n a b : Nat} (h : (dg a).length <= 1099511627776) : f203 n (dg a) (dg b) = some (cm a b) := by
 rw [B01 (G4 a) (G4 b) h, Bb, Bb]

theorem Aey {α : Type} {n B R : Nat} (hBl : (dg B).length <= 1099511627700) (hn : (dg B).length + 20 <= n) (s0 : List Int) (s8 : Int) (b14 : List Int) {k0 : List Int -> List Int -> List Int -> Int -> Int -> List Int -> Option α} :
  ∀ (m lo hi : Nat), lo < hi -> hi <= 10000 -> lo * B <= R -> R < hi * B -> hi <= lo + m ->
  M5 n m s0 (dg B) (dg R) s8 (lo : Int) (hi : Int) b14 k0 = k0 s0 (dg B) (dg R) s8 ((R / B : Nat) : Int) b14
 | 0, lo, hi, h1, h2, h3, h4, h5 => by omega
 | m + 1, lo, hi, h1, h2, h3, h4, h5 => by
  rw [Akw]; unfold Up; dsimp only
  rw [Ac (x := (hi : Int) - (lo : Int)) (by omega) (by omega), Ac (x := (lo : Int) + (hi : Int)) (by omega) (by omega)]
  have e : Int.tdiv ((lo : Int) + (hi : Int)) 2 = (((lo + hi) / 2 : Nat) : Int) := by
   rw [KF (by omega)]; omega
  rw [e, Ac (x := (((lo + hi) / 2 : Nat) : Int)) (by omega) (by omega)]
  generalize hmid : (lo + hi) / 2 = mid; by_cases hc : lo + 1 < hi
  . rw [QI, QL (by omega), Ow (by omega) (by omega), A2]
    have hl := A4y (a := mid) (by omega)
    have hm := B7 B mid
    rw [Kk (by omega) (by omega), A2, Aa4 (by omega) (by omega), A2, QI]
    by_cases hle : B * mid <= R
    . have : cm ((B * mid : Nat) : Int) (R : Int) <= 0 := by
       rcases JF hle with h | h
       . rw [I7 (by omega)]; omega
       . rw [Jm (by omega)]; omega
      rw [QL this]
      exact Aey hBl hn s0 s8 b14 m mid hi (by omega) h2 (by rw [KN]; exact hle) h4 (by omega)
    . have : ¬ cm ((B * mid : Nat) : Int) (R : Int) <= 0 := by
       rw [I8 (by omega)]; omega
      rw [QJ this]
      exact Aey hBl hn s0 s8 b14 m lo mid (by omega) (by omega) h3 (by rw [KN]; omega) (by omega)
  . rw [QI, QJ (by omega)]
    obtain rfl : hi = lo + 1 := by omega
    have : R / B = lo := by
     rw [Nat.div_eq_iff (XP (by rintro rfl; simp at h4))]
     rw [YG] at h4; omega
    rw [this]

theorem Ael {α : Type} {n L A B : Nat} (hB : 0 < B) (hA : (dg A).length <= L) (hBl : (dg B).length <= L) (hL : L <= 1099511627000) (hn : L + 10040 <= n) {k0 : List Int -> List Int -> Option α} :
  ∀ (k m Q R : Nat) (o : List Int), k < m -> k <= (dg A).length -> R < B -> o.length = (dg A).length -> Lm o -> (∀ i, i < k -> o.getD i 0 = 0) -> vl o = 10000 ^ k * (Q : Int) -> (Q : Int) * B + R = vl ((dg A).drop k) ->
  ∃ o', Lm o' /\ o'.length = (dg A).length /\ vl o' = ((A / B : Nat) : Int) /\ Ok n m (dg A) (dg B) (dg R) ((k : Int) - 1) o k0 = k0 (dg (A % B)) o'
 | _, 0, _, _, _, h1, _, _, _, _, _, _, _ => by omega
 | 0, m + 1, Q, R, o, h1, h2, h3, h4, h5, h6, h7, h8 => by
  rw [A89]; unfold Qp; dsimp only
  rw [QI, QJ (by omega)]
  rw [XE, Bb] at h8
  have h8 : Q * B + R = A := by
   have : ((Q * B + R : Nat) : Int) = A := by rw [JG, YC]; exact h8
   omega
  have h9 : A / B = Q := by rw [<- h8, Nat.add_comm, Qaj _ _ hB, KY h3, XR]
  have h10 : A % B = R := by rw [<- h8, JO, KM h3]
  exact ⟨o, h5, h4, by rw [h7, h9]; simp, by rw [h10]⟩
 | k + 1, m + 1, Q, R, o, h1, h2, h3, h4, h5, h6, h7, h8 => by
  rw [A89]; unfold Qp; dsimp only
  rw [QI, QL (by omega)]
  rw [show (((k + 1 : Nat) : Int) - 1) = (k : Int) by omega]
  simp only [QS]; have hg := (D8 A).get k
  obtain ⟨x, hx⟩ : ∃ x : Nat, (dg A).getD k 0 = (x : Int) := ⟨((dg A).getD k 0).toNat, by omega⟩
  have hlR : (dg R).length <= L := ZK (B5 (by omega)) hBl
  have hlRx := Aye R x (by omega)
  have hRx : vl ((dg A).drop k) = (x : Int) + 10000 * ((Q : Int) * B + R) := by
   rw [L3 (by omega), hx, <- h8]
  have hR' : x + 10000 * R < 10000 * B := by omega
  rw [hx, A4 (by simp; try omega), A4 (by simp; try omega), Wq (Lm.app (Lm.cons (by omega) Lm.nil) (D8 R)) (by simp; omega) (by simp; omega), A2]
  have e1 : (vl ([(x : Int)] ++ dg R)).toNat = x + 10000 * R := by
   rw [YI, KJ, vl, Bb]; omega
  rw [e1, Aa4 (by omega) (by omega), A2, Ac (x := (k : Int) - 1) (by omega) (by omega), QI]
  by_cases hlt : x + 10000 * R < B
  . rw [QL (by rw [I7 (by omega)]; omega)]
    refine Ael hB hA hBl hL hn k m (10000 * Q) (x + 10000 * R) o (by omega) (by omega) hlt h4 h5 (fun i hi => h6 i (by omega)) ?_ ?_
    . rw [h7, Bj, B2u]; grind
    . rw [hRx, B2u, Aa7]; grind
  . rw [QJ (by
     rcases JF (Nat.le_of_not_lt hlt) with h | h
     . rw [I8 (by omega)]; omega
     . rw [Jm (by omega)]; omega)]
    have hbis := Aey (n := n) (B := B) (R := x + 10000 * R) (by omega) (by omega) (dg A) (k : Int) o (k0 := fun z_3 z_4 z_5 z_6 z_7 z_8 => (
            gd (decide (0 <= z_6) && decide (z_6 < (z_8.length : Int))) (
             gd (decide (z_6.toNat < z_8.length)) (
              ob (f181 n z_7) fun r_9 =>
              ob (f185 n z_4 r_9) fun r_10 =>
              ob (f189 n z_5 r_10) fun r_11 =>
              Ok n m z_3 z_4 r_11 (W (z_6 - 1)) (z_8.set z_6.toNat z_7) k0)))) n 0 10000 (by omega) (by omega) (by omega) hR' (by omega)
    have hbis : M5 n n (dg A) (dg B) (dg (x + 10000 * R)) (k : Int) 0 10000 o _ = _ := hbis; rw [hbis]; simp only [QS]
    have hq : (x + 10000 * R) / B < 10000 := by
     rw [KP hB]; omega
    have hqr := JY (x + 10000 * R) B; have hqm := KI (x + 10000 * R) hB; generalize hqq : (x + 10000 * R) / B = q at *; generalize hrr : (x + 10000 * R) % B = r at *; have hl1 := A4y hq; have hl2 := B7 B q
    rw [A4 (by simp; try omega), A4 (by simp; try omega), Ow (by omega) (by omega), A2, Kk (by omega) (by omega), A2, Aj3 (by omega) (by omega) (by omega), A2, Ac (x := (k : Int) - 1) (by omega) (by omega), show x + 10000 * R - B * q = r by omega]
    refine Ael hB hA hBl hL hn k m (10000 * Q + q) r _ (by omega) (by omega) hqm (by simpa using h4) (h5.set _ (by omega)) (fun i hi => ?_) ?_ ?_
    . rw [QH, XG (by omega), <- QH]
      exact h6 i (by omega)
    . rw [Jq _ (by omega), h7, h6 k (by omega), Bj, A2n]
      generalize (10000 : Int) ^ k = P; grind
    . rw [hRx]
      have : (B : Int) * q + r = x + 10000 * R := by
       rw [<- Aa7, <- hqr, JG, YC]
      rw [A2n]; grind

theorem Aj4 {n L A B : Nat} (hB : 0 < B) (hA : (dg A).length <= L) (hBl : (dg B).length <= L) (hL : L <= 1099511627000) (hn : L + 10040 <= n) : f219 n (dg A) (dg B) = some (dg (A / B), dg (A % B)) := by
 unfold f219
 rw [A4 (by simp; try omega), Ac (x := ((dg A).length : Int) - 1) (by omega) (by omega)]
 simp only [QS]
 obtain ⟨o, h1, h2, h3, h4⟩ := Ael (n := n) hB hA hBl hL hn (k0 := fun z_12 z_13 => (
       ob (f218 n z_13) fun r_14 =>
       some (r_14, z_12))) (dg A).length n 0 0 (List.replicate (dg A).length 0) (by omega) (ZA _) hB (by simp) (Lm.rep _) (fun i hi => by simp [QH, XN, hi]) (by rw [T8]; simp) (by simp [vl])
 rw [C6] at h4
 rw [h4, Wq h1 (by omega) (by omega), A2, h3]
 rfl

theorem Abw {a b : Nat} (hb : 0 < b) (hr : 0 < a % b) {j : Nat} (h : b < 2 ^ (j + 1)) : b % (a % b) < 2 ^ j := by
 have h1 := KI a hb; have h2 := KI b hr; have h3 := JY b (a % b); generalize a % b = r at *
 have h4 : 1 <= b / r := by rw [Nat.le_div_iff_mul_le hr]; omega
 have h5 : r * 1 <= r * (b / r) := KC r h4; rw [KL] at h; omega

theorem B36 {α : Type} {n L : Nat} (hL : L <= 1099511627000) (hn : L + 10040 <= n) {k0 : List Int -> Option α} :
  ∀ (j m a b : Nat), b < 2 ^ j -> 2 * j + 1 <= m -> (dg a).length <= L -> (dg b).length <= L -> Iz n m (dg a) (dg b) k0 = k0 (dg (Nat.gcd b a)) := by
 have stop : ∀ (m a : Nat), 0 < m -> Iz n m (dg a) (dg 0) k0 = k0 (dg (Nat.gcd 0 a)) := fun m a hm => by
  obtain ⟨m, rfl⟩ : ∃ m', m = m' + 1 := ⟨m - 1, by omega⟩
  rw [A8c, Qaf, C6]; rfl
 have step : ∀ (m a b : Nat), 0 < b -> (dg a).length <= L -> (dg b).length <= L -> Iz n (m + 1) (dg a) (dg b) k0 = Iz n m (dg b) (dg (a % b)) k0 := fun m a b hb ha hbl => by
  rw [A8c]; unfold Zv
  have : 0 < (dg b).length := by rw [Ee (by omega)]; simp
  rw [QI, QL (by omega), Aj4 hb ha hbl hL hn, A2]
 intro j
 induction j with
 | zero =>
  intro m a b h1 h2 h3 h4
  obtain rfl : b = 0 := by simpa using h1
  exact stop m a (by omega)
 | succ j ih =>
  intro m a b h1 h2 h3 h4; rcases YY b with rfl | hb
  . exact stop m a (by omega)
  obtain ⟨m, rfl⟩ : ∃ m', m = m' + 2 := ⟨m - 2, by omega⟩
  have h5 : (dg (a % b)).length <= L := ZK (B5 (Nat.le_of_lt (KI a hb))) h4; rw [step _ _ _ hb h3 h4, Nat.gcd_rec b a]; rcases YY (a % b) with hr | hr
  . rw [hr]; exact stop _ _ (by omega)
  have h6 : (dg (b % (a % b))).length <= L := ZK (B5 (Nat.le_of_lt (KI b hr))) h5; rw [step _ _ _ hr h4 h5, Nat.gcd_rec (a % b) b]
  exact ih m _ _ (Abw hb hr h1) (by omega) h5 h6

theorem Agu {b L : Nat} (h : b < 10000 ^ L) : b < 2 ^ (14 * L) := by
 rw [Nat.pow_mul]
 exact ZR h (Nat.pow_le_pow_left (by decide) L)

theorem Aww {n L a b : Nat} (hL : L <= 1099511627000) (hn : 28 * L + 10040 <= n) (ha : (dg a).length <= L) (hb : (dg b).length <= L) : f217 n (dg a) (dg b) = some (dg (Nat.gcd a b)) := by
 unfold f217
 have h1 : (dg (Nat.gcd b a)).length <= L := by
  rcases YY b with rfl | h
  . rw [Qaf]; exact ha
  . exact ZK (B5 (Nat.gcd_le_left a h)) hb
 rw [B36 hL (by omega) (14 * L) n a b (Agu (L6 hb)) (by omega) ha hb, A4 (by simp; try omega), Nat.gcd_comm]

theorem O7 {pre w post : List Int} {i : Nat} (h : i < w.length) : (pre ++ w ++ post).getD (pre.length + i) 0 = w.getD i 0 := by
 rw [ZO, QH, QY (by omega), Qac, QZ h, <- QH]

theorem Ah1 {pre w post : List Int} {i : Nat} (h : i < w.length) (x : Int) : (pre ++ w ++ post).set (pre.length + i) x = pre ++ w.set i x ++ post := by
 rw [ZO, YW _ _ (by omega), Qac, List.set_append_left _ _ h, ZO]

theorem At2 {y : Int} (h : y < 0) (h' : -1099511627776 < y) : W (Int.tdiv (W (W (y - 10000) + 1)) 10000) = y / 10000 := by
 rw [Ac (x := y - 10000) (by omega) (by omega), Ac (x := y - 10000 + 1) (by omega) (by omega)]
 have : Int.tdiv (y - 10000 + 1) 10000 = y / 10000 := by
  rw [show y - 10000 + 1 = -(9999 - y) by omega, Int.neg_tdiv, KF (by omega)]
  omega
 rw [this, Ac (by omega) (by omega)]

theorem Ats {o P q c wi bi v' T y d r : Int} (h : o + P * (c - q * (bi + 10000 * v')) = T) (hy : y = wi + c - q * bi) (hd : y = 10000 * d + r) : o + P * (r - wi) + 10000 * P * (d - q * v') = T := by
 grind

theorem An7 {o P c wi bi v' T y d r : Int} (h : o + P * (c + (bi + 10000 * v')) = T) (hy : y = wi + c + bi) (hd : y = 10000 * d + r) : o + P * (r - wi) + 10000 * P * (d + v') = T := by
 grind

theorem Yk {l : List Int} (k : Nat) : vl (l.drop k) = l.getD k 0 + 10000 * vl (l.drop (k + 1)) := by
 rcases XL k l.length with h | h
 . exact L3 h
 . rw [ZE h, ZE (by omega), B6 h]; rfl

theorem Amn {α : Type} {n N : Nat} {b pre post : List Int} (hb : Lm b) (hbN : b.length = N) (hN : pre.length + N + 1 + post.length <= 1099511627776) {q : Int} (hq : 0 <= q /\ q < 10000) {T : Int} {k0 : Nat -> Nat -> List Int -> Int -> Int -> Int -> List Int -> Option α} :
  ∀ (m i : Nat) (c : Int) (w : List Int), Lm w -> w.length = N + 1 -> -9999 <= c -> c <= 0 -> i <= N + 1 -> vl w + 10000 ^ i * (c - q * vl (b.drop i)) = T -> N + 2 <= i + m ->
  ∃ w' c', Lm w' /\ w'.length = N + 1 /\ c' <= 0 /\ vl w' + 10000 ^ (N + 1) * c' = T /\ Fi n m pre.length (N + 1) b (b.length : Int) q c ((N + 1 : Nat) : Int) (i : Int) (pre ++ w ++ post) k0 = k0 pre.length (N + 1) b (b.length : Int) q c' (pre ++ w' ++ post)
 | 0, i, c, w, h1, h2, h3, h4, h5, h6, h7 => by omega
 | m + 1, i, c, w, h1, h2, h3, h4, h5, h6, h7 => by
  rw [Akm]; unfold Ue; dsimp only; by_cases hi : i < N + 1
  . rw [QI, QL (by omega)]
    simp only [QS]
    rw [A4 (by simp; try omega), A4 (by simp; try omega)]
    simp only [O7 (pre := pre) (post := post) (w := w) (i := i) (by omega)]
    have g1 := h1.get i; have g2 := hb.get i; have g3 := Yv hq g2
    have go : ∀ y : Int, y = w.getD i 0 + c - q * b.getD i 0 ->
      ∃ w' c', Lm w' /\ w'.length = N + 1 /\ c' <= 0 /\ vl w' + 10000 ^ (N + 1) * c' = T /\ 
      (bif (decide (y < 0)) then (gd (decide (0 <= (i : Int)) && decide ((i : Int) < ((N + 1 : Nat) : Int))) (
        gd (decide ((pre.length + i) < (pre ++ w ++ post).length)) (
         Fi n m pre.length (N + 1) b (b.length : Int) q (W (Int.tdiv (W ((W (y - 10000)) + 1)) 10000)) ((N + 1 : Nat) : Int) (W ((i : Int) + 1)) ((pre ++ w ++ post).set (pre.length + i) (W (y - (W ((W (Int.tdiv (W ((W (y - 10000)) + 1)) 10000)) * 10000))))) k0)))
       else (gd (decide (0 <= (i : Int)) && decide ((i : Int) < ((N + 1 : Nat) : Int))) (
        gd (decide ((pre.length + i) < (pre ++ w ++ post).length)) (
         Fi n m pre.length (N + 1) b (b.length : Int) q 0 ((N + 1 : Nat) : Int) (W ((i : Int) + 1)) ((pre ++ w ++ post).set (pre.length + i) (W (y - (W (0 * 10000))))) k0)))) = k0 pre.length (N + 1) b (b.length : Int) q c' (pre ++ w' ++ post) := by
     intro y hy
     have hd : y = 10000 * (y / 10000) + y % 10000 := by omega
     have go2 : ∀ d : Int, d = y / 10000 -> ∃ w' c', Lm w' /\ w'.length = N + 1 /\ c' <= 0 /\ vl w' + 10000 ^ (N + 1) * c' = T /\ (gd (decide (0 <= (i : Int)) && decide ((i : Int) < ((N + 1 : Nat) : Int))) (
           gd (decide ((pre.length + i) < (pre ++ w ++ post).length)) (
            Fi n m pre.length (N + 1) b (b.length : Int) q d ((N + 1 : Nat) : Int) (W ((i : Int) + 1)) ((pre ++ w ++ post).set (pre.length + i) (W (y - (W (d * 10000))))) k0))) = k0 pre.length (N + 1) b (b.length : Int) q c' (pre ++ w' ++ post) := by
      intro d hdd
      rw [A4 (by simp; try omega), A4 (by simp; try omega), Ah1 (by omega), Ac (x := d * 10000) (by omega) (by omega), Ac (x := y - d * 10000) (by omega) (by omega), Ac (x := (i : Int) + 1) (by omega) (by omega)]
      refine Amn (n := n) hb hbN hN hq m (i + 1) d _ (h1.set _ (by omega)) (by simpa using h2) (by omega) (by omega) (by omega) ?_ (by omega)
      rw [Jq _ (by omega), Bj]
      refine Ats (bi := b.getD i 0) ?_ hy (by omega)
      rw [<- Yk]; exact h6
     rw [QI]; by_cases hneg : y < 0
     . rw [QL hneg]
       simp only [At2 hneg (by omega)]
       exact go2 _ rfl
     . rw [QJ hneg]
       exact go2 0 (by omega)
    by_cases hB : i < b.length
    . have dB : decide ((i : Int) < (b.length : Int)) = true := by rw [QQ]; omega
      simp only [dB, ZM]
      rw [A4 (by simp; try omega)]
      simp only [Ac (x := q * b.getD i 0) (by omega) (by omega), Ac (x := w.getD i 0 + c) (by omega) (by omega), Ac (x := w.getD i 0 + c - q * b.getD i 0) (by omega) (by omega)]
      exact go _ rfl
    . have dB : decide ((i : Int) < (b.length : Int)) = false := by rw [ZS]; omega
      simp only [dB, QX]
      simp only [Ac (x := w.getD i 0 + c) (by omega) (by omega)]
      exact go _ (by rw [B6 (l := b) (by omega)]; omega)
  . rw [QI, QJ (by omega)]
    obtain rfl : i = N + 1 := by omega
    rw [ZE (by omega)] at h6
    exact ⟨w, c, h1, h2, h4, by simpa [vl] using h6, rfl⟩

theorem Agv {α : Type} {n N : Nat} {b pre post : List Int} (hb : Lm b) (hbN : b.length = N) (hN : pre.length + N + 1 + post.length <= 1099511627776) {q z : Int} {T : Int} {k0 : Nat -> Nat -> List Int -> Int -> Int -> Int -> Int -> List Int -> Option α} :
  ∀ (m i : Nat) (c : Int) (w : List Int), Lm w -> w.length = N + 1 -> 0 <= c -> c <= 1 -> i <= N + 1 -> vl w + 10000 ^ i * (c + vl (b.drop i)) = T -> N + 2 <= i + m ->
  ∃ w' c', Lm w' /\ w'.length = N + 1 /\ 0 <= c' /\ c' <= 1 /\ vl w' + 10000 ^ (N + 1) * c' = T /\ He n m pre.length (N + 1) b (b.length : Int) q z c ((N + 1 : Nat) : Int) (i : Int) (pre ++ w ++ post) k0 = k0 pre.length (N + 1) b (b.length : Int) q z c' (pre ++ w' ++ post)
 | 0, i, c, w, h1, h2, h3, h4, h5, h6, h7 => by omega
 | m + 1, i, c, w, h1, h2, h3, h4, h5, h6, h7 => by
  rw [Ag1]; unfold Qg; dsimp only; by_cases hi : i < N + 1
  . rw [QI, QL (by omega)]
    simp only [QS]
    rw [A4 (by simp; try omega), A4 (by simp; try omega), O7 (by omega)]
    have g1 := h1.get i; have g2 := hb.get i
    have go : ∀ y : Int, y = w.getD i 0 + c + b.getD i 0 -> ∃ w' c', Lm w' /\ w'.length = N + 1 /\ 0 <= c' /\ c' <= 1 /\ vl w' + 10000 ^ (N + 1) * c' = T /\ (gd (decide (0 <= (i : Int)) && decide ((i : Int) < ((N + 1 : Nat) : Int))) (
            gd (decide ((pre.length + i) < (pre ++ w ++ post).length)) (
             He n m pre.length (N + 1) b (b.length : Int) q z (W (Int.tdiv y 10000)) ((N + 1 : Nat) : Int) (W ((i : Int) + 1)) ((pre ++ w ++ post).set (pre.length + i) (Int.tmod y 10000)) k0))) = k0 pre.length (N + 1) b (b.length : Int) q z c' (pre ++ w' ++ post) := by
     intro y hy
     have hd : y = 10000 * (y / 10000) + y % 10000 := by omega
     rw [A4 (by simp; try omega), A4 (by simp; try omega), Ah1 (by omega), tdv (by omega), tmd (by omega), Ac (x := y / 10000) (by omega) (by omega), Ac (x := (i : Int) + 1) (by omega) (by omega)]
     refine Agv (n := n) hb hbN hN m (i + 1) _ _ (h1.set _ (by omega)) (by simpa using h2) (by omega) (by omega) (by omega) ?_ (by omega)
     rw [Jq _ (by omega), Bj]
     refine An7 (bi := b.getD i 0) ?_ hy hd; rw [<- Yk]; exact h6
    by_cases hB : i < b.length
    . have dB : decide ((i : Int) < (b.length : Int)) = true := by rw [QQ]; omega
      simp only [dB, ZM]
      rw [A4 (by simp; try omega)]
      simp only [Ac (x := w.getD i 0 + c) (by omega) (by omega), Ac (x := w.getD i 0 + c + b.getD i 0) (by omega) (by omega)]
      exact go _ rfl
    . have dB : decide ((i : Int) < (b.length : Int)) = false := by rw [ZS]; omega
      simp only [dB, QX]
      simp only [Ac (x := w.getD i 0 + c) (by omega) (by omega)]
      exact go _ (by rw [B6 (l := b) (by omega)]; omega)
  . rw [QI, QJ (by omega)]
    obtain rfl : i = N + 1 := by omega
    rw [ZE (by omega)] at h6
    exact ⟨w, c, h1, h2, h3, h4, by simpa [vl] using h6, rfl⟩

theorem Awl {P v c R qB : Int} (h1 : v < P) (hP : 0 < P) (h : v + P * c = R - qB) (hc : c < 0) : R - qB < 0 := by
 have : P * c <= P * (-1) := XJ (by omega) (by omega)
 omega

theorem Awm {P v c R q B : Int} (h0 : v < P) (h : v + P * c = R - q * B) (hB : 0 <= B) (hBP : B < P) (hR : 0 <= R) (hq : q < 10000) (hq0 : 0 <= q) : -10000 <= c := by
 have h9 : q * B <= 10000 * B := Int.mul_le_mul_of_nonneg_right (by omega) (by omega)
 rcases Int.lt_or_le c (-10000) with h1 | h1
 . have h8 : P * c <= P * (-10001) := XJ (by omega) (by omega)
   exfalso; omega
 . exact h1

theorem Awk {v v' x x' R qB B : Int} (h : v + x = R - qB) (h' : v' + x' = v + B) : v' + (x + x') = R - (qB - B) := by omega

theorem Aip {α : Type} {n N R B : Nat} {pre post : List Int} (hB : 0 < B) (hbN : (dg B).length = N) (hN : pre.length + N + 1 + post.length <= 1099511627776) (hn : N + 2 <= n) {k0 : Int -> List Int -> Option α} :
  ∀ (m q : Nat) (c : Int) (w : List Int), Lm w -> w.length = N + 1 -> c <= 0 -> vl w + 10000 ^ (N + 1) * c = (R : Int) - q * B -> R / B <= q -> q < 10000 -> q < m ->
  ∃ w', Lm w' /\ w'.length = N + 1 /\ vl w' = ((R % B : Nat) : Int) /\ Hf n m pre.length (N + 1) (dg B) ((dg B).length : Int) (q : Int) c (pre ++ w ++ post) k0 = k0 ((R / B : Nat) : Int) (pre ++ w' ++ post)
 | 0, q, c, w, h1, h2, h3, h4, h5, h6, h7 => by omega
 | m + 1, q, c, w, h1, h2, h3, h4, h5, h6, h7 => by
  rw [Ag3]; unfold Qj; dsimp only; have hw := Gq h1; have hw0 := Ay h1; rw [h2] at hw; rw [QI]; have hP := Ew (N + 1); have hBP := A2p B; rw [hbN] at hBP; have hdm := JY R B; have hml := KI R hB; by_cases hc : c < 0
  . rw [QL hc]; have hneg := Awl hw hP h4 hc
    have hlt : R / B < q := by
     rw [KP hB]; have : ((q * B : Nat) : Int) = (q : Int) * B := YC q B; omega
    have hq0 : 0 < q := Nat.lt_of_le_of_lt (KD _) hlt
    have hBi : (B : Int) < 10000 ^ N := by rw [<- pwc]; omega
    have hBP' : (B : Int) < 10000 ^ (N + 1) := by
     have := Vn (show N <= N + 1 by omega)
     omega
    have hcm := Awm (q := (q : Int)) hw h4 (by omega) hBP' (by omega) (by omega) (by omega)
    rw [Ac (x := (q : Int) - 1) (by omega) (by omega), show (q : Int) - 1 = ((q - 1 : Nat) : Int) by omega]
    obtain ⟨w', c', q1, q2, q3, q4, q5, q6⟩ := Agv (n := n) (D8 B) hbN hN (q := ((q - 1 : Nat) : Int)) (z := c) (T := vl w + B) (k0 := fun z_12 z_13 z_14 z_15 z_16 z_17 z_18 z_19 => (
     Hf n m z_12 z_13 z_14 z_15 z_16 (W (z_17 + z_18)) z_19 k0)) n 0 0 w h1 h2 (by omega) (by omega) (by omega) (by rw [XE, Bb, Int.pow_zero, Int.one_mul, Int.zero_add]) (by omega)
    have q6 : He n n pre.length (N + 1) (dg B) ((dg B).length : Int) ((q - 1 : Nat) : Int) c 0 ((N + 1 : Nat) : Int) 0 (pre ++ w ++ post) _ = _ := q6; rw [q6]
    have hq1 : ((q - 1 : Nat) : Int) * B = q * B - B := by
     rw [show ((q - 1 : Nat) : Int) = (q : Int) - 1 by omega, Int.sub_mul, Int.one_mul]
    have hnew : vl w' + 10000 ^ (N + 1) * (c + c') = (R : Int) - ((q - 1 : Nat) : Int) * B := by
     rw [Int.mul_add, hq1]; exact Awk h4 q5
    rw [Ac (x := c + c') (by omega) (by omega)]
    exact Aip hB hbN hN hn m (q - 1) (c + c') w' q1 q2 (by omega) hnew (by omega) (by omega) (by omega)
  . rw [QJ hc]
    obtain rfl : c = 0 := by omega
    rw [Qaa, Qar] at h4
    have e : R / B = q := by
     refine Nat.le_antisymm h5 ?_; rw [Nat.le_div_iff_mul_le hB]; have : ((q * B : Nat) : Int) = (q : Int) * B := YC q B; omega
    refine ⟨w, h1, h2, ?_, by rw [e]⟩
    have : ((B * q : Nat) : Int) = (q : Int) * B := by rw [YC, Int.mul_comm]
    rw [e] at hdm; omega

theorem B7j {P lowR lowB high top t R B : Int} (hR : R = lowR + P * high) (hB : B = lowB + P * top) (h1 : lowR < P) (h2 : 0 <= lowB) (hP : 0 < P) (ht : 0 <= t) (hle : t * B <= R) : t * top <= high := by
 have h3 : t * (P * top) <= t * B := XJ (by omega) ht
 have h4 : P * (t * top) < P * (high + 1) := by
  rw [Int.mul_add, Int.mul_one, show P * (t * top) = t * (P * top) by grind]; omega
 have := Int.lt_of_mul_lt_mul_left h4 (by omega)
 omega

theorem Avt {n M R B : Nat} {pre w post : List Int} (hbN : (dg B).length = M + 2) (hN : pre.length + (M + 2) + 1 + post.length <= 1099511627776) (hn : M + 10010 <= n) (hw : Lm w) (hwl : w.length = M + 3) (hv : vl w = (R : Int)) (hR : R < 10000 * B) :
  ∃ w', Lm w' /\ w'.length = M + 3 /\ vl w' = ((R % B : Nat) : Int) /\ Aae n (pre ++ w ++ post, pre.length, M + 3) (dg B) = some (((R / B : Nat) : Int), pre ++ w' ++ post) := by
 have hB : 0 < B := by omega
 unfold Aae; dsimp only; rw [hbN]
 rw [Ac (x := ((M + 2 : Nat) : Int) - 1) (by omega) (by omega), Ac (x := ((M + 2 : Nat) : Int) - 2) (by omega) (by omega), show ((M + 2 : Nat) : Int) - 1 = ((M + 1 : Nat) : Int) by omega, show ((M + 2 : Nat) : Int) - 2 = (M : Int) by omega]
 simp only [QS]; have hb := D8 B; have g0 := hw.get (M + 2); have g1 := hw.get (M + 1); have g2 := hw.get M; have b1 := hb.get (M + 1); have b2 := hb.get M
 have bt : (dg B).getD (M + 1) 0 ≠ 0 := by
  have := (G4 B).2 (ZZ.1 (by omega))
  rw [hbN] at this; exact this
 rw [A4 (by simp; try omega), A4 (by simp; try omega), A4 (by simp; try omega), A4 (by simp; try omega), A4 (by simp; try omega), A4 (by simp; try omega), A4 (by simp; try omega), A4 (by simp; try omega)]
 simp only [O7 (pre := pre) (post := post) (w := w) (i := M + 2) (by omega), O7 (pre := pre) (post := post) (w := w) (i := M + 1) (by omega), O7 (pre := pre) (post := post) (w := w) (i := M) (by omega)]
 simp only [Ac (x := (dg B).getD (M + 1) 0 * 10000) (by omega) (by omega), Ac (x := (dg B).getD (M + 1) 0 * 10000 + (dg B).getD M 0) (by omega) (by omega), Ac (x := w.getD (M + 2) 0 * 10000) (by omega) (by omega), Ac (x := w.getD (M + 2) 0 * 10000 + w.getD (M + 1) 0) (by omega) (by omega), Ac (x := (w.getD (M + 2) 0 * 10000 + w.getD (M + 1) 0) * 10000) (by omega) (by omega), Ac (x := (w.getD (M + 2) 0 * 10000 + w.getD (M + 1) 0) * 10000 + w.getD M 0) (by omega) (by omega)]
 rw [A4 (by simp only [QQ]; omega)]
 have vw : (R : Int) = vl (w.take M) + 10000 ^ M * ((w.getD (M + 2) 0 * 10000 + w.getD (M + 1) 0) * 10000 + w.getD M 0) := by
  have t1 := Az w (M + 2); have t2 := Az w (M + 1); have t3 := Az w M
  rw [Ih w (by omega), hv] at t1
  rw [t1, t2, t3, Bj, Bj]; grind
 have vb : (B : Int) = vl ((dg B).take M) + 10000 ^ M * ((dg B).getD (M + 1) 0 * 10000 + (dg B).getD M 0) := by
  have t2 := Az (dg B) (M + 1); have t3 := Az (dg B) M
  rw [Ih (dg B) (by omega), Bb] at t2
  rw [t2, t3, Bj]; grind
 have lw := Gq (hw.take M)
 rw [YM, JE (by omega)] at lw
 have lb := Ay (hb.take M); generalize hhigh : (w.getD (M + 2) 0 * 10000 + w.getD (M + 1) 0) * 10000 + w.getD M 0 = high at *; generalize htop : (dg B).getD (M + 1) 0 * 10000 + (dg B).getD M 0 = top at *
 have htop0 : 0 < top := by omega
 have hh0 : 0 <= high /\ high < 1000000000000 := by omega
 rw [KF (by omega)]
 have hd0 : 0 <= high / top := Int.ediv_nonneg (by omega) (by omega)
 have hd1 : high / top <= high := Int.ediv_le_self _ (by omega)
 rw [Ac (x := high / top) (by omega) (by omega)]
 obtain ⟨q, hq⟩ : ∃ q : Nat, min (high / top) 9999 = (q : Int) := ⟨(min (high / top) 9999).toNat, by omega⟩
 have hql : q < 10000 := by omega
 have hqr : R / B <= q := by
  have h1 : (((R / B : Nat) : Int)) * top <= high := by
   refine B7j vw vb lw lb (Ew M) (Int.natCast_nonneg _) ?_; have := Nat.div_mul_le_self R B; rw [<- YC]; omega
  have h2 : ((R / B : Nat) : Int) <= high / top := by rw [Int.le_ediv_iff_mul_le htop0]; exact h1
  have h3 : R / B < 10000 := by rw [KP hB]; omega
  omega
 rw [hq]
 obtain ⟨w1, c1, r1, r2, r3, r4, r5⟩ := Amn (n := n) (N := M + 2) (b := dg B) (pre := pre) (post := post) hb hbN hN (q := (q : Int)) (by omega) (T := (R : Int) - q * B) (k0 := fun z_5 z_6 z_7 z_8 z_9 z_10 z_11 => (
                       Hf n n z_5 z_6 z_7 z_8 z_9 z_10 z_11
                        (fun z_20 z_21 => (
                         some (z_20, z_21))))) n 0 0 w hw hwl (by omega) (by omega) (by omega) (by rw [XE, Bb, hv, Int.pow_zero, Int.one_mul, Int.zero_sub, Int.sub_eq_add_neg]) (by omega)
 obtain ⟨w2, s1, s2, s3, s4⟩ := Aip (n := n) (N := M + 2) (R := R) (B := B) (pre := pre) (post := post) hB hbN hN (by omega) (k0 := fun z_20 z_21 => (some (z_20, z_21))) n q c1 w1 r1 r2 r3 r4 hqr hql (by omega)
 refine ⟨w2, s1, s2, s3, ?_⟩; rw [hbN] at r5 s4; have r5 : Fi n n pre.length (M + 3) (dg B) ((M + 2 : Nat) : Int) (q : Int) 0 ((M + 3 : Nat) : Int) 0 (pre ++ w ++ post) _ = _ := r5; rw [r5]; exact s4

theorem B73 (y b : Nat) : Int.tdiv (y : Int) (b : Int) = ((y / b : Nat) : Int) := by
 rw [KF (by omega), Int.natCast_ediv]

theorem B72 (y b : Nat) : Int.tmod (y : Int) (b : Int) = ((y % b : Nat) : Int) := by
 rw [Int.tmod_eq_emod_of_nonneg (by omega), Int.natCast_emod]

theorem Agq {o : List Int} {k i : Nat} {x : Int} (h : ∀ i, i < k + 1 -> o.getD i 0 = 0) (hi : i < k) : (o.set k x).getD i 0 = 0 := by
 rw [QH, XG (by omega), <- QH]
 exact h i (by omega)

theorem Aau {Q B R x q r y : Nat} (hy : x + 10000 * R = y) (hqr : B * q + r = y) {V : Int} (hV : (Q : Int) * B + R = V) : ((10000 * Q + q : Nat) : Int) * B + r = x + 10000 * V := by
 have : (B : Int) * q + r = x + 10000 * R := by
  rw [<- Aa7, hy, <- hqr, JG, YC]
 rw [A2n, <- hV]; grind

theorem Ana {α : Type} {n A B : Nat} (hB : 0 < B) (hB1 : B < 10000) (hlA : (dg A).length <= 1099511627000) {k0 : Int -> List Int -> Option α} :
  ∀ (k Q R : Nat) (o : List Int), k <= (dg A).length -> R < B -> o.length = (dg A).length -> Lm o -> (∀ i, i < k -> o.getD i 0 = 0) -> vl o = 10000 ^ k * (Q : Int) -> (Q : Int) * B + R = vl ((dg A).drop k) ->
  ∃ o', Lm o' /\ o'.length = (dg A).length /\ vl o' = ((A / B : Nat) : Int) /\ Iu n (dg A) k (dg A) [(B : Int)] (R : Int) o k0 = k0 ((A % B : Nat) : Int) o'
 | 0, Q, R, o, h2, h3, h4, h5, h6, h7, h8 => by
  rw [Apd]; rw [XE, Bb] at h8
  have h8 : Q * B + R = A := by
   have : ((Q * B + R : Nat) : Int) = A := by rw [JG, YC]; exact h8
   omega
  have h9 : A / B = Q := by rw [<- h8, Nat.add_comm, Qaj _ _ hB, KY h3, XR]
  have h10 : A % B = R := by rw [<- h8, JO, KM h3]
  exact ⟨o, h5, h4, by rw [h7, h9]; simp, by rw [h10]⟩
 | k + 1, Q, R, o, h2, h3, h4, h5, h6, h7, h8 => by
  rw [Apb]; unfold Zf; dsimp only; have hg := (D8 A).get k
  obtain ⟨x, hx⟩ : ∃ x : Nat, (dg A).getD k 0 = (x : Int) := ⟨((dg A).getD k 0).toNat, by omega⟩
  have hRx : vl ((dg A).drop k) = (x : Int) + 10000 * vl ((dg A).drop (k + 1)) := by
   rw [L3 (by omega), hx]
  simp only [QS]
  rw [A4 (by simp; try omega), A4 (by simp; omega), A4 (by simp; try omega), A4 (by simp; omega), A4 (by simp; try omega), A4 (by simp; try omega), A4 (by simp), hx]
  rw [Ac (x := (R : Int) * 10000) (by omega) (by omega), Ac (x := (R : Int) * 10000 + (x : Int)) (by omega) (by omega), show (R : Int) * 10000 + (x : Int) = ((x + 10000 * R : Nat) : Int) by omega]
  have e0 : ([(B : Int)]).getD 0 0 = (B : Int) := rfl; rw [e0, B73, B72]
  have hq : (x + 10000 * R) / B < 10000 := by
   rw [KP hB]; omega
  have hqr := JY (x + 10000 * R) B; have hqm := KI (x + 10000 * R) hB; generalize (x + 10000 * R) / B = q at *; generalize (x + 10000 * R) % B = r at *
  rw [Ac (x := (q : Int)) (by omega) (by omega)]
  refine Ana hB hB1 hlA k (10000 * Q + q) r _ (by omega) hqm (by simpa using h4) (h5.set _ (by omega)) (fun i hi => Agq h6 hi) ?_ ?_
  . rw [Jq _ (by omega), h7, h6 k (by omega), Bj, A2n]
    generalize (10000 : Int) ^ k = P; grind
  . rw [hRx, <- h8]; exact Aau rfl hqr rfl

theorem Ah4 {α : Type} {n A B M : Nat} (hM : (dg B).length = M + 2) (hla : (dg B).length <= (dg A).length) (hlA : (dg A).length <= 1099511627000) (hn : (dg A).length + 10040 <= n) {k0 : List Int -> List Int -> Option α} :
  ∀ (k m Q R : Nat) (o u : List Int), k < m -> k <= (dg A).length - (M + 1) -> R < B -> o.length = (dg A).length - (M + 1) -> Lm o -> (∀ i, i < k -> o.getD i 0 = 0) -> vl o = 10000 ^ k * (Q : Int) ->
  Lm u -> u.length + k = (dg A).length + 1 -> vl u = (R : Int) -> (Q : Int) * B + R = vl ((dg A).drop k) ->
  ∃ o' u', Lm o' /\ o'.length = (dg A).length - (M + 1) /\ vl o' = ((A / B : Nat) : Int) /\ Lm u' /\ u'.length = (dg A).length + 1 /\ vl u' = ((A % B : Nat) : Int) /\
   Ql n m ((dg B).length : Int) ((k : Int) - 1) (dg B) o ((dg A).take k ++ u) k0 = k0 o' u'
 | _, 0, _, _, _, _, h1, _, _, _, _, _, _, _, _, _, _ => by omega
 | 0, m + 1, Q, R, o, u, h1, h2, h3, h4, h5, h6, h7, u1, u2, u3, h8 => by
  rw [A3b]; unfold N3; dsimp only
  rw [QI, QJ (by omega)]
  rw [XE, Bb] at h8
  have h8 : Q * B + R = A := by
   have : ((Q * B + R : Nat) : Int) = A := by rw [JG, YC]; exact h8
   omega
  have hB : 0 < B := by omega
  have h9 : A / B = Q := by rw [<- h8, Nat.add_comm, Qaj _ _ hB, KY h3, XR]
  have h10 : A % B = R := by rw [<- h8, JO, KM h3]
  exact ⟨o, u, h5, h4, by rw [h7, h9]; simp, u1, by omega, by rw [u3, h10], by simp⟩
 | k + 1, m + 1, Q, R, o, u, h1, h2, h3, h4, h5, h6, h7, u1, u2, u3, h8 => by
  rw [A3b]; unfold N3; dsimp only
  have hB : 0 < B := by omega
  rw [QI, QL (by omega)]
  rw [show (((k + 1 : Nat) : Int) - 1) = (k : Int) by omega]
  have hg := (D8 A).get k
  obtain ⟨x, hx⟩ : ∃ x : Nat, (dg A).getD k 0 = (x : Int) := ⟨((dg A).getD k 0).toNat, by omega⟩
  have hRx : vl ((dg A).drop k) = (x : Int) + 10000 * vl ((dg A).drop (k + 1)) := by
   rw [L3 (by omega), hx]
  have htk : (dg A).take (k + 1) ++ u = (dg A).take k ++ ((x : Int) :: u) := by
   rw [KZ (by omega), ZO]
   congr 1
   rw [<- hx, QH, QN (by omega)]
   rfl
  have hL : Lm ((x : Int) :: u) := Lm.cons (by omega) u1
  have hv : vl ((x : Int) :: u) = ((x + 10000 * R : Nat) : Int) := by rw [vl, u3, Aa7]
  have hlt : x + 10000 * R < 10000 * B := by omega
  obtain ⟨w, post, hwp, hw, hp, hwl⟩ : ∃ w post, (x : Int) :: u = w ++ post /\ Lm w /\ Lm post /\ w.length = M + 3 :=
   ⟨((x : Int) :: u).take (M + 3), ((x : Int) :: u).drop (M + 3), (JJ _ _).symm, hL.take _, hL.drop _, by rw [YM, QU]; omega⟩
  have hlp : w.length + post.length = u.length + 1 := by
   have := XU List.length hwp; simpa using this.symm
  have hvp : vl post = 0 := by
   have e := hv; rw [hwp, A2d, hwl] at e
   have h10 : B < 10000 ^ (M + 2) := L6 (by omega)
   have h11 : ((x + 10000 * R : Nat) : Int) < 10000 ^ (M + 3) := by
    rw [Bj, <- pwc]; omega
   have h12 := Ay hw; have h13 := Ay hp; rcases Int.lt_or_eq_of_le h13 with h | h
   . exfalso
     have h14 : (10000 : Int) ^ (M + 3) * 1 <= 10000 ^ (M + 3) * vl post := XJ (by omega) (by have := Ew (M + 3); omega)
     generalize (10000 : Int) ^ (M + 3) * vl post = z at *; generalize (10000 : Int) ^ (M + 3) = P at *; omega
   . exact h.symm
  have hvw : vl w = ((x + 10000 * R : Nat) : Int) := by
   rw [<- hv, hwp, A2d, hvp]; simp
  rw [htk, hwp, <- ZO]
  have hpl : ((dg A).take k).length = k := by rw [YM]; omega
  obtain ⟨w', q1, q2, q3, q4⟩ := Avt (n := n) (pre := (dg A).take k) (post := post) hM (by omega) (by omega) hw hwl hvw hlt
  rw [hpl] at q4
  rw [Ac (x := (k : Int) + ((dg B).length : Int)) (by omega) (by omega), Ac (x := (k : Int) + ((dg B).length : Int) + 1) (by omega) (by omega)]
  rw [A4 (by simp only [QE, QQ, ZW, hpl]; omega)]
  rw [show ((k : Int) + ((dg B).length : Int) + 1).toNat - (k : Int).toNat = M + 3 by omega]
  simp only [QS]; rw [q4, A2]; dsimp only; have hqm := KI (x + 10000 * R) hB; have hqr := JY (x + 10000 * R) B
  have hq : (x + 10000 * R) / B < 10000 := by
   rw [KP hB]; omega
  generalize (x + 10000 * R) / B = q at *; generalize (x + 10000 * R) % B = r at *
  rw [A4 (by simp [hwl, q2]), A4 (by simp; try omega), A4 (by simp; try omega), Ac (x := (k : Int) - 1) (by omega) (by omega), ZO]
  refine Ah4 hM hla hlA hn k m (10000 * Q + q) r _ _ (by omega) (by omega) hqm (by simpa using h4) (h5.set _ (by omega)) (fun i hi => Agq h6 hi) ?_ (q1.app hp) ?_ ?_ ?_
  . rw [Jq _ (by omega), h7, h6 k (by omega), Bj, A2n]
    generalize (10000 : Int) ^ k = P; grind
  . rw [ZW]; omega
  . rw [A2d, hvp, q3]; simp
  . rw [hRx, <- h8]; exact Aau rfl hqr rfl

theorem J3 (n : Nat) {l : List Int} (h : l.length <= 17592186044416) : f117 n l = some l := by
 unfold f117
 cases l with
 | nil => rfl
 | cons x r =>
  unfold Alz
  rw [XH, QJ (by simp), A4 (by rfl), A4 (by simp only [QQ]; simp only [QU] at *; omega)]

theorem Rp (n : Nat) {l : List Int} (h : l.length <= 17592186044416) (h0 : l ≠ []) : I1 n l = some l := by
 unfold I1
 cases l with
 | nil => exact absurd rfl h0
 | cons x r => rw [A4 (by rfl), A4 (by simp only [QQ]; simp only [QU] at *; omega)]

theorem Ajn {n L A B : Nat} (hB : 0 < B) (hA : (dg A).length <= L) (hBl : (dg B).length <= L) (hL : L <= 1099511627000) (hn : L + 10040 <= n) : f227 n (dg A) (dg B) = some (dg (A / B), dg (A % B)) := by
 unfold f227
 rw [Aa8 (by omega), A2, QI]
 by_cases hlt : A < B
 . rw [QL (by rw [I7 (by omega)]; omega), J3 n (by omega), A2, KY hlt, KM hlt, C6]
 . rw [QJ (by
    rcases JF (Nat.le_of_not_lt hlt) with h | h
    . rw [I8 (by omega)]; omega
    . rw [Jm (by omega)]; omega)]
   have hmn : (dg B).length <= (dg A).length := B5 (by omega)
   have hb0 : 0 < (dg B).length := by rw [Ee (by omega)]; simp
   rw [XH]; by_cases h1 : (dg B).length = 1
   . rw [QL (by simp [h1])]
     have hB1 : B < 10000 := by have := L6 (n := B) (k := 1) (by omega); simpa using this
     have hBd : dg B = [(B : Int)] := by
      rw [Ee (by omega), KM hB1, KY hB1, C6]
     rw [A4 (by simp; try omega), show f228 n (dg A) = some (dg A) from rfl, A2, Apc, A4 (by simp; try omega), hBd]
     simp only [QS]
     obtain ⟨o, q1, q2, q3, q4⟩ := Ana (n := n) (A := A) hB hB1 (by omega) (k0 := fun z_4 z_5 => (
           ob (f225 n z_5) fun r_6 =>
           ob (f179 n z_4) fun r_7 =>
           some (r_6, r_7))) (dg A).length 0 0 (List.replicate (dg A).length 0) (ZA _) hB (by simp) (Lm.rep _) (fun i hi => by simp [QH, XN, hi]) (by rw [T8]; simp) (by simp [vl])
     have q4 : Iu n (dg A) (dg A).length (dg A) [(B : Int)] 0 _ _ = _ := q4; have hm := KI A hB
     rw [q4, Oi q1 (by omega) (by omega), A2, A6a (by omega) (by omega), A2, q3]
     rfl
   . rw [QJ (by simp; omega)]
     obtain ⟨M, hM⟩ : ∃ M, (dg B).length = M + 2 := ⟨(dg B).length - 2, by omega⟩
     rw [Rp n (by omega) (ZZ.1 (by omega)), A2, A4 (by simp; try omega)]
     rw [Ac (x := ((dg A).length : Int) - ((dg B).length : Int)) (by omega) (by omega), Ac (x := ((dg A).length : Int) - ((dg B).length : Int) + 1) (by omega) (by omega), A4 (by simp; try omega)]
     rw [show (((dg A).length : Int) - ((dg B).length : Int) + 1).toNat = (dg A).length - (M + 1) by omega]
     have hR0 := Ay ((D8 A).drop ((dg A).length - (M + 1))); obtain ⟨R, hR⟩ : ∃ R : Nat, vl ((dg A).drop ((dg A).length - (M + 1))) = (R : Int) := ⟨_, (Int.toNat_of_nonneg hR0).symm⟩
     have hRB : R < B := by
      have := Gq ((D8 A).drop ((dg A).length - (M + 1)))
      rw [List.length_drop, show (dg A).length - ((dg A).length - (M + 1)) = M + 1 by omega, hR] at this
      have h2 := (G4 B).ge (ZZ.1 (by omega))
      rw [hM, Bb] at h2; have h2 : (10000 : Int) ^ (M + 1) <= B := h2; generalize (10000 : Int) ^ (M + 1) = P at *; omega
     obtain ⟨o, u, q1, q2, q3, q4, q5, q6, q7⟩ := Ah4 (n := n) (A := A) (B := B) hM hmn (by omega) (by omega) (k0 := fun z_10 z_11 => (
             ob (f225 n z_10) fun r_12 =>
             ob (f225 n z_11) fun r_13 =>
             some (r_12, r_13))) ((dg A).length - (M + 1)) n 0 R (List.replicate ((dg A).length - (M + 1)) 0) ((dg A).drop ((dg A).length - (M + 1)) ++ [0]) (by omega) (ZA _) hRB (by simp) (Lm.rep _) (fun i hi => by simp [QH, XN, hi]) (by rw [T8]; simp) (((D8 A).drop _).app (Lm.cons (by omega) Lm.nil)) (by simp; omega) (by rw [O0, hR]; simp) (by rw [hR]; simp)
     rw [<- ZO, JJ] at q7
     rw [show ((dg A).length : Int) - ((dg B).length : Int) = (((dg A).length - (M + 1) : Nat) : Int) - 1 by omega, q7, Oi q1 (by omega) (by omega), A2, Oi q4 (by omega) (by omega), A2, q3, q6]
     rfl

theorem B35 {α : Type} {n L : Nat} (hL : L <= 1099511627000) (hn : L + 10040 <= n) {k0 : List Int -> Option α} :
  ∀ (j m a b : Nat), b < 2 ^ j -> 2 * j + 1 <= m -> (dg a).length <= L -> (dg b).length <= L -> Iw n m (dg a) (dg b) k0 = k0 (dg (Nat.gcd b a)) := by
 have stop : ∀ (m a : Nat), 0 < m -> Iw n m (dg a) (dg 0) k0 = k0 (dg (Nat.gcd 0 a)) := fun m a hm => by
  obtain ⟨m, rfl⟩ : ∃ m', m = m' + 1 := ⟨m - 1, by omega⟩
  rw [A87, Qaf, C6]; rfl
 have step : ∀ (m a b : Nat), 0 < b -> (dg a).length <= L -> (dg b).length <= L -> Iw n (m + 1) (dg a) (dg b) k0 = Iw n m (dg b) (dg (a % b)) k0 := fun m a b hb ha hbl => by
  rw [A87]; unfold Zi
  have : 0 < (dg b).length := by rw [Ee (by omega)]; simp
  rw [QI, QL (by omega), Ajn hb ha hbl hL hn, A2]
 intro j
 induction j with
 | zero =>
  intro m a b h1 h2 h3 h4
  obtain rfl : b = 0 := by simpa using h1
  exact stop m a (by omega)
 | succ j ih =>
  intro m a b h1 h2 h3 h4; rcases YY b with rfl | hb
  . exact stop m a (by omega)
  obtain ⟨m, rfl⟩ : ∃ m', m = m' + 2 := ⟨m - 2, by omega⟩
  have h5 : (dg (a % b)).length <= L := ZK (B5 (Nat.le_of_lt (KI a hb))) h4; rw [step _ _ _ hb h3 h4, Nat.gcd_rec b a]; rcases YY (a % b) with hr | hr
  . rw [hr]; exact stop _ _ (by omega)
  have h6 : (dg (b % (a % b))).length <= L := ZK (B5 (Nat.le_of_lt (KI b hr))) h5; rw [step _ _ _ hr h4 h5, Nat.gcd_rec (a % b) b]
  exact ih m _ _ (Abw hb hr h1) (by omega) h5 h6

theorem Ax8 {n L a b : Nat} (hL : L <= 1099511627000) (hn : 28 * L + 10040 <= n) (ha : (dg a).length <= L) (hb : (dg b).length <= L) : f226 n (dg a) (dg b) = some (dg (Nat.gcd a b)) := by
 unfold f226
 rw [B35 hL (by omega) (14 * L) n a b (Agu (L6 hb)) (by omega) ha hb, Nat.gcd_comm]

abbrev Rt := Bool × List Int × List Int

abbrev Mt : Rt := (false, [], [])

def Sm (x : Rt) : Prop := x.2.1.length <= 1048576 /\ x.2.2.length <= 1048576

def Bd (x : Rt) : Prop := x.2.1.length <= 9223372036854775807 /\ x.2.2.length <= 9223372036854775807

theorem Aij {n : Nat} {l : List Int} {B : Int} (hB : 0 <= B /\ B <= 1048576) (hl : l.length <= 9223372036854775807) : f137 n l B = some (if (l.length : Int) <= B then B - l.length else -1) := by
 unfold f137
 rw [Ac (x := B - (l.length : Int)) (by omega) (by omega), QI]
 by_cases h : (l.length : Int) <= B
 . rw [QJ (by omega), QL h]
 . rw [QL (by omega), QJ h]

theorem B3m {n : Nat} {x : Rt} {B : Int} (hB : 0 <= B /\ B <= 1048576) (hx : Bd x) : ∃ r, f81 n x B = some r /\ (r = -1 \/ (0 <= r /\ r <= B /\ Sm x)) := by
 unfold f81; rw [Aij hB hx.1, A2]; by_cases h : (x.2.1.length : Int) <= B
 . rw [QL h, QI, QJ (by omega), Aij (by omega) hx.2, A2]
   by_cases h' : (x.2.2.length : Int) <= B - x.2.1.length
   . rw [QL h', QI, QJ (by omega)]
     exact ⟨_, rfl, .inr ⟨by omega, by omega, by unfold Sm; omega⟩⟩
   . rw [QJ h', QI, QL (by omega)]
     exact ⟨_, rfl, .inl rfl⟩
 . rw [QJ h, QI, QL (by omega)]
   exact ⟨_, rfl, .inl rfl⟩

theorem Acw {n : Nat} {l : List Rt} (hl : l.length <= 1048576) (hb : ∀ x ∈ l, Bd x) : ∀ (m i : Nat) (B : Int), 0 <= B /\ B <= 1048576 -> i <= l.length -> l.length < i + m ->
  ∃ r, A38 n m l B (i : Int) (fun z => some z) (fun z => some z) = some r /\ (r = -1 \/ (0 <= r /\ r <= B /\ ∀ x ∈ l.drop i, Sm x))
 | 0, i, B, hB, hi, hm => by omega
 | m + 1, i, B, hB, hi, hm => by
  rw [Avp]; unfold A60; dsimp only; rw [QI]; by_cases h : i < l.length
  . rw [QL (by omega), A4 (by simp; try omega)]
    simp only [QS]
    have hd : l.drop i = l.getD i Mt :: l.drop (i + 1) := by
     rw [XS h, QH, QN h]; rfl
    have hmem : l.getD i Mt ∈ l := Qan (i := i) (by rw [hd]; simp)
    obtain ⟨r, h1, h2⟩ := B3m (n := n) hB (hb _ hmem); rw [h1, A2]; rcases h2 with rfl | ⟨h2, h3, h4⟩
    . exact ⟨-1, rfl, .inl rfl⟩
    . rw [QI, QJ (by omega), Ac (x := (i : Int) + 1) (by omega) (by omega)]
      obtain ⟨r', q1, q2⟩ := Acw hl hb m (i + 1) r (by omega) (by omega) (by omega)
      refine ⟨r', q1, q2.imp id fun ⟨q3, q4, q5⟩ => ⟨q3, by omega, fun x hx => ?_⟩⟩
      rw [hd] at hx; rcases QT.1 hx with rfl | hx
      . exact h4
      . exact q5 x hx
  . rw [QJ (by omega)]
    refine ⟨_, rfl, .inr ⟨hB.1, JP _, fun x hx => ?_⟩⟩
    rw [ZE (by omega)] at hx
    cases hx

theorem B48 {n : Nat} {l : List Rt} {B : Int} (hB : 0 <= B /\ B <= 1048576) (hl : l.length <= 9223372036854775807) (hb : ∀ x ∈ l, Bd x) (hn : 1048577 <= n) : ∃ r, f30 n l B = some r /\ (r = -1 \/ (0 <= r /\ r <= B /\ l.length <= 1048576 /\ ∀ x ∈ l, Sm x)) := by
 unfold f30
 rw [Ac (x := B - (l.length : Int)) (by omega) (by omega), QI]
 by_cases h : (l.length : Int) <= B
 . rw [QJ (by omega)]
   obtain ⟨r, h1, h2⟩ := Acw (n := n) (l := l) (by omega) hb n 0 (B - l.length) (by omega) (by omega) (by omega)
   exact ⟨r, h1, h2.imp id fun ⟨q1, q2, q3⟩ => ⟨q1, by omega, by omega, by simpa using q3⟩⟩
 . rw [QL (by omega)]
   exact ⟨_, rfl, .inl rfl⟩

theorem S5 {α : Type} {l z : List α} {i : Nat} {d : α} (hi : i < l.length) (hz : z.length = l.length - i) : (l.take i ++ z).set i (l.getD i d) = l.take (i + 1) ++ z.drop 1 := by
 rw [YW _ _ (by rw [YM]; omega), YM, JE (by omega), Nat.sub_self]
 cases z with
 | nil => simp at hz; omega
 | cons y z => rw [List.set_cons_zero, KZ hi, QH, QN hi, ZO]; rfl

theorem A8y {α : Type} {n : Nat} {l : List Int} (hl : l.length <= 1048576) {k0 : List Int -> Option α} : ∀ (m i : Nat) (z : List Int), z.length = l.length - i -> i <= l.length -> l.length < i + m -> X6 n m l (i : Int) (l.take i ++ z) k0 = k0 l
 | 0, i, z, hz, hi, hm => by omega
 | m + 1, i, z, hz, hi, hm => by
  rw [Arv]; unfold A1f; dsimp only; rw [QI]; by_cases h : i < l.length
  . rw [QL (by omega)]
    simp only [QS]
    rw [A4 (by simp; try omega), A4 (by simp [hz]; omega), A4 (by simp [hz]; omega), S5 h hz, Ac (x := (i : Int) + 1) (by omega) (by omega)]
    exact A8y hl m (i + 1) _ (by simp [hz]; omega) (by omega) (by omega)
  . rw [QJ (by omega)]
    obtain rfl : z = [] := XI (by omega)
    rw [XV (by omega), XB]

theorem Aig {n : Nat} {l : List Int} (hl : l.length <= 1048576) (hn : 1048577 <= n) : f139 n l = some l := by
 unfold f139
 rw [A4 (by simp; try omega)]
 have := A8y (n := n) hl (k0 := fun z_1 => some z_1) n 0 (List.replicate l.length 0) (by simp) (by omega) (by omega)
 simpa using this

theorem B3h {n : Nat} {x : Rt} (h : Sm x) (hn : 1048577 <= n) : f83 n x = some x := by
 unfold f83; rw [Aig h.1 hn, A2, Aig h.2 hn, A2]

theorem Sm.get {l : List Rt} (h : ∀ x ∈ l, Sm x) (i : Nat) : Sm (l.getD i Mt) := by
 rw [QH]
 cases e : l[i]? with
 | none => exact ⟨by simp, by simp⟩
 | some x => exact h x (QW e)

theorem Acr {α : Type} {n : Nat} {l : List Rt} (hl : l.length <= 1048576) (hs : ∀ x ∈ l, Sm x) (hn : 1048577 <= n) {k0 : List Rt -> Option α} : ∀ (m i : Nat) (z : List Rt), z.length = l.length - i -> i <= l.length -> l.length < i + m -> A37 n m l (i : Int) (l.take i ++ z) k0 = k0 l
 | 0, i, z, hz, hi, hm => by omega
 | m + 1, i, z, hz, hi, hm => by
  rw [Avn]; unfold A5x; dsimp only; rw [QI]; by_cases h : i < l.length
  . rw [QL (by omega)]
    simp only [QS]
    rw [A4 (by simp; try omega), B3h (Sm.get hs i) hn, A2, A4 (by simp [hz]; omega), A4 (by simp [hz]; omega), S5 h hz, Ac (x := (i : Int) + 1) (by omega) (by omega)]
    exact Acr hl hs hn m (i + 1) _ (by simp [hz]; omega) (by omega) (by omega)
  . rw [QJ (by omega)]
    obtain rfl : z = [] := XI (by omega)
    rw [XV (by omega), XB]

theorem B43 {n : Nat} {l : List Rt} (hl : l.length <= 1048576) (hs : ∀ x ∈ l, Sm x) (hn : 1048577 <= n) : f32 n l = some l := by
 unfold f32
 rw [A4 (by simp; try omega)]
 have := Acr (n := n) hl hs hn (k0 := fun z_1 => some z_1) n 0 (List.replicate l.length Mt) (by simp) (by omega) (by omega)
 simpa using this

theorem Aca {α : Type} {n : Nat} {l : List Int} (hl : l.length <= 1048576) {k0 : Bool -> Option α} {k1 : Unit -> Option α} : ∀ (m i : Nat), i <= l.length -> l.length < i + m -> A32 n m l l (i : Int) k0 k1 = k1 ()
 | 0, i, hi, hm => by omega
 | m + 1, i, hi, hm => by
  rw [Av5]; unfold A5h; dsimp only; rw [QI]; by_cases h : i < l.length
  . rw [QL (by omega), A4 (by simp; try omega), A4 (by simp; try omega), YS, QX, Ac (x := (i : Int) + 1) (by omega) (by omega)]
    exact Aca hl m (i + 1) (by omega) (by omega)
  . rw [QJ (by omega)]

theorem Aog {n : Nat} {l : List Int} (hl : l.length <= 1048576) (hn : 1048577 <= n) : f84 n l l = some true := by
 unfold f84; rw [YS, QX]
 exact Aca hl n 0 (by omega) (by omega)

theorem Acp {n : Nat} {x : Rt} (h : Sm x) (hn : 1048577 <= n) : f33 n x x = some true := by
 unfold f33; rw [Aog h.1 hn, Aog h.2 hn]; simp

theorem Acn {α : Type} {n : Nat} {l : List Rt} (hl : l.length <= 1048576) (hs : ∀ x ∈ l, Sm x) (hn : 1048577 <= n) {k0 : Bool -> Option α} {k1 : Unit -> Option α} : ∀ (m i : Nat), i <= l.length -> l.length < i + m -> A34 n m l l (i : Int) k0 k1 = k1 ()
 | 0, i, hi, hm => by omega
 | m + 1, i, hi, hm => by
  rw [Avk]; unfold A5u; dsimp only; rw [QI]; by_cases h : i < l.length
  . rw [QL (by omega), A4 (by simp; try omega), A4 (by simp; try omega)]
    simp only [QS]
    rw [Acp (Sm.get hs i) hn, A2, Ac (x := (i : Int) + 1) (by omega) (by omega)]
    exact Acn hl hs hn m (i + 1) (by omega) (by omega)
  . rw [QJ (by omega)]

theorem B40 {n : Nat} {l : List Rt} (hl : l.length <= 1048576) (hs : ∀ x ∈ l, Sm x) (hn : 1048577 <= n) : f35 n l l = some true := by
 unfold f35; rw [YS, QX]
 exact Acn hl hs hn n 0 (by omega) (by omega)

def Gz (x : Int) : Bool := decide (0 <= x /\ x <= 9999)

def Sr (l : List Int) : Bool := decide (l.length <= 40) && l.all Gz && (l.isEmpty || decide (0 < l.getD (l.length - 1) 0))

theorem O5 {l : List Int} (h : Sr l = true) : Cn l /\ l.length <= 40 := by
 unfold Sr at h; simp only [QE, QQ, XM, QM, YE] at h; obtain ⟨⟨h1, h2⟩, h3⟩ := h; refine ⟨⟨fun x hx => ?_, fun hn => ?_⟩, h1⟩
 . have := h2 x hx; unfold Gz at this; rw [QQ] at this; omega
 . rcases h3 with h3 | h3
   . exact absurd h3 hn
   . omega

theorem Xl {α : Type} {l : List α} {p : α -> Bool} {i : Nat} (h : i < l.length) (d : α) : (l.drop i).all p = (p (l.getD i d) && (l.drop (i + 1)).all p) := by
 rw [XS h, XZ, QH, QN h]; rfl

theorem Oz {n : Nat} {a lo hi : Int} : f174 n a lo hi = some (decide (lo <= a /\ a <= hi)) := by
 unfold f174; by_cases h : lo <= a <;> simp [h]

theorem Wy {n : Nat} {a lo hi : Int} : f184 n a lo hi = some (decide (lo <= a /\ a <= hi)) := by
 unfold f184; by_cases h : lo <= a <;> simp [h]

theorem A8d {α : Type} {n : Nat} {l : List Int} (hl : l.length <= 1048576) {k0 : Bool -> Option α} {k1 : List Int -> Option α} : ∀ (m i : Nat), i <= l.length -> l.length < i + m -> Ol n m l (i : Int) k0 k1 = if (l.drop i).all Gz = true then k1 l else k0 false
 | 0, i, hi, hm => by omega
 | m + 1, i, hi, hm => by
  rw [App]; unfold Zy; dsimp only; rw [QI]; by_cases h : i < l.length
  . rw [QL (by omega), A4 (by simp; try omega)]
    simp only [QS]; rw [Oz, A2, Xl h 0]
    cases hp : Gz (l.getD i 0) with
    | true =>
     unfold Gz at hp
     rw [hp, Ac (x := (i : Int) + 1) (by omega) (by omega)]
     simp only [ZT, QX, XX]
     exact A8d hl m (i + 1) (by omega) (by omega)
    | false =>
     unfold Gz at hp; rw [hp]; simp
  . rw [QJ (by omega), ZE (by omega)]
    rfl

theorem Ahp {n : Nat} {l : List Int} (hn : 1048577 <= n) : f216 n l = some (Sr l) := by
 unfold f216 Sr; rw [QI]; by_cases h : l.length <= 4096
 . rw [QJ (by omega)]
   have := A8d (n := n) (l := l) (by omega) (k0 := fun z_2 => some z_2) (k1 := fun z_3 => (
     bif (decide ((z_3.length : Int) <= 40)) then
      bif ((z_3.length : Int) == 0) then
       some true
      else
       gd (decide (0 <= (W ((z_3.length : Int) - 1))) && decide ((W ((z_3.length : Int) - 1)) < (z_3.length : Int))) (
        some (decide ((z_3.getD ((W ((z_3.length : Int) - 1)).toNat) 0) > 0)))
     else
      some false)) n 0 (by omega) (by omega)
   have this : Ol n n l 0 _ _ = _ := this; rw [this, XE]
   cases l.all Gz with
   | false => simp
   | true =>
    rw [QL rfl, QI]; by_cases h40 : l.length <= 40
    . rw [QL (by omega)]
      cases l with
      | nil => rfl
      | cons x r =>
       rw [XH, QJ (by simp; omega), Ac (x := ((x :: r).length : Int) - 1) (by omega) (by omega), A4 (by simp; omega), show (((x :: r).length : Int) - 1).toNat = (x :: r).length - 1 by omega]
       have h41 : r.length <= 39 := by simpa using h40
       simp [h41]
    . rw [QJ (by omega)]
      simp [h40]
 . rw [QL (by omega), ZC (by omega)]
   rfl

theorem Sy {n : Nat} {l : List Int} (hl : l.length <= 1048576) : ∀ (m i : Nat), i <= l.length -> l.length < i + m -> ∃ r, Gf n m l (l.length : Int) (i : Int) (fun z => some z) (fun (_ : Unit) => some (-1)) = some r /\ decide (r >= 0) = !(l.drop i).all Gz
 | 0, i, hi, hm => by omega
 | m + 1, i, hi, hm => by
  rw [A9q]; unfold M0; dsimp only; rw [QI]; by_cases h : i < l.length
  . rw [QL (by omega), A4 (by simp; try omega)]
    simp only [QS]
    have e : f239 n (l.getD i 0) = some (!Gz (l.getD i 0)) := by
     unfold f239 Gz; rw [QI]; generalize l.getD i 0 = x; by_cases h1 : x < 0
     . rw [QL h1, ZC (by omega)]; rfl
     . rw [QJ h1]; by_cases h2 : x <= 9999
       . rw [ZC (by omega), ZN (by omega)]; rfl
       . rw [ZN (by omega), ZC (by omega)]; rfl
    rw [e, A2, Xl h 0]
    cases hp : Gz (l.getD i 0) with
    | true =>
     rw [Ac (x := (i : Int) + 1) (by omega) (by omega)]
     simp only [ZT, QX, XX]
     exact Sy hl m (i + 1) (by omega) (by omega)
    | false =>
     exact ⟨i, rfl, by simp⟩
  . rw [QJ (by omega), ZE (by omega)]
    exact ⟨-1, rfl, rfl⟩

theorem Ya {n : Nat} {l : List Int} (hl : l.length <= 1048576) (hn : 1048577 <= n) : M1 n l () = some (!l.all Gz) := by
 unfold M1 Ze
 obtain ⟨r, h1, h2⟩ := Sy (n := n) hl n 0 (by omega) (by omega)
 have h1 : Gf n n l (l.length : Int) 0 _ _ = _ := h1; rw [h1, A2, h2, XE]

theorem Ahh {n : Nat} {l : List Int} (hn : 1048577 <= n) : f231 n l = some (Sr l) := by
 unfold f231 Sr; rw [QI]; by_cases h : l.length <= 40
 . rw [QJ (by omega), ZN h, XX, QI]
   cases l with
   | nil => rw [QJ (by simp), Ya (by omega) hn]; rfl
   | cons x r =>
    rw [QL (by simp), Ac (x := ((x :: r).length : Int) - 1) (by omega) (by omega), A4 (by simp; omega), show (((x :: r).length : Int) - 1).toNat = (x :: r).length - 1 by omega]
    rw [Ya (by omega) hn, A2, Bool.not_not, XH]
    by_cases hz : (x :: r).getD ((x :: r).length - 1) 0 = 0
    . rw [QL (by rw [hz]; rfl), hz]; simp
    . rw [QJ (by rw [KV]; exact hz)]
      cases ha : (x :: r).all Gz with
      | false => rfl
      | true =>
       have : Gz ((x :: r).getD ((x :: r).length - 1) 0) = true := by
        rw [QM] at ha; apply ha
        rw [QH, QN (by simp)]
        simp only [XO]; exact JA _
       unfold Gz at this; rw [QQ] at this
       rw [ZN (by omega)]
       simp
 . rw [QL (by omega), ZC h]; rfl

theorem Ajk {α : Type} (l : List α) : ((l.length : Int) == 0) = l.isEmpty := by
 cases l with
 | nil => rfl
 | cons x r => rw [beq_eq_false_iff_ne.2 (by simp; omega)]; rfl

def Ha (x : Rt) : Bool := Sr x.2.1 && Sr x.2.2 && !x.2.2.isEmpty && !(x.2.1.isEmpty && x.1) && decide (Nat.gcd (vl x.2.1).toNat (vl x.2.2).toNat = 1)

theorem I5 : dg 1 = [1] := by rw [Ee (by omega), show 1 / 10000 = 0 from rfl, C6]; rfl

theorem Aeu {g : Nat} : (cm (g : Int) ((1 : Nat) : Int) == 0) = decide (g = 1) := by
 unfold cm; by_cases h : g = 1
 . subst h; rfl
 . rw [ZC h]; by_cases h2 : (g : Int) < (1 : Nat)
   . rw [QL h2]; rfl
   . rw [QJ h2, QJ (by omega)]; rfl

theorem Aha {a b : Nat} (ha : (dg a).length <= 40) (hb : (dg b).length <= 40) : (dg (Nat.gcd a b)).length <= 40 := by
 rcases YY a with rfl | h
 . rw [Qaf]; exact hb
 . exact ZK (B5 (Nat.gcd_le_left b h)) ha

theorem B0w {n : Nat} {x : Rt} (hn : 1048577 <= n) : f177 n x = some (Ha x) := by
 obtain ⟨s, a, b⟩ := x; unfold f177 Ha; dsimp only; simp only [Ajk]; rw [Ahp hn, A2, Ahp hn, A2]
 cases ha : Sr a with
 | false => rfl
 | true =>
  cases hb : Sr b with
  | false => rfl
  | true =>
   obtain ⟨ca, la⟩ := O5 ha; obtain ⟨cb, lb⟩ := O5 hb; have ea := Gt ca; have eb := Gt cb
   have hg : f217 n a b = some (dg (Nat.gcd (vl a).toNat (vl b).toNat)) := by
    conv => lhs; rw [<- ea, <- eb]
    exact Aww (L := 40) (by omega) (by omega) (by rw [ea]; exact la) (by rw [eb]; exact lb)
   have hgl := Aha (a := (vl a).toNat) (b := (vl b).toNat) (by rw [ea]; exact la) (by rw [eb]; exact lb)
   rw [hg, A2, <- I5, Aa4 (by omega) (by omega), A2, Aeu]
   cases b <;> cases a <;> cases s <;> simp

theorem Azp {n : Nat} {x : Rt} (hn : 1048577 <= n) : f215 n x = some (Ha x) := by
 obtain ⟨s, a, b⟩ := x; unfold f215 Ha; dsimp only; rw [Ahh hn, A2, Ahh hn, A2]
 cases ha : Sr a with
 | false => rfl
 | true =>
  cases hb : Sr b with
  | false => rfl
  | true =>
   obtain ⟨ca, la⟩ := O5 ha; obtain ⟨cb, lb⟩ := O5 hb; have ea := Gt ca; have eb := Gt cb
   have hg : f226 n a b = some (dg (Nat.gcd (vl a).toNat (vl b).toNat)) := by
    conv => lhs; rw [<- ea, <- eb]
    exact Ax8 (L := 40) (by omega) (by omega) (by rw [ea]; exact la) (by rw [eb]; exact lb)
   have hgl := Aha (a := (vl a).toNat) (b := (vl b).toNat) (by rw [ea]; exact la) (by rw [eb]; exact lb)
   rw [hg, A2, show f180 n = some [1] from rfl, A2, <- I5, Aa8 (by omega), A2, Aeu, show f195 n (s, a, b) = some ((a.length : Int) == 0) from rfl, A2, Ajk, Ajk]
   cases b <;> cases a <;> cases s <;> simp

theorem T1 {n : Nat} {l : List Rt} (hl : l.length <= 1048576) (hn : 1048577 <= n) : ∀ (m i : Nat), i <= l.length -> l.length < i + m -> ∃ r, Gl n m l (l.length : Int) (i : Int) (fun z => some z) (fun (_ : Unit) => some (-1)) = some r /\ decide (r >= 0) = !(l.drop i).all Ha
 | 0, i, hi, hm => by omega
 | m + 1, i, hi, hm => by
  rw [A9t]; unfold Me; dsimp only; rw [QI]; by_cases h : i < l.length
  . rw [QL (by omega), A4 (by simp; try omega)]
    simp only [QS]
    have e : f214 n (l.getD i Mt) = some (!Ha (l.getD i Mt)) := by
     unfold f214; rw [Azp hn, A2]
    rw [e, A2, Xl h Mt]
    cases hp : Ha (l.getD i Mt) with
    | true =>
     rw [Ac (x := (i : Int) + 1) (by omega) (by omega)]
     simp only [ZT, QX, XX]
     exact T1 hl hn m (i + 1) (by omega) (by omega)
    | false => exact ⟨i, rfl, by simp⟩
  . rw [QJ (by omega), ZE (by omega)]
    exact ⟨-1, rfl, rfl⟩

theorem Agc {n : Nat} {l : List Rt} (hl : l.length <= 1048576) (hn : 1048577 <= n) : Rj n l () = some (!l.all Ha) := by
 unfold Rj A12
 obtain ⟨r, h1, h2⟩ := T1 (n := n) hl hn n 0 (by omega) (by omega)
 have h1 : Gl n n l (l.length : Int) 0 _ _ = _ := h1; rw [h1, A2, h2, XE]

theorem B12 {n : Nat} {l : List Rt} (hl : l.length <= 1048576) (hn : 1048577 <= n) : f173 n l = some (if l.all Ha = true then 0 else 1) := by
 unfold f173; rw [Agc hl hn, A2]
 cases l.all Ha <;> rfl

def T7 (l : List Rt) : Bool := decide (1 <= l.length /\ l.length <= 4) && l.all Ha

theorem A93 {α : Type} {n : Nat} {l : List Rt} (hl : l.length <= 1048576) (hn : 1048577 <= n) {k0 : Bool -> Option α} {k1 : List Rt -> Option α} : ∀ (m i : Nat), i <= l.length -> l.length < i + m -> P4 n m l (i : Int) k0 k1 = if (l.drop i).all Ha = true then k1 l else k0 false
 | 0, i, hi, hm => by omega
 | m + 1, i, hi, hm => by
  rw [As5]; unfold A1p; dsimp only; rw [QI]; by_cases h : i < l.length
  . rw [QL (by omega), A4 (by simp; try omega)]
    simp only [QS]; rw [B0w hn, A2, Xl h Mt]
    cases hp : Ha (l.getD i Mt) with
    | true =>
     rw [Ac (x := (i : Int) + 1) (by omega) (by omega)]
     simp only [ZT, QX, XX]
     exact A93 hl hn m (i + 1) (by omega) (by omega)
    | false => simp
  . rw [QJ (by omega), ZE (by omega)]
    rfl

theorem B1n {n : Nat} {l : List Rt} (hn : 1048577 <= n) : f119 n l = some (T7 l) := by
 unfold f119 T7; rw [QI]; by_cases h : l.length <= 4096
 . rw [QJ (by omega)]
   have h1 := A93 (n := n) (l := l) (by omega) hn (k0 := fun z_3 => some z_3) (k1 := fun z_4 => (
     ob (f174 n (z_4.length : Int) 1 4) fun r_5 =>
     some r_5)) n 0 (by omega) (by omega)
   have h1 : P4 n n l 0 _ _ = _ := h1; rw [h1, XE, Oz, A2]
   have e : decide ((1 : Int) <= (l.length : Int) /\ (l.length : Int) <= 4) = decide (1 <= l.length /\ l.length <= 4) := by
    apply decide_eq_decide.2; omega
   rw [e]
   cases l.all Ha <;> simp
 . rw [QL (by omega), ZC (by omega)]; rfl

theorem B1w {n : Nat} {l : List Rt} (hn : 1048577 <= n) : f115 n l = some (T7 l) := by
 unfold f115 T7; rw [QI, QI]; by_cases h : 1 <= l.length /\ l.length <= 4
 . rw [QL (by omega), QL (by omega), B12 (by omega) hn, ZN h, A2]
   cases l.all Ha <;> rfl
 . rw [ZC h]; split
   . rw [QJ (by omega)]; rfl
   . rfl

theorem A90 {n : Nat} {l : List Int} (hl : l.length <= 1048576) : ∀ (m i : Nat), i <= l.length -> l.length < i + m -> ∃ c, P3 n m 4096 l (l.length : Int) (i : Int) (fun z => some z) (fun (_ : Unit) => some 0) = some c /\ ((c = 0 /\ ∀ x ∈ l.drop i, x <= 4096) \/ (c = 2 /\ ∃ x ∈ l, 4096 < x))
 | 0, i, hi, hm => by omega
 | m + 1, i, hi, hm => by
  rw [Ary]; unfold A1j; dsimp only; rw [QI]; by_cases h : i < l.length
  . rw [QL (by omega), A4 (by simp; try omega)]
    simp only [QS]; rw [QI]; by_cases hx : 4096 < l.getD i 0
    . rw [QL hx]; refine ⟨2, rfl, .inr ⟨rfl, l.getD i 0, ?_, hx⟩⟩; rw [QH, QN h]; exact JA h
    . rw [QJ hx, Ac (x := (i : Int) + 1) (by omega) (by omega)]
      obtain ⟨c, h1, h2⟩ := A90 (n := n) hl m (i + 1) (by omega) (by omega)
      refine ⟨c, h1, h2.imp (fun ⟨e, h3⟩ => ⟨e, fun x hx' => ?_⟩) (fun h => h)⟩; rw [XS h] at hx'; rcases QT.1 hx' with rfl | hx'
      . rw [QH, QN h] at hx; exact Int.not_lt.1 hx
      . exact h3 x hx'
  . rw [QJ (by omega)]
    refine ⟨0, rfl, .inl ⟨rfl, fun x hx => ?_⟩⟩
    rw [ZE (by omega)] at hx
    cases hx

theorem Acf {α : Type} {n : Nat} {L : List (List Rt)} (hl : L.length <= 1048576) {k0 : List Int -> Option α} : ∀ (m i : Nat) (o : List Int), o.length <= i -> i <= L.length -> L.length < i + m -> Ua n m L (L.length : Int) (i : Int) o k0 = k0 (o ++ (L.drop i).map fun v => (v.length : Int))
 | 0, i, o, ho, hi, hm => by omega
 | m + 1, i, o, ho, hi, hm => by
  rw [Ava]; unfold A5m; dsimp only; rw [QI]; by_cases h : i < L.length
  . rw [QL (by omega), A4 (by simp; try omega), A4 (by simp only [QQ]; omega)]
    simp only [QS]
    rw [Ac (x := (i : Int) + 1) (by omega) (by omega), show (i : Int) + 1 = ((i + 1 : Nat) : Int) from rfl, Acf hl m (i + 1) _ (by simp; omega) (by omega) (by omega), XS h, QH, QN h, ZO]
    rfl
  . rw [QJ (by omega), ZE (by omega)]
    simp

theorem B3p {n : Nat} {L : List (List Rt)} (hl : L.length <= 1048576) (hn : 1048577 <= n) : ∃ c, f65 n L = some c /\ ((c = 0 /\ ∀ v ∈ L, v.length <= 4096) \/ (c = 2 /\ ∃ v ∈ L, 4096 < v.length)) := by
 unfold f65
 have h1 := Acf (n := n) (L := L) hl (k0 := fun z_1 => (
   ob (f121 n 4096 z_1) fun r_2 =>
   some r_2)) n 0 [] (by simp) (by omega) (by omega)
 have h1 : Ua n n L (L.length : Int) 0 [] _ = _ := h1; rw [h1, XE, KJ]; unfold f121
 obtain ⟨c, h2, h3⟩ := A90 (n := n) (l := L.map fun v => (v.length : Int)) (by simpa using hl) n 0 (by omega) (by simp; omega)
 have h2 : P3 n n 4096 _ _ 0 _ _ = _ := h2
 refine ⟨c, by rw [h2, A2], h3.imp (fun ⟨e, h⟩ => ⟨e, fun v hv => by have := h _ (by rw [XE]; exact ZP.2 ⟨v, hv, rfl⟩); omega⟩) fun ⟨e, x, hx, hx'⟩ => ⟨e, ?_⟩⟩
 obtain ⟨v, hv, rfl⟩ := ZP.1 hx
 exact ⟨v, hv, by omega⟩

def BdL (l : List Rt) : Prop := l.length <= 9223372036854775807 /\ ∀ x ∈ l, Bd x

def SmL (l : List Rt) : Prop := l.length <= 1048576 /\ ∀ x ∈ l, Sm x

theorem Azb {n : Nat} {l : List Rt} {B : Int} (hB : 0 <= B /\ B <= 1048576) (hl : BdL l) (hn : 1048577 <= n) : ∃ r, f30 n l B = some r /\ (r = -1 \/ ((0 <= r /\ r <= 1048576) /\ SmL l)) := by
 obtain ⟨r, h1, h2⟩ := B48 (n := n) hB hl.1 hl.2 hn
 exact ⟨r, h1, h2.imp id fun ⟨q1, q2, q3, q4⟩ => ⟨⟨q1, by omega⟩, q3, q4⟩⟩

abbrev Nod := Int × Int × Int × Int

def Dm (op : Int) : Int := if op = 3 \/ op = 4 \/ op = 5 \/ op = 6 then 2 else if op = 7 \/ op = 8 then 1 else 0

theorem A6k {n : Nat} {x : Nod} : f109 n x = some (Dm x.1) := by
 unfold f109 Dm; simp only [XH, KV]; grind

def Nr (x : Nod) : Prop := if x.1 = 1 then 0 <= x.2.2.2 /\ x.2.2.2 <= 999999999 else if x.1 = 2 then 0 <= x.2.2.2 /\ x.2.2.2 <= 3 else if x.1 = 8 then 0 <= x.2.2.2 /\ x.2.2.2 <= 8 else x.2.2.2 = 0

instance (x : Nod) : Decidable (Nr x) := by unfold Nr; infer_instance

theorem Azg {n : Nat} {x : Nod} : f236 n x = some (decide (Nr x)) := by
 unfold f236 Nr; simp only [XH, KV, Wy, A2]; grind

theorem Aze {n : Nat} {h : Bool} {k i : Int} (hi : 0 <= i /\ i < 1152921504606846976) : f237 n h k i = some (decide (if h = true then 0 <= k /\ k <= i - 1 else k = 0)) := by
 unfold f237
 simp only [Wy, A2, Ac (x := i - 1) (by omega) (by omega), XH]
 cases h <;> grind

def Dj (x : Nod) (i : Int) : Prop := (1 <= x.1 /\ x.1 <= 8) /\ Nr x /\ (if Dm x.1 > 0 then 0 <= x.2.1 /\ x.2.1 <= i - 1 else x.2.1 = 0) /\ (if Dm x.1 > 1 then 0 <= x.2.2.1 /\ x.2.2.1 <= i - 1 else x.2.2.1 = 0)

instance (x : Nod) (i : Int) : Decidable (Dj x i) := by unfold Dj; infer_instance

theorem Azk {n : Nat} {x : Nod} {i : Int} (hi : 0 <= i /\ i < 1152921504606846976) : f229 n x i = some (decide (Dj x i)) := by
 unfold f229 Dj; simp only [Wy, Azg, A6k, A2, Aze hi, XH, QQ]; grind

theorem A6f {n : Nat} {a : Int} : f155 n a = some (decide (3 <= a /\ a <= 6)) := by
 unfold f155; simp [Oz]

theorem A6d {n : Nat} {a : Int} : f156 n a = some (decide (a = 7 \/ a = 8)) := by
 unfold f156; simp only [XH, KV]; grind

def Hs (x : Nod) (i : Int) : Prop := (1 <= x.1 /\ x.1 <= 8) /\ (if 3 <= x.1 /\ x.1 <= 6 then (0 <= x.2.1 /\ x.2.1 <= i - 1) /\ (x.2.1 + 1 <= x.2.2.1 /\ x.2.2.1 <= i - 1) /\ x.2.2.2 = 0
 else if x.1 = 7 \/ x.1 = 8 then x.2.1 = i - 1 /\ 0 < i /\ x.2.2.1 = 0 /\ 0 <= x.2.2.2 /\ x.2.2.2 <= (if x.1 = 8 then 8 else 0)
 else if x.1 = 2 then x.2.1 = 0 /\ x.2.2.1 = 0 /\ 0 <= x.2.2.2 /\ x.2.2.2 <= 3 else x.2.1 = 0 /\ x.2.2.1 = 0 /\ 0 <= x.2.2.2 /\ x.2.2.2 <= 999999999)

instance (x : Nod) (i : Int) : Decidable (Hs x i) := by unfold Hs; infer_instance

theorem B10 {n : Nat} {x : Nod} {i : Int} (hi : 0 <= i /\ i < 1152921504606846976) : f175 n x i = some (decide (Hs x i)) := by
 unfold f175 Hs
 simp only [Oz, A6f, A6d, P0, A2, Ac (x := i - 1) (by omega) (by omega), XH, QQ, KV]
 by_cases h0 : 1 <= x.1 /\ x.1 <= 8
 . by_cases h1 : 3 <= x.1 /\ x.1 <= 6
   . by_cases h2 : 0 <= x.2.1 /\ x.2.1 <= i - 1
     . rw [Ac (x := x.2.1 + 1) (by omega) (by omega)]
       simp only [h0, h1, h2]; by_cases h3 : x.2.1 + 1 <= x.2.2.1 /\ x.2.2.1 <= i - 1
       . simp [h3]; rfl
       . simp [h3]
     . simp [h0, h1, h2]
   . by_cases h2 : x.1 = 7 \/ x.1 = 8
     . have e : W (8 * (if (x.1 == 8) = true then 1 else 0)) = if x.1 = 8 then 8 else 0 := by
        by_cases h : x.1 = 8 <;> simp [h] <;> exact Ac (by omega) (by omega)
       simp only [KV] at e; simp only [h0, h1, h2, e]; grind
     . grind
 . simp [h0]

def okP (bs : List Int) (x : Nod) (i : Int) : Prop := Hs x i /\ (3 <= x.1 /\ x.1 <= 6 -> x.2.2.1 = i - 1 /\ bs.getD x.2.2.1.toNat 0 = x.2.1 + 1)

instance (bs : List Int) (x : Nod) (i : Int) : Decidable (okP bs x i) := by unfold okP; infer_instance

def nb (bs : List Int) (x : Nod) (i : Int) : Int := if 3 <= x.1 /\ x.1 <= 8 then bs.getD x.2.1.toNat 0 else i

def nd (ds : List Int) (x : Nod) : Int := if 3 <= x.1 /\ x.1 <= 6 then 1 + max (ds.getD x.2.1.toNat 0) (ds.getD x.2.2.1.toNat 0) else if x.1 = 7 \/ x.1 = 8 then 1 + ds.getD x.2.1.toNat 0 else 1

def Dc : List Int -> List Int -> List Nod -> Option (List Int × List Int)
 | bs, ds, [] => some (bs, ds)
 | bs, ds, x :: r => if okP bs x bs.length then Dc (bs ++ [nb bs x bs.length]) (ds ++ [nd ds x]) r else none

structure Ny (bs ds : List Int) : Prop where
 len : ds.length = bs.length
 small : bs.length <= 1048576
 b : ∀ j, j < bs.length -> 0 <= bs.getD j 0 /\ bs.getD j 0 <= j
 d : ∀ j, j < ds.length -> 1 <= ds.getD j 0 /\ ds.getD j 0 <= j + 1

theorem Lk {a : Int} {k : Nat} (h0 : 0 <= a) (h : a <= (k : Int) - 1) : a.toNat < k := by omega

theorem Ny.step {bs ds : List Int} (h : Ny bs ds) {x : Nod} (hx : okP bs x bs.length) (hs : bs.length + 1 <= 1048576) : Ny (bs ++ [nb bs x bs.length]) (ds ++ [nd ds x]) := by
 obtain ⟨h1, h2, h3, h4⟩ := h; have hn := hx.1; unfold Hs at hn
 refine ⟨by simp [h1], by simpa using hs, fun j hj => ?_, fun j hj => ?_⟩
 . simp only [ZW, QU, ZG] at hj; rcases XL j bs.length with hlt | hge
   . rw [Bw hlt]; exact h3 j hlt
   . obtain rfl : j = bs.length := by omega
     rw [Cb]; unfold nb; split
     . have ha : 0 <= x.2.1 /\ x.2.1 <= (bs.length : Int) - 1 := by
        split at hn
        . omega
        . split at hn
          . omega
          . omega
       have := h3 _ (Lk ha.1 ha.2); omega
     . omega
 . simp only [ZW, QU, ZG] at hj; rcases XL j ds.length with hlt | hge
   . rw [Bw hlt]; exact h4 j hlt
   . obtain rfl : j = ds.length := by omega
     rw [Cb]; unfold nd; split
     . rename_i h2'; rw [QL h2'] at hn
       have ha := h4 _ (by rw [h1]; exact Lk (k := bs.length) (a := x.2.1) (by omega) (by omega))
       have hb := h4 _ (by rw [h1]; exact Lk (k := bs.length) (a := x.2.2.1) (by omega) (by omega))
       omega
     . rename_i h2'; rw [QJ h2'] at hn; split
       . rename_i h3'; rw [QL h3'] at hn
         have ha := h4 _ (by rw [h1]; exact Lk (k := bs.length) (a := x.2.1) (by omega) (by omega))
         omega
       . omega

theorem Au1 {bs ds : List Int} (h : Ny bs ds) {x : Nod} : okP bs x bs.length ↔ Dj x bs.length /\ (Dm x.1 = 1 -> x.2.1 = (bs.length : Int) - 1) /\ (Dm x.1 = 2 -> x.2.2.1 = (bs.length : Int) - 1 /\ x.2.1 = bs.getD x.2.2.1.toNat 0 - 1) := by
 obtain ⟨h1, h2, h3, h4⟩ := h; unfold okP Hs Dj Nr Dm; by_cases h2 : 3 <= x.1 /\ x.1 <= 6
 . have e : x.1 = 3 \/ x.1 = 4 \/ x.1 = 5 \/ x.1 = 6 := by omega
   have e1 : ¬ x.1 = 1 := by omega
   have e2 : ¬ x.1 = 2 := by omega
   have e3 : ¬ x.1 = 8 := by omega
   simp only [QL e, QL h2, QJ e1, QJ e2, QJ e3]; constructor
   . rintro ⟨⟨ha, hb, hc, hd⟩, hf⟩
     obtain ⟨hf1, hf2⟩ := hf h2
     refine ⟨⟨ha, hd, by rw [QL (by decide)]; omega, by rw [QL (by decide)]; omega⟩, fun h => absurd h (by decide), fun _ => by omega⟩
   . rintro ⟨⟨ha, hb, hc, hd⟩, _, hf⟩
     obtain ⟨hf1, hf2⟩ := hf trivial
     rw [QL (by decide)] at hc hd
     have := h3 _ (Lk hd.1 hd.2)
     refine ⟨⟨ha, hc, ?_, hb⟩, fun _ => ⟨hf1, by omega⟩⟩
     omega
 . have e : ¬ (x.1 = 3 \/ x.1 = 4 \/ x.1 = 5 \/ x.1 = 6) := by omega
   simp only [QJ e, QJ h2]; by_cases h5 : x.1 = 7 \/ x.1 = 8
   . have e1 : ¬ x.1 = 1 := by omega
     have e2 : ¬ x.1 = 2 := by omega
     simp only [QL h5, QJ e1, QJ e2]; constructor
     . rintro ⟨⟨ha, hb, hc, hd, hn⟩, _⟩
       refine ⟨⟨ha, ?_, by rw [QL (by decide)]; omega, by rw [QJ (by decide)]; exact hd⟩, fun _ => hb, fun h => absurd h (by decide)⟩
       split <;> (split at hn <;> omega)
     . rintro ⟨⟨ha, hb, hc, hd⟩, hf, _⟩
       rw [QL (by decide)] at hc
       rw [QJ (by decide)] at hd
       have hf := hf trivial
       refine ⟨⟨ha, hf, by omega, hd, ?_⟩, fun h => absurd h h2⟩
       split at hb <;> split <;> omega
   . have e3 : ¬ x.1 = 8 := by omega
     simp only [QJ h5, QJ e3]; constructor
     . rintro ⟨⟨ha, hb⟩, _⟩
       refine ⟨⟨ha, ?_, ?_, ?_⟩, fun h => absurd h (by decide), fun h => absurd h (by decide)⟩
       . have hb1 : x.1 = 1 \/ x.1 = 2 := by omega
         rcases hb1 with h1' | h1'
         . rw [QJ (by omega)] at hb; rw [QL h1']; omega
         . rw [QL h1'] at hb; rw [QJ (by omega), QL h1']; omega
       . rw [QJ (by decide)]; split at hb <;> omega
       . rw [QJ (by decide)]; split at hb <;> omega
     . rintro ⟨⟨ha, hb, hc, hd⟩, _, _⟩
       rw [QJ (by decide)] at hc hd
       refine ⟨⟨ha, ?_⟩, fun h => absurd h h2⟩
       have hb1 : x.1 = 1 \/ x.1 = 2 := by omega
       rcases hb1 with h1' | h1'
       . rw [QL h1'] at hb; rw [QJ (by omega)]; omega
       . rw [QJ (by omega), QL h1'] at hb; rw [QL h1']; omega

theorem Afp {α : Type} {n k : Nat} {e : List Nod} {bs ds : List Int} {f} {k0 : Bool -> Option α} {k1} (hi : Ny bs ds) (hk : bs.length = k) (hlt : k < e.length) (hN : e.length <= 1048576) :
  M6 n e (e.length : Int) (k : Int) bs ds f k0 k1 = if okP bs (e.getD k (0, 0, 0, 0)) (bs.length : Nat) then f e (e.length : Int) ((k + 1 : Nat) : Int) (bs ++ [nb bs (e.getD k (0, 0, 0, 0)) (bs.length : Nat)]) (ds ++ [nd ds (e.getD k (0, 0, 0, 0))]) else k0 false := by
 have hp := Au1 hi (x := e.getD k (0, 0, 0, 0)); obtain ⟨h1, h2, h3, h4⟩ := hi; subst hk; unfold M6; generalize hx : e.getD bs.length (0, 0, 0, 0) = x at hp ⊢
 rw [QI, QL (by omega), A4 (by simp; omega)]
 simp only [QS, hx, Azk (x := x) (i := (bs.length : Int)) (by omega), A6k, A2, Ac (x := (bs.length : Int) - 1) (by omega) (by omega), Ac (x := (bs.length : Int) + 1) (by omega) (by omega)]
 by_cases hpl : Dj x bs.length
 . simp only [hpl, decide_true, ZT, QX]; have hpl' := hpl; unfold Dj at hpl'; by_cases k1' : Dm x.1 = 1
   . have hop : x.1 = 7 \/ x.1 = 8 := by unfold Dm at k1'; grind
     simp only [k1', beq_self_eq_true, ZM]
     rw [QL (by rw [k1']; decide)] at hpl'
     by_cases ha : x.2.1 = (bs.length : Int) - 1
     . have hok : okP bs x bs.length := hp.2 ⟨hpl, fun _ => ha, fun h => by omega⟩
       have hd := h4 x.2.1.toNat (by omega)
       rw [QL hok]
       have e1 : (x.2.1 != (bs.length : Int) - 1) = false := by simp [ha]
       rw [e1, QX, A4 (by simp; omega), A4 (by simp; omega), A4 (by simp; omega), A4 (by simp; omega), A4 (by simp; omega), A4 (by simp; omega), Ac (by omega) (by omega)]
       have e2 : nb bs x bs.length = bs.getD x.2.1.toNat 0 := by unfold nb; rw [QL (by omega)]
       have e3 : nd ds x = ds.getD x.2.1.toNat 0 + 1 := by unfold nd; rw [QJ (by omega), QL hop]; omega
       rw [e2, e3]; rfl
     . have hok : ¬ okP bs x bs.length := fun h => ha ((hp.1 h).2.1 k1'); rw [QJ hok]
       have e1 : (x.2.1 != (bs.length : Int) - 1) = true := by simp [ha]
       rw [e1, ZM]
   . have e0 : (Dm x.1 == 1) = false := by simp [k1']
     rw [e0, QX]; by_cases k2' : Dm x.1 = 2
     . have hop : 3 <= x.1 /\ x.1 <= 6 := by unfold Dm at k2'; grind
       simp only [k2', beq_self_eq_true, ZM]
       rw [QL (by rw [k2']; decide), QL (by rw [k2']; decide)] at hpl'
       by_cases hb : x.2.2.1 = (bs.length : Int) - 1
       . have e1 : (x.2.2.1 != (bs.length : Int) - 1) = false := by simp [hb]
         have hbb := h3 x.2.2.1.toNat (by omega)
         rw [e1, QX, A4 (by simp; omega), A4 (by simp; omega), Ac (x := bs.getD x.2.2.1.toNat 0 - 1) (by omega) (by omega)]
         by_cases ha : x.2.1 = bs.getD x.2.2.1.toNat 0 - 1
         . have hok : okP bs x bs.length := hp.2 ⟨hpl, fun h => by omega, fun _ => ⟨hb, ha⟩⟩
           have hd := h4 x.2.1.toNat (by omega)
           have hd' := h4 x.2.2.1.toNat (by omega)
           rw [QL hok]
           have e1 : (x.2.1 != bs.getD x.2.2.1.toNat 0 - 1) = false := by rw [<- ha]; simp
           rw [e1, QX, A4 (by simp; omega), A4 (by simp; omega), A4 (by simp; omega), A4 (by simp; omega), A4 (by simp; omega), A4 (by simp; omega), A4 (by simp; omega), A4 (by simp; omega), Ac (by omega) (by omega)]
           have e2 : nb bs x bs.length = bs.getD x.2.1.toNat 0 := by unfold nb; rw [QL (by omega)]
           have e3 : nd ds x = max (ds.getD x.2.1.toNat 0) (ds.getD x.2.2.1.toNat 0) + 1 := by unfold nd; rw [QL hop]; omega
           rw [e2, e3]; rfl
         . have hok : ¬ okP bs x bs.length := fun h => ha ((hp.1 h).2.2 k2').2; rw [QJ hok]
           have e1 : (x.2.1 != bs.getD x.2.2.1.toNat 0 - 1) = true := by simp only [bne_iff_ne, ne_eq]; exact ha
           rw [e1, ZM]
       . have hok : ¬ okP bs x bs.length := fun h => hb ((hp.1 h).2.2 k2').1; rw [QJ hok]
         have e1 : (x.2.2.1 != (bs.length : Int) - 1) = true := by simp [hb]
         rw [e1, ZM]
     . have e0 : (Dm x.1 == 2) = false := by simp [k2']
       rw [e0, QX]; have hok : okP bs x bs.length := hp.2 ⟨hpl, fun h => absurd h k1', fun h => absurd h k2'⟩
       have hop : x.1 = 1 \/ x.1 = 2 := by unfold Dm at k1' k2'; grind
       rw [QL hok, A4 (by simp; omega), A4 (by simp; omega)]
       have e2 : nb bs x bs.length = bs.length := by unfold nb; rw [QJ (by omega)]
       have e3 : nd ds x = 1 := by unfold nd; rw [QJ (by omega), QJ (by omega)]
       rw [e2, e3]; rfl
 . have hok : ¬ okP bs x bs.length := fun h => hpl (hp.1 h).1; rw [QJ hok]; simp only [hpl, decide_false, ZY, ZM]

theorem Ps : ∀ (r : List Nod) (bs ds bs' ds' : List Int), Ny bs ds -> bs.length + r.length <= 1048576 -> Dc bs ds r = some (bs', ds') -> Ny bs' ds' /\ bs'.length = bs.length + r.length /\ (∀ j, j < bs.length -> bs'.getD j 0 = bs.getD j 0) /\ (∀ j, j < ds.length -> ds'.getD j 0 = ds.getD j 0)
 | [], bs, ds, bs', ds', hi, _, h => by
  simp only [Dc, QD, QG] at h; obtain ⟨rfl, rfl⟩ := h
  exact ⟨hi, by simp, fun _ _ => rfl, fun _ _ => rfl⟩
 | x :: r, bs, ds, bs', ds', hi, hl, h => by
  simp only [Dc] at h; simp only [QU] at hl; split at h
  . rename_i hok
    obtain ⟨h1, h2, h3, h4⟩ := Ps r _ _ bs' ds' (hi.step hok (by omega)) (by simp; omega) h
    refine ⟨h1, by rw [h2]; simp; omega, fun j hj => ?_, fun j hj => ?_⟩
    . rw [h3 j (by simp; omega), Bw hj]
    . rw [h4 j (by simp; omega), Bw hj]
  . cases h

theorem A2h {α : Type} {n : Nat} {e : List Nod} (hN : e.length <= 1048576) {k0 : Bool -> Option α} {k1 : List Int -> List Int -> Option α} : ∀ (r : List Nod) (m : Nat) (bs ds : List Int), Ny bs ds -> e.drop bs.length = r -> bs.length + r.length = e.length -> r.length < m ->
  Wt n m e (e.length : Int) (bs.length : Int) bs ds k0 k1 = match Dc bs ds r with
   | some (bs', ds') => k1 bs' ds'
   | none => k0 false
 | [], m + 1, bs, ds, hi, hd, hl, hm => by
  rw [A8i]; unfold M6; simp only [ZG] at hl
  rw [QI, QJ (by omega)]
  rfl
 | x :: r, m + 1, bs, ds, hi, hd, hl, hm => by
  obtain ⟨hx, hlt, hd'⟩ := D2 (d := (0, 0, 0, 0)) hd; rw [A8i, Afp hi rfl hlt hN, hx]; simp only [Dc]; by_cases hok : okP bs x bs.length
  . rw [QL hok, QL hok]
    have ih := A2h hN r m (bs ++ [nb bs x bs.length]) (ds ++ [nd ds x]) (hi.step hok (by omega)) (by simpa using hd') (by simp; simp at hl; omega) (by simp at hm; omega) (n := n) (k0 := k0) (k1 := k1)
    simp only [ZW, QU, ZG, XR] at ih; exact ih
  . rw [QJ hok, QJ hok]

theorem Ajl : Ny [] [] := ⟨rfl, by simp, fun j hj => by simp at hj, fun j hj => by simp at hj⟩

theorem Azv {n : Nat} {e : List Nod} (hN : e.length <= 1048576) (hn : 1048577 <= n) : f212 n e = some (match Dc [] [] e with
  | some (bs, ds) => (bs, ds, true)
  | none => ([], [], false)) := by
 unfold f212
 have := A2h (n := n) hN (k0 := fun z => some ([], [], z)) (k1 := fun a b => some (a, b, true)) e n [] [] Ajl rfl (by simp) (by omega)
 simp only [ZG] at this; refine Eq.trans this ?_
 cases Dc [] [] e with
 | none => rfl
 | some p => rfl

theorem Abl {α : Type} {n : Nat} {l : List Int} (hN : l.length <= 1048576) {k0 : Int -> Option α} : ∀ (r : List Int) (m k : Nat) (a : Int), l.drop k = r -> k + r.length = l.length -> r.length < m -> Ws n m l a (k : Int) k0 = k0 (r.foldl max a)
 | [], m + 1, k, a, hd, hl, hm => by
  rw [A8g]; unfold Qu; simp only [ZG] at hl
  rw [QI, QJ (by omega)]
  rfl
 | x :: r, m + 1, k, a, hd, hl, hm => by
  obtain ⟨hx, hlt, hd'⟩ := D2 (d := 0) hd; rw [A8g]; unfold Qu
  rw [QI, QL (by omega), A4 (by simp; omega), Ac (by omega) (by omega)]
  simp only [QS, hx]; simp only [QU] at hl hm
  exact Abl hN r m (k + 1) (max a x) hd' (by omega) (by omega)

theorem Azt {n : Nat} {l : List Int} (hN : l.length <= 1048576) (hn : 1048577 <= n) (h0 : 0 < l.length) : ∃ r, f213 n l = some r /\ (r <= 12 ↔ ∀ x ∈ l, x <= 12) := by
 cases l with
 | nil => cases h0
 | cons x r =>
  refine ⟨r.foldl max x, ?_, ?_⟩
  . unfold f213
    rw [QI, QJ (by simp only [QU]; omega), A4 (by simp)]
    have := Abl (n := n) (k0 := fun z => some z) hN r n 1 x rfl (by simp only [QU]; omega) (by simp at hN; omega)
    exact this
  . rw [Abx]; simp

def D7 (e : List Nod) : Prop := (1 <= e.length /\ e.length <= 60) /\ ∃ bs ds, Dc [] [] e = some (bs, ds) /\ bs.getD (e.length - 1) 0 = 0 /\ ∀ x ∈ ds, x <= 12

open Classical in
theorem B14 {n : Nat} {e : List Nod} (hN : e.length <= 1048576) (hn : 1048577 <= n) : f168 n e = some (decide (D7 e)) := by
 unfold f168; rw [Wy, A2]; by_cases h1 : (1 : Int) <= (e.length : Int) /\ (e.length : Int) <= 60
 . simp only [h1, and_self, decide_true, ZT, QX]; rw [Azv hN hn, A2]
   cases hr : Dc [] [] e with
   | none =>
    have : ¬ D7 e := fun ⟨_, _, _, h, _⟩ => by rw [hr] at h; cases h
    simp [this]
   | some p =>
    obtain ⟨bs, ds⟩ := p
    obtain ⟨hi, hl, _, _⟩ := Ps e [] [] bs ds Ajl (by simpa using hN) hr
    simp only [ZG, XR] at hl; simp only [ZM]
    rw [Ac (x := (e.length : Int) - 1) (by omega) (by omega), A4 (by simp; omega)]
    have et : ((e.length : Int) - 1).toNat = e.length - 1 := by omega
    rw [et]; by_cases hb : bs.getD (e.length - 1) 0 = 0
    . obtain ⟨r, hr1, hr2⟩ := Azt (n := n) (l := ds) (by rw [hi.len]; omega) hn (by rw [hi.len]; omega)
      rw [hr1, A2]
      have e1 : (bs.getD (e.length - 1) 0 == 0) = true := by rw [hb]; rfl
      rw [e1, ZM]; congr 1; rw [decide_eq_decide, hr2]; constructor
      . intro h; exact ⟨by omega, bs, ds, hr, hb, h⟩
      . rintro ⟨_, bs', ds', h, _, h'⟩
        rw [hr] at h; simp only [QD, QG] at h; obtain ⟨rfl, rfl⟩ := h; exact h'
    . have e1 : (bs.getD (e.length - 1) 0 == 0) = false := by simp only [beq_eq_false_iff_ne, ne_eq]; exact hb
      have : ¬ D7 e := fun ⟨_, bs', ds', h, hb', _⟩ => by
       rw [hr] at h; simp only [QD, QG] at h; obtain ⟨rfl, rfl⟩ := h; exact hb hb'
      rw [e1, QX]; simp [this]
 . have : ¬ D7 e := fun ⟨h, _⟩ => h1 (by omega)
   simp only [h1, decide_false, ZY, ZM, this]

theorem Ajq {α : Type} {n : Nat} {e : List Nod} {bs : List Int} (hN : e.length <= 1048576)
  (hb : ∀ j, j < bs.length -> okP (bs.take j) (e.getD j (0, 0, 0, 0)) j /\ bs.getD j 0 = nb (bs.take j) (e.getD j (0, 0, 0, 0)) j) (hl : bs.length <= e.length) {k0 : Int -> Option α} :
  ∀ (j m : Nat), j < bs.length -> j < m -> X3 n m (j : Int) e (e.getD j (0, 0, 0, 0)).1 (e.getD j (0, 0, 0, 0)).2.1 (e.getD j (0, 0, 0, 0)).2.2.1 (e.getD j (0, 0, 0, 0)).2.2.2 k0 = k0 (bs.getD j 0) := by
 intro j
 induction j using Nat.strongRecOn with
 | ind j ih =>
  intro m hj hm
  obtain ⟨m, rfl⟩ : ∃ m', m = m' + 1 := ⟨m - 1, by omega⟩
  obtain ⟨hok, hv⟩ := hb j hj; rw [Arg]; unfold A1c; rw [hv]; generalize hx : e.getD j (0, 0, 0, 0) = x at hok hv ⊢; have hn := hok.1; unfold Hs at hn; simp only [A6f, A6d, A2, QI]; by_cases h1 : 3 <= x.1 /\ x.1 <= 8
  . have ha : 0 <= x.2.1 /\ x.2.1 <= (j : Int) - 1 := by
     split at hn
     . omega
     . split at hn
       . omega
       . omega
    have hlt : x.2.1.toNat < j := by omega
    have e1 : nb (bs.take j) x j = bs.getD x.2.1.toNat 0 := by
     unfold nb; rw [QL h1]; simp [QH, XA, hlt]
    have key := ih x.2.1.toNat hlt m (by omega) (by omega)
    have et : ((x.2.1.toNat : Nat) : Int) = x.2.1 := by omega
    rw [et] at key
    rw [e1, A4 (by simp; omega)]
    by_cases h2 : 3 <= x.1 /\ x.1 <= 6
    . rw [QL h2]; exact key
    . rw [QJ h2, QL (by omega)]; exact key
  . rw [QJ (by omega), QJ (by omega)]
    unfold nb; rw [QJ h1]

def Ran (e : List Nod) (bs : List Int) : Prop := ∀ j, j < bs.length -> okP (bs.take j) (e.getD j (0, 0, 0, 0)) j /\ bs.getD j 0 = nb (bs.take j) (e.getD j (0, 0, 0, 0)) j

theorem Ai8 {n : Nat} {e : List Nod} {bs : List Int} (hN : e.length <= 1048576) (hn : 1048577 <= n) (hb : Ran e bs) (hl : bs.length <= e.length) {j : Int} (hj : 0 <= j /\ j < (bs.length : Int)) : f176 n e j = some (bs.getD j.toNat 0) := by
 unfold f176
 rw [A4 (by simp; omega)]
 have := Ajq (n := n) hN hb hl (k0 := fun z => some z) j.toNat n (by omega) (by omega)
 rw [show ((j.toNat : Nat) : Int) = j by omega] at this
 exact this

theorem Ran.step {e : List Nod} {bs : List Int} (h : Ran e bs) {x : Nod} (hx : e.getD bs.length (0, 0, 0, 0) = x) (hok : okP bs x bs.length) : Ran e (bs ++ [nb bs x bs.length]) := by
 intro j hj; simp only [ZW, QU, ZG] at hj; rcases XL j bs.length with hlt | hge
 . rw [Bw hlt, List.take_append_of_le_length (by omega)]
   exact h j hlt
 . obtain rfl : j = bs.length := by omega
   rw [Cb, List.take_left', hx]
   . exact ⟨hok, rfl⟩
   . rfl

theorem A7b {α : Type} {n : Nat} {e : List Nod} (hN : e.length <= 1048576) (hn : 1048577 <= n) {k0 : Bool -> Option α} {k1 : List Nod -> Option α} : ∀ (r : List Nod) (m : Nat) (bs ds : List Int), Ny bs ds -> Ran e bs -> (∀ x ∈ ds, x <= 12) -> e.drop bs.length = r -> bs.length + r.length = e.length -> r.length < m ->
  X9 n m (bs.length : Int) e ds k0 k1 = match Dc bs ds r with
   | some (_, ds') => if ∀ x ∈ ds', x <= 12 then k1 e else k0 false
   | none => k0 false
 | [], m + 1, bs, ds, hi, hr, h12, hd, hl, hm => by
  rw [A96]; unfold Mi; simp only [ZG] at hl
  rw [QI, QJ (by omega)]
  simp only [Dc]; rw [QL h12]
 | x :: r, m + 1, bs, ds, hi, hr, h12, hd, hl, hm => by
  obtain ⟨hx, hlt, hd'⟩ := D2 (d := (0, 0, 0, 0)) hd; have hi0 := hi; obtain ⟨h1, h2, h3, h4⟩ := hi; simp only [QU] at hl hm
  have round : ∀ f : Int -> List Nod -> List Int -> Option α, Mi n (bs.length : Int) e ds f k0 k1 = if okP bs x bs.length /\ nd ds x <= 12 then f ((bs.length + 1 : Nat) : Int) e (ds ++ [nd ds x]) else k0 false := by
   intro f; unfold Mi
   rw [QI, QL (by omega), A4 (by simp; omega)]
   simp only [QS, hx, B10 (x := x) (i := (bs.length : Int)) (by omega), A6f, A6d, A2, Ac (x := (bs.length : Int) - 1) (by omega) (by omega), Ac (x := (bs.length : Int) + 1) (by omega) (by omega)]
   by_cases hno : Hs x bs.length
   . simp only [hno, decide_true, ZT, QX]; have hno' := hno; unfold Hs at hno'; by_cases h5 : 3 <= x.1 /\ x.1 <= 6
     . have h6 : ¬ (x.1 = 7 \/ x.1 = 8) := by omega
       rw [QL h5] at hno'; simp only [h5, h6, and_self, decide_true, ZM, decide_false, QX]; by_cases hb : x.2.2.1 = (bs.length : Int) - 1
       . have e1 : (x.2.2.1 != (bs.length : Int) - 1) = false := by simp [hb]
         rw [e1, QX, Ai8 hN hn hr (by omega) (by omega), A2, Ac (x := x.2.1 + 1) (by omega) (by omega)]
         by_cases ha : bs.getD x.2.2.1.toNat 0 = x.2.1 + 1
         . have hok : okP bs x bs.length := ⟨hno, fun _ => ⟨hb, ha⟩⟩
           have e1 : (bs.getD x.2.2.1.toNat 0 != x.2.1 + 1) = false := by rw [ha]; simp
           have da := h4 x.2.1.toNat (by omega)
           have db := h4 x.2.2.1.toNat (by omega)
           have e3 : nd ds x = 1 + max (ds.getD x.2.1.toNat 0) (ds.getD x.2.2.1.toNat 0) := by unfold nd; rw [QL h5]
           rw [e1, QX, A4 (by simp; omega), A4 (by simp; omega), A4 (by simp; omega), A4 (by simp; omega), Ac (by omega) (by omega), <- e3, QI]
           by_cases h12' : nd ds x <= 12
           . rw [QJ (by omega), A4 (by simp; omega), QL ⟨hok, h12'⟩]
             rfl
           . rw [QL (by omega), QJ (fun h => h12' h.2)]
         . have hok : ¬ okP bs x bs.length := fun h => ha (h.2 h5).2
           have e1 : (bs.getD x.2.2.1.toNat 0 != x.2.1 + 1) = true := by simp only [bne_iff_ne, ne_eq]; exact ha
           rw [e1, ZM, QJ (fun h => hok h.1)]
       . have hok : ¬ okP bs x bs.length := fun h => hb (h.2 h5).1
         have e1 : (x.2.2.1 != (bs.length : Int) - 1) = true := by simp [hb]
         rw [e1, ZM, QJ (fun h => hok h.1)]
     . rw [QJ h5] at hno'; have hok : okP bs x bs.length := ⟨hno, fun h => absurd h h5⟩; simp only [h5, decide_false, QX]; by_cases h6 : x.1 = 7 \/ x.1 = 8
       . rw [QL h6] at hno'
         have da := h4 x.2.1.toNat (by omega)
         have e3 : nd ds x = 1 + ds.getD x.2.1.toNat 0 := by unfold nd; rw [QJ h5, QL h6]
         simp only [h6, decide_true, ZM]
         rw [A4 (by simp; omega), A4 (by simp; omega), Ac (by omega) (by omega), <- e3, QI]
         by_cases h12' : nd ds x <= 12
         . rw [QJ (by omega), A4 (by simp; omega), QL ⟨hok, h12'⟩]
           rfl
         . rw [QL (by omega), QJ (fun h => h12' h.2)]
       . simp only [h6, decide_false, QX]
         have e3 : nd ds x = 1 := by unfold nd; rw [QJ h5, QJ h6]
         rw [QI, QJ (by omega), A4 (by simp; omega), QL ⟨hok, by omega⟩, e3]
         rfl
   . have hok : ¬ okP bs x bs.length := fun h => hno h.1; simp only [hno, decide_false, ZY, ZM]; rw [QJ (fun h => hok h.1)]
  rw [A96, round]; simp only [Dc]; by_cases hok : okP bs x bs.length
  . rw [QL hok]; by_cases h12' : nd ds x <= 12
    . rw [QL ⟨hok, h12'⟩]
      have ih := A7b hN hn r m (bs ++ [nb bs x bs.length]) (ds ++ [nd ds x]) (hi0.step hok (by omega)) (hr.step hx hok) (fun y hy => by
       rcases QF.1 hy with hy | hy
       . exact h12 y hy
       . simp only [QO] at hy; subst hy; exact h12') (by simpa using hd') (by simp; omega) (by omega) (k0 := k0) (k1 := k1)
      simp only [ZW, QU, ZG, XR] at ih; exact ih
    . rw [QJ (fun h => h12' h.2)]
      cases hrun : Dc (bs ++ [nb bs x bs.length]) (ds ++ [nd ds x]) r with
      | none => rfl
      | some p =>
       obtain ⟨bs', ds'⟩ := p
       obtain ⟨q1, q2, _, q4⟩ := Ps r _ _ bs' ds' (hi0.step hok (by omega)) (by simp; omega) hrun
       have hlt' : ds.length < ds'.length := by rw [q1.len, q2]; simp; omega
       have hv := q4 ds.length (by simp)
       rw [Cb] at hv
       have hm' : nd ds x ∈ ds' := by
        rw [<- hv]; simp only [QH, QN hlt', XO]; exact JA hlt'
       simp only; rw [QJ (fun h => h12' (h _ hm'))]
  . rw [QJ hok, QJ (fun h => hok h.1)]

theorem Ab4 {e : List Nod} : ∀ (r : List Nod) (bs ds bs' ds' : List Int), Ran e bs -> e.drop bs.length = r -> Dc bs ds r = some (bs', ds') -> Ran e bs'
 | [], bs, ds, bs', ds', hr, _, h => by
  simp only [Dc, QD, QG] at h; obtain ⟨rfl, _⟩ := h; exact hr
 | x :: r, bs, ds, bs', ds', hr, hd, h => by
  obtain ⟨hx, _, hd'⟩ := D2 (d := (0, 0, 0, 0)) hd; simp only [Dc] at h; split at h
  . rename_i hok
    exact Ab4 r _ _ bs' ds' (hr.step hx hok) (by simpa using hd') h
  . cases h

open Classical in
theorem B1p {n : Nat} {e : List Nod} (hN : e.length <= 1048576) (hn : 1048577 <= n) : f118 n e = some (decide (D7 e)) := by
 unfold f118; rw [Oz, A2]; by_cases h1 : (1 : Int) <= (e.length : Int) /\ (e.length : Int) <= 60
 . simp only [h1, and_self, decide_true, ZT, QX]
   have := A7b (n := n) hN hn (k0 := fun z => some z) (k1 := fun z => ob (f176 n z (W ((z.length : Int) - 1))) fun r => some (r == 0)) e n [] [] Ajl (fun j hj => by simp at hj) (by simp) rfl (by simp) (by omega)
   simp only [ZG] at this; refine Eq.trans this ?_
   cases hr : Dc [] [] e with
   | none =>
    have : ¬ D7 e := fun ⟨_, _, _, h, _⟩ => by rw [hr] at h; cases h
    simp [this]
   | some p =>
    obtain ⟨bs, ds⟩ := p
    obtain ⟨hi, hl, _, _⟩ := Ps e [] [] bs ds Ajl (by simpa using hN) hr
    simp only [ZG, XR] at hl
    have hran := Ab4 e [] [] bs ds (fun j hj => by simp at hj) rfl hr
    simp only; by_cases h12 : ∀ x ∈ ds, x <= 12
    . rw [QL h12, Ac (by omega) (by omega), Ai8 hN hn hran (by omega) (by omega), A2]
      have et : ((e.length : Int) - 1).toNat = e.length - 1 := by omega
      rw [et]; by_cases hb : bs.getD (e.length - 1) 0 = 0
      . have : D7 e := ⟨by omega, bs, ds, hr, hb, h12⟩
        rw [hb]; simp [this]
      . have : ¬ D7 e := fun ⟨_, bs', ds', h, hb', _⟩ => by
         rw [hr] at h; simp only [QD, QG] at h; obtain ⟨rfl, rfl⟩ := h; exact hb hb'
        have e1 : (bs.getD (e.length - 1) 0 == 0) = false := by simp only [beq_eq_false_iff_ne, ne_eq]; exact hb
        rw [e1]; simp [this]
    . have : ¬ D7 e := fun ⟨_, bs', ds', h, _, h'⟩ => by
       rw [hr] at h; simp only [QD, QG] at h; obtain ⟨rfl, rfl⟩ := h; exact h12 h'
      rw [QJ h12]; simp [this]
 . have : ¬ D7 e := fun ⟨h, _⟩ => h1 (by omega)
   simp only [h1, decide_false, ZY, ZM, this]

theorem A9e {α : Type} {n : Nat} {e : List Nod} (hN : e.length <= 1048576) {k0 : List Nod -> Option α} : ∀ (r : List Nod) (m : Nat) (out : List Nod), e.drop out.length = r -> out.length + r.length = e.length -> r.length < m ->
  (∀ j, j < out.length -> out.getD j (0, 0, 0, 0) = e.getD j (0, 0, 0, 0)) -> U9 n m e (out.length : Int) (out ++ List.replicate r.length (0, 0, 0, 0)) k0 = k0 e
 | [], m + 1, out, hd, hl, hm, ho => by
  rw [Acd]; unfold Wg; simp only [ZG] at hl
  rw [QI, QJ (by omega)]
  congr 1; simp only [ZG, List.replicate_zero, XB]
  apply List.ext_getElem (by omega)
  intro j h1 h2; have := ho j h1; simpa [QH, h1, h2] using this
 | x :: r, m + 1, out, hd, hl, hm, ho => by
  obtain ⟨hx, hlt, hd'⟩ := D2 (d := (0, 0, 0, 0)) hd; rw [Acd]; unfold Wg; simp only [QU] at hl hm
  rw [QI, QL (by omega), A4 (by simp; omega), Ac (by omega) (by omega)]
  simp only [QS, hx]; unfold f138
  rw [A2, A4 (by simp; omega), A4 (by simp)]
  have es : (out ++ List.replicate (x :: r).length (0, 0, 0, 0)).set out.length x = (out ++ [x]) ++ List.replicate r.length (0, 0, 0, 0) := by
   rw [YW _ _ (ZA _)]; simp [Qau]
  rw [es]
  have ih := A9e hN r m (out ++ [x]) (by simpa using hd') (by simp; omega) (by omega) (fun j hj => by
   simp only [ZW, QU, ZG] at hj; rcases XL j out.length with h | h
   . rw [Bw h]; exact ho j h
   . obtain rfl : j = out.length := by omega
     rw [Cb, hx]) (n := n) (k0 := k0)
  simp only [ZW, QU, ZG, XR] at ih; exact ih

theorem B45 {n : Nat} {e : List Nod} (hN : e.length <= 1048576) (hn : 1048577 <= n) : f31 n e = some e := by
 unfold f31 f82
 rw [A4 (by simp; omega)]
 have := A9e (n := n) hN (k0 := fun z => some z) e n [] rfl (by simp) (by omega) (fun j hj => by simp at hj)
 simp only [ZG, KJ] at this; rw [QS]; have this : U9 n n e 0 (List.replicate e.length (0, 0, 0, 0)) (fun z => some z) = some e := this; rw [this]; rfl

theorem Art {n : Nat} {x : Nod} : f140 n x x = some true := by unfold f140; simp

theorem A7e {α : Type} {n : Nat} {e : List Nod} (hN : e.length <= 1048576) {k0 : Bool -> Option α} {k1 : Unit -> Option α} : ∀ (m k : Nat), k <= e.length -> e.length - k < m -> U8 n m e e (k : Int) k0 k1 = k1 ()
 | m + 1, k, hk, hm => by
  rw [Av2]; unfold A5e; by_cases h : k < e.length
  . rw [QI, QL (by omega), A4 (by simp; omega), Ac (by omega) (by omega)]
    simp only [Art, A2, ZT, QX]
    rw [A4 (by simp; omega)]
    exact A7e hN m (k + 1) (by omega) (by omega)
  . rw [QI, QJ (by omega)]

theorem B42 {n : Nat} {e : List Nod} (hN : e.length <= 1048576) (hn : 1048577 <= n) : f34 n e e = some true := by
 unfold f34 f85; simp only [YS, QX]
 have := A7e (n := n) hN (k0 := fun z => some z) (k1 := fun _ => some true) n 0 (by omega) (by omega)
 have this : U8 n n e e 0 (fun z => some z) (fun _ => some true) = some true := this; rw [this]; rfl

theorem B4a {n : Nat} {e : List Nod} (hlen : e.length <= 9223372036854775807) : f29 n e 1048576 = some (if e.length <= 1048576 then 1048576 - (e.length : Int) else -1) := by
 unfold f29 f80
 rw [Ac (by omega) (by omega)]
 by_cases h : e.length <= 1048576
 . rw [QI, QJ (by omega), A2, QI, QJ (by omega), QL h]
 . rw [QI, QL (by omega), A2, QJ h]
   rfl

theorem Ay7 {x : Rt} (h : Ha x = true) : ∃ (s : Bool) (N D : Nat), x = (s, dg N, dg D) /\ (dg N).length <= 40 /\ (dg D).length <= 40 /\ 0 < D /\ (s = true -> 0 < N) := by
 obtain ⟨s, a, b⟩ := x; unfold Ha at h; simp only [QE, ZL, QQ] at h; obtain ⟨⟨⟨⟨ha, hb⟩, hb0⟩, hs⟩, _⟩ := h; obtain ⟨ca, la⟩ := O5 ha; obtain ⟨cb, lb⟩ := O5 hb
 have hb0 : b ≠ [] := by rintro rfl; cases hb0
 refine ⟨s, (vl a).toNat, (vl b).toNat, by rw [Gt ca, Gt cb], by rw [Gt ca]; exact la, by rw [Gt cb]; exact lb, ?_, fun e => ?_⟩
 . have := cb.pos hb0; omega
 . have ha0 : a ≠ [] := by rintro rfl; rw [e] at hs; cases hs
   have := ca.pos ha0; omega

theorem A42 {m : Nat} : (((dg m).length : Int) == 0) = decide (m = 0) := by
 rw [Ajk]; by_cases h : m = 0
 . subst h; rw [C6]; rfl
 . rw [ZC h, Ee h]; rfl

theorem Aen {m : Nat} : decide (((dg m).length : Int) > 0) = decide (m ≠ 0) := by
 by_cases h : m = 0
 . subst h; rw [C6]; rfl
 . rw [Ee h]; simp [h]

def H8 (s : Int) (l : List Nod) : Int := l.foldl (fun s x => if x.1 = 2 then max s (W (x.2.2.2 + 1)) else s) s

abbrev nd0 : Nod := (0, 0, 0, 0)

theorem Aem {l : List Nod} {i : Nat} (h : i < l.length) (s : Int) : H8 s (l.drop i) = H8 (if (l.getD i nd0).1 = 2 then max s (W ((l.getD i nd0).2.2.2 + 1)) else s) (l.drop (i + 1)) := by
 rw [XS h, QH, QN h]; rfl

theorem V4 {α : Type} {n : Nat} {l : List Nod} (hl : l.length <= 1048576) {k0 : Int -> Option α} : ∀ (m i : Nat) (s : Int), i <= l.length -> l.length < i + m -> X8 n m s (i : Int) l k0 = k0 (H8 s (l.drop i))
 | 0, i, s, hi, hm => by omega
 | m + 1, i, s, hi, hm => by
  rw [As2]; unfold A1m; dsimp only; rw [QI]; by_cases h : i < l.length
  . rw [QL (by omega), A4 (by simp; try omega), A4 (by simp; try omega), Aem h]
    simp only [QS]
    rw [XH, Ac (x := (i : Int) + 1) (by omega) (by omega)]
    by_cases hv : (l.getD i nd0).1 = 2
    . rw [QL (by rw [KV]; exact hv), QL hv]
      exact V4 hl m (i + 1) _ (by omega) (by omega)
    . rw [QJ (by rw [KV]; exact hv), QJ hv]
      exact V4 hl m (i + 1) _ (by omega) (by omega)
  . rw [QJ (by omega), ZE (by omega)]
    rfl

theorem V5 {α : Type} {n : Nat} {l : List Nod} (hl : l.length <= 1048576) {k0 : Int -> Option α} : ∀ (m i : Nat) (s : Int), i <= l.length -> l.length < i + m -> Xa n m s l (l.length : Int) (i : Int) k0 = k0 (H8 s (l.drop i))
 | 0, i, s, hi, hm => by omega
 | m + 1, i, s, hi, hm => by
  rw [Ase]; unfold A1u; dsimp only; rw [QI]; by_cases h : i < l.length
  . rw [QL (by omega), A4 (by simp; try omega), Aem h]
    simp only [QS]
    rw [XH, Ac (x := (i : Int) + 1) (by omega) (by omega)]
    by_cases hv : (l.getD i nd0).1 = 2
    . rw [QL (by rw [KV]; exact hv), QL hv]
      exact V5 hl m (i + 1) _ (by omega) (by omega)
    . rw [QJ (by rw [KV]; exact hv), QJ hv]
      exact V5 hl m (i + 1) _ (by omega) (by omega)
  . rw [QJ (by omega), ZE (by omega)]
    rfl

theorem B1l {n : Nat} {l : List Nod} (hl : l.length <= 1048576) (hn : 1048577 <= n) : f120 n l = some (H8 0 l) := by
 unfold f120
 have := V4 (n := n) hl (k0 := fun z_3 => some z_3) n 0 0 (by omega) (by omega)
 simpa using this

theorem B1u {n : Nat} {l : List Nod} (hl : l.length <= 1048576) (hn : 1048577 <= n) : f116 n l = some (H8 0 l) := by
 unfold f116
 have := V5 (n := n) hl (k0 := fun z_2 => some z_2) n 0 0 (by omega) (by omega)
 simpa using this

theorem Azc {n : Nat} {e : List Nod} (hl : e.length <= 9223372036854775807) : ∃ r, f29 n e 1048576 = some r /\ (r = -1 \/ ((0 <= r /\ r <= 1048576) /\ e.length <= 1048576)) := by
 refine ⟨_, B4a hl, ?_⟩; by_cases h : e.length <= 1048576
 . rw [QL h]; exact .inr ⟨by omega, h⟩
 . rw [QJ h]; exact .inl rfl

theorem Ate {α : Type} {n : Nat} {a b : List Int} (ha : Cn a) (hb : Cn b) (hN : a.length <= 1099511627776) (hNb : b.length <= 1099511627776) {k0 : List Int -> Option α} : ∀ (m i : Nat) (c : Int) (o : List Int), o.length = i -> Lm o -> 0 <= c -> c <= 1 ->
  vl o + 10000 ^ i * c = vl (a.take i) + vl (b.take i) -> (i <= max a.length b.length \/ (i = max a.length b.length + 1 /\ c = 0 /\ o.getD (i - 1) 0 ≠ 0)) -> max a.length b.length + 2 <= i + m ->
  L9 n m a b c (i : Int) o k0 = k0 (dg (vl a + vl b).toNat)
 | 0, i, c, o, ho, hlo, hc0, hc1, hv, hq, hm => by omega
 | m + 1, i, c, o, ho, hlo, hc0, hc1, hv, hq, hm => by
  rw [Aqa]; unfold A09; dsimp only
  have fin : a.length <= i -> b.length <= i -> c = 0 -> o = dg (vl a + vl b).toNat := fun h1 h2 h3 => by
   rw [Ih a h1, Ih b h2, h3] at hv
   have hv' : vl o = vl a + vl b := by simpa using hv
   have : Cn o := Cn.of_ge hlo fun hn => by
    have hl : 0 < o.length := ZZ.2 hn; rcases hq with hq | ⟨hq1, _, hq3⟩
    . have hmx : i = max a.length b.length := by omega
      rw [ho, hv']; rcases Nat.le_total a.length b.length with hab | hab
      . have h4 := hb.ge (ZZ.1 (by omega))
        have h5 := Ay ha.1
        rw [show i - 1 = b.length - 1 by omega]; omega
      . have h4 := ha.ge (ZZ.1 (by omega))
        have h5 := Ay hb.1
        rw [show i - 1 = a.length - 1 by omega]; omega
    . have h1 := Az o (o.length - 1)
      rw [show o.length - 1 + 1 = o.length by omega, YF] at h1
      have h2 := Ay (hlo.take (o.length - 1)); have h3 := hlo.get (o.length - 1); rw [<- ho] at hq3; have h4 := Ew (o.length - 1)
      have h5 : (10000 : Int) ^ (o.length - 1) * 1 <= 10000 ^ (o.length - 1) * o.getD (o.length - 1) 0 := XJ (by omega) (by omega)
      omega
   rw [<- hv', Gt this]
  have go : ∀ (y : Int), y = c + a.getD i 0 + b.getD i 0 -> (i < max a.length b.length \/ (i = max a.length b.length /\ 0 < c)) -> L9 n m a b (W (Int.tdiv y 10000)) (W ((i : Int) + 1)) (o ++ [Int.tmod y 10000]) k0 = k0 (dg (vl a + vl b).toNat) := by
   intro y hy hi; have h1 := ha.1.get i; have h2 := hb.1.get i
   rw [tdv (by omega), tmd (by omega), Ac (by omega) (by omega), Ac (by omega) (by omega)]
   have ta := Az a i; have tb := Az b i
   have hyy : y = 10000 * (y / 10000) + y % 10000 := by omega
   refine Ate (n := n) ha hb hN hNb m (i + 1) _ _ (by simp [ho]) (hlo.app (Lm.cons (by omega) Lm.nil)) (by omega) (by omega) ?_ ?_ (by omega)
   . rw [O0, ho, ta, tb, Bj]; generalize y / 10000 = q at *; generalize y % 10000 = r at *; generalize (10000 : Int) ^ i = P at *; grind
   . rcases hi with hi | ⟨hi, hc⟩
     . exact .inl (by omega)
     . right
       have e1 : a.getD i 0 = 0 := B6 (by omega)
       have e2 : b.getD i 0 = 0 := B6 (by omega)
       have e3 : y = 1 := by omega
       subst e3
       refine ⟨by omega, by rfl, ?_⟩
       rw [JZ, <- ho, QH]; simp
  have hcases : (i < a.length \/ i < b.length \/ 0 < c) -> (i < max a.length b.length \/ (i = max a.length b.length /\ 0 < c)) := fun h => by
   rcases h with h | h | h
   . exact .inl (by omega)
   . exact .inl (by omega)
   . rcases hq with hq | ⟨_, h0, _⟩
     . omega
     . omega
  have ho2 : (decide ((o.length + 1) * 8 <= 140737488355328)) = true := by
   rw [QQ]; rcases hq with hq | ⟨hq, _⟩ <;> omega
  have h1 := ha.1.get i; have h2 := hb.1.get i; by_cases hA : i < a.length
  . have dA : decide ((i : Int) < (a.length : Int)) = true := by rw [QQ]; omega
    have dM : decide ((i : Int) < max (a.length : Int) (b.length : Int)) = true := by rw [QQ]; omega
    simp only [dM, dA, ZM, QS]
    rw [A4 (by simp; try omega), Ac (x := c + a.getD i 0) (by omega) (by omega)]
    by_cases hB : i < b.length
    . have dB : decide ((i : Int) < (b.length : Int)) = true := by rw [QQ]; omega
      simp only [dB, ZM]
      rw [A4 (by simp; try omega), A4 ho2, Ac (x := c + a.getD i 0 + b.getD i 0) (by omega) (by omega)]
      exact go _ rfl (hcases (.inl hA))
    . have dB : decide ((i : Int) < (b.length : Int)) = false := by rw [ZS]; omega
      simp only [dB, QX]; rw [A4 ho2]
      exact go _ (by rw [B6 (l := b) (by omega)]; omega) (hcases (.inl hA))
  . have dA : decide ((i : Int) < (a.length : Int)) = false := by rw [ZS]; omega
    by_cases hB : i < b.length
    . have dB : decide ((i : Int) < (b.length : Int)) = true := by rw [QQ]; omega
      have dM : decide ((i : Int) < max (a.length : Int) (b.length : Int)) = true := by rw [QQ]; omega
      simp only [dM, dA, dB, ZM, QX, QS]
      rw [A4 (by simp; try omega), A4 ho2, Ac (x := c + b.getD i 0) (by omega) (by omega)]
      exact go _ (by rw [B6 (l := a) (by omega)]; omega) (hcases (.inr (.inl hB)))
    . have dB : decide ((i : Int) < (b.length : Int)) = false := by rw [ZS]; omega
      have dM : decide ((i : Int) < max (a.length : Int) (b.length : Int)) = false := by rw [ZS]; omega
      simp only [dM, dA, dB, QX]; rw [QI]; by_cases hc : 0 < c
      . rw [QL (by omega), A4 ho2]
        exact go _ (by rw [B6 (l := a) (by omega), B6 (l := b) (by omega)]; omega) (hcases (.inr (.inr hc)))
      . rw [QJ (by omega), fin (by omega) (by omega) (by omega)]

theorem B7h {n a b : Nat} (h : (dg a).length <= 1099511627776) (h' : (dg b).length <= 1099511627776) (hn : max (dg a).length (dg b).length + 2 <= n) : f202 n (dg a) (dg b) = some (dg (a + b)) := by
 unfold f202
 have := Ate (n := n) (G4 a) (G4 b) h h' (k0 := fun z_6 => some z_6) n 0 0 [] rfl Lm.nil (by omega) (by omega) (by simp [vl]) (.inl (by omega)) (by omega)
 have this : L9 n n (dg a) (dg b) 0 0 [] _ = _ := this; rw [this, Bb, Bb]; congr 1

theorem Anq {o P c wi bi v' T y d r : Int} (h : o - P * (c + (bi + 10000 * v')) = T) (hy : y = wi - c - bi) (hd : y = r - 10000 * d) : o + P * (r - wi) - 10000 * P * (d + v') = T := by
 grind

theorem Amp {α : Type} {n : Nat} {b : List Int} (hb : Lm b) {N : Nat} (hN : N <= 1099511627776) {T : Int} {k0 : List Int -> Option α} : ∀ (m i : Nat) (c : Int) (o : List Int), o.length = N -> Lm o -> 0 <= c -> c <= 1 -> i <= N ->
  vl o - 10000 ^ i * (c + vl (b.drop i)) = T -> N + 1 <= i + m ->
  ∃ o' c', Hg n m b c (N : Int) (i : Int) o k0 = k0 o' /\ o'.length = N /\ Lm o' /\ 0 <= c' /\ c' <= 1 /\ vl o' - 10000 ^ N * (c' + vl (b.drop N)) = T
 | 0, i, c, o, ho, hlo, hc0, hc1, hi, hv, hm => by omega
 | m + 1, i, c, o, ho, hlo, hc0, hc1, hi, hv, hm => by
  rw [Aq3]; unfold A05; dsimp only; by_cases hA : i < N
  . rw [QI, QL (by omega), A4 (by simp; try omega), A4 (by simp; try omega)]
    have h1 := hlo.get i; have h2 := hb.get i; simp only [QS]
    have go : ∀ (d r : Int), d = (if o.getD i 0 - c - b.getD i 0 < 0 then 1 else 0) -> r = o.getD i 0 - c - b.getD i 0 + 10000 * d -> ∃ o' c', Hg n m b d (N : Int) (W ((i : Int) + 1)) (o.set i r) k0 = k0 o' /\ o'.length = N /\ Lm o' /\ 0 <= c' /\ c' <= 1 /\ vl o' - 10000 ^ N * (c' + vl (b.drop N)) = T := by
     intro d r hd hr
     have hd1 : 0 <= d /\ d <= 1 /\ 0 <= r /\ r < 10000 := by
      rw [hr, hd]; split <;> omega
     rw [Ac (x := (i : Int) + 1) (by omega) (by omega)]
     refine Amp (n := n) hb hN m (i + 1) d _ (by simpa using ho) (hlo.set _ (by omega)) (by omega) (by omega) (by omega) ?_ (by omega)
     rw [Jq _ (by omega), Bj]
     refine Anq (bi := b.getD i 0) (y := o.getD i 0 - c - b.getD i 0) ?_ rfl (by omega)
     rw [<- Yk]; exact hv
    have go2 : ∀ y : Int, y = o.getD i 0 - c - b.getD i 0 -> ∃ o' c', (bif (decide (y < 0)) then
          gd (decide (0 <= (i : Int)) && decide ((i : Int) < (o.length : Int))) (
           gd (decide (i < o.length)) (
            Hg n m b 1 (N : Int) (W ((i : Int) + 1)) (o.set i (W (y + 10000))) k0))
      else
       gd (decide (0 <= (i : Int)) && decide ((i : Int) < (o.length : Int))) (
        gd (decide (i < o.length)) (
         Hg n m b 0 (N : Int) (W ((i : Int) + 1)) (o.set i y) k0))) = k0 o' /\ o'.length = N /\ Lm o' /\ 0 <= c' /\ c' <= 1 /\ vl o' - 10000 ^ N * (c' + vl (b.drop N)) = T := by
     intro y hy; rw [QI]; by_cases hneg : y < 0
     . rw [QL hneg, A4 (by simp; try omega), A4 (by simp; try omega), Ac (x := y + 10000) (by omega) (by omega)]
       exact go 1 _ (by rw [QL (by omega)]) (by omega)
     . rw [QJ hneg, A4 (by simp; try omega), A4 (by simp; try omega)]
       exact go 0 _ (by rw [QJ (by omega)]) (by omega)
    by_cases hB : i < b.length
    . have dB : decide ((i : Int) < (b.length : Int)) = true := by rw [QQ]; omega
      simp only [dB, ZM]
      rw [A4 (by simp; try omega)]
      simp only [Ac (x := o.getD i 0 - c) (by omega) (by omega), Ac (x := o.getD i 0 - c - b.getD i 0) (by omega) (by omega)]
      exact go2 _ rfl
    . have dB : decide ((i : Int) < (b.length : Int)) = false := by rw [ZS]; omega
      simp only [dB, QX]
      simp only [Ac (x := o.getD i 0 - c) (by omega) (by omega)]
      exact go2 _ (by rw [B6 (l := b) (by omega)]; omega)
  . rw [QI, QJ (by omega)]
    obtain rfl : i = N := by omega
    exact ⟨o, c, rfl, ho, hlo, hc0, hc1, hv⟩

theorem Ax7 {n a b : Nat} (h : (dg a).length <= 1099511627000) (hn : (dg a).length + 1 <= n) (hab : b <= a) (ha : 0 < a) : f204 n (dg a) (dg b) = some (dg (a - b)) := by
 have hlab := B5 hab; unfold f204
 rw [Rp n (by omega) (fun e => by have := Asu.1 e; omega), A2]
 obtain ⟨o, c, h1, h2, h3, h4, h5, h6⟩ := Amp (n := n) (D8 b) (N := (dg a).length) (by omega) (T := (a : Int) - b) (k0 := fun z_4 => (
   ob (f225 n z_4) fun r_5 =>
   some r_5)) n 0 0 (dg a) rfl (D8 a) (by omega) (by omega) (by omega) (by rw [XE, Bb, Bb, Int.pow_zero, Int.one_mul, Int.zero_add]) (by omega)
 have h1 : Hg n n (dg b) 0 ((dg a).length : Int) 0 (dg a) _ = _ := h1
 rw [ZE (by omega)] at h6
 have h7 := Gq h3; rw [h2] at h7; have h8 := Ay h3
 have : c = 0 := by
  rcases Int.lt_or_eq_of_le h4 with h | h
  . have : c = 1 := by omega
    rw [this] at h6; simp only [vl, Qar, Int.mul_one] at h6; generalize (10000 : Int) ^ (dg a).length = P at *; omega
  . exact h.symm
 rw [this] at h6; simp only [vl, Qar, Qaa, Int.sub_zero] at h6
 rw [h1, Oi h3 (by omega) (by omega), A2, h6, show ((a : Int) - (b : Int)).toNat = a - b by omega]

def rq (x : Rat) : Rt := (decide (x.num < 0), dg x.num.natAbs, dg x.den)

def mq (s : Bool) (a d : Nat) : Rat := mkRat (if s = true then -(a : Int) else a) d

def Sz (x : Rat) (L : Nat) : Prop := (dg x.num.natAbs).length <= L /\ (dg x.den).length <= L

theorem Tq (s : Bool) (a : Nat) : (if s = true then -(a : Int) else a).natAbs = a := by cases s <;> simp

theorem Ang {s : Bool} {a d : Nat} (hd : 0 < d) : (mq s a d).num = if s = true then -((a / Nat.gcd a d : Nat) : Int) else ((a / Nat.gcd a d : Nat) : Int) := by
 unfold mq
 rw [Rat.num_mkRat, QJ (by omega), Tq, Nat.gcd_comm d a]
 cases s with
 | false => simp
 | true =>
  simp only [if_true]
  rw [Int.neg_ediv_of_dvd (by exact_mod_cast Nat.gcd_dvd_left a d)]
  simp

theorem Anh {s : Bool} {a d : Nat} (hd : 0 < d) : (mq s a d).den = d / Nat.gcd a d := by
 unfold mq
 rw [Rat.den_mkRat, QJ (by omega), Tq, Nat.gcd_comm d a]

theorem Aj5 {s : Bool} {a d : Nat} (hd : 0 < d) : rq (mq s a d) = (s && decide (a / Nat.gcd a d ≠ 0), dg (a / Nat.gcd a d), dg (d / Nat.gcd a d)) := by
 unfold rq; rw [Ang hd, Anh hd]; generalize a / Nat.gcd a d = q
 cases s with
 | false => simp
 | true =>
  simp only [if_true, XX, Qaw, KG]; congr 1; apply decide_eq_decide.2; omega

theorem Xm {s : Bool} {a d L : Nat} (hd : 0 < d) (h1 : (dg a).length <= L) (h2 : (dg d).length <= L) : Sz (mq s a d) L := by
 unfold Sz; rw [Ang hd, Anh hd, Tq]; exact ⟨ZK (B5 (Qas _ _)) h1, ZK (B5 (Qas _ _)) h2⟩

theorem Tg {n L x d : Nat} {s : Bool} (hd : 0 < d) (hx : (dg x).length <= L) (hdl : (dg d).length <= L) (hL : L <= 1099511627000) (hn : 28 * L + 10040 <= n) : f186 n s (dg x) (dg d) = some (rq (mq s x d)) := by
 have hg : 0 < Nat.gcd x d := Nat.gcd_pos_of_pos_right x hd; have hgl : (dg (Nat.gcd x d)).length <= L := ZK (B5 (Nat.gcd_le_right x hd)) hdl; rw [Aj5 hd]; unfold f186
 rw [Aww hL hn hx hdl, A2, Aj4 hg hx hgl hL (by omega), A2, Aj4 hg hdl hgl hL (by omega), A2]
 dsimp only; rw [Aen]
 cases s <;> rfl

theorem U1 {n L x d : Nat} {s : Bool} (hd : 0 < d) (hx : (dg x).length <= L) (hdl : (dg d).length <= L) (hL : L <= 1099511627000) (hn : 28 * L + 10040 <= n) : f201 n s (dg x) (dg d) = some (rq (mq s x d)) := by
 have hg : 0 < Nat.gcd x d := Nat.gcd_pos_of_pos_right x hd; have hgl : (dg (Nat.gcd x d)).length <= L := ZK (B5 (Nat.gcd_le_right x hd)) hdl; have hq1 : (dg (x / Nat.gcd x d)).length <= L := ZK (B5 (Qas _ _)) hx; have hq2 : (dg (d / Nat.gcd x d)).length <= L := ZK (B5 (Qas _ _)) hdl; rw [Aj5 hd]; unfold f201; dsimp only
 rw [Ax8 hL hn hx hdl, A2, show f180 n = some [1] from rfl, A2, <- I5, Aa8 (by omega), A2]
 have fin : ∀ y z : List Int, y = dg (x / Nat.gcd x d) -> z = dg (d / Nat.gcd x d) -> (bif s then
   ob (f117 n y) fun r_8 =>
   ob (f117 n z) fun r_9 =>
   some ((decide ((y.length : Int) > 0)), r_8, r_9)
  else
   ob (f117 n y) fun r_10 =>
   ob (f117 n z) fun r_11 =>
   some (false, r_10, r_11)) = some (s && decide (x / Nat.gcd x d ≠ 0), dg (x / Nat.gcd x d), dg (d / Nat.gcd x d)) := by
  rintro y z rfl rfl
  rw [J3 n (by omega), A2, J3 n (by omega), A2, Aen]
  cases s <;> rfl
 by_cases h1 : Nat.gcd x d = 1
 . have e : (cm ((Nat.gcd x d : Nat) : Int) ((1 : Nat) : Int) != 0) = false := by rw [h1, Jm rfl]; rfl
   rw [e, QX]
   exact fin _ _ (by rw [h1, Nat.div_one]) (by rw [h1, Nat.div_one])
 . have e : (cm ((Nat.gcd x d : Nat) : Int) ((1 : Nat) : Int) != 0) = true := by
    rw [bne, Aeu, ZC h1]; rfl
   rw [e, ZM, Ajn hg hx hgl hL (by omega), A2, Ajn hg hdl hgl hL (by omega), A2]
   exact fin _ _ rfl rfl

theorem Ju (x : Rat) : x.num = if decide (x.num < 0) = true then -(x.num.natAbs : Int) else x.num.natAbs := by
 by_cases h : x.num < 0
 . rw [ZN h, QL rfl]; omega
 . rw [ZC h, QJ (by decide)]; omega

theorem A2c {x y : Rat} (h : decide (x.num < 0) = decide (y.num < 0)) : x + y = mq (decide (x.num < 0)) (x.num.natAbs * y.den + y.num.natAbs * x.den) (x.den * y.den) := by
 rw [Rat.add_def']; unfold mq; congr 1; have hx := Ju x; have hy := Ju y; rw [<- h] at hy; generalize decide (x.num < 0) = s at *; generalize x.num.natAbs = p at *; generalize y.num.natAbs = q at *; rw [hx, hy]
 cases s with
 | true => simp only [if_true, JG, YC]; grind
 | false => simp

theorem Pi {x y : Rat} (h : decide (x.num < 0) ≠ decide (y.num < 0)) (hle : y.num.natAbs * x.den <= x.num.natAbs * y.den) : x + y = mq (decide (x.num < 0)) (x.num.natAbs * y.den - y.num.natAbs * x.den) (x.den * y.den) := by
 rw [Rat.add_def']; unfold mq; congr 1; have hx := Ju x; have hy := Ju y
 have h' : decide (y.num < 0) = !decide (x.num < 0) := by
  generalize decide (x.num < 0) = s at h; generalize decide (y.num < 0) = t at h
  cases s <;> cases t <;> first | rfl | exact absurd rfl h
 rw [h'] at hy; generalize decide (x.num < 0) = s at *; generalize x.num.natAbs = p at *; generalize y.num.natAbs = q at *; rw [hx, hy, Int.natCast_sub hle]
 cases s with
 | true => simp only [if_true, YC, ZT]; simp; grind
 | false => simp only [YC, ZY, if_true]; simp; grind

theorem Amv {n L : Nat} {x y : Rat} (hx : Sz x L) (hy : Sz y L) (hL : 2 * L + 1 <= 1099511627000) (hn : 28 * (2 * L + 1) + 10040 <= n) : f148 n (rq x) (rq y) = some (rq (x + y)) := by
 obtain ⟨x1, x2⟩ := hx; obtain ⟨y1, y2⟩ := hy; have l1 := B7 x.num.natAbs y.den; have l2 := B7 y.num.natAbs x.den; have l3 := B7 x.den y.den; have l4 := A4z (x.num.natAbs * y.den) (y.num.natAbs * x.den); have hd : 0 < x.den * y.den := KX (XP x.den_nz) (XP y.den_nz); unfold f148 rq; dsimp only
 rw [Kk (by omega) (by omega), A2, Kk (by omega) (by omega), A2, Kk (by omega) (by omega), A2, XH]
 by_cases hs : decide (x.num < 0) = decide (y.num < 0)
 . rw [QL (by rw [hs]; simp), B78 (by omega) (by omega) (by omega), A2, Tg hd (L := 2 * L + 1) (by omega) (by omega) hL hn, A2, A2c hs]; rfl
 . rw [QJ (by simpa using hs), Aa4 (by omega) (by omega), A2, QI]
   by_cases hle : y.num.natAbs * x.den <= x.num.natAbs * y.den
   . have l5 := B5 (Qat (x.num.natAbs * y.den) (y.num.natAbs * x.den))
     rw [QL (by
      rcases JF hle with h | h
      . rw [I8 (by omega)]; omega
      . rw [Jm (by omega)]; omega), Aj3 (by omega) (by omega) hle, A2, Tg hd (L := 2 * L + 1) (by omega) (by omega) hL hn, A2, Pi hs hle]; rfl
   . have l5 := B5 (Qat (y.num.natAbs * x.den) (x.num.natAbs * y.den))
     rw [QJ (by rw [I7 (by omega)]; omega), Aj3 (by omega) (by omega) (by omega), A2, Tg hd (L := 2 * L + 1) (by omega) (by omega) hL hn, A2, Rat.add_comm, Pi (fun e => hs e.symm) (by omega), KN y.den x.den]; rfl

theorem B30 {n L : Nat} {x y : Rat} (hx : Sz x L) (hy : Sz y L) (hL : 2 * L + 1 <= 1099511627000) (hn : 28 * (2 * L + 1) + 10040 <= n) : f161 n (rq x) (rq y) = some (rq (x + y)) := by
 obtain ⟨x1, x2⟩ := hx; obtain ⟨y1, y2⟩ := hy; have l1 := B7 x.num.natAbs y.den; have l2 := B7 y.num.natAbs x.den; have l3 := B7 x.den y.den; have l4 := A4z (x.num.natAbs * y.den) (y.num.natAbs * x.den); have hd : 0 < x.den * y.den := KX (XP x.den_nz) (XP y.den_nz); unfold f161 rq; dsimp only
 rw [Kq (by omega) (by omega), A2, Kq (by omega) (by omega), A2, Kq (by omega) (by omega), A2, XH]
 by_cases hs : decide (x.num < 0) = decide (y.num < 0)
 . rw [QL (by rw [hs]; simp), B7h (by omega) (by omega) (by omega), A2, U1 hd (L := 2 * L + 1) (by omega) (by omega) hL hn, A2, A2c hs]; rfl
 . rw [QJ (by simpa using hs), Aa8 (by omega), A2, QI]
   by_cases hle : y.num.natAbs * x.den <= x.num.natAbs * y.den
   . have l5 := B5 (Qat (x.num.natAbs * y.den) (y.num.natAbs * x.den))
     have hp : 0 < x.num.natAbs * y.den := by
      rcases YY (x.num.natAbs * y.den) with h | h
      . exfalso; have hyd := y.den_nz; have hxd := x.den_nz
        have h2 : y.num.natAbs * x.den = 0 := by omega
        have e1 : x.num = 0 := by rcases Nat.mul_eq_zero.1 h with h | h <;> omega
        have e2 : y.num = 0 := by rcases Nat.mul_eq_zero.1 h2 with h | h <;> omega
        exact hs (by rw [e1, e2])
      . exact h
     rw [QL (by
      rcases JF hle with h | h
      . rw [I8 (by omega)]; omega
      . rw [Jm (by omega)]; omega), Ax7 (by omega) (by omega) hle hp, A2, U1 hd (L := 2 * L + 1) (by omega) (by omega) hL hn, A2, Pi hs hle]; rfl
   . have l5 := B5 (Qat (y.num.natAbs * x.den) (x.num.natAbs * y.den))
     rw [QJ (by rw [I7 (by omega)]; omega), Ax7 (by omega) (by omega) (by omega) (by omega), A2, U1 hd (L := 2 * L + 1) (by omega) (by omega) hL hn, A2, Rat.add_comm, Pi (fun e => hs e.symm) (by omega), KN y.den x.den]; rfl

theorem Abi (x y : Rat) : x * y = mq (!(decide (x.num < 0) == decide (y.num < 0))) (x.num.natAbs * y.num.natAbs) (x.den * y.den) := by
 rw [Rat.mul_def']; unfold mq; congr 1; have hx := Ju x; have hy := Ju y; generalize decide (x.num < 0) = s at *; generalize decide (y.num < 0) = t at *; generalize x.num.natAbs = p at *; generalize y.num.natAbs = q at *; rw [hx, hy]
 cases s <;> cases t <;> simp [Int.neg_mul, Int.mul_neg]

theorem Ay3 {n L : Nat} {x y : Rat} (hx : Sz x L) (hy : Sz y L) (hL : 2 * L + 1 <= 1099511627000) (hn : 28 * (2 * L + 1) + 10040 <= n) : f150 n (rq x) (rq y) = some (rq (x * y)) := by
 obtain ⟨x1, x2⟩ := hx; obtain ⟨y1, y2⟩ := hy; have l1 := B7 x.num.natAbs y.num.natAbs; have l3 := B7 x.den y.den; have hd : 0 < x.den * y.den := KX (XP x.den_nz) (XP y.den_nz); unfold f150 rq; dsimp only
 rw [Kk (by omega) (by omega), A2, Kk (by omega) (by omega), A2, Tg hd (L := 2 * L + 1) (by omega) (by omega) hL hn, A2, Abi]; rfl

theorem Aym {n L : Nat} {x y : Rat} (hx : Sz x L) (hy : Sz y L) (hL : 2 * L + 1 <= 1099511627000) (hn : 28 * (2 * L + 1) + 10040 <= n) : f178 n (rq x) (rq y) = some (rq (x * y)) := by
 obtain ⟨x1, x2⟩ := hx; obtain ⟨y1, y2⟩ := hy; have l1 := B7 x.num.natAbs y.num.natAbs; have l3 := B7 x.den y.den; have hd : 0 < x.den * y.den := KX (XP x.den_nz) (XP y.den_nz); unfold f178 rq; dsimp only
 rw [Kq (by omega) (by omega), A2, Kq (by omega) (by omega), A2, U1 hd (L := 2 * L + 1) (by omega) (by omega) hL hn, A2, Abi]; rfl

theorem Aek {x y : Rat} (hy : y ≠ 0) : x / y = mq (!(decide (x.num < 0) == decide (y.num < 0))) (x.num.natAbs * y.den) (x.den * y.num.natAbs) := by
 have hyn : y.num ≠ 0 := fun e => hy (KQ.1 e)
 have key : mq (!(decide (x.num < 0) == decide (y.num < 0))) (x.num.natAbs * y.den) (x.den * y.num.natAbs) * y = x := by
  conv => lhs; rhs; rw [<- Rat.mkRat_self y]
  conv => rhs; rw [<- Rat.mkRat_self x]
  unfold mq
  rw [Rat.mkRat_mul_mkRat, Rat.mkRat_eq_iff (Nat.mul_ne_zero (Nat.mul_ne_zero x.den_nz (by omega)) y.den_nz) x.den_nz]
  have hx := Ju x; have hy := Ju y; generalize decide (x.num < 0) = s at *; generalize decide (y.num < 0) = t at *; generalize x.num.natAbs = p at *; generalize y.num.natAbs = q at *; rw [hx, hy]; simp only [YC]
  cases s <;> cases t <;> simp <;> grind
 conv => lhs; rw [<- key]
 exact Rat.mul_div_cancel hy

theorem B2m {n L : Nat} {x y : Rat} (hx : Sz x L) (hy : Sz y L) (hy0 : y ≠ 0) (hL : 2 * L + 1 <= 1099511627000) (hn : 28 * (2 * L + 1) + 10040 <= n) : f151 n (rq x) (rq y) = some (rq (x / y)) := by
 obtain ⟨x1, x2⟩ := hx; obtain ⟨y1, y2⟩ := hy; have l1 := B7 x.num.natAbs y.den; have l3 := B7 x.den y.num.natAbs; have hyn : y.num ≠ 0 := fun e => hy0 (KQ.1 e)
 have hd : 0 < x.den * y.num.natAbs := KX (XP x.den_nz) (by omega)
 unfold f151 rq; dsimp only
 rw [Kk (by omega) (by omega), A2, Kk (by omega) (by omega), A2, Tg hd (L := 2 * L + 1) (by omega) (by omega) hL hn, A2, Aek hy0]; rfl

theorem B31 {n L : Nat} {x y : Rat} (hx : Sz x L) (hy : Sz y L) (hy0 : y ≠ 0) (hL : 2 * L + 1 <= 1099511627000) (hn : 28 * (2 * L + 1) + 10040 <= n) : f223 n (rq x) (rq y) = some (rq (x / y)) := by
 obtain ⟨x1, x2⟩ := hx; obtain ⟨y1, y2⟩ := hy; have l1 := B7 x.num.natAbs y.den; have l3 := B7 x.den y.num.natAbs; have hyn : y.num ≠ 0 := fun e => hy0 (KQ.1 e)
 have hd : 0 < x.den * y.num.natAbs := KX (XP x.den_nz) (by omega)
 unfold f223 rq; dsimp only
 rw [Kq (by omega) (by omega), A2, Kq (by omega) (by omega), A2, U1 hd (L := 2 * L + 1) (by omega) (by omega) hL hn, A2, Aek hy0]; rfl

theorem Pr {n : Nat} {x : Rat} : f152 n (rq x) = some (rq (-x)) := by
 unfold f152 rq; dsimp only; rw [Rat.neg_num, Rat.neg_den, Qaw, Aen]; by_cases h : x.num < 0
 . rw [ZN h, ZC (show ¬ -x.num < 0 by omega)]; rfl
 . rw [ZC h]
   have : decide (x.num.natAbs ≠ 0) = decide (-x.num < 0) := decide_eq_decide.2 (by omega)
   rw [this]; rfl

theorem B7g {n L : Nat} {x : Rat} (hx : Sz x L) (hL : L <= 1099511627000) : f206 n (rq x) = some (rq (-x)) := by
 obtain ⟨x1, x2⟩ := hx; unfold f206 rq; dsimp only
 rw [Rat.neg_num, Rat.neg_den, Qaw, show f195 n (decide (x.num < 0), dg x.num.natAbs, dg x.den) = some (((dg x.num.natAbs).length : Int) == 0) from rfl, A2, J3 n (by omega), A2, J3 n (by omega), A2, A42]
 by_cases h : x.num < 0
 . rw [ZN h, ZC (show ¬ -x.num < 0 by omega)]; rfl
 . rw [ZC h]
   have : (!decide (x.num.natAbs = 0)) = decide (-x.num < 0) := by
    by_cases h2 : x.num.natAbs = 0
    . rw [ZN h2, ZC (by omega)]; rfl
    . rw [ZC h2, ZN (by omega)]; rfl
   rw [this]; rfl

theorem Gn {x : Rat} {L : Nat} (h : Sz x L) : Sz (-x) L := by
 unfold Sz at *; rw [Rat.neg_num, Rat.neg_den, Qaw]; exact h

theorem Sz.mono {x : Rat} {L M : Nat} (h : Sz x L) (hLM : L <= M) : Sz x M := ⟨ZK h.1 hLM, ZK h.2 hLM⟩

theorem B2n {n L : Nat} {x y : Rat} (hx : Sz x L) (hy : Sz y L) (hL : 2 * L + 1 <= 1099511627000) (hn : 28 * (2 * L + 1) + 10040 <= n) : f149 n (rq x) (rq y) = some (rq (x - y)) := by
 unfold f149; rw [Pr, A2, Amv hx (Gn hy) hL hn, A2, Rat.sub_eq_add_neg]

theorem B2l {n : Nat} {x : Rat} : f145 n (rq x) = some (decide (x = 0)) := by
 unfold f145 rq; dsimp only; rw [A42]; congr 1
 exact decide_eq_decide.2 ⟨fun h => KQ.1 (by omega), fun h => by rw [h]; rfl⟩

theorem B2z {n : Nat} {x : Rat} : f195 n (rq x) = some (decide (x = 0)) := by
 unfold f195 rq; dsimp only; rw [A42]; congr 1
 exact decide_eq_decide.2 ⟨fun h => KQ.1 (by omega), fun h => by rw [h]; rfl⟩

theorem B2q {r : Rt} (h : Ha r = true) : ∃ x : Rat, r = rq x /\ Sz x 40 := by
 obtain ⟨s, N, D, rfl, h1, h2, h3, h4⟩ := Ay7 h
 have hg : Nat.gcd N D = 1 := by
  unfold Ha at h; simp only [QE, QQ, Bb, QS] at h; exact h.2
 refine ⟨mq s N D, ?_, Xm h3 h1 h2⟩; rw [Aj5 h3, hg, Nat.div_one, Nat.div_one]; congr 1
 cases s with
 | false => rfl
 | true => have := h4 rfl; rw [ZN (by omega)]; rfl

theorem B1i {n : Nat} {a : Int} (h : -1000000000 <= a /\ a <= 1000000000) (hn : 1048577 <= n) : f127 n a = some (decide (a < 0), dg a.natAbs, dg 1) := by
 unfold f127; rw [QI, I5]; by_cases hc : a < 0
 . rw [QL hc, Ac (x := 0 - a) (by omega) (by omega), show 0 - a = (a.natAbs : Int) by omega, Ow (by omega) (by omega), A2, ZN hc]
 . rw [QJ hc]
   conv => lhs; rw [show a = (a.natAbs : Int) by omega]
   rw [Ow (by omega) (by omega), A2, ZC hc]

def vq (x : List Rat) : List Rt := x.map rq

def Sv (x : List Rat) (L : Nat) : Prop := ∀ a ∈ x, Sz a L

def C1 (acc : Rat) : List Rat -> List Rat -> Rat
 | a :: x, b :: y => C1 (acc + a * b) x y
 | _, _ => acc

def C0 (x : Rat) : Bool := decide ((dg x.num.natAbs).length <= 40) && decide ((dg x.den).length <= 40)

theorem Q0 {x : Rat} : C0 x = true ↔ Sz x 40 := by unfold C0 Sz; simp

@[simp] theorem Fd (x : List Rat) : (vq x).length = x.length := by simp [vq]

theorem T6 {x : List Rat} {i : Nat} (h : i < x.length) : (vq x).getD i (false, [], []) = rq (x.getD i 0) := by
 unfold vq; rw [QH, QK, QH, QN h]; rfl

theorem B79 {x : List Rat} {i : Nat} (h : i < x.length) : x.drop i = x.getD i 0 :: x.drop (i + 1) := by
 rw [XS h, QH, QN h]; rfl

theorem Sv.get {x : List Rat} {L i : Nat} (hs : Sv x L) (h : i < x.length) : Sz (x.getD i 0) L := by
 refine hs _ ?_; rw [QH, QN h]; exact JA h

theorem Sv.mono {x : List Rat} {L M : Nat} (h : Sv x L) (hLM : L <= M) : Sv x M := fun a ha => (h a ha).mono hLM

theorem Jd : Sz 0 1 := by
 refine ⟨?_, ?_⟩
 . rw [show (0 : Rat).num = 0 from rfl, show (0 : Int).natAbs = 0 from rfl, C6]; simp
 . rw [show (0 : Rat).den = 1 from rfl, I5]; simp

theorem T3 {n : Nat} {x : List Rat} (hl : x.length <= 1048576) : ∀ (m i : Nat), i <= x.length -> x.length < i + m ->
  ∃ r, Gm n m (vq x) (x.length : Int) (i : Int) (fun z_3 => some z_3) (fun (_ : Unit) => some (-1)) = some r /\ decide (r >= 0) = !(x.drop i).all C0
 | 0, i, hi, hm => by omega
 | m + 1, i, hi, hm => by
  rw [A9w]; unfold Mh; dsimp only; rw [QI]; by_cases h : i < x.length
  . rw [QL (by omega), A4 (by simp; omega), QS, T6 h, B79 h, XZ]
    have e : f130 n (rq (x.getD i 0)) = some (!C0 (x.getD i 0)) := by
     unfold f130 f131 rq C0; dsimp only; generalize (dg (x.getD i 0).num.natAbs).length = p; generalize (dg (x.getD i 0).den).length = q; rw [QI]; by_cases c : p <= 40
     . rw [QL (by omega), A2, ZN c, XX]; congr 2; exact decide_eq_decide.2 (by omega)
     . rw [QJ (by omega), A2, ZC c, Bool.false_and]
    rw [e, A2]
    cases hf : C0 (x.getD i 0) with
    | false => exact ⟨(i : Int), by simp, by simp⟩
    | true =>
     rw [ZT, QX, Ac (x := (i : Int) + 1) (by omega) (by omega), XX]
     exact T3 hl m (i + 1) (by omega) (by omega)
  . rw [QJ (by omega), ZE (by omega)]
    exact ⟨-1, rfl, rfl⟩

theorem B32 {n : Nat} {x : List Rat} (hl : x.length <= 1048576) (hn : 1048577 <= n) : f76 n (vq x) = some (if x.all C0 = true then (vq x, 0) else ([], 7)) := by
 unfold f76 A1g A13
 obtain ⟨r, h1, h2⟩ := T3 (n := n) hl n 0 (by omega) (by omega)
 have h1 : Gm n n (vq x) (x.length : Int) 0 _ _ = _ := h1; rw [Fd, h1, A2, A2, h2, XE]
 cases x.all C0 <;> rfl

def Bq (x : Rat) (N D : Nat) : Prop := x.num.natAbs <= N /\ x.den <= D

def Bv (x : List Rat) (N D : Nat) : Prop := ∀ a ∈ x, Bq a N D

theorem Bq.mono {x : Rat} {N D N' D' : Nat} (h : Bq x N D) (h1 : N <= N') (h2 : D <= D') : Bq x N' D' := ⟨ZK h.1 h1, ZK h.2 h2⟩

theorem Bv.get {x : List Rat} {N D i : Nat} (hs : Bv x N D) (h : i < x.length) : Bq (x.getD i 0) N D := by
 refine hs _ ?_; rw [QH, QN h]; exact JA h

theorem Amy (c : Nat) : rq (c : Rat) = (false, dg c, dg 1) := by
 unfold rq
 rw [Rat.num_natCast, Rat.den_natCast, KG, ZC (by omega)]

theorem Af6 {c : Nat} (hc : c <= 100) : Sz (c : Rat) 1 := by
 unfold Sz; rw [Rat.num_natCast, Rat.den_natCast, KG]
 exact ⟨Jy (by omega), Jy (by omega)⟩

theorem A3t {α : Type} {n : Nat} {l : List Int} (hl : l.length <= 1048576) {k0 : List Int -> Option α} : ∀ (m i : Nat) (z : List Int), z.length = l.length - i -> i <= l.length -> l.length < i + m -> Rh n m l (i : Int) (l.take i ++ z) k0 = k0 l
 | 0, i, z, hz, hi, hm => by omega
 | m + 1, i, z, hz, hi, hm => by
  rw [Alr]; unfold V2; dsimp only; rw [QI]; by_cases h : i < l.length
  . rw [QL (by omega)]
    simp only [QS]
    rw [A4 (by simp; try omega), A4 (by simp [hz]; omega), A4 (by simp [hz]; omega), S5 h hz, Ac (x := (i : Int) + 1) (by omega) (by omega)]
    exact A3t hl m (i + 1) _ (by simp [hz]; omega) (by omega) (by omega)
  . rw [QJ (by omega)]
    obtain rfl : z = [] := XI (by omega)
    rw [XV (by omega), XB]

theorem Ae6 {n : Nat} {l : List Int} (hl : l.length <= 1048576) (hn : 1048577 <= n) : A3v n l = some l := by
 unfold A3v
 rw [A4 (by simp; try omega)]
 have := A3t (n := n) hl (k0 := fun z_1 => some z_1) n 0 (List.replicate l.length 0) (by simp) (by omega) (by omega)
 simpa using this

theorem Ayu {n : Nat} {x : Rt} (h : Sm x) (hn : 1048577 <= n) : Ak3 n x = some x := by
 unfold Ak3; rw [Ae6 h.1 hn, A2, Ae6 h.2 hn, A2]

theorem A84 {α : Type} {n : Nat} {l : List Rt} (hl : l.length <= 1048576) (hs : ∀ x ∈ l, Sm x) (hn : 1048577 <= n) {k0 : List Rt -> Option α} : ∀ (m i : Nat) (z : List Rt), z.length = l.length - i -> i <= l.length -> l.length < i + m -> Wm n m l (i : Int) (l.take i ++ z) k0 = k0 l
 | 0, i, z, hz, hi, hm => by omega
 | m + 1, i, z, hz, hi, hm => by
  rw [Ap0]; unfold Zd; dsimp only; rw [QI]; by_cases h : i < l.length
  . rw [QL (by omega)]
    simp only [QS]
    rw [A4 (by simp; try omega), Ayu (Sm.get hs i) hn, A2, A4 (by simp [hz]; omega), A4 (by simp [hz]; omega), S5 h hz, Ac (x := (i : Int) + 1) (by omega) (by omega)]
    exact A84 hl hs hn m (i + 1) _ (by simp [hz]; omega) (by omega) (by omega)
  . rw [QJ (by omega)]
    obtain rfl : z = [] := XI (by omega)
    rw [XV (by omega), XB]

theorem Az8 {n : Nat} {l : List Rt} (h : SmL l) (hn : 1048577 <= n) : Akh n l = some l := by
 obtain ⟨hl, hs⟩ := h; unfold Akh
 rw [A4 (by simp; try omega)]
 have := A84 (n := n) hl hs hn (k0 := fun z_1 => some z_1) n 0 (List.replicate l.length Mt) (by simp) (by omega) (by omega)
 simpa using this

def Ca (k : Int) : Nat -> List Int
 | 0 => []
 | m + 1 => k :: Ca (k + 1) m

theorem Cs : ∀ (m : Nat) (k : Int), (Ca k m).length = m
 | 0, _ => rfl
 | m + 1, k => by simp [Ca, Cs m]

theorem Abj {β : Type} {pre r : List β} {x y : β} : (pre ++ x :: r).set pre.length y = pre ++ y :: r := by
 rw [YW _ _ (ZA _)]; simp

theorem Au5 {β : Type} {pre r : List β} {x d : β} : (pre ++ x :: r).getD pre.length d = x := by simp

theorem Au6 {β : Type} {pre r : List β} {x : β} : pre ++ x :: r = (pre ++ [x]) ++ r := by simp

theorem A7u {α : Type} {n : Nat} {k0 : Int -> List Int -> Option α} : ∀ (r : List Int) (m : Nat) (pre : List Int) (k : Int), pre.length + r.length <= 1048576 -> r.length < m -> 0 <= k -> k + r.length <= 1152921504606846976 ->
  W9 n m k (pre.length : Int) (pre ++ r) k0 = k0 (k + r.length) (pre ++ Ca k r.length)
 | [], m + 1, pre, k, hN, hm, h0, hk => by
  rw [A7w]; unfold Q3
  rw [QI, QJ (by simp)]
  simp [Ca]
 | x :: r, m + 1, pre, k, hN, hm, h0, hk => by
  simp only [QU] at hN hm hk; rw [A7w]; unfold Q3
  rw [QI, QL (by simp; omega), A4 (by simp; omega), A4 (by simp)]
  rw [QS, Abj, Ac (x := k + 1) (by omega) (by omega), Ac (x := (pre.length : Int) + 1) (by omega) (by omega), Au6]
  have ih := A7u (n := n) (k0 := k0) r m (pre ++ [k]) (k + 1) (by simp; omega) (by omega) (by omega) (by omega)
  simp only [ZW, QU, ZG, XR] at ih; refine Eq.trans ih ?_
  rw [show k + 1 + (r.length : Int) = k + ((r.length + 1 : Nat) : Int) by omega]
  simp [Ca]

theorem L8 {n : Nat} {l : List Int} {k : Int} (hl : l.length <= 1048576) (h0 : 0 <= k) (hk : k + l.length <= 1152921504606846976) (hn : 1048577 <= n) : Q5 n l k = some (k + l.length, Ca k l.length) := by
 unfold Q5
 exact A7u (n := n) (k0 := fun z w => some (z, w)) l n [] k (by simpa using hl) (by omega) h0 hk

theorem W6 {n : Nat} {k : Int} (hn : 1048577 <= n) : f87 n [] k = some k := by
 unfold f87
 obtain ⟨m, rfl⟩ : ∃ m, n = m + 1 := ⟨n - 1, by omega⟩
 rw [Av0]; rfl

theorem Ac2 {α : Type} {n : Nat} {l : List Int} {k0 k1 : Int -> Option α} (hl : l.length <= 1048576) : ∀ (q m i : Nat) (k : Int), l.drop i = Ca k q -> i + q = l.length -> q < m -> 0 <= k -> k + q <= 1152921504606846976 ->
  A31 n m l k (i : Int) k0 k1 = k1 (k + q)
 | 0, m + 1, i, k, hd, hq, hm, h0, hk => by
  rw [Ac4]; unfold W5
  rw [QI, QJ (by omega)]
  simp
 | q + 1, m + 1, i, k, hd, hq, hm, h0, hk => by
  have hlt : i < l.length := by omega
  have hx : l.drop i = l.getD i 0 :: l.drop (i + 1) := by
   rw [XS hlt]; simp [QH, hlt]
  rw [hx] at hd; simp only [Ca, List.cons.injEq] at hd; rw [Ac4]; unfold W5
  rw [QI, QL (by omega), A4 (by simp; omega), QS, hd.1, YS, QX, Ac (x := k + 1) (by omega) (by omega), Ac (x := (i : Int) + 1) (by omega) (by omega)]
  refine (Ac2 (n := n) (k0 := k0) (k1 := k1) hl q m (i + 1) (k + 1) hd.2 (by omega) (by omega) (by omega) (by omega)).trans ?_
  rw [show k + 1 + (q : Int) = k + ((q + 1 : Nat) : Int) by omega]

theorem Ao8 {n m : Nat} {k : Int} (hm : m <= 1048576) (h0 : 0 <= k) (hk : k + m <= 1152921504606846976) (hn : 1048577 <= n) : f88 n (Ca k m) k = some (k + m) := by
 unfold f88
 exact Ac2 (n := n) (k0 := fun z => some z) (k1 := fun z => some z) (by rw [Cs]; exact hm) m n 0 k rfl (by rw [Cs]; omega) (by omega) h0 hk

theorem Az1 {n : Nat} {x : Rt} {k : Int} (hx : Sm x) (h0 : 0 <= k) (hk : k <= 1125899906842624) (hn : 1048577 <= n) :
  Acl n x k = some (k + x.2.1.length + x.2.2.length, Ca k x.2.1.length, Ca (k + x.2.1.length) x.2.2.length) := by
 obtain ⟨h1, h2⟩ := hx; unfold Acl
 rw [L8 h1 h0 (by omega) hn, A2, A4 (by simp [Cs]), L8 h2 (by omega) (by dsimp only; omega) hn, A2, A4 (by simp [Cs])]

theorem Ack {n a b : Nat} {s : Bool} {k : Int} (h1 : a <= 1048576) (h2 : b <= 1048576) (h0 : 0 <= k) (hk : k <= 1125899906842624) (hn : 1048577 <= n) : f39 n (s, Ca k a, Ca (k + a) b) k = some (k + a + b) := by
 unfold f39; dsimp only
 rw [Ao8 h1 h0 (by omega) hn, A2, QI, QJ (by omega), Ao8 h2 (by omega) (by omega) hn, A2, QI, QJ (by omega)]

def El : List Rt -> Int -> Int × List Rt
 | [], k => (k, [])
 | x :: r, k => ((El r (k + 1 + x.2.1.length + x.2.2.length)).1, (Int.tmod k 3 == 0, Ca (k + 1) x.2.1.length, Ca (k + 1 + x.2.1.length) x.2.2.length) :: (El r (k + 1 + x.2.1.length + x.2.2.length)).2)

theorem Mw : ∀ (l : List Rt) (k : Int), (El l k).2.length = l.length
 | [], _ => rfl
 | x :: r, k => by simp [El, Mw r]

theorem Abm : ∀ (l : List Rt) (k : Int), k <= (El l k).1
 | [], k => JP k
 | x :: r, k => by have := Abm r (k + 1 + x.2.1.length + x.2.2.length); simp only [El]; omega

theorem A81 {α : Type} {n : Nat} (hn : 1048577 <= n) {k0 : Int -> List Rt -> Option α} : ∀ (r : List Rt) (m : Nat) (pre : List Rt) (k : Int), pre.length + r.length <= 1048576 -> (∀ x ∈ r, Sm x) -> r.length < m -> 0 <= k -> k + 2097153 * r.length <= 1125899906842624 ->
  Of n m k (pre.length : Int) (pre ++ r) k0 = k0 (El r k).1 (pre ++ (El r k).2)
 | [], m + 1, pre, k, hN, hs, hm, h0, hk => by
  rw [A83]; unfold Qb
  rw [QI, QJ (by simp)]
  simp [El]
 | x :: r, m + 1, pre, k, hN, hs, hm, h0, hk => by
  simp only [QU] at hN hm hk; obtain ⟨s, a, b⟩ := x
  obtain ⟨h1, h2⟩ := hs (s, a, b) (by simp)
  simp only at h1 h2
  have ih := fun y => A81 hn (k0 := k0) r m (pre ++ [y]) (k + 1 + a.length + b.length) (by simp; omega) (fun z hz => hs z (by simp [hz])) (by omega) (by omega) (by omega)
  simp only [ZW, QU, ZG, XR] at ih
  have ea : ∀ (l : List Int) (k : Int), l.isEmpty = true -> Ca k l.length = l /\ k + (l.length : Int) = k := fun l k h => by
   rw [YE] at h; subst h; simp [Ca]
  rw [A83]; unfold Qb
  rw [QI, QL (by simp; omega), A4 (by simp; omega), A4 (by simp)]
  simp only [QS, Abj, Au5]
  have g1 : ∀ (y : Rt), (decide (0 <= (pre.length : Int)) && decide ((pre.length : Int) < ((pre ++ y :: r).length : Int))) = true := fun y => by simp; omega
  have g2 : ∀ (y : Rt), decide (pre.length < (pre ++ y :: r).length) = true := fun y => by simp
  have w1 : W (k + 1) = k + 1 := Ac (by omega) (by omega)
  have w2 : W ((pre.length : Int) + 1) = ((pre.length + 1 : Nat) : Int) := by rw [Ac (by omega) (by omega)]; rfl
  simp only [g1, g2, Hd, w1, w2, W6 hn, L8 h1 (show 0 <= k + 1 by omega) (show k + 1 + (a.length : Int) <= 1152921504606846976 by omega) hn, A2, Cs, XD, XT]
  have fin : ∀ (y : Rt), Of n m (k + 1 + a.length + b.length) ((pre.length + 1 : Nat) : Int) (pre ++ y :: r) k0 = k0 (El r (k + 1 + a.length + b.length)).1 (pre ++ y :: (El r (k + 1 + a.length + b.length)).2) := fun y => by
   have := ih y; rw [ZO, ZO] at this; exact this
  show _ = k0 (El r (k + 1 + a.length + b.length)).1 (pre ++ (Int.tmod k 3 == 0, Ca (k + 1) a.length, Ca (k + 1 + a.length) b.length) :: (El r (k + 1 + a.length + b.length)).2); rw [<- fin]
  cases ha : a.isEmpty with
  | true =>
   obtain rfl := YE.1 ha
   cases hb : b.isEmpty with
   | true =>
    obtain rfl := YE.1 hb; simp [Ca]
   | false =>
    simp only [ZM, QX, L8 h2 (show 0 <= k + 1 by omega) (show k + 1 + (b.length : Int) <= 1152921504606846976 by omega) hn, A2, Cs, XD, XT, Hd]
    simp [Ca]
  | false =>
   cases hb : b.isEmpty with
   | true =>
    obtain rfl := YE.1 hb; simp [Ca]
   | false =>
    simp only [QX, L8 h2 (show 0 <= k + 1 + (a.length : Int) by omega) (show k + 1 + (a.length : Int) + (b.length : Int) <= 1152921504606846976 by omega) hn, A2, Cs, XD, XT, Hd]

theorem Az4 {n : Nat} {l : List Rt} {k : Int} (hl : SmL l) (h0 : 0 <= k) (hk : k <= 8796093022208) (hn : 1048577 <= n) : A5q n l k = some (El l k) := by
 unfold A5q
 refine (A81 (n := n) hn (k0 := fun z w => some (z, w)) l n [] k (by simpa using hl.1) hl.2 (by have := hl.1; omega) h0 ?_).trans ?_
 . have := hl.1; omega
 . simp

theorem Asd {n : Nat} {l : List Int} (h : l.length <= 17592186044416) : A3y n l = some (if l = [] then .inr () else .inl l) := by
 unfold A3y I1
 cases l with
 | nil => rfl
 | cons a r =>
  simp only [List.isEmpty_cons, QX, ZY, Hd]
  rw [A4 (by simp at h ⊢; omega)]
  rfl

def U4 : List Int -> Int
 | [] => 0
 | c :: r => if c = 0 then U4 r else c

theorem Ach {n : Nat} {l : List Int} (hl : l.length <= 1048576) : ∀ (m i : Nat), i <= l.length -> l.length < i + m -> A33 n m l (l.length : Int) (i : Int) (fun z => some z) (fun (_ : Unit) => some 0) = some (U4 (l.drop i))
 | 0, i, hi, hm => by omega
 | m + 1, i, hi, hm => by
  rw [Avc]; unfold A5p; rw [QI]; by_cases h : i < l.length
  . have hx : l.drop i = l.getD i 0 :: l.drop (i + 1) := by
     rw [XS h]; simp [QH, h]
    rw [QL (by omega), A4 (by simp; try omega), QS, hx]
    unfold U4; by_cases c : l.getD i 0 = 0
    . rw [c, YS, QX, QL rfl, Ac (x := (i : Int) + 1) (by omega) (by omega)]
      exact Ach hl m (i + 1) (by omega) (by omega)
    . rw [QJ c, show (l.getD i 0 != 0) = true by rw [bne_iff_ne]; exact c, ZM]
  . rw [QJ (by omega), ZE (by omega)]; rfl

theorem Ub {n : Nat} {l : List Int} (hl : l.length <= 1048576) (hn : 1048577 <= n) : f64 n l = some (U4 l) := by
 unfold f64
 have := Ach (n := n) hl n 0 (by omega) (by omega)
 simpa using this

def Aua (L : List (List Rt)) : Bool := L.any fun v => decide (4096 < v.length)

theorem Ayw {n : Nat} {L : List (List Rt)} (hl : L.length <= 1048576) (hn : 1048577 <= n) : f65 n L = some (if Aua L = true then 2 else 0) := by
 obtain ⟨c, h1, h2⟩ := B3p (n := n) hl hn; rw [h1]; rcases h2 with ⟨rfl, h⟩ | ⟨rfl, v, hv, h⟩
 . rw [QJ]; intro c; obtain ⟨v, hv, h3⟩ := ZX.1 c; have := h v hv; have := KU h3; omega
 . rw [QL]; exact ZX.2 ⟨v, hv, ZN h⟩

theorem Awt : ∀ {l : List Rt}, l.all Ha = true -> ∃ X : List Rat, l = vq X /\ Sv X 40
 | [], _ => ⟨[], rfl, fun a h => by simp at h⟩
 | r :: l, h => by
  simp only [XZ, QE] at h; obtain ⟨x, rfl, hx⟩ := B2q h.1; obtain ⟨X, rfl, hX⟩ := Awt h.2
  exact ⟨x :: X, rfl, fun a ha => by rcases QT.1 ha with rfl | ha; exact hx; exact hX a ha⟩

theorem J4 {n : Nat} {b : Bool} {c : Int} : f114 n b c = some (if b = true then 0 else c) := by
 unfold f114; cases b <;> rfl

def B8u (X : List Rat) (k i : Nat) : List Rat := (X.drop (i * k)).take k

def mvR (A X : List Rat) : List Rat := (List.range X.length).map fun i => C1 0 (B8u A X.length i) X

def Aaj (w : Nat) (row : List Rt) (v : Nat -> Rat) : Prop := row.length = w /\ ∀ c, c < w -> row.getD c Mt = rq (v c)

def Afd (m w : Nat) (R : List (List Rt)) (M : Nat -> Nat -> Rat) : Prop := R.length = m /\ ∀ r, r < m -> Aaj w (R.getD r []) (M r)

def SzM (M : Nat -> Nat -> Rat) (L : Nat) : Prop := ∀ r c, Sz (M r c) L

theorem Ayn {n L : Nat} {x : Rat} (hx : Sz x L) (hL : L <= 1099511627000) : f61 n (rq x) = some (rq x) := by
 obtain ⟨x1, x2⟩ := hx; unfold f61 rq; dsimp only
 rw [J3 n (by omega), A2, J3 n (by omega), A2]

theorem SzM.mono {M : Nat -> Nat -> Rat} {L L' : Nat} (h : SzM M L) (hL : L <= L') : SzM M L' := fun r c => (h r c).mono hL

theorem Aaj.congr {w : Nat} {row : List Rt} {u v : Nat -> Rat} (h : Aaj w row u) (e : ∀ c, c < w -> u c = v c) : Aaj w row v := ⟨h.1, fun c hc => by rw [h.2 c hc, e c hc]⟩

theorem Afd.congr {m w : Nat} {R : List (List Rt)} {M M' : Nat -> Nat -> Rat} (h : Afd m w R M) (e : ∀ r c, r < m -> c < w -> M r c = M' r c) : Afd m w R M' := ⟨h.1, fun r hr => (h.2 r hr).congr fun c hc => e r c hr hc⟩

structure A70 (m : Nat) (a b : List Rt) (M : Nat -> Nat -> Rat) : Prop where
 la : a.length = m * m
 lb : b.length = m
 at_ : ∀ r c, r < m -> c < m -> a.getD (r * m + c) Mt = rq (M r c)
 bt : ∀ r, r < m -> b.getD r Mt = rq (M r m)

theorem A70.congr {m : Nat} {a b : List Rt} {M M' : Nat -> Nat -> Rat} (h : A70 m a b M) (e : ∀ r c, r < m -> c <= m -> M r c = M' r c) : A70 m a b M' :=
 ⟨h.la, h.lb, fun r c hr hc => by rw [h.at_ r c hr hc, e r c hr (by omega)], fun r hr => by rw [h.bt r hr, e r m hr (ZA _)]⟩

theorem B77 {n c : Nat} (hc : c <= 1000000) (hn : 1048577 <= n) : f127 n (c : Int) = some (rq (c : Rat)) := by
 unfold f127
 rw [ZC (by omega), QX, Ow (by omega) (by omega), A2, Amy, I5]

theorem A4g {L : Nat} (h : 1 <= L) : Sz (1 : Rat) L := (Af6 (c := 1) (by omega)).mono h

theorem Tf {α : Type} {n m : Nat} (hm : m <= 100) (hn : 1048577 <= n) {k0 : List Rt -> Option α} : ∀ (fu i : Nat), i <= m -> m < i + fu -> A2z n fu (m : Int) (i : Int) (vq (List.replicate i 0)) k0 = k0 (vq (List.replicate m 0))
 | 0, i, hi, hf => by omega
 | fu + 1, i, hi, hf => by
  rw [Aus]; unfold A55; rw [QI]; by_cases h : i < m
  . have e0 : f127 n 0 = some (rq 0) := B77 (c := 0) (by omega) hn
    have e : vq (List.replicate i 0) ++ [rq 0] = vq (List.replicate (i + 1) 0) := by rw [List.replicate_succ']; simp [vq]
    rw [QL (by omega), e0, A2, A4 (by simp; omega), e, Ac (x := (i : Int) + 1) (by omega) (by omega)]
    exact Tf hm hn fu (i + 1) (by omega) (by omega)
  . obtain rfl : i = m := by omega
    rw [QJ (by omega)]

theorem Ay2 {n m : Nat} (hm : m <= 100) (hn : 1048577 <= n) : f90 n (m : Int) = some (vq (List.replicate m 0)) := by
 unfold f90
 exact Tf (n := n) (k0 := fun z_2 => some z_2) hm hn n 0 (by omega) (by omega)

theorem Amz (a : Int) : rq (a : Rat) = (decide (a < 0), dg a.natAbs, dg 1) := by
 unfold rq; rw [Rat.num_intCast, Rat.den_intCast]

theorem A2i {n : Nat} {a : Int} (h : -1000000000 <= a /\ a <= 1000000000) (hn : 1048577 <= n) : f127 n a = some (rq (a : Rat)) := by rw [B1i h hn, Amz]

theorem Ajm {n : Nat} {x : Rat} : f131 n (rq x) = some (C0 x) := by
 unfold f131 C0 rq; dsimp only; rw [QI]; by_cases h : (dg x.num.natAbs).length <= 40
 . rw [QL (by omega), ZN h, XX]
   by_cases c : (dg x.den).length <= 40
   . rw [ZN c, ZN (by omega)]
   . rw [ZC c, ZC (by omega)]
 . rw [QJ (by omega), ZC h]; rfl

theorem Aa3 {n : Nat} {x : Rat} : f154 n (rq x) = some (C0 x) := by
 unfold f154 C0 rq; dsimp only; rw [QI]; by_cases h : (dg x.num.natAbs).length <= 40
 . rw [QL (by omega), ZN h, XX]
   by_cases c : (dg x.den).length <= 40
   . rw [ZN c, ZN (by omega)]
   . rw [ZC c, ZC (by omega)]
 . rw [QJ (by omega), ZC h]; rfl

theorem Hi {x y : Rat} {L K : Nat} (hx : Sz x L) (hy : Sz y K) : Sz (x + y) (L + K + 1) := by
 obtain ⟨x1, x2⟩ := hx; obtain ⟨y1, y2⟩ := hy; have l1 := B7 x.num.natAbs y.den; have l2 := B7 y.num.natAbs x.den; have l3 := B7 x.den y.den; have l4 := A4z (x.num.natAbs * y.den) (y.num.natAbs * x.den); have hd : 0 < x.den * y.den := KX (XP x.den_nz) (XP y.den_nz); by_cases hs : decide (x.num < 0) = decide (y.num < 0)
 . rw [A2c hs]; exact Xm hd (by omega) (by omega)
 . by_cases hle : y.num.natAbs * x.den <= x.num.natAbs * y.den
   . have l5 := B5 (Qat (x.num.natAbs * y.den) (y.num.natAbs * x.den))
     rw [Pi hs hle]; exact Xm hd (by omega) (by omega)
   . have l5 := B5 (Qat (y.num.natAbs * x.den) (x.num.natAbs * y.den))
     rw [Rat.add_comm, Pi (fun e => hs e.symm) (by omega), KN y.den x.den]; exact Xm hd (by omega) (by omega)

theorem Ao {x y : Rat} {L K : Nat} (hx : Sz x L) (hy : Sz y K) : Sz (x * y) (L + K + 1) := by
 obtain ⟨x1, x2⟩ := hx; obtain ⟨y1, y2⟩ := hy; have l1 := B7 x.num.natAbs y.num.natAbs; have l3 := B7 x.den y.den; rw [Abi]
 exact Xm (KX (XP x.den_nz) (XP y.den_nz)) (by omega) (by omega)

theorem A6z {x y : Rat} {L K : Nat} (hx : Sz x L) (hy : Sz y K) (hy0 : y ≠ 0) : Sz (x / y) (L + K + 1) := by
 obtain ⟨x1, x2⟩ := hx; obtain ⟨y1, y2⟩ := hy; have l1 := B7 x.num.natAbs y.den; have l3 := B7 x.den y.num.natAbs; have hyn : y.num ≠ 0 := fun e => hy0 (KQ.1 e); rw [Aek hy0]
 exact Xm (KX (XP x.den_nz) (by omega)) (by omega) (by omega)

def B8v (M : Nat -> Nat -> Rat) (m i : Nat) : List Rat := (List.range m).map (M i)

def bsV (M : Nat -> Nat -> Rat) (m i : Nat) (X : List Rat) : Rat := (M i m - C1 0 (B8v M m i) X) / M i i

def bs (M : Nat -> Nat -> Rat) (m : Nat) : Nat -> List Rat -> List Rat
 | 0, X => X
 | i + 1, X => bs M m i (X.set i (bsV M m i X))

theorem H7 : ∀ (x y : List Rat) (a : Rat), C1 a x y = a + C1 0 x y
 | [], _, a => by simp [C1, Rat.add_zero]
 | p :: x, [], a => by simp [C1, Rat.add_zero]
 | p :: x, q :: y, a => by
  simp only [C1]; rw [H7 x y (a + p * q), H7 x y (0 + p * q)]; grind

theorem A9d : ∀ (x y : List Rat), C1 0 x y = C1 0 y x
 | [], [] => rfl
 | [], _ :: _ => rfl
 | _ :: _, [] => rfl
 | p :: x, q :: y => by
  simp only [C1]; rw [H7, H7 y, A9d x y]; grind

theorem Rz : ∀ (x : List Rat), 0 <= C1 0 x x
 | [] => by simp only [C1]; exact Rat.le_refl
 | p :: x => by
  have := Rz x
  have h2 : (0 : Rat) <= p * p := by
   rcases Rat.le_total (a := 0) (b := p) with h | h
   . exact Qax h h
   . have := Qax (a := -p) (b := -p) (by grind) (by grind)
     grind
  simp only [C1]; rw [H7]; grind

theorem Aj0 (p : Rat) : 0 <= p * p := by
 rcases Rat.le_total (a := 0) (b := p) with h | h
 . exact Qax h h
 . have := Qax (a := -p) (b := -p) (by grind) (by grind)
   grind

theorem Aej : ∀ {x : List Rat}, C1 0 x x = 0 -> ∀ i, x.getD i 0 = 0
 | [], _, i => by simp
 | p :: x, h, i => by
  simp only [C1] at h; rw [H7] at h; have h1 := Rz x; have h2 := Aj0 p
  have h3 : C1 0 x x = 0 := by grind
  have h4 : p * p = 0 := by grind
  have h5 : p = 0 := by rcases Rat.mul_eq_zero.1 h4 with h | h <;> exact h
  cases i with
  | zero => simpa using h5
  | succ i => simpa using Aej h3 i

theorem A9c : ∀ {x : List Rat} (z : List Rat), (∀ i, x.getD i 0 = 0) -> C1 0 x z = 0
 | [], _, _ => rfl
 | p :: x, [], _ => rfl
 | p :: x, c :: z, h => by
  have h0 : p = 0 := by simpa using h 0
  have h1 := A9c (x := x) z fun i => by simpa using h (i + 1)
  simp only [C1]; rw [H7, h1, h0]; grind

structure Pd (A : List Rat) (k : Nat) : Prop where
 sa : ∀ X Y, X.length = k -> Y.length = k -> C1 0 (mvR A X) Y = C1 0 X (mvR A Y)
 pd : ∀ X, X.length = k -> C1 0 X X <= C1 0 X (mvR A X)

structure CgI (A R D : List Rat) (k : Nat) : Prop where
 lR : R.length = k
 lD : D.length = k
 i1 : C1 0 R D = C1 0 R R
 i2 : C1 0 R (mvR A D) = C1 0 D (mvR A D)

theorem CgI.p {A R D : List Rat} {k : Nat} (h : CgI A R D k) (hA : Pd A k) (hr : C1 0 R R ≠ 0) : C1 0 D (mvR A D) ≠ 0 := by
 intro e; have h1 := hA.pd D h.lD; have h2 := Rz D
 have h3 : C1 0 D D = 0 := by grind
 have h4 := A9c R (Aej h3); rw [A9d, h.i1] at h4; exact hr h4

theorem A44 {α : Type} {n : Nat} {e : List Nod} (hN : e.length <= 1048576) {k0 : List Nod -> Option α} : ∀ (r : List Nod) (m : Nat) (out : List Nod), e.drop out.length = r -> out.length + r.length = e.length -> r.length < m ->
  (∀ j, j < out.length -> out.getD j (0, 0, 0, 0) = e.getD j (0, 0, 0, 0)) -> Oe n m e (out.length : Int) (out ++ List.replicate r.length (0, 0, 0, 0)) k0 = k0 e
 | [], m + 1, out, hd, hl, hm, ho => by
  rw [A80]; unfold Q8; simp only [ZG] at hl
  rw [QI, QJ (by omega)]
  congr 1; simp only [ZG, List.replicate_zero, XB]
  apply List.ext_getElem (by omega)
  intro j h1 h2; have := ho j h1; simpa [QH, h1, h2] using this
 | x :: r, m + 1, out, hd, hl, hm, ho => by
  obtain ⟨hx, hlt, hd'⟩ := D2 (d := (0, 0, 0, 0)) hd; rw [A80]; unfold Q8; simp only [QU] at hl hm
  rw [QI, QL (by omega), A4 (by simp; omega), Ac (by omega) (by omega)]
  simp only [QS, hx]; unfold f138
  rw [A2, A4 (by simp; omega), A4 (by simp)]
  have es : (out ++ List.replicate (x :: r).length (0, 0, 0, 0)).set out.length x = (out ++ [x]) ++ List.replicate r.length (0, 0, 0, 0) := by
   rw [YW _ _ (ZA _)]; simp [Qau]
  rw [es]
  have ih := A44 hN r m (out ++ [x]) (by simpa using hd') (by simp; omega) (by omega) (fun j hj => by
   simp only [ZW, QU, ZG] at hj; rcases XL j out.length with h | h
   . rw [Bw h]; exact ho j h
   . obtain rfl : j = out.length := by omega
     rw [Cb, hx]) (n := n) (k0 := k0)
  simp only [ZW, QU, ZG, XR] at ih; exact ih

theorem Aza {n : Nat} {e : List Nod} (hN : e.length <= 1048576) (hn : 1048577 <= n) : Aki n e = some e := by
 unfold Aki Av9
 rw [A4 (by simp; omega)]
 have := A44 (n := n) hN (k0 := fun z => some z) e n [] rfl (by simp) (by omega) (fun j hj => by simp at hj)
 simp only [ZG, KJ] at this; rw [QS]; have this : Oe n n e 0 (List.replicate e.length (0, 0, 0, 0)) (fun z => some z) = some e := this; rw [this]; rfl

def mkL (k : Int) : Nat -> List Nod
 | 0 => []
 | m + 1 => (k, k + 1, k + 2, k + 3) :: mkL (k + 4) m

theorem O6 : ∀ (m : Nat) (k : Int), (mkL k m).length = m
 | 0, _ => rfl
 | m + 1, k => by simp [mkL, O6 m]

theorem gds {l : List Nod} {i : Nat} {a d : Nod} (h : i < l.length) : (l.set i a).getD i d = a := by
 simp [QH, h]

theorem Ajh {α : Type} {n : Nat} {b : List Nod} {i : Nat} {k : Int} (hi : i < b.length) (hN : b.length <= 1048576) (hk : 0 <= k /\ k < 1000000000) {f} {k0 : Int -> List Nod -> Option α} :
  Lx n k (i : Int) b f k0 = f (k + 4) ((i : Int) + 1) (b.set i (k, k + 1, k + 2, k + 3)) := by
 unfold Lx
 have w1 : W (k + 1) = k + 1 := Ac (by omega) (by omega)
 have w2 : W (k + 1 + 1) = k + 2 := by rw [Ac (by omega) (by omega)]; omega
 have w3 : W (k + 2 + 1) = k + 3 := by rw [Ac (by omega) (by omega)]; omega
 have w4 : W (k + 3 + 1) = k + 4 := by rw [Ac (by omega) (by omega)]; omega
 simp only [w1, w2, w3, w4, QS, Qam, gds hi, List.length_set]
 have g1 : (decide (0 <= (i : Int)) && decide ((i : Int) < (b.length : Int))) = true := by simp; omega
 have g2 : decide (i < b.length) = true := by simpa using hi
 rw [QI, QL (by omega)]
 simp only [g1, g2, Hd]
 rw [Ac (by omega) (by omega)]

theorem A7i {α : Type} {n : Nat} {k0 : Int -> List Nod -> Option α} : ∀ (r : List Nod) (m : Nat) (pre : List Nod) (k : Int), pre.length + r.length <= 1048576 -> r.length < m -> 0 <= k -> k + 4 * r.length < 1000000000 ->
  Wc n m k (pre.length : Int) (pre ++ r) k0 = k0 (k + 4 * r.length) (pre ++ mkL k r.length)
 | [], m + 1, pre, k, hN, hm, h0, hk => by
  rw [A7y]; unfold Lx
  rw [QI, QJ (by simp)]
  simp [mkL]
 | x :: r, m + 1, pre, k, hN, hm, h0, hk => by
  simp only [QU] at hN hm hk
  rw [A7y, Ajh (by simp) (by simp; omega) ⟨h0, by omega⟩]
  have es : (pre ++ x :: r).set pre.length (k, k + 1, k + 2, k + 3) = (pre ++ [(k, k + 1, k + 2, k + 3)]) ++ r := by
   rw [YW _ _ (ZA _)]; simp
  rw [es]
  have ih := A7i (n := n) (k0 := k0) r m (pre ++ [(k, k + 1, k + 2, k + 3)]) (k + 4) (by simp; omega) (by omega) (by omega) (by omega)
  simp only [ZW, QU, ZG, XR] at ih; refine Eq.trans ih ?_
  rw [show k + 4 + 4 * (r.length : Int) = k + 4 * ((r.length + 1 : Nat) : Int) by omega]
  simp [mkL]

theorem Ays {n : Nat} {e : List Nod} (hN : e.length <= 1048576) (hn : 1048577 <= n) : Ajz n e 1 = some (1 + 4 * (e.length : Int), mkL 1 e.length) := by
 unfold Ajz
 exact A7i (n := n) (k0 := fun z w => some (z, w)) e n [] 1 (by simpa using hN) (by omega) (by omega) (by omega)

theorem Az6 {n : Nat} {e : List Nod} (hN : e.length <= 1048576) (hn : 1048577 <= n) : A5r n e 1 = some (1 + 4 * (e.length : Int), mkL 1 e.length) := by
 unfold A5r
 rw [Ays hN hn, A2, A4 (by simp [O6])]

structure Q4 where
 f : Rat
 a : Rat
 v : Rat
 c : Rat

theorem Q4.ext' {p q : Q4} (h1 : p.f = q.f) (h2 : p.a = q.a) (h3 : p.v = q.v) (h4 : p.c = q.c) : p = q := by
 cases p; cases q; simp only at h1 h2 h3 h4; rw [h1, h2, h3, h4]

def Q4.cst (k : Rat) : Q4 := ⟨k, 0, 0, 0⟩

def Q4.add (p q : Q4) : Q4 := ⟨p.f + q.f, p.a + q.a, p.v + q.v, p.c + q.c⟩

def Q4.neg (p : Q4) : Q4 := ⟨-p.f, -p.a, -p.v, -p.c⟩

def Q4.mul (p q : Q4) : Q4 := ⟨p.f * q.f, p.a * q.f + p.f * q.a, p.v * q.f + p.f * q.v, p.c * q.f + p.f * q.c + (p.a * q.v + p.v * q.a)⟩

def Q4.inv (p : Q4) : Q4 := ⟨1 / p.f, -(p.a * (1 / p.f * (1 / p.f))), -(p.v * (1 / p.f * (1 / p.f))), 2 * (1 / p.f * (1 / p.f) * (1 / p.f)) * (p.a * p.v) - p.c * (1 / p.f * (1 / p.f))⟩

def Q4.pow (p : Q4) : Nat -> Q4
 | 0 => cst 1
 | n + 1 => mul (pow p n) p

def Q4.d1 (f : Rat) : Nat -> Rat
 | 0 => 0
 | n + 1 => f ^ n * ((n + 1 : Nat) : Rat)

def Q4.d2 (f : Rat) : Nat -> Rat
 | 0 => 0
 | 1 => 0
 | n + 2 => f ^ n * (((n + 2) * (n + 1) : Nat) : Rat)

theorem Q4.d1_suc (f : Rat) (n : Nat) : d1 f (n + 1) = d1 f n * f + f ^ n := by
 cases n with
 | zero => simp [d1]; grind
 | succ n => simp only [d1, Rat.pow_succ]; push_cast; grind

theorem Q4.d2_suc (f : Rat) (n : Nat) : d2 f (n + 1) = d2 f n * f + 2 * d1 f n := by
 match n with
 | 0 => simp [d2, d1]; grind
 | 1 => simp [d2, d1]; grind
 | n + 2 => simp only [d2, d1, Rat.pow_succ]; push_cast; grind

theorem Q4.pow_eq (p : Q4) : ∀ n, pow p n = ⟨p.f ^ n, d1 p.f n * p.a, d1 p.f n * p.v, d2 p.f n * p.a * p.v + d1 p.f n * p.c⟩
 | 0 => by simp [pow, cst, d1, d2]; grind
 | n + 1 => by
  rw [pow, pow_eq p n]; simp only [mul]; refine ext' ?_ ?_ ?_ ?_
  . simp only [Rat.pow_succ]
  . simp only [d1_suc]; grind
  . simp only [d1_suc]; grind
  . simp only [d1_suc, d2_suc]; grind

structure Z4 where
 f : Int
 a : Int
 v : Int
 c : Int

def Z4.q (p : Z4) : Q4 := ⟨(p.f : Rat), (p.a : Rat), (p.v : Rat), (p.c : Rat)⟩

def Z4.n (p : Z4) : Nat := p.f.natAbs + p.a.natAbs + p.v.natAbs + p.c.natAbs

def Z4.add (p q : Z4) : Z4 := ⟨p.f + q.f, p.a + q.a, p.v + q.v, p.c + q.c⟩

def Z4.mul (p q : Z4) : Z4 := ⟨p.f * q.f, p.a * q.f + p.f * q.a, p.v * q.f + p.f * q.v, p.c * q.f + p.f * q.c + (p.a * q.v + p.v * q.a)⟩

theorem Z4.q_mul (p q : Z4) : (mul p q).q = Q4.mul p.q q.q := by
 refine Q4.ext' ?_ ?_ ?_ ?_ <;> simp only [Z4.q, mul, Q4.mul] <;> push_cast <;> rfl

theorem Z4.q_add (p q : Z4) : (add p q).q = Q4.add p.q q.q := by
 refine Q4.ext' ?_ ?_ ?_ ?_ <;> simp only [Z4.q, add, Q4.add] <;> push_cast <;> rfl

theorem Z4.n_add (p q : Z4) : (add p q).n <= p.n + q.n := by
 have h1 := YT p.f q.f; have h2 := YT p.a q.a; have h3 := YT p.v q.v; have h4 := YT p.c q.c; simp only [n, add]; omega

theorem Z4.n_mul (p q : Z4) : (mul p q).n <= p.n * q.n := by
 have h2 := YT (p.a * q.f) (p.f * q.a); have h3 := YT (p.v * q.f) (p.f * q.v); have h4 := YT (p.c * q.f + p.f * q.c) (p.a * q.v + p.v * q.a); have h5 := YT (p.c * q.f) (p.f * q.c); have h6 := YT (p.a * q.v) (p.v * q.a); simp only [n, mul, YG, Nat.mul_add, Int.natAbs_mul] at *; generalize p.f.natAbs * q.f.natAbs = x1 at *; generalize p.a.natAbs * q.f.natAbs = x2 at *; generalize p.f.natAbs * q.a.natAbs = x3 at *; generalize p.v.natAbs * q.f.natAbs = x4 at *; generalize p.f.natAbs * q.v.natAbs = x5 at *; generalize p.c.natAbs * q.f.natAbs = x6 at *; generalize p.f.natAbs * q.c.natAbs = x7 at *; generalize p.a.natAbs * q.v.natAbs = x8 at *; generalize p.v.natAbs * q.a.natAbs = x9 at *; omega

def Dz (q : Q4) (M : Nat) : Prop := ∃ P Q : Z4, Q.f ≠ 0 /\ Q4.mul q Q.q = P.q /\ P.n <= M /\ Q.n <= M

theorem Dz.mono {q : Q4} {M N : Nat} (h : Dz q M) (hN : M <= N) : Dz q N := by
 obtain ⟨P, Q, h1, h2, h3, h4⟩ := h; exact ⟨P, Q, h1, h2, ZK h3 hN, ZK h4 hN⟩

theorem Q4.mul_comm (p q : Q4) : mul p q = mul q p := by
 refine ext' ?_ ?_ ?_ ?_ <;> simp only [mul] <;> grind

theorem Q4.mul_assoc (p q r : Q4) : mul (mul p q) r = mul p (mul q r) := by
 refine ext' ?_ ?_ ?_ ?_ <;> simp only [mul] <;> grind

theorem Q4.add_mul (p q r : Q4) : mul (add p q) r = add (mul p r) (mul q r) := by
 refine ext' ?_ ?_ ?_ ?_ <;> simp only [mul, add] <;> grind

theorem Q4.neg_mul (p r : Q4) : mul (neg p) r = neg (mul p r) := by
 refine ext' ?_ ?_ ?_ ?_ <;> simp only [mul, neg] <;> grind

theorem Q4.inv_mul (p : Q4) (h : p.f ≠ 0) : mul (inv p) p = cst 1 := by
 have h1 : 1 / p.f * p.f = 1 := by grind
 generalize hr : 1 / p.f = r at h1; refine ext' ?_ ?_ ?_ ?_ <;> simp only [mul, inv, cst, hr] <;> grind

theorem Q4.one_mul (p : Q4) : mul (cst 1) p = p := by
 refine ext' ?_ ?_ ?_ ?_ <;> simp only [mul, cst] <;> grind

theorem Q4.mul4 (p q r s : Q4) : mul (mul p q) (mul r s) = mul (mul p r) (mul q s) := by
 rw [mul_assoc, <- mul_assoc q, mul_comm q r, mul_assoc r, <- mul_assoc]

theorem Abh {a b : Int} (ha : a ≠ 0) (hb : b ≠ 0) : a * b ≠ 0 := by
 intro h; rcases Int.mul_eq_zero.1 h with h | h
 . exact ha h
 . exact hb h

theorem Dz.mul {p q : Q4} {M N : Nat} (hp : Dz p M) (hq : Dz q N) : Dz (Q4.mul p q) (M * N) := by
 obtain ⟨P, Q, h1, h2, h3, h4⟩ := hp; obtain ⟨R, S, g1, g2, g3, g4⟩ := hq; refine ⟨Z4.mul P R, Z4.mul Q S, Abh h1 g1, ?_, ZK (Z4.n_mul _ _) (KH h3 g3), ZK (Z4.n_mul _ _) (KH h4 g4)⟩; rw [Z4.q_mul, Z4.q_mul, Q4.mul4, h2, g2]

theorem Dz.add {p q : Q4} {M N : Nat} (hp : Dz p M) (hq : Dz q N) : Dz (Q4.add p q) (2 * (M * N)) := by
 obtain ⟨P, Q, h1, h2, h3, h4⟩ := hp; obtain ⟨R, S, g1, g2, g3, g4⟩ := hq; have e1 := KH h3 g4; have e2 := KH h4 g3; have e3 := KH h4 g4; have n1 := Z4.n_mul P S; have n2 := Z4.n_mul R Q; have n3 := Z4.n_mul Q S; have n4 := Z4.n_add (Z4.mul P S) (Z4.mul R Q); rw [KN R.n] at n2
 refine ⟨Z4.add (Z4.mul P S) (Z4.mul R Q), Z4.mul Q S, Abh h1 g1, ?_, by omega, by omega⟩
 rw [Z4.q_add, Z4.q_mul, Z4.q_mul, Z4.q_mul, Q4.add_mul, <- h2, <- g2, Q4.mul_assoc, Q4.mul_assoc, Q4.mul_comm Q.q S.q]

theorem Dz.neg {p : Q4} {M : Nat} (hp : Dz p M) : Dz (Q4.neg p) M := by
 obtain ⟨P, Q, h1, h2, h3, h4⟩ := hp
 refine ⟨⟨-P.f, -P.a, -P.v, -P.c⟩, Q, h1, ?_, by simpa [Z4.n] using h3, h4⟩
 rw [Q4.neg_mul, h2]; refine Q4.ext' ?_ ?_ ?_ ?_ <;> simp only [Q4.neg, Z4.q] <;> push_cast <;> rfl

theorem Dz.inv {p : Q4} {M : Nat} (hp : Dz p M) (h0 : p.f ≠ 0) : Dz (Q4.inv p) M := by
 obtain ⟨P, Q, h1, h2, h3, h4⟩ := hp; refine ⟨Q, P, ?_, ?_, h4, h3⟩
 . have : p.f * (Q.f : Rat) = (P.f : Rat) := XU Q4.f h2; intro h; rw [h] at this
   have hq : (Q.f : Rat) ≠ 0 := by simpa using h1
   grind
 . rw [<- h2, <- Q4.mul_assoc, Q4.inv_mul p h0, Q4.one_mul]

theorem Dz.one : Dz (Q4.cst 1) 1 := ⟨⟨1, 0, 0, 0⟩, ⟨1, 0, 0, 0⟩, by decide, by
 refine Q4.ext' ?_ ?_ ?_ ?_ <;> simp only [Q4.mul, Q4.cst, Z4.q] <;> simp [Rat.add_zero], by decide, by decide⟩

theorem Dz.cst (k : Int) : Dz (Q4.cst (k : Rat)) (max k.natAbs 1) := ⟨⟨k, 0, 0, 0⟩, ⟨1, 0, 0, 0⟩, by simp, by
 refine Q4.ext' ?_ ?_ ?_ ?_ <;> simp only [Q4.mul, Q4.cst, Z4.q] <;> simp [Rat.add_zero], by simp [Z4.n]; omega, by simp [Z4.n]; omega⟩

theorem Dz.pow {p : Q4} {M : Nat} (hp : Dz p M) : ∀ n, Dz (Q4.pow p n) (M ^ n)
 | 0 => by simpa [Q4.pow] using Dz.one
 | n + 1 => by simpa only [Q4.pow, KL] using (Dz.pow hp n).mul hp

def Hb (x : Rat) (B : Nat) : Prop := x.num.natAbs <= B /\ x.den <= B

theorem Hb.mono {x : Rat} {B C : Nat} (h : Hb x B) (hC : B <= C) : Hb x C := ⟨ZK h.1 hC, ZK h.2 hC⟩

theorem Ab0 (x : Rat) : x * ((x.den : Int) : Rat) = (x.num : Rat) := by
 have h1 : mkRat x.num x.den = x := Rat.mkRat_self x; rw [Rat.mkRat_eq_div] at h1
 have h2 : ((x.den : Int) : Rat) ≠ 0 := by have := x.den_nz; simpa using this
 rw [Rat.intCast_natCast] at h2 ⊢; generalize (x.den : Rat) = d at *; grind

theorem Dz.var {x w : Rat} {δ : Int} {A B C D : Nat} (hx : x.num.natAbs <= A) (hxd : x.den <= B) (hw : w.num.natAbs <= C) (hwd : w.den <= D) (hδ : δ.natAbs <= 1) : Dz ⟨x, (δ : Rat), w, 0⟩ (A * D + B * D + C * B) := by
 have h1 := Ab0 x; have h2 := Ab0 w; have e1 := KH hx hwd; have e2 := KH hxd hwd; have e3 := KH hw hxd; have e4 : δ.natAbs * (x.den * w.den) <= 1 * (x.den * w.den) := XQ _ hδ
 refine ⟨⟨x.num * w.den, δ * (x.den * w.den), w.num * x.den, 0⟩, ⟨(x.den : Int) * w.den, 0, 0, 0⟩, Abh (by have := x.den_nz; omega) (by have := w.den_nz; omega), ?_, ?_, ?_⟩
 . refine Q4.ext' ?_ ?_ ?_ ?_ <;> simp only [Q4.mul, Z4.q] <;> simp only [Rat.intCast_mul, <- h1, <- h2] <;> grind
 . simp only [Z4.n, Int.natAbs_mul, KG]; have : ((0 : Int).natAbs) = 0 := rfl; omega
 . simp only [Z4.n, Int.natAbs_mul, KG]; have : ((0 : Int).natAbs) = 0 := rfl; omega

abbrev Nd := Int × Int × Int × Int

def Bn (x u w : Nat -> Rat) (l : List Q4) (n : Nd) : Q4 :=
 if n.1 = 1 then Q4.cst (n.2.2.2 : Rat)
 else if n.1 = 2 then ⟨x n.2.2.2.toNat, u n.2.2.2.toNat, w n.2.2.2.toNat, 0⟩
 else if n.1 = 3 then Q4.add (l.getD n.2.1.toNat (Q4.cst 0)) (l.getD n.2.2.1.toNat (Q4.cst 0))
 else if n.1 = 4 then Q4.add (l.getD n.2.1.toNat (Q4.cst 0)) (Q4.neg (l.getD n.2.2.1.toNat (Q4.cst 0)))
 else if n.1 = 5 then Q4.mul (l.getD n.2.1.toNat (Q4.cst 0)) (l.getD n.2.2.1.toNat (Q4.cst 0))
 else if n.1 = 6 then Q4.mul (l.getD n.2.1.toNat (Q4.cst 0)) (Q4.inv (l.getD n.2.2.1.toNat (Q4.cst 0)))
 else if n.1 = 7 then Q4.neg (l.getD n.2.1.toNat (Q4.cst 0))
 else Q4.pow (l.getD n.2.1.toNat (Q4.cst 0)) n.2.2.2.toNat

def evs (x u w : Nat -> Rat) : List Nd -> List Q4 -> List Q4
 | [], l => l
 | n :: r, l => evs x u w r (l ++ [Bn x u w l n])

theorem A6n (x u w : Nat -> Rat) : ∀ (ns : List Nd) (l : List Q4), (evs x u w ns l).length = l.length + ns.length
 | [], l => by simp [evs]
 | n :: r, l => by rw [evs, A6n x u w r]; simp; omega

structure Fv {ι : Type} (x : Nat -> Rat) (u w : ι -> Nat -> Rat) (R : (ι -> Q4) -> Prop) : Prop where
 cst : ∀ k : Rat, R fun _ => Q4.cst k
 var : ∀ n, R fun i => ⟨x n, u i n, w i n, 0⟩
 add : ∀ {p q : ι -> Q4}, R p -> R q -> R fun i => Q4.add (p i) (q i)
 neg : ∀ {p : ι -> Q4}, R p -> R fun i => Q4.neg (p i)
 mul : ∀ {p q : ι -> Q4}, R p -> R q -> R fun i => Q4.mul (p i) (q i)
 inv : ∀ {p : ι -> Q4}, R p -> R fun i => Q4.inv (p i)

theorem Fv.pow {ι : Type} {x : Nat -> Rat} {u w : ι -> Nat -> Rat} {R : (ι -> Q4) -> Prop} (h : Fv x u w R) {p : ι -> Q4} (hp : R p) : ∀ n, R fun i => Q4.pow (p i) n
 | 0 => h.cst 1
 | n + 1 => h.mul (h.pow hp n) hp

theorem Fv.of {ι : Type} {x : Nat -> Rat} {u w : ι -> Nat -> Rat} {R : (ι -> Q4) -> Prop} (h : Fv x u w R) {l : ι -> List Q4} (hl : ∀ k, R fun i => (l i).getD k (Q4.cst 0)) (n : Nd) : R fun i => Bn x (u i) (w i) (l i) n := by
 unfold Bn; by_cases h1 : n.1 = 1
 . simp only [QL h1]; exact h.cst _
 by_cases h2 : n.1 = 2
 . simp only [QJ h1, QL h2]; exact h.var _
 by_cases h3 : n.1 = 3
 . simp only [QJ h1, QJ h2, QL h3]; exact h.add (hl _) (hl _)
 by_cases h4 : n.1 = 4
 . simp only [QJ h1, QJ h2, QJ h3, QL h4]; exact h.add (hl _) (h.neg (hl _))
 by_cases h5 : n.1 = 5
 . simp only [QJ h1, QJ h2, QJ h3, QJ h4, QL h5]; exact h.mul (hl _) (hl _)
 by_cases h6 : n.1 = 6
 . simp only [QJ h1, QJ h2, QJ h3, QJ h4, QJ h5, QL h6]; exact h.mul (hl _) (h.inv (hl _))
 by_cases h7 : n.1 = 7
 . simp only [QJ h1, QJ h2, QJ h3, QJ h4, QJ h5, QJ h6, QL h7]; exact h.neg (hl _)
 . simp only [QJ h1, QJ h2, QJ h3, QJ h4, QJ h5, QJ h6, QJ h7]; exact h.pow (hl _) _

theorem Fv.evs {ι : Type} {x : Nat -> Rat} {u w : ι -> Nat -> Rat} {R : (ι -> Q4) -> Prop} (h : Fv x u w R) : ∀ (ns : List Nd) {l : ι -> List Q4} {N : Nat}, (∀ i, (l i).length = N) -> (∀ k, R fun i => (l i).getD k (Q4.cst 0)) -> ∀ k, R fun i => (evs x (u i) (w i) ns (l i)).getD k (Q4.cst 0)
 | [], l, N, _, hl, k => hl k
 | n :: r, l, N, hN, hl, k => by
  simp only [Go.Ev.evs]
  refine h.evs r (N := N + 1) (fun i => by simp [hN i]) (fun k => ?_) k
  rcases JH k N with hk | hk | hk
  . have e : (fun i => (l i ++ [Bn x (u i) (w i) (l i) n]).getD k (Q4.cst 0)) = fun i => (l i).getD k (Q4.cst 0) := by
     funext i
     simp only [QH, QZ (show k < (l i).length by rw [hN i]; exact hk)]
    rw [e]; exact hl k
  . have e : (fun i => (l i ++ [Bn x (u i) (w i) (l i) n]).getD k (Q4.cst 0)) = fun i => Bn x (u i) (w i) (l i) n := by
     funext i
     rw [QH, QY (by rw [hN i]; omega), hN i, hk]; simp
    rw [e]; exact h.of hl n
  . have e : (fun i => (l i ++ [Bn x (u i) (w i) (l i) n]).getD k (Q4.cst 0)) = fun _ => Q4.cst 0 := by
     funext i
     rw [QH, YV (by simp [hN i]; omega)]; rfl
    rw [e]; exact h.cst 0

theorem Fv.run {ι : Type} {x : Nat -> Rat} {u w : ι -> Nat -> Rat} {R : (ι -> Q4) -> Prop} (h : Fv x u w R) (ns : List Nd) (k : Nat) : R fun i => (Go.Ev.evs x (u i) (w i) ns []).getD k (Q4.cst 0) :=
 h.evs ns (N := 0) (fun _ => rfl) (fun k => by simpa using h.cst 0) k

def Jb (l : List Q4) (n : Nd) : Prop := n.1 = 6 /\ (l.getD n.2.2.1.toNat (Q4.cst 0)).f = 0

instance (l : List Q4) (n : Nd) : Decidable (Jb l n) := by unfold Jb; infer_instance

def Dy (fit : Q4 -> Bool) (x u w : Nat -> Rat) : List Nd -> List Q4 -> List Q4 ⊕ Int
 | [], l => .inl l
 | n :: r, l => if Jb l n then .inr 10 else if fit (Bn x u w l n) = true then Dy fit x u w r (l ++ [Bn x u w l n]) else .inr 7

theorem Xf {fit : Q4 -> Bool} {x u w : Nat -> Rat} : ∀ (ns : List Nd) (l l' : List Q4), (∀ k, k < l.length -> fit (l.getD k (Q4.cst 0)) = true) -> Dy fit x u w ns l = .inl l' -> (∀ k, k < l'.length -> fit (l'.getD k (Q4.cst 0)) = true) /\ l' = evs x u w ns l
 | [], l, l', h, e => by obtain rfl := Sum.inl.inj e; exact ⟨h, rfl⟩
 | n :: r, l, l', h, e => by
  simp only [Dy] at e; by_cases hb : Jb l n
  . rw [QL hb] at e; cases e
  . rw [QJ hb] at e; by_cases hf : fit (Bn x u w l n) = true
    . rw [QL hf] at e; refine Xf r _ l' (fun k hk => ?_) e; simp only [ZW, QU, ZG] at hk; rcases XL k l.length with h1 | h1
      . rw [QH, QZ h1, <- QH]; exact h k h1
      . obtain rfl : k = l.length := by omega
        rw [QH, QY (ZA _)]; simpa using hf
    . rw [QJ hf] at e; cases e

theorem A21 {fit : Q4 -> Bool} {x u w : Nat -> Rat} : ∀ (ns : List Nd) (l : List Q4) (c : Int), Dy fit x u w ns l = .inr c -> c = 7 \/ c = 10
 | [], l, c, e => by cases e
 | n :: r, l, c, e => by
  simp only [Dy] at e; by_cases hb : Jb l n
  . rw [QL hb] at e; exact .inr (Sum.inr.inj e).symm
  . rw [QJ hb] at e; by_cases hf : fit (Bn x u w l n) = true
    . rw [QL hf] at e; exact A21 r _ c e
    . rw [QJ hf] at e; exact .inl (Sum.inr.inj e).symm

theorem Aik {x : Nat -> Rat} {u w : Bool -> Nat -> Rat} {R : (Bool -> Q4) -> Prop} (h : Fv x u w R) {f g : Q4 -> Bool} (hfg : ∀ p, R p -> f (p true) = g (p false)) (hv : ∀ p, R p -> (p true).f = (p false).f) :
  ∀ (ns : List Nd) (l m : List Q4), l.length = m.length -> (∀ k, R fun b => bif b then l.getD k (Q4.cst 0) else m.getD k (Q4.cst 0)) ->
   (∃ c, Dy f x (u true) (w true) ns l = .inr c /\ Dy g x (u false) (w false) ns m = .inr c) \/
   ∃ l' m', Dy f x (u true) (w true) ns l = .inl l' /\ Dy g x (u false) (w false) ns m = .inl m' /\ l'.length = l.length + ns.length /\ m'.length = l.length + ns.length /\ ∀ k, R fun b => bif b then l'.getD k (Q4.cst 0) else m'.getD k (Q4.cst 0)
 | [], l, m, hl, hk => .inr ⟨l, m, rfl, rfl, by simp, by simp [hl], hk⟩
 | n :: r, l, m, hl, hk => by
  simp only [Dy]
  have hb : Jb l n ↔ Jb m n := by
   unfold Jb; have := hv _ (hk n.2.2.1.toNat); simp only [ZM, QX] at this; rw [this]
  have hr := h.of (l := fun b => bif b then l else m) (fun k => by
   have := hk k
   have e : (fun i => ((fun b => bif b then l else m) i).getD k (Q4.cst 0)) = fun b => bif b then l.getD k (Q4.cst 0) else m.getD k (Q4.cst 0) := by funext b; cases b <;> rfl
   rw [e]; exact this) n
  have hq := hfg _ hr; simp only [ZM, QX] at hq; by_cases h1 : Jb l n
  . rw [QL h1, QL (hb.1 h1)]; exact .inl ⟨10, rfl, rfl⟩
  . rw [QJ h1, QJ (fun q => h1 (hb.2 q))]; by_cases h2 : f (Bn x (u true) (w true) l n) = true
    . rw [QL h2, QL (by rw [<- hq]; exact h2)]
      have := Aik h hfg hv r (l ++ [Bn x (u true) (w true) l n]) (m ++ [Bn x (u false) (w false) m n]) (by simp [hl]) (fun k => by
       rcases JH k l.length with hkl | hkl | hkl
       . have e1 : (l ++ [Bn x (u true) (w true) l n]).getD k (Q4.cst 0) = l.getD k (Q4.cst 0) := by simp only [QH, QZ hkl]
         have e2 : (m ++ [Bn x (u false) (w false) m n]).getD k (Q4.cst 0) = m.getD k (Q4.cst 0) := by simp only [QH, QZ (show k < m.length by omega)]
         rw [e1, e2]; exact hk k
       . have e1 : (l ++ [Bn x (u true) (w true) l n]).getD k (Q4.cst 0) = Bn x (u true) (w true) l n := by rw [QH, QY (by omega), hkl]; simp
         have e2 : (m ++ [Bn x (u false) (w false) m n]).getD k (Q4.cst 0) = Bn x (u false) (w false) m n := by rw [QH, QY (by omega), hkl, hl]; simp
         rw [e1, e2]
         have e : (fun i => Bn x (u i) (w i) ((fun b => bif b then l else m) i) n) = fun b => bif b then Bn x (u true) (w true) l n else Bn x (u false) (w false) m n := by funext b; cases b <;> rfl
         rw [<- e]; exact hr
       . have e1 : (l ++ [Bn x (u true) (w true) l n]).getD k (Q4.cst 0) = Q4.cst 0 := by rw [QH, YV (by simp; omega)]; rfl
         have e2 : (m ++ [Bn x (u false) (w false) m n]).getD k (Q4.cst 0) = Q4.cst 0 := by rw [QH, YV (by simp; omega)]; rfl
         rw [e1, e2]
         have e : (fun b : Bool => bif b then Q4.cst 0 else Q4.cst 0) = fun _ => Q4.cst 0 := by funext b; cases b <;> rfl
         rw [e]; exact h.cst 0)
      rcases this with h3 | ⟨l', m', a1, a2, a3, a4, a5⟩
      . exact .inl h3
      . exact .inr ⟨l', m', a1, a2, by rw [a3]; simp; omega, by rw [a4]; simp; omega, a5⟩
    . rw [QJ h2, QJ (by rw [<- hq]; exact h2)]; exact .inl ⟨7, rfl, rfl⟩

theorem Awe {x : Nat -> Rat} {u w : Bool -> Nat -> Rat} {R : (Bool -> Q4) -> Prop} (h : Fv x u w R) {f g : Q4 -> Bool} (hfg : ∀ p, R p -> f (p true) = g (p false)) (hv : ∀ p, R p -> (p true).f = (p false).f) (ns : List Nd) :
  (∃ c, Dy f x (u true) (w true) ns [] = .inr c /\ Dy g x (u false) (w false) ns [] = .inr c) \/
  ∃ l' m', Dy f x (u true) (w true) ns [] = .inl l' /\ Dy g x (u false) (w false) ns [] = .inl m' /\ l'.length = ns.length /\ m'.length = ns.length /\ ∀ k, R fun b => bif b then l'.getD k (Q4.cst 0) else m'.getD k (Q4.cst 0) := by
 have := Aik h hfg hv ns [] [] rfl (fun k => by
  have e : (fun b : Bool => bif b then ([] : List Q4).getD k (Q4.cst 0) else ([] : List Q4).getD k (Q4.cst 0)) = fun _ => Q4.cst 0 := by funext b; cases b <;> simp
  rw [e]; exact h.cst 0)
 simpa using this

theorem Ay9 (x : Nat -> Rat) : Fv x (fun _ : Bool => fun _ => 0) (fun _ : Bool => fun _ => 0) (fun p => (p true).f = (p false).f /\ ((p true).a = 0 /\ (p true).v = 0 /\ (p true).c = 0) /\ (p false).v = 0) := by
 refine ⟨fun _ => ⟨rfl, ⟨rfl, rfl, rfl⟩, rfl⟩, fun _ => ⟨rfl, ⟨rfl, rfl, rfl⟩, rfl⟩, ?_, ?_, ?_, ?_⟩
 . rintro p q ⟨h1, ⟨h2, h3, h4⟩, h5⟩ ⟨g1, ⟨g2, g3, g4⟩, g5⟩
   simp only [Q4.add, h1, h2, h3, h4, h5, g1, g2, g3, g4, g5]
   exact ⟨trivial, ⟨by grind, by grind, by grind⟩, by grind⟩
 . rintro p ⟨h1, ⟨h2, h3, h4⟩, h5⟩
   simp only [Q4.neg, h1, h2, h3, h4, h5]
   exact ⟨trivial, ⟨by grind, by grind, by grind⟩, by grind⟩
 . rintro p q ⟨h1, ⟨h2, h3, h4⟩, h5⟩ ⟨g1, ⟨g2, g3, g4⟩, g5⟩
   simp only [Q4.mul, h1, h2, h3, h4, h5, g1, g2, g3, g4, g5]
   exact ⟨trivial, ⟨by grind, by grind, by grind⟩, by grind⟩
 . rintro p ⟨h1, ⟨h2, h3, h4⟩, h5⟩
   simp only [Q4.inv, h1, h2, h3, h4, h5]
   exact ⟨trivial, ⟨by grind, by grind, by grind⟩, by grind⟩

def B2h (n : Nd) : Bool := decide (n.1 = 3) || decide (n.1 = 4) || decide (n.1 = 5) || decide (n.1 = 6)

def B8w (n : Nd) : Bool := decide (n.1 = 7) || decide (n.1 = 8)

def B9f (n : Nd) (k : Nat) : Prop := (1 <= n.1 /\ n.1 <= 8) /\ (B2h n = true \/ B8w n = true -> n.2.1.toNat < k) /\ (B2h n = true -> n.2.2.1.toNat < k)

theorem iPl {n L K : Nat} {x y : Rat} (hx : Sz x L) (hy : Sz y K) (hL : L + K <= 1000000000) (hn : 68719476736 <= n) : f161 n (rq x) (rq y) = some (rq (x + y)) := B30 (L := L + K) (hx.mono (by omega)) (hy.mono (by omega)) (by omega) (by omega)

theorem Sw {n L K : Nat} {x y : Rat} (hx : Sz x L) (hy : Sz y K) (hL : L + K <= 1000000000) (hn : 68719476736 <= n) : f178 n (rq x) (rq y) = some (rq (x * y)) := Aym (L := L + K) (hx.mono (by omega)) (hy.mono (by omega)) (by omega) (by omega)

theorem iOv {n L K : Nat} {x y : Rat} (hx : Sz x L) (hy : Sz y K) (h0 : y ≠ 0) (hL : L + K <= 1000000000) (hn : 68719476736 <= n) : f223 n (rq x) (rq y) = some (rq (x / y)) := B31 (L := L + K) (hx.mono (by omega)) (hy.mono (by omega)) h0 (by omega) (by omega)

theorem iNg {n L : Nat} {x : Rat} (hx : Sz x L) (hL : L <= 1000000000) : f206 n (rq x) = some (rq (-x)) := B7g hx (by omega)

theorem sPl {n L K : Nat} {x y : Rat} (hx : Sz x L) (hy : Sz y K) (hL : L + K <= 1000000000) (hn : 68719476736 <= n) : f148 n (rq x) (rq y) = some (rq (x + y)) := Amv (L := L + K) (hx.mono (by omega)) (hy.mono (by omega)) (by omega) (by omega)

theorem Jr {n L K : Nat} {x y : Rat} (hx : Sz x L) (hy : Sz y K) (hL : L + K <= 1000000000) (hn : 68719476736 <= n) : f150 n (rq x) (rq y) = some (rq (x * y)) := Ay3 (L := L + K) (hx.mono (by omega)) (hy.mono (by omega)) (by omega) (by omega)

theorem sOv {n L K : Nat} {x y : Rat} (hx : Sz x L) (hy : Sz y K) (h0 : y ≠ 0) (hL : L + K <= 1000000000) (hn : 68719476736 <= n) : f151 n (rq x) (rq y) = some (rq (x / y)) := B2m (L := L + K) (hx.mono (by omega)) (hy.mono (by omega)) h0 (by omega) (by omega)

theorem sLs {n L K : Nat} {x y : Rat} (hx : Sz x L) (hy : Sz y K) (hL : L + K <= 1000000000) (hn : 68719476736 <= n) : f149 n (rq x) (rq y) = some (rq (x - y)) := B2n (L := L + K) (hx.mono (by omega)) (hy.mono (by omega)) (by omega) (by omega)

theorem Ft {a : Int} (h : a.natAbs <= 1000000000) : Sz (a : Rat) 3 := by
 unfold Sz; rw [Rat.num_intCast, Rat.den_intCast]
 exact ⟨Jy (by omega), Jy (by omega)⟩

theorem iW {n : Nat} {a : Int} (h : a.natAbs <= 1000000000) (hn : 68719476736 <= n) : f126 n a = some (rq (a : Rat)) := by
 unfold f126; rw [QI, Amz]; by_cases h0 : a < 0
 . rw [QL h0, Ac (by omega) (by omega), show (0 - a : Int) = ((a.natAbs : Nat) : Int) by omega, A6a (by omega) (by omega), A2, show f180 n = some [1] from rfl, A2, ZN h0, I5]
 . rw [QJ h0]
   conv => lhs; rw [show a = ((a.natAbs : Nat) : Int) by omega]
   rw [A6a (by omega) (by omega), A2, show f180 n = some [1] from rfl, A2, ZC h0, I5]

theorem iW0 {n : Nat} (hn : 68719476736 <= n) : f126 n 0 = some (rq 0) := iW (a := 0) (by omega) hn

theorem iW1 {n : Nat} (hn : 68719476736 <= n) : f126 n 1 = some (rq 1) := iW (a := 1) (by omega) hn

theorem iW2 {n : Nat} (hn : 68719476736 <= n) : f126 n 2 = some (rq 2) := iW (a := 2) (by omega) hn

theorem iWm {n : Nat} (hn : 68719476736 <= n) : f126 n (-1) = some (rq (-1)) := iW (a := -1) (by omega) hn

theorem Ay1 (a : Int) (i : Nat) : (!(decide (a ^ i < 0) == decide (a < 0))) = decide (a ^ (i + 1) < 0) := by
 rw [Int.pow_succ]; by_cases h0 : a = 0
 . subst h0
   have : ¬ (0 : Int) ^ i < 0 := by cases i with | zero => decide | succ i => rw [Int.pow_succ, Qaa]; decide
   rw [Qaa, ZC this]; rfl
 . have hp : a ^ i ≠ 0 := Int.pow_ne_zero h0; generalize a ^ i = p at hp; rcases Int.lt_trichotomy p 0 with ha | ha | ha <;> rcases Int.lt_trichotomy a 0 with hb | hb | hb
   . have := Int.mul_pos_of_neg_of_neg ha hb
     rw [ZN ha, ZN hb, ZC (by omega)]; rfl
   . exact absurd hb h0
   . have := Int.mul_neg_of_neg_of_pos ha hb
     rw [ZN ha, ZC (by omega), ZN this]; rfl
   . exact absurd ha hp
   . exact absurd ha hp
   . exact absurd ha hp
   . have := Int.mul_neg_of_pos_of_neg ha hb
     rw [ZC (show ¬ p < 0 by omega), ZN hb, ZN this]; rfl
   . exact absurd hb h0
   . have := Int.mul_pos ha hb
     rw [ZC (show ¬ p < 0 by omega), ZC (show ¬ a < 0 by omega), ZC (by omega)]; rfl

theorem O9 (a L : Nat) (h : (dg a).length <= L) : ∀ i, (dg (a ^ i)).length <= L * i + 1
 | 0 => by rw [Nat.pow_zero]; exact ZK (A4y (by decide)) (by omega)
 | i + 1 => by
  have h1 := B7 (a ^ i) a; have h2 := O9 a L h i; rw [KL, Nat.mul_succ]; omega

theorem Abc {α : Type} {n L k : Nat} {x : Rat} (hx : Sz x L) (hL : L <= 10000000) (hk : k <= 10) (hn : 68719476736 <= n) {k0 : Bool -> Bool -> List Int -> List Int -> Option α} : ∀ (m i : Nat), i <= k -> k < i + m ->
  Oo n m (k : Int) (i : Int) (rq x).1 (rq x).2.1 (rq x).2.2 false (decide (x.num ^ i < 0)) (dg (x.num.natAbs ^ i)) (dg (x.den ^ i)) k0 = k0 false (decide (x.num ^ k < 0)) (dg (x.num.natAbs ^ k)) (dg (x.den ^ k))
 | 0, i, hi, hm => by omega
 | m + 1, i, hi, hm => by
  rw [Aqj]; unfold A0i; rw [QI]; by_cases h : i < k
  . have l1 := O9 x.num.natAbs L hx.1 i; have l2 := O9 x.den L hx.2 i; have h1 := hx.1; have h2 := hx.2
    have h3 : L * i <= L * 10 := KC _ (by omega)
    rw [QL (by omega)]
    show ob (f200 n (dg (x.num.natAbs ^ i)) (dg x.num.natAbs)) _ = _
    rw [Kq (by omega) (by omega), A2]
    show ob (f200 n (dg (x.den ^ i)) (dg x.den)) _ = _
    rw [Kq (by omega) (by omega), A2, Ac (x := (i : Int) + 1) (by omega) (by omega), <- KL, <- KL]
    show Oo n m (k : Int) ((i + 1 : Nat) : Int) (rq x).1 (rq x).2.1 (rq x).2.2 false (!(decide (x.num ^ i < 0) == decide (x.num < 0))) _ _ k0 = _; rw [Ay1]
    exact Abc hx hL hk hn m (i + 1) (by omega) (by omega)
  . obtain rfl : i = k := by omega
    rw [QJ (by omega)]

theorem Abv {n L k : Nat} {x : Rat} (hx : Sz x L) (hL : L <= 10000000) (hk : k <= 10) (hn : 68719476736 <= n) : f197 n (rq x) (k : Int) = some (rq (x ^ k)) := by
 unfold f197; rw [iW1 hn, A2]
 have h1 := Abc (n := n) hx hL hk hn (k0 := fun z_4 z_5 z_6 z_7 => (
   bif z_5 then
    ob (f195 n (z_5, z_6, z_7)) fun r_8 =>
    ob (f195 n ((!r_8), z_6, z_7)) fun r_9 =>
    bif r_9 then
     ob (f180 n) fun r_10 =>
     some ((!r_8), z_6, r_10)
    else
     some ((!r_8), z_6, z_7)
   else
    ob (f195 n (false, z_6, z_7)) fun r_11 =>
    bif r_11 then
     ob (f180 n) fun r_12 =>
     some (false, z_6, r_12)
    else
     some (false, z_6, z_7))) n 0 (by omega) (by omega)
 rw [Int.pow_zero, Nat.pow_zero, Nat.pow_zero, show decide ((1 : Int) < 0) = false from rfl, show ((0 : Nat) : Int) = 0 from rfl] at h1; rw [show rq 1 = (false, dg 1, dg 1) from Amy 1, h1]
 have f195e : ∀ (s : Bool) (a d : Nat), f195 n (s, dg a, dg d) = some (decide (a = 0)) := fun s a d => by
  unfold f195; dsimp only; rw [A42]
 have key : rq (x ^ k) = (decide (x.num ^ k < 0), dg (x.num.natAbs ^ k), dg (x.den ^ k)) := by
  unfold rq; rw [Rat.num_pow, Rat.den_pow, Int.natAbs_pow]
 have hz : x.num.natAbs ^ k = 0 -> x.den ^ k = 1 := fun h => by
  rcases YY k with h2 | h2
  . subst h2; rfl
  . have h3 : x.num.natAbs = 0 := (Nat.pow_eq_zero.1 h).1
    have : x = 0 := KQ.1 (by omega)
    rw [this]; exact Nat.one_pow k
 have hs : x.num.natAbs ^ k = 0 -> ¬ x.num ^ k < 0 := fun h => by rw [<- Int.natAbs_pow] at h; omega
 rw [key]; by_cases h2 : x.num ^ k < 0
 . rw [ZN h2, ZM, f195e, A2, f195e, A2]; have h3 : ¬ x.num.natAbs ^ k = 0 := fun h => hs h h2; rw [ZC h3]; rfl
 . rw [ZC h2, QX, f195e, A2]; by_cases h3 : x.num.natAbs ^ k = 0
   . rw [ZN h3, ZM, show f180 n = some [1] from rfl, A2, hz h3, I5]
   . rw [ZC h3]; rfl

abbrev Jn := Rt × List Rt × Unit × Rt

def jn (f v : Rat) : Jn := (rq f, [], (), rq v)

theorem B90 {n : Nat} (hn : 68719476736 <= n) : f100 n 0 = some [] := by
 obtain ⟨m, rfl⟩ : ∃ m, n = m + 1 := ⟨n - 1, by omega⟩
 rfl

theorem B7i {n : Nat} (hn : 68719476736 <= n) : Am4 n 0 = some [] := by
 obtain ⟨m, rfl⟩ : ∃ m, n = m + 1 := ⟨n - 1, by omega⟩
 rfl

theorem Aul {n : Nat} (hn : 68719476736 <= n) : f76 n [] = some ([], 0) := by
 have := B32 (n := n) (x := []) (by simp) (by omega)
 exact this

theorem A4f {x : Rat} {L : Nat} (h : Sz x L) (k : Nat) : Sz (x ^ k) (L * k + 1) := by
 unfold Sz; rw [Rat.num_pow, Rat.den_pow, Int.natAbs_pow]; exact ⟨O9 _ _ h.1 k, O9 _ _ h.2 k⟩

theorem B8j {x : Rat} {L k : Nat} (h : Sz x L) (hk : k <= 8) : Sz (Q4.d1 x k) (L * 8 + 5) := by
 cases k with
 | zero => exact Jd.mono (by omega)
 | succ k =>
  have h1 := Ao (A4f h k) (Ft (a := ((k + 1 : Nat) : Int)) (by omega))
  have : L * k <= L * 8 := KC _ (by omega)
  exact h1.mono (by omega)

def Ci (V : List Rat) (k : Nat) : Rat := V.getD k 0

theorem Auh {n : Nat} {f : Rat} (hn : 68719476736 <= n) : f190 n (0, ()) (rq f) = some (jn f 0) := by
 unfold f190; dsimp only; rw [B90 hn, A2, iW0 hn, A2]; rfl

theorem Ah6 {n L K : Nat} {f g v w : Rat} (hf : Sz f L) (hg : Sz g L) (hv : Sz v K) (hw : Sz w K) (hL : L <= 1000) (hK : K <= 100000000) (hn : 68719476736 <= n) : f192 n (jn f v) (jn g w) = some (jn (f + g) (v + w)) := by
 unfold f192 jn; dsimp only
 rw [iPl hf hg (by omega) hn, A2, iPl hv hw (by omega) hn, A2]; rfl

theorem Ax4 {n L K : Nat} {f v k : Rat} (hf : Sz f L) (hv : Sz v K) (hk : Sz k 10) (hL : L <= 1000) (hK : K <= 100000000) (hn : 68719476736 <= n) : f193 n (jn f v) (rq k) = some (jn (f * k) (v * k)) := by
 unfold f193 jn; dsimp only
 rw [Sw hf hk (by omega) hn, A2, Sw hv hk (by omega) hn, A2]; rfl

theorem Abs {n L K : Nat} {f g v w : Rat} (hf : Sz f L) (hg : Sz g L) (hv : Sz v K) (hw : Sz w K) (hL : L <= 1000) (hK : K <= 100000000) (hn : 68719476736 <= n) : f194 n (jn f v) (jn g w) = some (jn (f * g) (v * g + f * w)) := by
 unfold f194 jn; dsimp only
 rw [Sw hf hg (by omega) hn, A2, Sw hv hg (by omega) hn, A2, Sw hf hw (by omega) hn, A2, iPl (Ao hv hg) (Ao hf hw) (by omega) hn, A2]; rfl

theorem Abu {n L K : Nat} {f v g d : Rat} {e : Rt} (hd : Sz d L) (hv : Sz v K) (hL : L <= 100000) (hK : K <= 100000000) (hn : 68719476736 <= n) : f224 n (jn f v) (rq g) (rq d) e = some (jn g (d * v)) := by
 unfold f224 jn; dsimp only
 rw [Sw hd hv (by omega) hn, A2]; rfl

theorem B2y {n L K : Nat} {f v : Rat} (hf : Sz f L) (h0 : f ≠ 0) (hv : Sz v K) (hL : L <= 1000) (hK : K <= 100000000) (hn : 68719476736 <= n) : f196 n (jn f v) = some (jn (1 / f) (-(1 / f * (1 / f)) * v)) := by
 have h1 := A6z (Ft (a := 1) (by omega)) hf h0
 have h1 : Sz (1 / f) (3 + L + 1) := h1; have h2 := Ao h1 h1; have h3 := Ao h2 h1
 have t2 : f178 n (rq (1 / f * (1 / f) * (1 / f))) (rq 2) = some (rq (1 / f * (1 / f) * (1 / f) * 2)) := Sw h3 (Ft (a := 2) (by omega)) (by omega) hn
 unfold f196
 rw [iW1 hn, A2, show (jn f v).1 = rq f from rfl, iOv (A4g (L := 1) (by omega)) hf h0 (by omega) hn, A2, Sw h1 h1 (by omega) hn, A2, iNg h2 (by omega), A2, Sw h2 h1 (by omega) hn, A2, iW2 hn, A2, t2, A2]
 have := Abu (n := n) (f := f) (g := 1 / f) (e := rq (1 / f * (1 / f) * (1 / f) * 2)) (Gn h2) hv (by omega) hK hn
 have this : f224 n (rq f, (jn f v).2.1, (), (jn f v).2.2.2) (rq (1 / f)) (rq (-(1 / f * (1 / f)))) (rq (1 / f * (1 / f) * (1 / f) * 2)) = _ := this; rw [this, A2]

theorem Anu {n L k : Nat} {f : Rat} {v : Rat} (hf : Sz f L) (hL : L <= 1000) (hk : k <= 8) (hn : 68719476736 <= n) : f209 n (jn f v) (k : Int) = some (rq (Q4.d1 f k), rq (Q4.d2 f k)) := by
 unfold f209; rw [iW0 hn, A2, A2]; dsimp only; rw [show (jn f v).1 = rq f from rfl]
 match k with
 | 0 => rfl
 | 1 =>
  rw [show decide (((1 : Nat) : Int) >= 1) = true from rfl, ZM, show W (((1 : Nat) : Int) - 1) = ((0 : Nat) : Int) from rfl, Abv hf (by omega) (by omega) hn, A2, iW (by omega) hn, A2, Sw (A4f hf 0) (Ft (a := ((1 : Nat) : Int)) (by omega)) (by omega) hn, A2]
  rfl
 | k + 2 =>
  have h2 : (k + 2) * (k + 1) <= 8 * 8 := KH (by omega) (by omega)
  have l1 : L * (k + 1) <= L * 8 := KC _ (by omega)
  have l2 : L * k <= L * 8 := KC _ (by omega)
  rw [QI, QL (by omega), Ac (x := ((k + 2 : Nat) : Int) - 1) (by omega) (by omega), show ((k + 2 : Nat) : Int) - 1 = ((k + 1 : Nat) : Int) by omega, Abv hf (by omega) (by omega) hn, A2, iW (by omega) hn, A2,
   Sw (A4f hf (k + 1)) (Ft (a := ((k + 2 : Nat) : Int)) (by omega)) (by omega) hn, A2, QI, QL (by omega),
   Ac (x := ((k + 2 : Nat) : Int) - 2) (by omega) (by omega), show ((k + 2 : Nat) : Int) - 2 = ((k : Nat) : Int) by omega, Abv hf (by omega) (by omega) hn, A2, show ((k + 2 : Nat) : Int) * ((k + 1 : Nat) : Int) = (((k + 2) * (k + 1) : Nat) : Int) by rw [YC],
   Ac (x := (((k + 2) * (k + 1) : Nat) : Int)) (by omega) (by omega), iW (by rw [KG]; omega) hn, A2, Sw (A4f hf k) (Ft (a := (((k + 2) * (k + 1) : Nat) : Int)) (by rw [KG]; omega)) (by omega) hn, A2]
  rfl

theorem Auf {n L K k : Nat} {f v : Rat} (hf : Sz f L) (hv : Sz v K) (hL : L <= 1000) (hK : K <= 100000000) (hk : k <= 8) (hn : 68719476736 <= n) : f198 n (jn f v) (k : Int) = some (jn (f ^ k) (Q4.d1 f k * v)) := by
 unfold f198
 rw [Anu hf hL hk hn, A2, show (jn f v).1 = rq f from rfl, Abv hf (by omega) (by omega) hn, A2]
 have := Abu (n := n) (f := f) (g := f ^ k) (e := rq (Q4.d2 f k)) (B8j hf hk) hv (by omega) hK hn
 dsimp only; rw [this, A2]

theorem Ayh {n : Nat} {f v : Rat} (hn : 68719476736 <= n) : f167 n (jn f v) = some (C0 f && C0 v) := by
 unfold f167 jn; dsimp only; rw [Aul hn, A2, Ajm, A2, Ajm]
 cases C0 f <;> cases C0 v <;> rfl

theorem B2x {n : Nat} {f : Rat} {k : Int} {V : List Rat} (hk : 0 <= k /\ k < V.length) (hn : 68719476736 <= n) : f191 n (0, ()) (rq f) k = some (jn f 0) := by
 unfold f191 Ale; dsimp only
 rw [B7i hn, A2, iW0 hn, A2, A2, QI, QJ (by omega)]; rfl

def Am (q : Q4) : Jn := jn q.f q.v

theorem Abt {l : List Q4} {k : Nat} (h : k < l.length) : (l.map Am).getD k ((false, [], []), [], (), (false, [], [])) = Am (l.getD k (Q4.cst 0)) := by
 simp [QH, QN h]

structure Axv (l : List Q4) (K : Nat) : Prop where
 f : ∀ k, Sz (l.getD k (Q4.cst 0)).f 40
 v : ∀ k, Sz (l.getD k (Q4.cst 0)).v K

theorem Aug {n K : Nat} {X V : List Rat} {l : List Q4} {x : Nod} (hx : Dj x l.length) (hd : x.1 = 2 -> x.2.2.2 < X.length /\ x.2.2.2 < V.length) (hs : Axv l K) (hK : K <= 90000000) (hn : 68719476736 <= n) :
  Aaf n (0, ()) x (vq X) (l.map Am) = some ((if x.1 = 6 /\ (l.getD x.2.2.1.toNat (Q4.cst 0)).f = 0 then (((false, [], []), [], (), (false, [], [])), 10) else if x.1 = 8 /\ C0 ((l.getD x.2.1.toNat (Q4.cst 0)).f ^ x.2.2.2.toNat) = false then (((false, [], []), [], (), (false, [], [])), 7) else (Am (Bn (Ci X) (fun _ => 0) (fun _ => 0) l x), 0)), l.map Am) := by
 obtain ⟨op, A, B, N⟩ := x; obtain ⟨⟨o1, o2⟩, hN, hA, hB⟩ := hx; unfold Aaf; simp only [A6k, A2]; unfold Nr at hN; unfold Dm at hA hB ⊢; unfold Bn; dsimp only at *
 obtain rfl | rfl | rfl | rfl | rfl | rfl | rfl | rfl : op = 1 \/ op = 2 \/ op = 3 \/ op = 4 \/ op = 5 \/ op = 6 \/ op = 7 \/ op = 8 := by omega
 . simp only [Int.reduceEq, or_self, if_false, if_true, Int.reduceBEq, ZM, QX, Int.reduceLT, gt_iff_lt, decide_false, false_and] at *
   rw [iW (by omega) hn, A2, Auh  hn, A2]; rfl
 . simp only [Int.reduceEq, or_self, if_false, if_true, Int.reduceBEq, ZM, QX, Int.reduceLT, gt_iff_lt, decide_false, false_and] at *; have hd := hd trivial
   rw [Fd, A4 (by simp; omega), T6 (by omega), B2x (V := V) ⟨hN.1, hd.2⟩ hn, A2]; rfl
 all_goals simp only [Int.reduceEq, or_self, or_true, true_or, if_false, if_true, Int.reduceBEq, ZM, QX, Int.reduceLT, gt_iff_lt, decide_true, false_and, true_and] at *
 all_goals (have lA : A.toNat < l.length := by omega)
 all_goals (have lB : B.toNat < l.length := by omega)
 all_goals (rw [ZH, A4 (by simp; omega), A4 (by simp; omega), A4 (by simp; omega), A4 (by simp; omega), Abt lA])
 all_goals (try rw [Abt lB])
 all_goals (have a1 := hs.f A.toNat; have a2 := hs.v A.toNat; have b1 := hs.f B.toNat; have b2 := hs.v B.toNat)
 all_goals (generalize hP : l.getD A.toNat (Q4.cst 0) = P at a1 a2 ⊢; generalize hQ : l.getD B.toNat (Q4.cst 0) = Q at b1 b2 ⊢)
 . have e : f192 n (Am P) (Am Q) = _ := Ah6 a1 b1 a2 b2 (by omega) (by omega) hn
   have e : f192 n (((Am P).1.1, (Am P).1.2.1, (Am P).1.2.2), (Am P).2.1, (), (Am P).2.2.2.1, (Am P).2.2.2.2.1, (Am P).2.2.2.2.2) (((Am Q).1.1, (Am Q).1.2.1, (Am Q).1.2.2), (Am Q).2.1, (), (Am Q).2.2.2.1, (Am Q).2.2.2.2.1, (Am Q).2.2.2.2.2) = some _ := e; rw [e, A2]; rfl
 . have e : f193 n (Am Q) (rq (-1)) = _ := Ax4 b1 b2 (Ft (a := -1) (by omega) |>.mono (by omega)) (by omega) (by omega) hn
   have e : f193 n (((Am Q).1.1, (Am Q).1.2.1, (Am Q).1.2.2), (Am Q).2.1, (), (Am Q).2.2.2.1, (Am Q).2.2.2.2.1, (Am Q).2.2.2.2.2) (rq (-1)) = some _ := e
   have e2 : f192 n (Am P) (jn (Q.f * -1) (Q.v * -1)) = _ := Ah6 (L := 60) (K := K + 5) (a1.mono (by omega)) ((Ao b1 (Ft (a := -1) (by omega))).mono (by omega)) (a2.mono (by omega)) ((Ao b2 (Ft (a := -1) (by omega))).mono (by omega)) (by omega) (by omega) hn
   have e2 : f192 n (((Am P).1.1, (Am P).1.2.1, (Am P).1.2.2), (Am P).2.1, (), (Am P).2.2.2.1, (Am P).2.2.2.2.1, (Am P).2.2.2.2.2) (jn (Q.f * -1) (Q.v * -1)) = some _ := e2; rw [iWm hn, A2, e, A2, e2, A2, Rat.mul_neg, Rat.mul_one, Rat.mul_neg, Rat.mul_one]; rfl
 . have e : f194 n (Am P) (Am Q) = _ := Abs a1 b1 a2 b2 (by omega) (by omega) hn
   have e : f194 n (((Am P).1.1, (Am P).1.2.1, (Am P).1.2.2), (Am P).2.1, (), (Am P).2.2.2.1, (Am P).2.2.2.2.1, (Am P).2.2.2.2.2) (((Am Q).1.1, (Am Q).1.2.1, (Am Q).1.2.2), (Am Q).2.1, (), (Am Q).2.2.2.1, (Am Q).2.2.2.2.1, (Am Q).2.2.2.2.2) = some _ := e; rw [e, A2]; rfl
 . have z : f195 n (rq Q.f) = _ := B2z; have z : f195 n ((rq Q.f).1, (rq Q.f).2.1, (rq Q.f).2.2) = _ := z; have z : f195 n ((Am Q).1.1, (Am Q).1.2.1, (Am Q).1.2.2) = _ := z; rw [z, A2, QI]; by_cases h0 : Q.f = 0
   . rw [QL h0, QL h0]
   . rw [QJ h0, QJ h0]
     have e : f196 n (Am Q) = _ := B2y b1 h0 b2 (by omega) (by omega) hn
     have e : f196 n (((Am Q).1.1, (Am Q).1.2.1, (Am Q).1.2.2), (Am Q).2.1, (), (Am Q).2.2.2.1, (Am Q).2.2.2.2.1, (Am Q).2.2.2.2.2) = some _ := e
     have s1 : Sz (1 / Q.f) (3 + 40 + 1) := A6z (Ft (a := 1) (by omega)) b1 h0
     have e2 : f194 n (Am P) (jn (1 / Q.f) (-(1 / Q.f * (1 / Q.f)) * Q.v)) = _ := Abs (L := 60) (K := K + 100) (a1.mono (by omega)) (s1.mono (by omega)) (a2.mono (by omega)) ((Ao (Gn (Ao s1 s1)) b2).mono (by omega)) (by omega) (by omega) hn
     have e2 : f194 n (((Am P).1.1, (Am P).1.2.1, (Am P).1.2.2), (Am P).2.1, (), (Am P).2.2.2.1, (Am P).2.2.2.2.1, (Am P).2.2.2.2.2) (jn (1 / Q.f) (-(1 / Q.f * (1 / Q.f)) * Q.v)) = some _ := e2; rw [e, A2, e2, A2]
     have c : P.v * (1 / Q.f) + P.f * (-(1 / Q.f * (1 / Q.f)) * Q.v) = (Q4.mul P (Q4.inv Q)).v := by
      simp only [Q4.mul, Q4.inv]; generalize 1 / Q.f = r; grind
     rw [c]; rfl
 . have e : f193 n (Am P) (rq (-1)) = _ := Ax4 a1 a2 (Ft (a := -1) (by omega) |>.mono (by omega)) (by omega) (by omega) hn
   have e : f193 n (((Am P).1.1, (Am P).1.2.1, (Am P).1.2.2), (Am P).2.1, (), (Am P).2.2.2.1, (Am P).2.2.2.2.1, (Am P).2.2.2.2.2) (rq (-1)) = some _ := e; rw [iWm hn, A2, e, A2, Rat.mul_neg, Rat.mul_one, Rat.mul_neg, Rat.mul_one]; rfl
 . obtain ⟨N', rfl⟩ : ∃ N' : Nat, N = (N' : Int) := ⟨N.toNat, by omega⟩
   have e0 : f197 n (rq P.f) (N' : Int) = _ := Abv a1 (by omega) (by omega) hn
   have e0 : f197 n ((Am P).1.1, (Am P).1.2.1, (Am P).1.2.2) (N' : Int) = some _ := e0
   have e : f198 n (Am P) (N' : Int) = _ := Auf a1 a2 (by omega) (by omega) (by omega) hn
   have e : f198 n (((Am P).1.1, (Am P).1.2.1, (Am P).1.2.2), (Am P).2.1, (), (Am P).2.2.2.1, (Am P).2.2.2.2.1, (Am P).2.2.2.2.2) (N' : Int) = some _ := e; rw [e0, A2, Ajm, A2, QS]
   cases hfit : C0 (P.f ^ N') with
   | false => simp only [ZY, ZM, if_true]
   | true =>
    simp only [ZT, QX, Bool.true_eq_false, if_false]; rw [e, A2, Q4.pow_eq]; rfl

structure G6 (q : Q4) (L : Nat) : Prop where
 f : Sz q.f L
 a : Sz q.a L
 v : Sz q.v L
 c : Sz q.c L

theorem G6.mono {q : Q4} {L K : Nat} (h : G6 q L) (hK : L <= K) : G6 q K := ⟨h.f.mono hK, h.a.mono hK, h.v.mono hK, h.c.mono hK⟩

theorem B2e {r : Rat} {L : Nat} (h : Sz r L) (h1 : 1 <= L) : G6 (Q4.cst r) L := ⟨h, Jd.mono h1, Jd.mono h1, Jd.mono h1⟩

theorem B2c {p q : Q4} {L K : Nat} (hp : G6 p L) (hq : G6 q K) : G6 (Q4.mul p q) (4 * (L + K) + 7) := by
 refine ⟨(Ao hp.f hq.f).mono (by omega), (Hi (Ao hp.a hq.f) (Ao hp.f hq.a)).mono (by omega), (Hi (Ao hp.v hq.f) (Ao hp.f hq.v)).mono (by omega), ?_⟩
 exact (Hi (Hi (Ao hp.c hq.f) (Ao hp.f hq.c)) (Hi (Ao hp.a hq.v) (Ao hp.v hq.a))).mono (by omega)

theorem B2b {p : Q4} {L : Nat} (hp : G6 p L) : G6 (Q4.neg p) L := ⟨Gn hp.f, Gn hp.a, Gn hp.v, Gn hp.c⟩

theorem Atg {x : Rat} {L : Nat} (h : Sz x L) (h0 : x ≠ 0) : Sz (1 / x) (L + 4) := (A6z (A4g (L := 1) (by omega)) h h0).mono (by omega)

theorem B2d {p : Q4} {L : Nat} (hp : G6 p L) (h0 : p.f ≠ 0) : G6 (Q4.inv p) (8 * L + 60) := by
 have r := Atg hp.f h0; have r2 := Ao r r; have r3 := Ao r2 r
 have t3 := Ao (show Sz 2 1 from Af6 (c := 2) (by omega)) r3
 refine ⟨r.mono (by omega), (Gn (Ao hp.a r2)).mono (by omega), (Gn (Ao hp.v r2)).mono (by omega), ?_⟩
 show Sz (_ - _) _; rw [Rat.sub_eq_add_neg]
 exact (Hi (Ao t3 (Ao hp.a hp.v)) (Gn (Ao hp.c r2))).mono (by omega)

abbrev Js := Rt × Rt × Rt × Rt

def S4 (q : Q4) : Js := (rq q.f, rq q.a, rq q.v, rq q.c)

theorem sW0 {n : Nat} (hn : 68719476736 <= n) : f127 n 0 = some (rq 0) := A2i (a := 0) (by omega) (by omega)

theorem sW1 {n : Nat} (hn : 68719476736 <= n) : f127 n 1 = some (rq 1) := A2i (a := 1) (by omega) (by omega)

theorem sW2 {n : Nat} (hn : 68719476736 <= n) : f127 n 2 = some (rq 2) := A2i (a := 2) (by omega) (by omega)

theorem Ab3 {n : Nat} {r : Rat} (hn : 68719476736 <= n) : f141 n (rq r) = some (S4 (Q4.cst r)) := by
 unfold f141; rw [sW0 hn, A2, A2, A2]; rfl

theorem Amx {n L K : Nat} {p q : Q4} (hp : G6 p L) (hq : G6 q K) (hL : L + K <= 100000000) (hn : 68719476736 <= n) : f142 n (S4 p) (S4 q) = some (S4 (Q4.add p q)) := by
 unfold f142 S4; dsimp only
 rw [sPl hp.f hq.f (by omega) hn, A2, sPl hp.a hq.a (by omega) hn, A2, sPl hp.v hq.v (by omega) hn, A2, sPl hp.c hq.c (by omega) hn, A2]; rfl

theorem Amw {n : Nat} {p : Q4} : f143 n (S4 p) = some (S4 (Q4.neg p)) := by
 unfold f143 S4; dsimp only; rw [Pr, A2, Pr, A2, Pr, A2, Pr, A2]; rfl

theorem Ab2 {n L K : Nat} {p q : Q4} (hp : G6 p L) (hq : G6 q K) (hL : L + K <= 100000000) (hn : 68719476736 <= n) : f144 n (S4 p) (S4 q) = some (S4 (Q4.mul p q)) := by
 have e1 := Ao hp.a hq.f; have e2 := Ao hp.f hq.a; have e3 := Ao hp.v hq.f; have e4 := Ao hp.f hq.v; have e5 := Ao hp.c hq.f; have e6 := Ao hp.f hq.c; have e7 := Ao hp.a hq.v; have e8 := Ao hp.v hq.a; unfold f144 S4; dsimp only
 rw [Jr hp.f hq.f (by omega) hn, A2, Jr hp.a hq.f (by omega) hn, A2, Jr hp.f hq.a (by omega) hn, A2, sPl e1 e2 (by omega) hn, A2,
  Jr hp.v hq.f (by omega) hn, A2, Jr hp.f hq.v (by omega) hn, A2, sPl e3 e4 (by omega) hn, A2,
  Jr hp.c hq.f (by omega) hn, A2, Jr hp.f hq.c (by omega) hn, A2, sPl e5 e6 (by omega) hn, A2,
  Jr hp.a hq.v (by omega) hn, A2, Jr hp.v hq.a (by omega) hn, A2, sPl e7 e8 (by omega) hn, A2, sPl (Hi e5 e6) (Hi e7 e8) (by omega) hn, A2]; rfl

theorem B2o {n L : Nat} {p : Q4} (hp : G6 p L) (h0 : p.f ≠ 0) (hL : L <= 10000000) (hn : 68719476736 <= n) : f146 n (S4 p) = some (S4 (Q4.inv p)) := by
 have r := Atg hp.f h0; have r2 := Ao r r; have r3 := Ao r2 r
 have k2 : Sz 2 1 := Af6 (c := 2) (by omega)
 have t3 := Ao k2 r3; unfold f146 S4; dsimp only
 rw [sW1 hn, A2, sOv (A4g (L := 1) (by omega)) hp.f h0 (by omega) hn, A2, Jr r r (by omega) hn, A2, sW2 hn, A2, Jr r2 r (by omega) hn, A2, Jr k2 r3 (by omega) hn, A2,
  Jr hp.a r2 (by omega) hn, A2, Pr, A2, Jr hp.v r2 (by omega) hn, A2, Pr, A2, Jr hp.a hp.v (by omega) hn, A2, Jr t3 (Ao hp.a hp.v) (by omega) hn, A2,
  Jr hp.c r2 (by omega) hn, A2, sLs (Ao t3 (Ao hp.a hp.v)) (Ao hp.c r2) (by omega) hn, A2]; rfl

def H0 (q : Q4) : Bool := C0 q.f && (C0 q.a && (C0 q.v && C0 q.c))

theorem Ay4 {n : Nat} {q : Q4} : f147 n (S4 q) = some (H0 q) := by
 unfold f147 S4 H0; dsimp only; rw [Aa3, A2, Aa3, Aa3, Aa3]
 cases C0 q.f <;> cases C0 q.a <;> cases C0 q.v <;> cases C0 q.c <;> rfl

theorem Aum {q : Q4} : H0 q = true ↔ G6 q 40 := by
 unfold H0; simp only [QE, Q0]; exact ⟨fun ⟨a, b, c, d⟩ => ⟨a, b, c, d⟩, fun h => ⟨h.f, h.a, h.v, h.c⟩⟩

theorem Fu {l : List Q4} {k : Nat} (h : k < l.length) : (l.map S4).getD k ((false, [], []), (false, [], []), (false, [], []), (false, [], [])) = S4 (l.getD k (Q4.cst 0)) := by
 simp [QH, QN h]

def pz : Nat -> Nat
 | 0 => 1
 | j + 1 => 4 * (pz j + 40) + 7

theorem B7a : ∀ {j : Nat}, j <= 8 -> pz j <= 4000000
 | 0, _ => by decide
 | 1, _ => by decide
 | 2, _ => by decide
 | 3, _ => by decide
 | 4, _ => by decide
 | 5, _ => by decide
 | 6, _ => by decide
 | 7, _ => by decide
 | 8, _ => by decide
 | j + 9, h => by omega

theorem Aiu {p : Q4} (hp : G6 p 40) : ∀ j, G6 (Q4.pow p j) (pz j)
 | 0 => B2e (A4g (L := 1) (by omega)) (ZA _)
 | j + 1 => B2c (Aiu hp j) hp

theorem A2k {α : Type} {n N A : Nat} {X U V : List Rt} {i op B : Int} {e : List Nod} {l : List Q4} (hA : A < l.length) (hP : G6 (l.getD A (Q4.cst 0)) 40) (hN : N <= 8) (hn : 68719476736 <= n)
  {k0 : List Rt -> List Rt -> List Rt -> Int -> List Nod -> Bool -> Bool -> Bool -> Bool -> Bool -> List Int -> List Int -> Bool -> List Int -> List Int -> Bool -> List Int -> List Int -> Bool -> List Int -> List Int -> List Js -> Option α} : ∀ (m j : Nat) (q : Q4), q = Q4.pow (l.getD A (Q4.cst 0)) j -> j <= N -> N < j + m ->
  Vz n m X U V i (j : Int) e false false false false op (A : Int) B (N : Int) (S4 q).1.1 (S4 q).1.2.1 (S4 q).1.2.2 (S4 q).2.1.1 (S4 q).2.1.2.1 (S4 q).2.1.2.2 (S4 q).2.2.1.1 (S4 q).2.2.1.2.1 (S4 q).2.2.1.2.2 (S4 q).2.2.2.1 (S4 q).2.2.2.2.1 (S4 q).2.2.2.2.2 (l.map S4) k0 =
  (let r := S4 (Q4.pow (l.getD A (Q4.cst 0)) N); k0 X U V i e false false false false r.1.1 r.1.2.1 r.1.2.2 r.2.1.1 r.2.1.2.1 r.2.1.2.2 r.2.2.1.1 r.2.2.1.2.1 r.2.2.1.2.2 r.2.2.2.1 r.2.2.2.2.1 r.2.2.2.2.2 (l.map S4))
 | 0, j, q, hq, hj, hm => by omega
 | m + 1, j, q, hq, hj, hm => by
  rw [Ao5]; unfold Z1; rw [QI]; by_cases h : j < N
  . rw [QL (by omega), ZH, A4 (by simp; omega), QS, A4 (by simp; omega), Fu hA]
    dsimp only; have hz := Aiu hP j
    have hzl := B7a (show j <= 8 by omega)
    have e1 : f144 n (S4 q) (S4 (l.getD A (Q4.cst 0))) = some (S4 (Q4.mul q (l.getD A (Q4.cst 0)))) := Ab2 (by rw [hq]; exact hz) hP (by omega) hn
    have e1 : f144 n (((S4 q).1.1, (S4 q).1.2.1, (S4 q).1.2.2), ((S4 q).2.1.1, (S4 q).2.1.2.1, (S4 q).2.1.2.2), ((S4 q).2.2.1.1, (S4 q).2.2.1.2.1, (S4 q).2.2.1.2.2), (S4 q).2.2.2.1, (S4 q).2.2.2.2.1, (S4 q).2.2.2.2.2) (S4 (l.getD A (Q4.cst 0))) = _ := e1
    rw [e1, A2, Ac (x := (j : Int) + 1) (by omega) (by omega)]
    exact A2k hA hP hN hn m (j + 1) _ (by rw [hq]; rfl) (by omega) (by omega)
  . obtain rfl : j = N := by omega
    rw [QJ (by omega), hq]

theorem Atw {α : Type} {n : Nat} {X U V : List Rat} {e : List Nod} {l : List Q4} {x : Nod} (hx : Dj x l.length) (he : e.getD l.length (0, 0, 0, 0) = x) (hl : l.length < e.length) (hl2 : l.length <= 1000) (hd : x.1 = 2 -> x.2.2.2 < X.length) (hU : U.length = X.length) (hV : V.length = X.length)
  (hs : ∀ k, k < l.length -> G6 (l.getD k (Q4.cst 0)) 40) (hn : 68719476736 <= n)
  {f : List Rt -> List Rt -> List Rt -> Int -> List Nod -> Bool -> Bool -> Bool -> Bool -> List Js -> Option α} {k0 : Int -> Bool -> Bool -> Bool -> Bool -> Option α} {k1 : Bool -> Bool -> Bool -> Bool -> List Js -> Option α} :
  Ob n (vq X) (vq U) (vq V) (l.length : Int) e false false false false (l.map S4) f k0 k1 =
   if Jb l x then k0 10 false false false false else if H0 (Bn (Ci X) (Ci U) (Ci V) l x) = true then f (vq X) (vq U) (vq V) ((l.length + 1 : Nat) : Int) e false false false false ((l ++ [Bn (Ci X) (Ci U) (Ci V) l x]).map S4) else k0 7 false false false false := by
 have J : ∀ q : Q4, (ob (f147 n (S4 q)) fun r_74 =>
       bif (!r_74) then
        k0 7 false false false false
       else
        gd (decide (((l.map S4).length + 1) * 224 <= 140737488355328)) (
         f (vq X) (vq U) (vq V) (W ((l.length : Int) + 1)) e false false false false (l.map S4 ++ [S4 q]))) = if H0 q = true then f (vq X) (vq U) (vq V) ((l.length + 1 : Nat) : Int) e false false false false ((l ++ [q]).map S4) else k0 7 false false false false := by
  intro q
  rw [Ay4, A2, Ac (by omega) (by omega)]
  cases hf : H0 q with
  | false => rfl
  | true =>
   rw [ZT, QX, A4 (by simp; omega), JX]
   simp only [if_true]; rfl
 obtain ⟨op, A, B, N⟩ := x; obtain ⟨⟨o1, o2⟩, hN, hA, hB⟩ := hx; unfold Ob Jb
 rw [QI, QL (by omega), A4 (by simp; omega), QS, he, sW0 hn, A2, Ab3 hn, A2]
 unfold Nr at hN; unfold Dm at hA hB; unfold Bn; dsimp only at *
 obtain rfl | rfl | rfl | rfl | rfl | rfl | rfl | rfl : op = 1 \/ op = 2 \/ op = 3 \/ op = 4 \/ op = 5 \/ op = 6 \/ op = 7 \/ op = 8 := by omega
 all_goals simp only [Int.reduceEq, or_self, or_true, true_or, if_false, if_true, Int.reduceBEq, ZM, QX, Int.reduceLT, gt_iff_lt, decide_true, decide_false, false_and, true_and] at *
 . rw [A2i (by omega) (by omega), A2, Ab3 hn, A2]
   exact J _
 . have hd := hd trivial
   rw [Fd, Fd, Fd, A4 (by simp; omega), A4 (by simp; omega), A4 (by simp; omega), T6 (by omega), T6 (by omega), T6 (by omega)]
   exact J ⟨Ci X N.toNat, Ci U N.toNat, Ci V N.toNat, 0⟩
 all_goals (have lA : A.toNat < l.length := by omega)
 . have lB : B.toNat < l.length := by omega
   rw [ZH, A4 (by simp; omega), A4 (by simp; omega), A4 (by simp; omega), A4 (by simp; omega), Fu lA, Fu lB, Amx (hs _ lA) (hs _ lB) (by omega) hn, A2]
   have := J (Q4.add (l.getD A.toNat (Q4.cst 0)) (l.getD B.toNat (Q4.cst 0))); rw [ZH] at this; exact this
 . have lB : B.toNat < l.length := by omega
   rw [ZH, A4 (by simp; omega), A4 (by simp; omega), A4 (by simp; omega), A4 (by simp; omega), Fu lA, Fu lB, Amw, A2, Amx (hs _ lA) (B2b (hs _ lB)) (by omega) hn, A2]
   have := J (Q4.add (l.getD A.toNat (Q4.cst 0)) (Q4.neg (l.getD B.toNat (Q4.cst 0)))); rw [ZH] at this; exact this
 . have lB : B.toNat < l.length := by omega
   rw [ZH, A4 (by simp; omega), A4 (by simp; omega), A4 (by simp; omega), A4 (by simp; omega), Fu lA, Fu lB, Ab2 (hs _ lA) (hs _ lB) (by omega) hn, A2]
   have := J (Q4.mul (l.getD A.toNat (Q4.cst 0)) (l.getD B.toNat (Q4.cst 0))); rw [ZH] at this; exact this
 . have lB : B.toNat < l.length := by omega
   rw [ZH, A4 (by simp; omega), A4 (by simp; omega), Fu lB, show f145 n (S4 (l.getD B.toNat (Q4.cst 0))).1 = some (decide ((l.getD B.toNat (Q4.cst 0)).f = 0)) from B2l, A2, QI]
   by_cases h0 : (l.getD B.toNat (Q4.cst 0)).f = 0
   . rw [QL h0, QL h0]
   . rw [QJ h0, QJ h0, A4 (by simp; omega), A4 (by simp; omega), A4 (by simp; omega), A4 (by simp; omega), Fu lA, B2o (hs _ lB) h0 (by omega) hn, A2, Ab2 (hs _ lA) (B2d (hs _ lB) h0) (by omega) hn, A2]
     have := J (Q4.mul (l.getD A.toNat (Q4.cst 0)) (Q4.inv (l.getD B.toNat (Q4.cst 0)))); rw [ZH] at this; exact this
 . rw [ZH, A4 (by simp; omega), A4 (by simp; omega), Fu lA, Amw, A2]
   have := J (Q4.neg (l.getD A.toNat (Q4.cst 0))); rw [ZH] at this; exact this
 . obtain ⟨N', rfl⟩ : ∃ N' : Nat, N = (N' : Int) := ⟨N.toNat, by omega⟩
   obtain ⟨A', rfl⟩ : ∃ A' : Nat, A = (A' : Int) := ⟨A.toNat, by omega⟩
   rw [QS] at lA; rw [sW1 hn, A2, Ab3 hn, A2]
   have hp := A2k (n := n) (N := N') (A := A') (X := vq X) (U := vq U) (V := vq V) (i := (l.length : Int)) (op := 8) (B := B) (e := e) (l := l) lA (hs _ lA) (by omega) hn
    (k0 := fun z_30 z_31 z_32 z_33 z_34 z_35 z_36 z_37 z_38 z_39 z_40 z_41 z_42 z_43 z_44 z_45 z_46 z_47 z_48 z_49 z_50 z_51 =>
     (ob (f147 n ((z_39, z_40, z_41), (z_42, z_43, z_44), (z_45, z_46, z_47), z_48, z_49, z_50)) fun r_74 =>
     bif (!r_74) then
      k0 7 false false false false
     else
      gd (decide ((z_51.length + 1) * 224 <= 140737488355328)) (
       f z_30 z_31 z_32 (W (z_33 + 1)) z_34 z_35 z_36 z_37 z_38 (z_51 ++ [((z_39, z_40, z_41), (z_42, z_43, z_44), (z_45, z_46, z_47), z_48, z_49, z_50)])))) n 0 (Q4.cst 1) rfl (by omega) (by omega)
   refine hp.trans ?_; exact J (Q4.pow (l.getD A' (Q4.cst 0)) N')

def A6y (e : List Nod) (d : Int) : Prop := ∀ k, k < e.length -> Dj (e.getD k (0, 0, 0, 0)) k /\ ((e.getD k (0, 0, 0, 0)).1 = 2 -> (e.getD k (0, 0, 0, 0)).2.2.2 < d)

theorem A41 {e : List Nod} {i : Nat} (h : i < e.length) : e.drop i = e.getD i (0, 0, 0, 0) :: e.drop (i + 1) := by
 rw [XS h, QH, QN h]; rfl

theorem Agr {α : Type} {n : Nat} {X U V : List Rat} {e : List Nod} (hp : A6y e X.length) (he : e.length <= 60) (hU : U.length = X.length) (hV : V.length = X.length) (hn : 68719476736 <= n)
  {k0 : Int -> Bool -> Bool -> Bool -> Bool -> Option α} {k1 : Bool -> Bool -> Bool -> Bool -> List Js -> Option α} : ∀ (m : Nat) (l : List Q4), (∀ k, k < l.length -> G6 (l.getD k (Q4.cst 0)) 40) -> l.length <= e.length -> e.length < l.length + m ->
  A30 n m (vq X) (vq U) (vq V) (l.length : Int) e false false false false (l.map S4) k0 k1 = match Dy H0 (Ci X) (Ci U) (Ci V) (e.drop l.length) l with
   | .inl l' => k1 false false false false (l'.map S4)
   | .inr c => k0 c false false false false
 | 0, l, hs, hl, hm => by omega
 | m + 1, l, hs, hl, hm => by
  rw [Auu]; by_cases h : l.length < e.length
  . obtain ⟨h1, h2⟩ := hp _ h
    rw [Atw h1 rfl h (by omega) h2 hU hV hs hn, A41 h, Dy]
    by_cases hb : Jb l (e.getD l.length (0, 0, 0, 0))
    . rw [QL hb, QL hb]
    . rw [QJ hb, QJ hb]; generalize hq : Bn (Ci X) (Ci U) (Ci V) l (e.getD l.length (0, 0, 0, 0)) = q; by_cases hf : H0 q = true
      . rw [QL hf, QL hf]
        have := Agr hp he hU hV hn (k0 := k0) (k1 := k1) m (l ++ [q]) (fun k hk => by
         simp only [ZW, QU, ZG] at hk; rcases XL k l.length with h3 | h3
         . rw [QH, QZ h3, <- QH]; exact hs k h3
         . obtain rfl : k = l.length := by omega
           rw [QH, QY (ZA _)]; simpa using Aum.1 hf) (by simp; omega) (by simp; omega)
        rw [ZW] at this; exact this
      . rw [QJ hf, QJ hf]
  . have h0 : l.length = e.length := by omega
    unfold Ob
    rw [QI, QJ (by omega), ZE (by omega)]
    rfl

theorem Ay5 {n : Nat} {X U V : List Rat} {e : List Nod} (hp : A6y e X.length) (h1 : 1 <= e.length) (he : e.length <= 60) (hU : U.length = X.length) (hV : V.length = X.length) (hn : 68719476736 <= n) :
  f89 n e (vq X) (vq U) (vq V) = some (match Dy H0 (Ci X) (Ci U) (Ci V) e [] with
   | .inl l => (S4 (l.getD (e.length - 1) (Q4.cst 0)), 0)
   | .inr c => (((false, [], []), (false, [], []), (false, [], []), (false, [], [])), c)) := by
 unfold f89
 have := Agr (n := n) hp he hU hV hn (k0 := fun z_76 z_77 z_78 z_79 z_80 => (
   some ((((z_77, [], []), (z_78, [], []), (z_79, [], []), z_80, [], []), z_76) : Js × Int)))
  (k1 := fun z_81 z_82 z_83 z_84 z_85 => (
   gd (decide (0 <= (W ((z_85.length : Int) - 1))) && decide ((W ((z_85.length : Int) - 1)) < (z_85.length : Int))) (
    gd (decide ((W ((z_85.length : Int) - 1)).toNat < z_85.length)) (
     let x_86 := z_85.getD ((W ((z_85.length : Int) - 1)).toNat) ((false, [], []), (false, [], []), (false, [], []), (false, [], []))
     some (x_86, 0))))) n [] (by simp) (by simp) (by simp; omega)
 refine Eq.trans this ?_; rw [ZG, XE]
 cases hev : Dy H0 (Ci X) (Ci U) (Ci V) e [] with
 | inr c => rfl
 | inl l =>
  have hl := (Xf e [] l (fun k hk => by simp at hk) hev).2
  have hlen : l.length = e.length := by rw [hl, A6n]; simp
  simp only [ZH, hlen]
  rw [Ac (by omega) (by omega), A4 (by simp; omega), A4 (by simp; omega), show ((e.length : Int) - 1).toNat = e.length - 1 by omega, Fu (by omega)]

def Fh (q : Q4) : Bool := C0 q.f && C0 q.v

theorem Ame {l : List Q4} {q : Q4} {k : Nat} (h : k < l.length) : (l ++ [q]).getD k (Q4.cst 0) = l.getD k (Q4.cst 0) := by
 simp only [QH, QZ h]

theorem Amg {l : List Q4} {q : Q4} : (l ++ [q]).getD l.length (Q4.cst 0) = q := by
 rw [QH, QY (ZA _)]; simp

theorem Amf {l : List Q4} {k : Nat} (h : l.length <= k) : l.getD k (Q4.cst 0) = Q4.cst 0 := by
 rw [QH, YV h]; rfl

theorem Atz {x u w : Nat -> Rat} {l : List Q4} {n : Nod} (h : n.1 = 8) : (Bn x u w l n).f = (l.getD n.2.1.toNat (Q4.cst 0)).f ^ n.2.2.2.toNat := by
 unfold Bn
 rw [QJ (by omega), QJ (by omega), QJ (by omega), QJ (by omega), QJ (by omega), QJ (by omega), QJ (by omega), Q4.pow_eq]

theorem B74 {l : List Q4} (h : ∀ k, k < l.length -> Fh (l.getD k (Q4.cst 0)) = true) : Axv l 40 := by
 have key : ∀ k, Sz (l.getD k (Q4.cst 0)).f 40 /\ Sz (l.getD k (Q4.cst 0)).v 40 := fun k => by
  rcases XL k l.length with h1 | h1
  . have := h k h1; unfold Fh at this; simp only [QE, Q0] at this; exact this
  . rw [Amf h1]; exact ⟨Jd.mono (by omega), Jd.mono (by omega)⟩
 exact ⟨fun k => (key k).1, fun k => (key k).2⟩

theorem Ah7 {α : Type} {n : Nat} {X V : List Rat} {e : List Nod} (hp : A6y e X.length) (he : e.length <= 60) (hVX : V.length = X.length) (hn : 68719476736 <= n)
  {k0 : Int -> Option α} {k1 : List Jn -> Option α} : ∀ (m : Nat) (l : List Q4), (∀ k, k < l.length -> Fh (l.getD k (Q4.cst 0)) = true) -> l.length <= e.length -> e.length < l.length + m ->
  Xd n m (vq X) e (e.length : Int) (l.length : Int) 0 (l.map Am) k0 k1 = match Dy Fh (Ci X) (fun _ => 0) (fun _ => 0) (e.drop l.length) l with
   | .inl l' => k1 (l'.map Am)
   | .inr c => k0 c
 | 0, l, hs, hl, hm => by omega
 | m + 1, l, hs, hl, hm => by
  rw [Ash]; unfold A1x; rw [QI]; by_cases h : l.length < e.length
  . obtain ⟨h1, h2⟩ := hp _ h
    rw [QL (by omega), A4 (by simp; omega), QS, A41 h, Dy]
    generalize hx : e.getD l.length (0, 0, 0, 0) = x at h1 h2
    have hg := Aug (n := n) (X := X) (V := V) h1 (fun h => ⟨h2 h, by rw [hVX]; exact h2 h⟩) (B74 hs) (by omega) hn
    dsimp only
    rw [hg, A2, A4 (by simp)]
    generalize hq : Bn (Ci X) (fun _ => 0) (fun _ => 0) l x = q; by_cases hb : Jb l x
    . have hb' : x.1 = 6 /\ (l.getD x.2.2.1.toNat (Q4.cst 0)).f = 0 := hb; rw [QL hb, QL hb']; rfl
    . have hb' : ¬ (x.1 = 6 /\ (l.getD x.2.2.1.toNat (Q4.cst 0)).f = 0) := hb; rw [QJ hb, QJ hb']; by_cases h8 : x.1 = 8 /\ C0 ((l.getD x.2.1.toNat (Q4.cst 0)).f ^ x.2.2.2.toNat) = false
      . rw [QL h8]
        have : Fh q = false := by
         unfold Fh; rw [<- hq, Atz h8.1, h8.2]; rfl
        rw [this, QJ (by simp)]; rfl
      . rw [QJ h8]; show (ob (f167 n (jn q.f q.v)) fun r_3 => _) = _; rw [Ayh hn, A2]
        show (bif (!Fh q) then k0 7 else _) = _
        cases hf : Fh q with
        | false => rfl
        | true =>
         rw [ZT, QX, A4 (by simp; omega), Ac (by omega) (by omega)]
         simp only [if_true]
         have := Ah7 hp he hVX hn (k0 := k0) (k1 := k1) m (l ++ [q]) (fun k hk => by
          simp only [ZW, QU, ZG] at hk; rcases XL k l.length with h3 | h3
          . rw [Ame h3]; exact hs k h3
          . obtain rfl : k = l.length := by omega
            rw [Amg]; exact hf) (by simp; omega) (by simp; omega)
         rw [ZW, JX] at this; exact this
  . have h0 : l.length = e.length := by omega
    rw [QJ (by omega), ZE (by omega)]
    rfl

theorem Ayg {n : Nat} {X V : List Rat} {e : List Nod} (hp : A6y e X.length) (he : e.length <= 60) (hVX : V.length = X.length) (hn : 68719476736 <= n) :
  f104 n (0, ()) e (vq X) = some (match Dy Fh (Ci X) (fun _ => 0) (fun _ => 0) e [] with
   | .inl l => (l.map Am, 0)
   | .inr c => ([], c)) := by
 unfold f104
 have := Ah7 (n := n) hp he hVX hn (k0 := fun z_4 => (some (([], z_4) : List Jn × Int))) (k1 := fun z_5 => some (z_5, 0)) n [] (by simp) (by simp) (by simp; omega)
 refine Eq.trans this ?_; rw [ZG, XE]
 cases Dy Fh (Ci X) (fun _ => 0) (fun _ => 0) e [] <;> rfl

theorem B7f {n : Nat} {X V : List Rat} {e : List Nod} (hp : A6y e X.length) (h1 : 1 <= e.length) (he : e.length <= 60) (hVX : V.length = X.length) (hn : 68719476736 <= n) :
  f60 n (0, ()) e (vq X) = some (match Dy Fh (Ci X) (fun _ => 0) (fun _ => 0) e [] with
   | .inl l => (Am (l.getD (e.length - 1) (Q4.cst 0)), 0)
   | .inr c => (((false, [], []), [], (), (false, [], [])), c)) := by
 unfold f60; rw [Ayg hp he hVX hn, A2]
 cases hev : Dy Fh (Ci X) (fun _ => 0) (fun _ => 0) e [] with
 | inr c =>
  have hc : (c != 0) = true := by rcases A21 _ _ _ hev with rfl | rfl <;> rfl
  dsimp only; rw [hc]; rfl
 | inl l =>
  have hl := (Xf e [] l (fun k hk => by simp at hk) hev).2
  have hlen : l.length = e.length := by rw [hl, A6n]; simp
  simp only [ZH, hlen]
  rw [Ac (by omega) (by omega), show ((0 : Int) != 0) = false from rfl, QX, A4 (by simp; omega), show ((e.length : Int) - 1).toNat = e.length - 1 by omega, Abt (by omega)]

theorem A9p {x : Nod} {i : Int} (h : Hs x i) : Dj x i := by
 obtain ⟨h1, h2⟩ := h; unfold Dj Nr Dm; grind

theorem A2l : ∀ (r : List Nod) (bs ds : List Int) (p : List Int × List Int), Dc bs ds r = some p -> ∀ j, j < r.length -> Dj (r.getD j (0, 0, 0, 0)) ((bs.length + j : Nat) : Int)
 | [], bs, ds, p, h, j, hj => by simp at hj
 | x :: r, bs, ds, p, h, j, hj => by
  simp only [Dc] at h; split at h
  . rename_i hok
    cases j with
    | zero => exact A9p hok.1
    | succ j =>
     have := A2l r _ _ p h j (by simpa using hj)
     simp only [ZW, QU, ZG] at this; simp only [JT]
     rw [show bs.length + (j + 1) = bs.length + 1 + j by omega]
     exact this
  . cases h

theorem Ail : ∀ (l : List Nod) (s : Int), s <= H8 s l /\ ∀ x ∈ l, x.1 = 2 -> 0 <= x.2.2.2 /\ x.2.2.2 <= 3 -> x.2.2.2 < H8 s l
 | [], s => ⟨JP _, fun x h => by simp at h⟩
 | y :: l, s => by
  obtain ⟨h1, h2⟩ := Ail l (if y.1 = 2 then max s (W (y.2.2.2 + 1)) else s)
  have e : H8 s (y :: l) = H8 (if y.1 = 2 then max s (W (y.2.2.2 + 1)) else s) l := rfl
  rw [e]; refine ⟨Int.le_trans ?_ h1, fun x hx hx2 hx3 => ?_⟩
  . split <;> omega
  . rcases QT.1 hx with rfl | hx
    . rw [QL hx2, Ac (by omega) (by omega)] at h1 ⊢
      omega
    . exact h2 x hx hx2 hx3

theorem B2a {e : List Nod} {d : Int} (h : D7 e) (hd : H8 0 e <= d) : A6y e d := fun k hk => by
 obtain ⟨_, bs, ds, hr, _⟩ := h; have hp := A2l e [] [] _ hr k hk; simp only [ZG, XR] at hp; refine ⟨hp, fun h2 => ?_⟩
 have hm : e.getD k (0, 0, 0, 0) ∈ e := by
  rw [QH, QN hk]; exact JA hk
 have := (Ail e 0).2 _ hm h2 (by have := hp.2.1; unfold Nr at this; rw [QJ (by omega), QL h2] at this; exact this)
 omega

def Jj (e : List Nod) : Bool := decide (1 <= e.length /\ e.length <= 60) && match Dc [] [] e with
 | none => false
 | some (bs, ds) => decide (bs.getD (e.length - 1) 0 = 0) && ds.all fun x => decide (x <= 12)

theorem K2 {e : List Nod} : Jj e = true ↔ D7 e := by
 unfold Jj D7
 cases h : Dc [] [] e with
 | none => simp
 | some p =>
  obtain ⟨bs, ds⟩ := p; simp only [QE, QQ, QM]
  exact ⟨fun ⟨h1, h2, h3⟩ => ⟨h1, bs, ds, rfl, h2, h3⟩, fun ⟨h1, b2, d2, hq, h2, h3⟩ => by
   obtain ⟨rfl, rfl⟩ := YZ (QA hq)
   exact ⟨h1, h2, h3⟩⟩

def Jc (e : List Nod) (l : List Rt) : Int := if 4096 < l.length then 2 else if Jj e = true /\ T7 l = true then (if (l.length : Int) < H8 0 e then 8 else 0) else 1

open Classical in
theorem Ayz {n : Nat} {e : List Nod} {l : List Rt} (hN : e.length <= 1048576) (hn : 1048577 <= n) : f59 n e l = some (Jc e l) := by
 unfold f59 f108 Jc
 rw [Ayw (by simp) hn, A2, B14 hN hn, A2, J4, A2, A2, B1w hn, A2, J4, A2, Ub (by simp) hn, A2]
 have hL : Aua [l] = decide (4096 < l.length) := by simp [Aua]
 rw [hL]
 have hB : ∀ d : Decidable (D7 e), @decide (D7 e) d = Jj e := fun d => by
  cases hb : Jj e with
  | true => exact ZN (K2.1 hb)
  | false => exact ZC fun h => by rw [K2.2 h] at hb; cases hb
 rw [hB]; by_cases h1 : 4096 < l.length
 . simp only [h1, decide_true, if_true]
   rw [show U4 [2, if Jj e = true then 0 else 1, if T7 l = true then 0 else 1] = 2 from rfl, show ((2 : Int) != 0) = true from rfl, ZM, J4, A2, Ub (by simp) hn]; rfl
 . simp only [h1, decide_false, if_false, YA]
   cases h2 : Jj e with
   | true =>
    cases h3 : T7 l with
    | true =>
     simp only [if_true, and_self]
     rw [show U4 [0, 0, 0] = 0 from rfl, show ((0 : Int) != 0) = false from rfl, QX, B1u hN hn, A2, J4, A2, Ub (by simp) hn, A2]
     by_cases h4 : (l.length : Int) < H8 0 e
     . rw [QL h4, QJ (by simp; omega)]; rfl
     . rw [QJ h4, QL (by simp; omega)]; rfl
    | false =>
     simp only [if_true, YA, if_false, and_false]
     rw [show U4 [0, 0, 1] = 1 from rfl, show ((1 : Int) != 0) = true from rfl, ZM, J4, A2, Ub (by simp) hn]; rfl
   | false =>
    simp only [if_false, YA, false_and]
    rw [show ∀ b : Int, U4 [0, 1, b] = 1 from fun _ => rfl, show ((1 : Int) != 0) = true from rfl, ZM, J4, A2, Ub (by simp) hn]; rfl

open Classical in
theorem Ayx {n : Nat} {e : List Nod} {l : List Rt} (hN : e.length <= 1048576) (hn : 1048577 <= n) : f62 n e l = some (Jc e l) := by
 unfold f62 Jc; rw [QI]; by_cases h1 : 4096 < l.length
 . rw [QL (by omega), QL h1]
 . rw [QJ (by omega), QJ h1, B1p hN hn, A2]
   dsimp only
   have hB : ∀ d : Decidable (D7 e), @decide (D7 e) d = Jj e := fun d => by
    cases hb : Jj e with
    | true => exact ZN (K2.1 hb)
    | false => exact ZC fun h => by rw [K2.2 h] at hb; cases hb
   rw [hB]
   cases h2 : Jj e with
   | true =>
    simp only [ZT, QX]; rw [B1n hn, A2]
    cases h3 : T7 l with
    | true =>
     simp only [ZT, QX, and_self, if_true]; rw [B1l hN hn, A2, QI]; by_cases h4 : (l.length : Int) < H8 0 e
     . rw [QL h4, QL h4]
     . rw [QJ h4, QJ h4]
    | false => simp
   | false => simp

theorem B27 {e : List Nod} {l : List Rt} (h : Jc e l = 0) : D7 e /\ T7 l = true /\ H8 0 e <= l.length /\ l.length <= 4096 := by
 unfold Jc at h; split at h
 . omega
 . split at h
   . rename_i h1; split at h
     . omega
     . exact ⟨K2.1 h1.1, h1.2, by omega, by omega⟩
   . omega

theorem B2f {l : List Rt} (h : T7 l = true) : ∃ X : List Rat, l = vq X /\ Sv X 40 /\ 1 <= X.length /\ X.length <= 4 := by
 unfold T7 at h; simp only [QE, QQ] at h; obtain ⟨X, rfl, hX⟩ := Awt h.2; rw [Fd] at h; exact ⟨X, rfl, hX, h.1.1, h.1.2⟩

theorem B76 {n : Nat} {x : Rat} {L : Nat} (h : Sz x L) (hL : L <= 1000000000) : f91 n (rq x) = some (rq x) := by
 obtain ⟨h1, h2⟩ := h; unfold f91
 rw [A4 (by show decide ((0 + (dg x.num.natAbs).length) * 8 <= _) = true; simp; omega), A4 (by show decide ((0 + (dg x.den).length) * 8 <= _) = true; simp; omega)]

theorem Axz (m : Nat) : Ci (List.replicate m 0) = fun _ => 0 := by
 funext k; unfold Ci; rw [QH, XN]; split <;> rfl

theorem B7l : C0 0 = true := Q0.2 (Jd.mono (by omega))

theorem Avf {n : Nat} {x : Rat} (h : Sz x 1000000) : Aaa n (rq x) = some (if (rq x).2.1 = [] then .inr ((rq x).1, (), (rq x).2.2) else .inl ((rq x).1, (rq x).2.1, (rq x).2.2)) := by
 have h1 : (rq x).2.1.length <= 1000000 := h.1; have h2 : (rq x).2.2.length <= 1000000 := h.2; have h3 : (rq x).2.2 ≠ [] := fun e => x.den_nz (Asu.1 e); unfold Aaa
 rw [Asd (by omega), A2]
 by_cases h0 : (rq x).2.1 = []
 . rw [QL h0, QL h0, Rp n (by omega) h3]; rfl
 . rw [QJ h0, QJ h0, Rp n (by omega) h3]; rfl

theorem Axy {X : List Rat} {e : List Nod} : (∃ c, Dy H0 (Ci X) (fun _ => 0) (fun _ => 0) e [] = .inr c /\ Dy Fh (Ci X) (fun _ => 0) (fun _ => 0) e [] = .inr c /\ c ≠ 0) \/
  ∃ l m, Dy H0 (Ci X) (fun _ => 0) (fun _ => 0) e [] = .inl l /\ Dy Fh (Ci X) (fun _ => 0) (fun _ => 0) e [] = .inl m /\ l.length = e.length /\ m.length = e.length /\ ∀ k, (l.getD k (Q4.cst 0)).f = (m.getD k (Q4.cst 0)).f /\ (k < e.length -> Sz (m.getD k (Q4.cst 0)).f 40) := by
 rcases Awe (Ay9 (Ci X)) (f := H0) (g := Fh) (fun p hp => by
   obtain ⟨h1, ⟨h2, h3, h4⟩, h5⟩ := hp; unfold H0 Fh
   rw [h1, h2, h3, h4, h5, B7l]; simp) (fun p hp => hp.1) e with ⟨c, h1, h2⟩ | ⟨l, m, h1, h2, h3, h4, h5⟩
 . exact .inl ⟨c, h1, h2, by rcases A21 _ _ _ h1 with rfl | rfl <;> decide⟩
 . refine .inr ⟨l, m, h1, h2, h3, h4, fun k => ⟨(h5 k).1, fun hk => ?_⟩⟩
   have := (Xf e [] m (fun k hk => by simp at hk) h2).1 k (by omega)
   unfold Fh at this; simp only [QE, Q0] at this; exact this.1

theorem Atn {n : Nat} {e : List Nod} {l : List Rt} (hN : e.length <= 1048576) (hn : 68719476736 <= n) : ∃ (r : Rt) (c : Int), f15 n e l = some (r, c) /\ f16 n e l = some (r, c) /\
  A6b n e l = some (if c = 0 then (if r.2.1 = [] then .inr (.inl ((r.1, (), r.2.2), 0)) else .inl ((r.1, r.2.1, r.2.2), 0)) else .inr (.inr ((false, (), ()), c))) /\ (c = 0 -> ∃ x : Rat, r = rq x /\ Sz x 40) /\ (c ≠ 0 -> r = (false, [], [])) := by
 have h59 := Ayz (n := n) (e := e) (l := l) hN (by omega)
 have h62 := Ayx (n := n) (e := e) (l := l) hN (by omega)
 by_cases ha : Jc e l = 0
 . rw [ha] at h59 h62; obtain ⟨he, hv, hd, hl⟩ := B27 ha; obtain ⟨X, rfl, hX, x1, x4⟩ := B2f hv; rw [Fd] at hd hl; have hp := B2a he hd
   have hz : f90 n (X.length : Int) = some (vq (List.replicate X.length 0)) := Ay2 (by omega) (by omega)
   have h60 := B7f (n := n) (X := X) (V := List.replicate X.length 0) hp he.1.1 he.1.2 (by simp) hn
   have h89 := Ay5 (n := n) (X := X) (U := List.replicate X.length 0) (V := List.replicate X.length 0) hp he.1.1 he.1.2 (by simp) (by simp) hn
   rw [Axz] at h89; rcases Axy (X := X) (e := e) with ⟨c, c1, c2, c0⟩ | ⟨L, M, c1, c2, c3, c4, c5⟩
   . rw [c1] at h89; rw [c2] at h60
     have hc : (c != 0) = true := by simpa using c0
     refine ⟨(false, [], []), c, ?_, ?_, ?_, fun h => absurd h c0, fun _ => rfl⟩
     . unfold f15; rw [h59, A2, show ((0 : Int) != 0) = false from rfl, QX, h60, A2]; dsimp only; rw [hc, ZM]
     . unfold f16 f63
       rw [QI, QJ (by rw [Fd]; omega), h62, A2, show ((0 : Int) != 0) = false from rfl, QX, Fd, hz, A2, h89, A2]
       dsimp only; rw [hc, ZM, A2]
     . unfold A6b; rw [h59, A2, show ((0 : Int) != 0) = false from rfl, QX, h60, A2]; dsimp only; rw [hc, ZM, QJ c0]
   . rw [c1] at h89; rw [c2] at h60; obtain ⟨k1, k2⟩ := c5 (e.length - 1)
     have k2 := k2 (by have := he.1.1; omega)
     generalize hx : (M.getD (e.length - 1) (Q4.cst 0)).f = x at k1 k2; refine ⟨rq x, 0, ?_, ?_, ?_, fun _ => ⟨x, rfl, k2⟩, fun h => absurd rfl h⟩
     . unfold f15; rw [h59, A2, show ((0 : Int) != 0) = false from rfl, QX, h60, A2]; dsimp only
       rw [show ((0 : Int) != 0) = false from rfl, QX, show (Am (M.getD (e.length - 1) (Q4.cst 0))).1 = rq x by rw [<- hx]; rfl, Ayn k2 (by omega), A2]
     . unfold f16 f63
       rw [QI, QJ (by rw [Fd]; omega), h62, A2, show ((0 : Int) != 0) = false from rfl, QX, Fd, hz, A2, h89, A2]
       dsimp only
       rw [show ((0 : Int) != 0) = false from rfl, QX, show (S4 (L.getD (e.length - 1) (Q4.cst 0))).1 = rq x by rw [<- k1]; rfl, B76 k2 (by omega), A2, A2]
     . unfold A6b; rw [h59, A2, show ((0 : Int) != 0) = false from rfl, QX, h60, A2]; dsimp only
       rw [show ((0 : Int) != 0) = false from rfl, QX, show (Am (M.getD (e.length - 1) (Q4.cst 0))).1 = rq x by rw [<- hx]; rfl, QL rfl, Avf (k2.mono (by omega)), A2]
       by_cases h0 : (rq x).2.1 = []
       . rw [QL h0, QL h0]; rfl
       . rw [QJ h0, QJ h0]; rfl
 . refine ⟨(false, [], []), Jc e l, ?_, ?_, ?_, fun h => absurd h ha, fun _ => rfl⟩
   . unfold f15
     rw [h59, A2, show (Jc e l != 0) = true by simpa using ha, ZM]
   . unfold f16; rw [QI]; by_cases h1 : (l.length : Int) > 4096
     . rw [QL h1]
       have : Jc e l = 2 := by unfold Jc; rw [QL (by omega)]
       rw [this]
     . rw [QJ h1, h62, A2, show (Jc e l != 0) = true by simpa using ha, ZM]
   . unfold A6b
     rw [h59, A2, show (Jc e l != 0) = true by simpa using ha, ZM, QJ ha]

theorem Au7 {n : Nat} (hn : 1048577 <= n) : f38 n (false, [], []) 1 = some 1 := by
 unfold f38; rw [W6 hn, A2, W6 hn, A2]

theorem B75 {x : Rat} (h : Sz x 40) : Sm (rq x) := ⟨ZK h.1 (by omega), ZK h.2 (by omega)⟩

theorem B2k : Sm (false, [], []) := ⟨by simp, by simp⟩

theorem B7e {n : Nat} {s : Bool} {d : List Int} {k : Int} (hd : d.length <= 1048576) (h0 : 0 <= k) (hk : k <= 1125899906842624) (hn : 1048577 <= n) : Aab n (s, [], d) k = some (k + (d.length : Int), Ca k d.length) := by
 unfold Aab; dsimp only
 rw [W6 hn, A2, L8 hd (by omega) (by omega) hn, A2, A4 (by simp [Cs])]

theorem held1 {n : Nat} {s : Bool} {b : Nat} {k : Int} (hb : b <= 1048576) (h0 : 0 <= k) (hk : k <= 1125899906842624) (hn : 1048577 <= n) : f39 n (s, [], Ca k b) k = some (k + (b : Int)) := by
 have := Ack (n := n) (a := 0) (b := b) (s := s) (k := k) (by omega) hb h0 hk hn
 simpa [Ca] using this

theorem B7d {n : Nat} {x : Rt} {k : Int} (hx : Sm x) (h0 : 0 <= k) (hk : k <= 1125899906842624) (hn : 1048577 <= n) : Acl n (x.1, x.2.1, x.2.2) k = some (k + (x.2.1.length : Int) + (x.2.2.length : Int), Ca k x.2.1.length, Ca (k + x.2.1.length) x.2.2.length) := Az1 hx h0 hk hn

theorem B85 {n : Nat} {e : List Nod} {l : List Rt} (he : e.length <= 9223372036854775807) (hl : BdL l) (hn : 68719476736 <= n) : f5 n e l = some true := by
 have hn1 : 1048577 <= n := by omega
 unfold f5; obtain ⟨r, e1, c⟩ := Azc (n := n) he; rw [e1, A2]; rcases c with rfl | ⟨b, c0⟩
 . rfl
 obtain ⟨r', e', c'⟩ := Azb b hl hn1
 rw [QI, QJ (by omega), e', A2]
 rcases c' with rfl | ⟨b', sl⟩
 . rfl
 obtain ⟨R, c, a1, a2, a3, a4, a5⟩ := Atn (n := n) (e := e) (l := l) c0 hn; have x1 := B45 c0 hn1; have x2 := B43 sl.1 sl.2 hn1; have x3 := Aza c0 hn1; have x4 := Az8 sl hn1; have x5 := B42 c0 hn1; have x6 := B40 sl.1 sl.2 hn1; have m1 := Az6 (n := n) c0 hn1
 have m2 := Az4 (n := n) (k := 1 + 4 * (e.length : Int)) sl (by omega) (by omega) hn1
 have z1 : decide ((El l (1 + 4 * (e.length : Int))).1 < 0) = false := by
  have := Abm l (1 + 4 * (e.length : Int)); simp; omega
 have one : decide ((1 : Int) < 0) = false := rfl
 rw [QI, QJ (by omega), x1, A2, x2, A2, a2, A2, x3, A2, x4, A2, a3, A2]
 by_cases h0 : c = 0
 . obtain ⟨x, rfl, hx⟩ := a4 h0; subst h0; have s := B75 hx; have q : f33 n (rq x) (rq x) = some true := Acp s hn1; have b0 := s.1; have b1 := s.2; rw [QL rfl]; by_cases hz : (rq x).2.1 = []
   . rw [QL hz]
     have q' : f33 n ((rq x).1, [], (rq x).2.2) (rq x) = some true := by
      have : (((rq x).1, [], (rq x).2.2) : Rt) = rq x := by rw [<- hz]
      rw [this]; exact q
     have m3 := B7e (n := n) (s := (rq x).1) (d := (rq x).2.2) (k := 1) b1 (by omega) (by omega) hn1
     have h3 := held1 (n := n) (s := (rq x).1) (b := (rq x).2.2.length) (k := 1) b1 (by omega) (by omega) hn1
     have z2 : decide (1 + ((rq x).2.2.length : Int) < 0) = false := by simp; omega
     simp only [Nj, A2, q', q, ZT, QX, YS, x1, x2, x5, x6, m1, m2, a1, m3, h3, z1, z2, Cs, Mw, O6, XD, XT, Hd]
   . rw [QJ hz]; have q' : f33 n ((rq x).1, (rq x).2.1, (rq x).2.2) (rq x) = some true := q
     have m3 := B7d (n := n) (k := 1) s (by omega) (by omega) hn1
     have h3 := Ack (n := n) (a := (rq x).2.1.length) (b := (rq x).2.2.length) (s := (rq x).1) (k := 1) b0 b1 (by omega) (by omega) hn1
     have z2 : decide (1 + ((rq x).2.1.length : Int) + ((rq x).2.2.length : Int) < 0) = false := by simp; omega
     simp only [Nj, A2, q', q, ZT, QX, YS, x1, x2, x5, x6, m1, m2, a1, m3, h3, z1, z2, Cs, Mw, O6, XD, XT, Hd]
 . have e0 := a5 h0; subst e0; rw [QJ h0]; have q : f33 n (false, [], []) (false, [], []) = some true := Acp B2k hn1; have m3 := Au7 hn1
   have h3 : f39 n (false, [], []) 1 = some 1 := Ack (n := n) (a := 0) (b := 0) (s := false) (k := 1) (by omega) (by omega) (by omega) (by omega) hn1
   simp only [Nj, A2, q, ZT, QX, YS, x1, x2, x5, x6, m1, m2, a1, m3, h3, z1, one, Cs, Mw, O6, XD, XT, Hd]

end Go.Ev
