/- DERIVED. The plain laws: what the models compute. -/
import Derived.Test.YtcpdoafoahaagaaGreatUd

set_option linter.all false
set_option linter.unusedVariables false
set_option linter.unusedSimpArgs false

namespace Go.Ev
open Go

def G6 (M : Nat → Nat → Rat) (k p i : Nat) : Nat → Nat → Rat := fun r c => if c < i then Ag M k p r c else M r c

theorem Apr {α : Type} {n m k p : Nat} (hm : m ≤ 8) (hk : k < m) (hp : p < m) (hkp : k ≠ p) (b1 b2 : Bool) (d1 d2 : List Int) {M : Nat → Nat → Rat} {k0 : Int → Int → Int → Bool → Bool → List Int → List Int → List Rt → List Rt → Option α} : ∀ (fu i : Nat) (a b : List Rt), Ay m a b (G6 M k p i) → i ≤ m → m < i + fu →
  ∃ a', Ay m a' b (G6 M k p m) ∧ N2 n fu (m : Int) (k : Int) (p : Int) (i : Int) b1 b2 d1 d2 a b k0 = k0 (m : Int) (k : Int) (p : Int) b1 b2 d1 d2 a' b
 | 0, i, a, b, h, h2, h4 => by omega
 | fu + 1, i, a, b, h, h2, h4 => by
  rw [Aoq]
  unfold X3
  rw [Bool.cond_decide]
  by_cases hi : i < m
  · have h64 := A7k hm
    have i1 := Ei hp hi
    have i2 := Ei hk hi
    rw [if_pos (by omega)]
    simp only [Wix (show p * m + i ≤ 1000000 by omega), Wix (show k * m + i ≤ 1000000 by omega), Int.toNat_natCast, List.length_set, h.la]
    rw [A3 (by simp; omega), A3 (by simp; omega), A3 (by simp; omega), A3 (by simp; omega), A3 (by simp; omega), A3 (by simp; omega), A3 (by simp; omega), A3 (by simp; omega), h.gA hp hi, h.gA hk hi, A9 (x := (i : Int) + 1) (by omega) (by omega)]
    have s1 := (h.setA (x := G6 M k p i k i) hp hi).setA (x := G6 M k p i p i) hk hi
    refine Apr hm hk hp hkp b1 b2 d1 d2 fu (i + 1) _ b (s1.congr fun r c hr hc => ?_) (by omega) (by omega)
    have e1 : G6 M k p i k i = M k i := by unfold G6; rw [if_neg (by omega)]
    have e2 : G6 M k p i p i = M p i := by unfold G6; rw [if_neg (by omega)]
    rw [e1, e2]
    unfold K5 G6 Ag
    by_cases c1 : c = i
    · subst c1
      by_cases r1 : r = k
      · subst r1; simp
      · by_cases r2 : r = p
        · subst r2; simp [r1]
        · simp [r1, r2]
    · have e3 : (c < i + 1) ↔ c < i := by omega
      simp [c1, e3]
  · obtain rfl : i = m := by omega
    rw [if_neg (by omega)]
    exact ⟨a, h, rfl⟩

def Fb (M : Nat → Nat → Rat) (k r : Nat) (t : Rat) (i : Nat) : Nat → Nat → Rat := fun r' c => if r' = r ∧ k ≤ c ∧ c < i then M r c - t * M k c else M r' c

theorem B0c {α : Type} {n m k r L : Nat} {t : Rat} {M : Nat → Nat → Rat} (hm : m ≤ 8) (hk : k < r) (hr : r < m) (hMr : ∀ c, Sz (M r c) L) (hMk : ∀ c, Sz (M k c) L) (ht : Sz t (2 * L + 1)) (hL : 28 * (8 * L + 7) + 10040 ≤ n) (hL2 : 8 * L + 7 ≤ 1099511627000) (b1 b2 : Bool) (d1 d2 : List Int)
  {k0 : Int → Int → Int → Bool → Bool → List Int → List Int → Bool → List Int → List Int → List Rt → List Rt → Option α} : ∀ (fu i : Nat) (a b : List Rt), Ay m a b (Fb M k r t i) → k ≤ i → i ≤ m → m < i + fu →
  ∃ a', Ay m a' b (Fb M k r t m) ∧ T7 n fu (m : Int) (k : Int) (r : Int) (i : Int) b1 b2 d1 d2 (rq t).1 (rq t).2.1 (rq t).2.2 a b k0 = k0 (m : Int) (k : Int) (r : Int) b1 b2 d1 d2 (rq t).1 (rq t).2.1 (rq t).2.2 a' b
 | 0, i, a, b, h, h1, h2, h4 => by omega
 | fu + 1, i, a, b, h, h1, h2, h4 => by
  rw [Aok]
  unfold Wv
  rw [Bool.cond_decide]
  by_cases hi : i < m
  · have h64 := A7k hm
    have hkm : k < m := by omega
    have i1 := Ei hr hi
    have i2 := Ei hkm hi
    have e1 : Fb M k r t i r i = M r i := by unfold Fb; rw [if_neg (by omega)]
    have e2 : Fb M k r t i k i = M k i := by unfold Fb; rw [if_neg (by omega)]
    rw [if_pos (by omega)]
    simp only [Wix (show r * m + i ≤ 1000000 by omega), Wix (show k * m + i ≤ 1000000 by omega), Int.toNat_natCast, List.length_set, h.la]
    rw [A3 (by simp; omega), A3 (by simp; omega), A3 (by simp; omega), A3 (by simp; omega), h.gA hr hi, h.gA hkm hi, e1, e2, show ((rq t).1, (rq t).2.1, (rq t).2.2) = rq t from rfl,
     Ky (L := 2 * L + 1) ht ((hMk i).mono (by omega)) (by omega) (by omega), A1,
     Aps (L := 4 * L + 3) ((hMr i).mono (by omega)) ((Gv ht ((hMk i).mono (show L ≤ 2 * L + 1 by omega))).mono (by omega)) (by omega) (by omega), A1, A3 (by simp; omega), A3 (by simp; omega), A9 (x := (i : Int) + 1) (by omega) (by omega)]
    have s1 := h.setA (x := M r i - t * M k i) hr hi
    refine B0c hm hk hr hMr hMk ht hL hL2 b1 b2 d1 d2 fu (i + 1) _ b (s1.congr fun r' c hr' hc => ?_) (by omega) (by omega) (by omega)
    unfold K5 Fb
    by_cases c1 : r' = r ∧ c = i
    · rw [if_pos c1, if_pos ⟨c1.1, by omega, by omega⟩, c1.2]
    · rw [if_neg c1]
      by_cases c2 : r' = r ∧ k ≤ c ∧ c < i
      · rw [if_pos c2, if_pos ⟨c2.1, c2.2.1, by omega⟩]
      · rw [if_neg c2, if_neg (by omega)]
  · obtain rfl : i = m := by omega
    rw [if_neg (by omega)]
    exact ⟨a, h, rfl⟩

theorem Apt {α : Type} {n m k L : Nat} {M : Nat → Nat → Rat} (hm : m ≤ 8) (hkm : k < m) (hM : Gw M L) (hp : M k k ≠ 0) (hlow : Zz m k M) (hL : 28 * (8 * L + 7) + 10040 ≤ n) (hL2 : 8 * L + 7 ≤ 1099511627000) (hn : 1048577 ≤ n) (b1 b2 : Bool) (d1 d2 : List Int)
  {k0 : Int → Int → Bool → Bool → List Int → List Int → List Rt → List Rt → Option α} : ∀ (fu r : Nat) (a b : List Rt), Ay m a b (Ai M k r) → k < r → r ≤ m → m < r + fu →
  ∃ a' b', Ay m a' b' (Ai M k m) ∧ Fk n fu (m : Int) (k : Int) (r : Int) b1 b2 d1 d2 a b k0 = k0 (m : Int) (k : Int) b1 b2 d1 d2 a' b'
 | 0, r, a, b, h, h1, h2, h4 => by omega
 | fu + 1, r, a, b, h, h1, h2, h4 => by
  rw [Aon]
  unfold Wy
  rw [Bool.cond_decide]
  by_cases hr : r < m
  · have h64 := A7k hm
    have i1 := Ei hr hkm
    have i2 := Ei hkm hkm
    have e0 : ∀ c, Ai M k r r c = M r c := fun c => by unfold Ai; rw [if_neg (by omega)]
    have e1 : ∀ c, Ai M k r k c = M k c := fun c => by unfold Ai; rw [if_neg (by omega)]
    have sE : Gw (Ai M k r) (8 * L + 7) := Tz hM hp
    have ht := Ahm (hM r k) (hM k k) hp
    rw [if_pos (by omega)]
    simp only [Wix (show r * m + k ≤ 1000000 by omega), Wix (show k * m + k ≤ 1000000 by omega), Int.toNat_natCast, h.la]
    rw [A3 (by simp; omega), A3 (by simp; omega), A3 (by simp; omega), A3 (by simp; omega), h.gA hr hkm, h.gA hkm hkm, e0, e1, Ae0 (L := L) (hM r k) (hM k k) hp (by omega) (by omega), A1]
    have hst : Ay m a b (Fb (Ai M k r) k r (M r k / M k k) k) := h.congr fun r' c hr' hc => by
     unfold Fb; rw [if_neg (by omega)]
    obtain ⟨a', ha', hrow⟩ := B0c (α := α) (n := n) (m := m) (k := k) (r := r) (L := L) (t := M r k / M k k) (M := Ai M k r) hm h1 hr (fun c => by rw [e0]; exact hM r c) (fun c => by rw [e1]; exact hM k c) ht hL hL2 b1 b2 d1 d2
     (k0 := fun z_39 z_40 z_41 z_42 z_43 z_44 z_45 z_46 z_47 z_48 z_49 z_50 =>
             gd (decide (0 ≤ z_41) && decide (z_41 < (z_50.length : Int))) (
              gd (decide (z_41.toNat < z_50.length)) (
               let x_51 := z_50.getD z_41.toNat (false, [], [])
               gd (decide (0 ≤ z_40) && decide (z_40 < (z_50.length : Int))) (
                gd (decide (z_40.toNat < z_50.length)) (
                 let x_52 := z_50.getD z_40.toNat (false, [], [])
                 ob (f176 n (z_46, z_47, z_48) x_52) fun r_53 =>
                 ob (f119 n x_51 r_53) fun r_54 =>
                 gd (decide (0 ≤ z_41) && decide (z_41 < (z_50.length : Int))) (
                  gd (decide (z_41.toNat < z_50.length)) (
                   Fk n fu z_39 z_40 (W (z_41 + 1)) z_42 z_43 z_44 z_45 z_49 (z_50.set z_41.toNat r_54) k0)))))))
     n k a b hst (Nat.le_refl _) (by omega) (by omega)
    refine (fun (H : ∃ a' b', Ay m a' b' (Ai M k m) ∧ _ = k0 (m : Int) (k : Int) b1 b2 d1 d2 a' b') => by
     obtain ⟨a2, b2', x1, x2⟩ := H
     exact ⟨a2, b2', x1, hrow.trans x2⟩) ?_
    have f1 : Fb (Ai M k r) k r (M r k / M k k) m r m = M r m := by unfold Fb; rw [if_neg (by omega), e0]
    have f2 : Fb (Ai M k r) k r (M r k / M k k) m k m = M k m := by unfold Fb; rw [if_neg (by omega), e1]
    simp only [Int.toNat_natCast, ha'.lb]
    rw [A3 (by simp; omega), A3 (by simp; omega), A3 (by simp; omega), A3 (by simp; omega), ha'.gB hr, ha'.gB hkm, f1, f2, show ((rq (M r k / M k k)).1, (rq (M r k / M k k)).2.1, (rq (M r k / M k k)).2.2) = rq (M r k / M k k) from rfl,
     Ky (L := 2 * L + 1) ht ((hM k m).mono (by omega)) (by omega) (by omega), A1,
     Aps (L := 4 * L + 3) ((hM r m).mono (by omega)) ((Gv ht ((hM k m).mono (show L ≤ 2 * L + 1 by omega))).mono (by omega)) (by omega) (by omega), A1, A3 (by simp; omega), A3 (by simp; omega), A9 (x := (r : Int) + 1) (by omega) (by omega)]
    have s1 := ha'.setB (x := M r m - M r k / M k k * M k m) hr
    refine Apt hm hkm hM hp hlow hL hL2 hn b1 b2 d1 d2 fu (r + 1) _ _ (s1.congr fun r' c hr' hc => ?_) (by omega) (by omega) (by omega)
    unfold K5
    by_cases c1 : r' = r ∧ c = m
    · obtain ⟨rfl, rfl⟩ := c1
      rw [if_pos ⟨rfl, rfl⟩]
      unfold Ai
      rw [if_pos (by omega)]
    · rw [if_neg c1]
      unfold Fb
      by_cases c2 : r' = r
      · subst c2
        have c3 : c < m := by omega
        by_cases c4 : k ≤ c
        · rw [if_pos ⟨rfl, c4, c3⟩, e0, e1]
          unfold Ai
          rw [if_pos (by omega)]
        · rw [if_neg (by omega), e0]
          unfold Ai
          rw [if_pos (by omega), hlow r' c (by omega) (by omega) hr, hlow k c (by omega) (by omega) hkm, Rat.mul_zero]
          grind
      · rw [if_neg (by omega)]
        unfold Ai
        by_cases c5 : k < r' ∧ r' < r
        · rw [if_pos c5, if_pos (by omega)]
        · rw [if_neg c5, if_neg (by omega)]
  · obtain rfl : r = m := by omega
    rw [if_neg (by omega)]
    exact ⟨a, b, h, rfl⟩

theorem A4r {n c : Nat} (hc : c ≤ 1000000) (hn : 1048577 ≤ n) : f106 n (c : Int) = some (rq (c : Rat)) := by
 unfold f106
 rw [decide_eq_false (by omega), cond_false, Lb (by omega) (by omega), A1, Apu, K1]

theorem Api {M : Nat → Nat → Rat} {k p : Nat} : G6 M k p 0 = M := by
 funext r c; unfold G6; rw [if_neg (by omega)]

theorem Ajj {n m : Nat} (hm : m ≤ 8) :
  ∀ (f k fu : Nat) (a b : List Rt) (M : Nat → Nat → Rat) (d : Rat) (L : Nat) (b1 : Bool), f = m - k → k ≤ m → m < k + fu → Ay m a b M → Zz m k M → Gw M L → Sz d L → 28 * (8 * Nn L f + 7) + 10040 ≤ n → 8 * Nn L f + 7 ≤ 1099511627000 → 1048577 ≤ n →
  ∃ a' b', Ay m a' b' (Am m f k d M).2 ∧
  Hh n fu (m : Int) (k : Int) b1 (rq d).1 (rq d).2.1 (rq d).2.2 a b (fun z_43 z_44 z_45 z_46 z_47 => some (z_46, z_47, (z_43, z_44, z_45))) (fun z_48 z_49 z_50 z_51 z_52 z_53 => some (z_52, z_53, (z_49, z_50, z_51))) = some (a', b', rq (Am m f k d M).1)
 | f, k, 0, a, b, M, d, L, b1, h1, h2, h3, h4, hlow, h5, h6, h7, h8, hn => by omega
 | 0, k, fu + 1, a, b, M, d, L, b1, h1, h2, h3, h4, hlow, h5, h6, h7, h8, hn => by
  rw [Abs]
  unfold T6
  rw [Bool.cond_decide, if_neg (by omega)]
  exact ⟨a, b, h4, rfl⟩
 | f + 1, k, fu + 1, a, b, M, d, L, b1, h1, h2, h3, h4, hlow, h5, h6, h7, h8, hn => by
  have hkm : k < m := by omega
  have h64 := A7k hm
  have hL8 := A52 f (8 * L + 7)
  simp only [Nn] at h7 h8
  obtain ⟨p1, p2⟩ := Kz (M := M) (k := k) (m := m) (m - k) k h2
  have p1 : k ≤ Bg M k m := p1
  have p2 : Bg M k m ≤ m := p2
  rw [Abs]
  unfold T6
  rw [Bool.cond_decide, if_pos (by omega)]
  rw [Aji h4 hm hkm b1 (rq d).1 (rq d).2.1 (rq d).2.2 (m - k) k n h2 rfl (by omega)]
  rw [show Ce M k m (m - k) k = Bg M k m from rfl]
  by_cases hp : Bg M k m = m
  · have eg : Am m (f + 1) k d M = (0, M) := by unfold Am; rw [if_pos hp]
    have e0 : f106 n 0 = some (rq 0) := A4r (c := 0) (by omega) hn
    rw [eg, hp, BEq.rfl, cond_true, e0, A1]
    exact ⟨a, b, h4, rfl⟩
  have hpm : Bg M k m < m := by omega
  have hne : M (Bg M k m) k ≠ 0 := P0 (m - k) k (by omega) hpm
  have eg : Am m (f + 1) k d M = Am m f (k + 1) ((if Bg M k m = k then d else -d) * Ag M k (Bg M k m) k k) (Ai (Ag M k (Bg M k m)) k m) := by
   conv => lhs; unfold Am
   rw [if_neg hp]
  rw [eg]
  generalize hP : Bg M k m = p at *
  have hs := A4i (k := k) (p := p) h5
  have hkk : Ag M k p k k = M p k := by unfold Ag; rw [if_pos rfl]
  have hnz : Ag M k p k k ≠ 0 := by rw [hkk]; exact hne
  have hls := Aej hlow p1 hpm
  have i2 := Ei hkm hkm
  have go : ∀ (a1 b2 : List Rt) (d1 : Rat) (c1 : Bool), Ay m a1 b2 (Ag M k p) → Sz d1 L →
    ∃ a' b', Ay m a' b' (Am m f (k + 1) (d1 * Ag M k p k k) (Ai (Ag M k p) k m)).2 ∧
    (gd (decide (0 ≤ (W ((W ((k : Int) * (m : Int))) + (k : Int)))) && decide ((W ((W ((k : Int) * (m : Int))) + (k : Int))) < (a1.length : Int))) (
          gd (decide ((W ((W ((k : Int) * (m : Int))) + (k : Int))).toNat < a1.length)) (
           let x_32 := a1.getD ((W ((W ((k : Int) * (m : Int))) + (k : Int))).toNat) (false, [], [])
           ob (f176 n ((rq d1).1, (rq d1).2.1, (rq d1).2.2) x_32) fun r_33 =>
           Fk n n (m : Int) (k : Int) (W ((k : Int) + 1)) c1 r_33.1 r_33.2.1 r_33.2.2 a1 b2
            (fun z_34 z_35 z_36 z_37 z_38 z_39 z_40 z_41 => (
             Hh n fu z_34 (W (z_35 + 1)) z_36 z_37 z_38 z_39 z_40 z_41 (fun z_43 z_44 z_45 z_46 z_47 => some (z_46, z_47, (z_43, z_44, z_45))) (fun z_48 z_49 z_50 z_51 z_52 z_53 => some (z_52, z_53, (z_49, z_50, z_51)))))))) =
     some (a', b', rq (Am m f (k + 1) (d1 * Ag M k p k k) (Ai (Ag M k p) k m)).1) := by
   intro a1 b2 d1 c1 hR1 hd1
   rw [Wix (by omega), A3 (by simp [hR1.la]; omega), A3 (by simp [hR1.la]; omega), Int.toNat_natCast]
   dsimp only
   rw [hR1.gA hkm hkm, show ((rq d1).1, (rq d1).2.1, (rq d1).2.2) = rq d1 from rfl, Ky (L := L) hd1 (hs k k) (by omega) (by omega), A1, A9 (x := (k : Int) + 1) (by omega) (by omega)]
   obtain ⟨a2, b3, q1, q2⟩ := Apt (n := n) hm hkm hs hnz hls (by omega) (by omega) hn c1 (rq (d1 * Ag M k p k k)).1 (rq (d1 * Ag M k p k k)).2.1 (rq (d1 * Ag M k p k k)).2.2
    (k0 := fun z_34 z_35 z_36 z_37 z_38 z_39 z_40 z_41 => Hh n fu z_34 (W (z_35 + 1)) z_36 z_37 z_38 z_39 z_40 z_41 (fun z_43 z_44 z_45 z_46 z_47 => some (z_46, z_47, (z_43, z_44, z_45))) (fun z_48 z_49 z_50 z_51 z_52 z_53 => some (z_52, z_53, (z_49, z_50, z_51)))) n (k + 1) a1 b2 (by rw [Xc]; exact hR1) (by omega) (by omega) (by omega)
   have q2 : Fk n n (m : Int) (k : Int) ((k : Int) + 1) c1 _ _ _ a1 b2 _ = _ := q2
   rw [q2, A9 (x := (k : Int) + 1) (by omega) (by omega)]
   exact Ajj hm f (k + 1) fu a2 b3 (Ai (Ag M k p) k m) (d1 * Ag M k p k k) (8 * L + 7) c1 (by omega) (by omega) (by omega) q1 (Aek hls hkm hnz) (Tz hs hnz) ((Gv hd1 (hs k k)).mono (by omega)) h7 h8 hn
  rw [show ((p : Int) == (m : Int)) = false by rw [beq_eq_false_iff_ne]; omega, cond_false]
  by_cases hpk : p = k
  · rw [if_pos hpk]
    have hs0 : Ag M k p = M := by
     funext r c; unfold Ag; subst hpk
     split
     · rename_i e; rw [e]
     · rfl
    obtain ⟨a', b', r1, r2⟩ := go a b d b1 (by rw [hs0]; exact h4) h6
    refine ⟨a', b', r1, ?_⟩
    rw [Bool.cond_decide, if_neg (by omega)]
    exact r2
  · rw [if_neg hpk, Bool.cond_decide, if_pos (by omega)]
    obtain ⟨a1, q1, q2⟩ := Apr (n := n) hm hkm hpm (fun e => hpk e.symm) b1 (rq (-d)).1 (rq (-d)).2.1 (rq (-d)).2.2 (M := M)
     (k0 := fun z_13 z_14 z_15 z_16 z_17 z_18 z_19 z_20 z_21 => (
             gd (decide (0 ≤ z_15) && decide (z_15 < (z_21.length : Int))) (
              gd (decide (z_15.toNat < z_21.length)) (
               let x_22 := z_21.getD z_15.toNat (false, [], [])
               gd (decide (0 ≤ z_14) && decide (z_14 < (z_21.length : Int))) (
                gd (decide (z_14.toNat < z_21.length)) (
                 let x_23 := z_21.getD z_14.toNat (false, [], [])
                 gd (decide (0 ≤ z_15) && decide (z_15 < (z_21.length : Int))) (
                  gd (decide (z_15.toNat < z_21.length)) (
                   gd (decide (0 ≤ z_14) && decide (z_14 < (((z_21.set z_15.toNat x_23).length : Nat) : Int))) (
                    gd (decide (z_14.toNat < (z_21.set z_15.toNat x_23).length)) (
                     (fun (y_24 : Int) (y_25 : Int) (y_26 : Bool) (y_27 : Bool) (y_28 : List Int) (y_29 : List Int) (y_30 : List Rt) (y_31 : List Rt) => (
       gd (decide (0 ≤ (W ((W (y_25 * y_24)) + y_25))) && decide ((W ((W (y_25 * y_24)) + y_25)) < (y_30.length : Int))) (
        gd (decide ((W ((W (y_25 * y_24)) + y_25)).toNat < y_30.length)) (
         let x_32 := y_30.getD ((W ((W (y_25 * y_24)) + y_25)).toNat) (false, [], [])
         ob (f176 n (y_27, y_28, y_29) x_32) fun r_33 =>
         Fk n n y_24 y_25 (W (y_25 + 1)) y_26 r_33.1 r_33.2.1 r_33.2.2 y_30 y_31
          (fun z_34 z_35 z_36 z_37 z_38 z_39 z_40 z_41 => (
           Hh n fu z_34 (W (z_35 + 1)) z_36 z_37 z_38 z_39 z_40 z_41 (fun z_43 z_44 z_45 z_46 z_47 => some (z_46, z_47, (z_43, z_44, z_45))) (fun z_48 z_49 z_50 z_51 z_52 z_53 => some (z_52, z_53, (z_49, z_50, z_51)))))))))
                         z_13 z_14 z_16 z_17 z_18 z_19 z_20 ((z_21.set z_15.toNat x_23).set z_14.toNat x_22)))))))))))
     n 0 a b (by rw [Api]; exact h4) (by omega) (by omega)
    have q2 : N2 n n (m : Int) (k : Int) (p : Int) 0 b1 _ _ _ a b _ = _ := q2
    have f1 : G6 M k p m p m = M p m := by unfold G6; rw [if_neg (by omega)]
    have f2 : G6 M k p m k m = M k m := by unfold G6; rw [if_neg (by omega)]
    have s1 := (q1.setB (x := M k m) hpm).setB (x := M p m) hkm
    obtain ⟨a', b', r1, r2⟩ := go a1 ((b.set p (rq (M k m))).set k (rq (M p m))) (-d) b1 (s1.congr fun r c hr hc => by
     unfold K5 G6 Ag
     by_cases c1 : c = m
     · subst c1
       by_cases r1 : r = k
       · subst r1; simp
       · by_cases r2 : r = p
         · subst r2; simp [r1]
         · simp [r1, r2]
     · have : c < m := by omega
       simp [c1, this]) (Gu h6)
    refine ⟨a', b', r1, ?_⟩
    rw [show ((rq d).1, (rq d).2.1, (rq d).2.2) = rq d from rfl, Ali, A1, q2]
    simp only [Int.toNat_natCast, List.length_set, q1.lb]
    rw [A3 (by simp; omega), A3 (by simp; omega), A3 (by simp; omega), A3 (by simp; omega), A3 (by simp; omega), A3 (by simp; omega), A3 (by simp; omega), A3 (by simp; omega), q1.gB hpm, q1.gB hkm, f1, f2]
    exact r2

def Cs (m : Nat) (M : Nat → Nat → Rat) : Rat := (Am m m 0 1 M).1

theorem A0v {m : Nat} {M : Nat → Nat → Rat} : Zz m 0 M := fun r c h => by omega

theorem Awl {L : Nat} (h : 1 ≤ L) : Sz (1 : Rat) L := (Ahl (c := 1) (by omega)).mono h

theorem B58 {m : Nat} (h : m ≤ 4) : 8 * Nn 40 m + 7 ≤ 1400000 := by
 rcases (show m = 0 ∨ m = 1 ∨ m = 2 ∨ m = 3 ∨ m = 4 by omega) with rfl | rfl | rfl | rfl | rfl <;> decide

theorem B3v {n m : Nat} {a b : List Rt} {M : Nat → Nat → Rat} (hm : m ≤ 4) (h : Ay m a b M) (hM : Gw M 40) (hn : 67108864 ≤ n) : ∃ a' b', f115 n a b = some (a', b', rq (Cs m M)) ∧ Ay m a' b' (Am m m 0 1 M).2 := by
 unfold f115
 have h64 := A7k (show m ≤ 8 by omega)
 have l8 := B58 hm
 have la := h.la
 have lb := h.lb
 have e1 : f106 n 1 = some (rq 1) := A4r (c := 1) (by omega) (by omega)
 rw [A3 (by simp; omega), A3 (by simp; omega), e1, A1, lb]
 obtain ⟨a', b', q1, q2⟩ := Ajj (n := n) (show m ≤ 8 by omega) m 0 n a b M 1 40 false rfl (by omega) (by omega) h A0v hM (Awl (by omega)) (by omega) (by omega) (by omega)
 have q2 : Hh n n (m : Int) 0 false _ _ _ a b _ _ = _ := q2
 exact ⟨a', b', q2, q1⟩

theorem Asb {n m w : Nat} {R : List (List Rt)} {M : Nat → Nat → Rat} (hm : m ≤ 4) (hmw : m ≤ w) (hw : w ≤ 100) (h : Bw m w R M) (hM : Gw M 40) (hn : 67108864 ≤ n) : ∃ R', A8p n R = some (rq (Cs m M), R') ∧ Bw m w R' (Am m m 0 1 M).2 := by
 unfold A8p
 have l8 := B58 hm
 have e1 : f92 n 1 = some (rq 1) := Ajz (c := 1) (by omega) (by omega)
 rw [e1, A1, h.1]
 obtain ⟨R', q1, q2⟩ := Ak0 (n := n) (show m ≤ 8 by omega) hmw hw m 0 n R M 1 40 false rfl (by omega) (by omega) h hM (Awl (by omega)) (by omega) (by omega) (by omega)
 have q2 : J4 n n (m : Int) 0 false _ _ _ R _ _ = _ := q2
 exact ⟨R', q2, q1⟩

def E7 (X : List Rat) (n m i : Nat) : List Rat := (List.range (i * m)).map fun q => X.getD (q / m * n + q % m) 0

def Ek (X : List Rat) (n m : Nat) : Nat → Nat → Rat := fun r c => if r < m ∧ c < m then X.getD (r * n + c) 0 else 0

theorem Q6 (X : List Rat) (n m i : Nat) : (E7 X n m i).length = i * m := by simp [E7]

theorem Azp {X : List Rat} {n m i : Nat} (hmn : m ≤ n) (hi : i < n) (hX : X.length = n * n) : E7 X n m i ++ (X.drop (i * n)).take m = E7 X n m (i + 1) := by
 unfold E7
 rw [Nat.succ_mul, List.range_add, List.map_append, List.map_map]
 congr 1
 have h1 : (i + 1) * n ≤ n * n := Nat.mul_le_mul_right n hi
 rw [Nat.succ_mul] at h1
 apply List.ext_getElem
 · simp; omega
 · intro j h2 h3
   simp at h2 h3
   have hj : j < m := h3
   obtain ⟨d1, d2⟩ := dm (i := i) hj
   simp only [List.getElem_take, List.getElem_drop, List.getElem_map, List.getElem_range, Function.comp]
   rw [d1, d2, List.getD_eq_getElem?_getD, List.getElem?_eq_getElem (by omega)]; rfl

theorem Al1 {X : List Rat} {n m r c : Nat} (hr : r < m) (hc : c < m) : (E7 X n m m).getD (r * m + c) 0 = X.getD (r * n + c) 0 := by
 have hi := Ei hr hc
 obtain ⟨d1, d2⟩ := dm (i := r) hc
 unfold E7
 rw [List.getD_eq_getElem?_getD, List.getElem?_map, List.getElem?_range hi]
 simp [d1, d2]

theorem Al9 {X : List Rat} {n m : Nat} (hX : Sv X 40) (hmn : m ≤ n) (hl : X.length = n * n) : Gw (Ek X n m) 40 := by
 intro r c
 unfold Ek
 split
 · rename_i h
   exact hX.get (by rw [hl]; exact Ei (by omega) (by omega))
 · exact C0.mono (by omega)

theorem Azq {X : List Rat} {n m : Nat} : Ay m (vq (E7 X n m m)) (vq (List.replicate m 0)) (Ek X n m) := by
 refine ⟨by simp [Q6], by simp, fun r c hr hc => ?_, fun r hr => ?_⟩
 · have hi := Ei hr hc
   have := Dr (X := E7 X n m m) (i := r * m + c) (by rw [Q6]; exact hi)
   rw [Al1 hr hc] at this
   refine this.trans ?_
   unfold Ek; rw [if_pos ⟨hr, hc⟩]
 · have := Dr (X := List.replicate m 0) (i := r) (by simpa using hr)
   refine this.trans ?_
   unfold Ek; rw [if_neg (by omega)]
   simp [List.getD_eq_getElem?_getD, hr]

theorem Uw {α : Type} {n m : Nat} (hm : m ≤ 100) (hn : 1048577 ≤ n) {k0 : List Rt → Option α} : ∀ (fu i : Nat), i ≤ m → m < i + fu → Z6 n fu (m : Int) (i : Int) (vq (List.replicate i 0)) k0 = k0 (vq (List.replicate m 0))
 | 0, i, hi, hf => by omega
 | fu + 1, i, hi, hf => by
  rw [Av5]
  unfold A3t
  rw [Bool.cond_decide]
  by_cases h : i < m
  · have e0 : f106 n 0 = some (rq 0) := A4r (c := 0) (by omega) hn
    have e : vq (List.replicate i 0) ++ [rq 0] = vq (List.replicate (i + 1) 0) := by rw [List.replicate_succ']; simp [vq]
    rw [if_pos (by omega), e0, A1, A3 (by simp; omega), e, A9 (x := (i : Int) + 1) (by omega) (by omega)]
    exact Uw hm hn fu (i + 1) (by omega) (by omega)
  · obtain rfl : i = m := by omega
    rw [if_neg (by omega)]

theorem Ajh {n m : Nat} (hm : m ≤ 100) (hn : 1048577 ≤ n) : f117 n (m : Int) = some (vq (List.replicate m 0)) := by
 unfold f117
 exact Uw (n := n) (k0 := fun z_2 => some z_2) hm hn n 0 (by omega) (by omega)

theorem B1a {n m i N : Nat} (hmn : m ≤ n) (hi : i < n) (hN : N = n * n) : (decide (0 ≤ ((i * n : Nat) : Int)) && decide (((i * n : Nat) : Int) ≤ ((i * n + m : Nat) : Int)) && decide (((i * n + m : Nat) : Int) ≤ (N : Int))) = true := by
 have h1 : (i + 1) * n ≤ n * n := Nat.mul_le_mul_right n hi
 rw [Nat.succ_mul] at h1
 generalize i * n = v at *
 generalize n * n = w at *
 simp; omega

theorem Avv {X : List Rat} {n m i : Nat} : ((vq X).drop (i * n)).take (i * n + m - i * n) = vq ((X.drop (i * n)).take m) := by
 rw [Nat.add_sub_cancel_left]
 simp [vq, List.map_drop, List.map_take]

theorem Al0 {X : List Rat} {n m i : Nat} (hmn : m ≤ n) (hi : i < n) (hX : X.length = n * n) : vq (E7 X n m i) ++ vq ((X.drop (i * n)).take m) = vq (E7 X n m (i + 1)) := by
 rw [← Azp hmn hi hX]; simp [vq]

theorem B0d {α : Type} {f n m : Nat} {X : List Rat} (hX : X.length = n * n) (hmn : m ≤ n) (hn4 : n ≤ 4) {k0 : List Rt → Int → Int → List Rt → Option α} : ∀ (fu i : Nat), i ≤ m → m < i + fu →
  Pa f fu (vq X) (n : Int) (m : Int) (i : Int) (vq (E7 X n m i)) k0 = k0 (vq X) (n : Int) (m : Int) (vq (E7 X n m m))
 | 0, i, hi, hf => by omega
 | fu + 1, i, hi, hf => by
  rw [As3]
  unfold A1f
  rw [Bool.cond_decide]
  by_cases h : i < m
  · have h16 := Dw hn4
    have h1 : (i + 1) * n ≤ n * n := Nat.mul_le_mul_right n (by omega)
    rw [Nat.succ_mul] at h1
    have h2 : i * m ≤ i * n := Nat.mul_le_mul_left i hmn
    rw [if_pos (by omega), Wm (by omega), Wa (by omega), At, A3 (B1a hmn (by omega) hX)]
    simp only [Int.toNat_natCast, Avv]
    rw [A3 (by simp [Q6]; omega), Al0 hmn (by omega) hX, W1 (by omega)]
    exact B0d hX hmn hn4 fu (i + 1) (by omega) (by omega)
  · obtain rfl : i = m := by omega
    rw [if_neg (by omega)]

theorem B0r {α : Type} {f n m : Nat} {X : List Rat} (hX : X.length = n * n) (hmn : m ≤ n) (hn4 : n ≤ 4) {k0 : List Rt → Int → Int → List Rt → Option α} : ∀ (fu i : Nat), i ≤ m → m < i + fu →
  Vq f fu (vq X) (n : Int) (m : Int) (m : Int) (i : Int) (vq (E7 X n m i)) k0 = k0 (vq X) (n : Int) (m : Int) (vq (E7 X n m m))
 | 0, i, hi, hf => by omega
 | fu + 1, i, hi, hf => by
  rw [Ayb]
  unfold A89
  rw [Bool.cond_decide]
  by_cases h : i < m
  · have h16 := Dw hn4
    have h1 : (i + 1) * n ≤ n * n := Nat.mul_le_mul_right n (by omega)
    rw [Nat.succ_mul] at h1
    have h2 : i * m ≤ i * n := Nat.mul_le_mul_left i hmn
    rw [if_pos (by omega), Wm (by omega), Wa (by omega), At, A3 (B1a hmn (by omega) hX)]
    simp only [Int.toNat_natCast, Avv]
    rw [A3 (by simp [Q6]; omega), Al0 hmn (by omega) hX, W1 (by omega)]
    exact B0r hX hmn hn4 fu (i + 1) (by omega) (by omega)
  · obtain rfl : i = m := by omega
    rw [if_neg (by omega)]

theorem A05 {α : Type} {f m : Nat} {P : List Rat} (hP : P.length = m * m) (hm : m ≤ 4) {k0 : List (List Rt) → Option α} : ∀ (fu i : Nat), i ≤ m → m < i + fu →
  Yn f fu (vq P) (m : Int) (m : Int) (i : Int) ((List.range i).map fun i => vq (Au P m i)) k0 = k0 ((List.range m).map fun i => vq (Au P m i))
 | 0, i, hi, hf => by omega
 | fu + 1, i, hi, hf => by
  rw [As8]
  unfold A1k
  rw [Bool.cond_decide]
  by_cases h : i < m
  · have h16 := Dw hm
    have h1 := Ln h
    have h2 : (i + 1) * m = i * m + m := Nat.succ_mul i _
    have hne : (!(vq (Au P m i)).isEmpty) = true := by
     have := Bd hP h
     cases hr : Au P m i with
     | nil => rw [hr] at this; simp at this; omega
     | cons => rfl
    rw [if_pos (by omega), W1 (by omega), Wm (by omega), Wm (by omega), At, A3 (Xw h hP)]
    simp only [Int.toNat_natCast]
    rw [Ox]
    unfold A6h
    rw [A3 hne, A3 (by simp [Bd hP h]; omega), A1, A3 (by simp; omega)]
    have e : ((List.range i).map fun i => vq (Au P m i)) ++ [vq (Au P m i)] = (List.range (i + 1)).map fun i => vq (Au P m i) := by simp [List.range_succ]
    rw [e]
    exact A05 hP hm fu (i + 1) (by omega) (by omega)
  · obtain rfl : i = m := by omega
    rw [if_neg (by omega)]

theorem B5c {f m : Nat} {P : List Rat} (hP : P.length = m * m) (hm : m ≤ 4) (hn : 1048577 ≤ f) : Afc f (vq P) (m : Int) () = some ((List.range m).map fun i => vq (Au P m i)) := by
 unfold Afc
 exact A05 (f := f) (k0 := fun z_2 => some z_2) hP hm f 0 (by omega) (by omega)

theorem Ax5 {m : Nat} {P : List Rat} {M : Nat → Nat → Rat} (hP : P.length = m * m) (hM : ∀ r c, r < m → c < m → P.getD (r * m + c) 0 = M r c) : Bw m m ((List.range m).map fun i => vq (Au P m i)) M := by
 refine ⟨by simp, fun r hr => ?_⟩
 have e : ((List.range m).map fun i => vq (Au P m i)).getD r [] = vq (Au P m r) := by
  rw [List.getD_eq_getElem?_getD, List.getElem?_map, List.getElem?_range hr]; rfl
 rw [e]
 refine ⟨by rw [At, Bd hP hr], fun c hc => ?_⟩
 have := Dr (X := Au P m r) (i := c) (by rw [Bd hP hr]; exact hc)
 refine this.trans ?_
 rw [← hM r c hr hc]
 unfold Au
 simp [List.getD_eq_getElem?_getD, List.getElem?_take, hc]

def G7 (X : List Rat) (n : Nat) : Nat → Nat → Bool
 | 0, _ => true
 | f + 1, m => decide (0 < Cs m (Ek X n m)) && G7 X n f (m + 1)

theorem B0b {x : Rat} : decide ((if x = 0 then (0 : Int) else if x.num < 0 then -1 else 1) ≤ 0) = !decide (0 < x) := by
 by_cases h : x = 0
 · rw [if_pos h]; subst h; rfl
 · rw [if_neg h]
   have hn : x.num ≠ 0 := fun e => h (Rat.num_eq_zero.1 e)
   by_cases c : x.num < 0
   · rw [if_pos c]
     have : ¬ 0 < x := fun h2 => by have := Rat.num_nonneg.2 (show (0 : Rat) ≤ x by grind); omega
     rw [decide_eq_false this]; rfl
   · rw [if_neg c]
     have : 0 < x := by
      have h3 := Rat.num_nonneg.1 (show 0 ≤ x.num by omega)
      grind
     rw [decide_eq_true this]; rfl

theorem Alh {α : Type} {f n : Nat} {X : List Rat} (hS : Sv X 40) (hX : X.length = n * n) (hn4 : n ≤ 4) (hf : 67108864 ≤ f) {k0 : Bool → Option α} {k1 : Unit → Option α} : ∀ (g m fu : Nat), g = n + 1 - m → 1 ≤ m → m ≤ n + 1 → n + 1 < m + fu →
  Fx f fu (vq X) (n : Int) (m : Int) k0 k1 = if G7 X n g m = true then k1 () else k0 false
 | g, m, 0, h1, h2, h3, h4 => by omega
 | 0, m, fu + 1, h1, h2, h3, h4 => by
  rw [Aax]
  unfold R4 G7
  rw [Bool.cond_decide, if_neg (by omega), if_pos rfl]
 | g + 1, m, fu + 1, h1, h2, h3, h4 => by
  rw [Aax]
  unfold R4
  rw [Bool.cond_decide, if_pos (by omega)]
  have e0 : E7 X n m 0 = [] := by simp [E7]
  have q := B0d (f := f) hX (show m ≤ n by omega) hn4 (k0 := fun z_8 z_9 z_10 z_11 => (
    ob (f117 f z_10) fun r_12 =>
    ob (f115 f z_11 r_12) fun r_13 =>
    ob (f135 f r_13.2.2) fun r_14 =>
    bif (decide (r_14 ≤ 0)) then
     k0 false
    else
     Fx f fu z_8 z_9 (W (z_10 + 1)) k0 k1)) f 0 (by omega) (by omega)
  rw [e0] at q
  have q : Pa f f (vq X) (n : Int) (m : Int) 0 [] _ = _ := q
  obtain ⟨a', b', d1, _⟩ := B3v (n := f) (m := m) (by omega) (Azq (X := X) (n := n)) (Al9 hS (by omega) hX) hf
  rw [q, Ajh (by omega) (by omega), A1, d1, A1]
  dsimp only
  rw [B4p, A1, B0b]
  unfold G7
  cases hp : decide (0 < Cs m (Ek X n m)) with
  | false => simp
  | true =>
   rw [Bool.not_true, cond_false, Bool.true_and, A9 (x := (m : Int) + 1) (by omega) (by omega)]
   exact Alh hS hX hn4 hf g (m + 1) fu (by omega) (by omega) (by omega) (by omega)

theorem Am0 {α : Type} {f n : Nat} {X : List Rat} (hS : Sv X 40) (hX : X.length = n * n) (hn4 : n ≤ 4) (hf : 67108864 ≤ f) {k0 : Bool → Option α} {k1 : Unit → Option α} : ∀ (g m fu : Nat), g = n + 1 - m → 1 ≤ m → m ≤ n + 1 → n + 1 < m + fu →
  Lz f fu (vq X) (n : Int) (m : Int) k0 k1 = if G7 X n g m = true then k1 () else k0 false
 | g, m, 0, h1, h2, h3, h4 => by omega
 | 0, m, fu + 1, h1, h2, h3, h4 => by
  rw [Af7]
  unfold Yf G7
  rw [Bool.cond_decide, if_neg (by omega), if_pos rfl]
 | g + 1, m, fu + 1, h1, h2, h3, h4 => by
  rw [Af7]
  unfold Yf
  rw [Bool.cond_decide, if_pos (by omega)]
  have e0 : E7 X n m 0 = [] := by simp [E7]
  have q := B0r (f := f) hX (show m ≤ n by omega) hn4 (k0 := fun z_3 z_4 z_5 z_6 => (
    ob (Afc f z_6 z_5 ()) fun r_7 =>
    ob (A8p f r_7) fun r_8 =>
    gd (Nat.beq r_8.2.length r_7.length && true) (
     ob (f141 f r_8.1) fun r_9 =>
     bif (decide (r_9 ≤ 0)) then
      k0 false
     else
      Lz f fu z_3 z_4 (W (z_5 + 1)) k0 k1))) f 0 (by omega) (by omega)
  rw [e0] at q
  have q : Vq f f (vq X) (n : Int) (m : Int) (m : Int) 0 [] _ = _ := q
  have hP : (E7 X n m m).length = m * m := Q6 X n m m
  have hrep := Ax5 (M := Ek X n m) hP (fun r c hr hc => by rw [Al1 hr hc]; unfold Ek; rw [if_pos ⟨hr, hc⟩])
  obtain ⟨R', d1, d2⟩ := Asb (n := f) (m := m) (w := m) (by omega) (Nat.le_refl _) (by omega) hrep (Al9 hS (by omega) hX) hf
  rw [q, B5c hP (by omega) (by omega), A1, d1, A1]
  dsimp only
  rw [A3 (by rw [d2.1]; simp), B5b, A1, B0b]
  unfold G7
  cases hp : decide (0 < Cs m (Ek X n m)) with
  | false => simp
  | true =>
   rw [Bool.not_true, cond_false, Bool.true_and, A9 (x := (m : Int) + 1) (by omega) (by omega)]
   exact Am0 hS hX hn4 hf g (m + 1) fu (by omega) (by omega) (by omega) (by omega)

theorem B4r {f : Nat} {x y : Rat} (hx : Sz x 40) (hy : Sz y 40) (hf : 1048577 ≤ f) : ∃ r, f134 f (rq x) (rq y) = some r ∧ (r == 0) = decide (x = y) := by
 obtain ⟨r, h1, h2, h3⟩ := B3j (n := f) (Ow hx) (Ow hy) hf
 rw [Ar0] at h2 h3
 exact ⟨r, h1, Avw h2 h3⟩

open Classical in
theorem Zu {α : Type} {f n i : Nat} {X : List Rat} (hS : Sv X 40) (hX : X.length = n * n) (hn4 : n ≤ 4) (hi : i < n) (hf : 1048577 ≤ f) {k0 : Bool → Option α} {k1 : List Rt → Int → Int → Option α} : ∀ (fu k : Nat), k ≤ i → i < k + fu →
  Vt f fu (vq X) (n : Int) (i : Int) (k : Int) k0 k1 = if (∀ j, k ≤ j → j < i → X.getD (i * n + j) 0 = X.getD (j * n + i) 0) then k1 (vq X) (n : Int) (i : Int) else k0 false
 | 0, k, h1, h2 => by omega
 | fu + 1, k, h1, h2 => by
  rw [Ayn]
  unfold A8k
  rw [Bool.cond_decide]
  by_cases h : k < i
  · have h16 := Dw hn4
    have i1 := Ei hi (show k < n by omega)
    have i2 := Ei (show k < n by omega) hi
    rw [if_pos (by omega), Wix (by omega), Wix (by omega), At, A3 (by simp; omega), A3 (by simp; omega)]
    simp only [Int.toNat_natCast]
    rw [Dr (by omega), Dr (by omega)]
    obtain ⟨r, r1, r2⟩ := B4r (f := f) (hS.get (show i * n + k < X.length by omega)) (hS.get (show k * n + i < X.length by omega)) hf
    rw [r1, A1]
    by_cases c : X.getD (i * n + k) 0 = X.getD (k * n + i) 0
    · rw [decide_eq_true c] at r2
      rw [show (r != 0) = false by rw [bne, r2]; rfl, cond_false, W1 (by omega), Zu hS hX hn4 hi hf fu (k + 1) (by omega) (by omega)]
      have e : (∀ j, k ≤ j → j < i → X.getD (i * n + j) 0 = X.getD (j * n + i) 0) ↔ (∀ j, k + 1 ≤ j → j < i → X.getD (i * n + j) 0 = X.getD (j * n + i) 0) :=
       ⟨fun hh j a b => hh j (by omega) b, fun hh j a b => by
        rcases Nat.eq_or_lt_of_le a with rfl | a
        · exact c
        · exact hh j a b⟩
      simp only [e]
    · rw [decide_eq_false c] at r2
      rw [show (r != 0) = true by rw [bne, r2]; rfl, cond_true, if_neg (fun hh => c (hh k (Nat.le_refl _) h))]
  · rw [if_neg (by omega), if_pos (fun j a b => by omega)]

open Classical in
theorem Alg {α : Type} {f n : Nat} {X : List Rat} (hS : Sv X 40) (hX : X.length = n * n) (hn4 : n ≤ 4) (hf : 1048577 ≤ f) {k0 : Bool → Option α} {k1 : List Rt → Int → Option α} : ∀ (fu i : Nat), i ≤ n → n < i + fu →
  M1 f fu (vq X) (n : Int) (i : Int) k0 k1 = if (∀ r c, i ≤ r → r < n → c < r → X.getD (r * n + c) 0 = X.getD (c * n + r) 0) then k1 (vq X) (n : Int) else k0 false
 | 0, i, h1, h2 => by omega
 | fu + 1, i, h1, h2 => by
  rw [Ayq]
  unfold A8n
  rw [Bool.cond_decide]
  by_cases h : i < n
  · have q := Zu (f := f) hS hX hn4 h hf (k0 := fun z_1 => k0 z_1) (k1 := fun z_2 z_3 z_4 => M1 f fu z_2 z_3 (W (z_4 + 1)) k0 k1) f 0 (by omega) (by omega)
    have q : Vt f f (vq X) (n : Int) (i : Int) 0 _ _ = _ := q
    rw [if_pos (by omega), q]
    by_cases c : ∀ j, 0 ≤ j → j < i → X.getD (i * n + j) 0 = X.getD (j * n + i) 0
    · rw [if_pos c, W1 (by omega), Alg hS hX hn4 hf fu (i + 1) (by omega) (by omega)]
      have e : (∀ r c, i ≤ r → r < n → c < r → X.getD (r * n + c) 0 = X.getD (c * n + r) 0) ↔ (∀ r c, i + 1 ≤ r → r < n → c < r → X.getD (r * n + c) 0 = X.getD (c * n + r) 0) :=
       ⟨fun hh r c a => hh r c (by omega), fun hh r c' a b d => by
        rcases Nat.eq_or_lt_of_le a with rfl | a
        · exact c c' (by omega) d
        · exact hh r c' a b d⟩
      simp only [e]
    · rw [if_neg c, if_neg (fun hh => c fun j _ hj => hh i j (Nat.le_refl _) h hj)]
  · rw [if_neg (by omega), if_pos (fun r c a b => by omega)]

theorem Xr {n : Nat} {X : List Rat} (hX : X.length = n * n) : X = Ee X n ↔ ∀ r c, 0 ≤ r → r < n → c < r → X.getD (r * n + c) 0 = X.getD (c * n + r) 0 := by
 have get : ∀ p, p < n * n → (Ee X n).getD p 0 = X.getD (p % n * n + p / n) 0 := fun p hp => by
  unfold Ee
  rw [List.getD_eq_getElem?_getD, List.getElem?_map, List.getElem?_range hp]; rfl
 constructor
 · intro h r c _ hr hc
   have hi := Ei hr (show c < n by omega)
   obtain ⟨d1, d2⟩ := dm (i := r) (show c < n by omega)
   have := get _ hi
   rw [← h, d1, d2] at this
   exact this
 · intro h
   apply List.ext_getElem
   · rw [A7l, hX]
   · intro p h1 h2
     have hp : p < n * n := by rw [← hX]; exact h1
     have g1 := get p hp
     obtain ⟨a1, a2⟩ := Ap0 hp
     have e1 : X[p] = X.getD p 0 := by rw [List.getD_eq_getElem?_getD, List.getElem?_eq_getElem h1]; rfl
     have e2 : (Ee X n)[p] = (Ee X n).getD p 0 := by rw [List.getD_eq_getElem?_getD, List.getElem?_eq_getElem h2]; rfl
     rw [e1, e2, g1]
     have e3 : p = p / n * n + p % n := by rw [Nat.mul_comm]; exact (Nat.div_add_mod p n).symm
     generalize p % n = u at *
     generalize p / n = v at *
     rw [e3]
     rcases Nat.lt_trichotomy u v with c | c | c
     · exact h v u (by omega) a2 c
     · rw [c]
     · exact (h u v (by omega) a1 c).symm

theorem B1l {f : Nat} {x : List Rt} {a : Int} (hf : 67108864 ≤ f) : ∃ r, f27 f x a = some r ∧ f26 f x a = some r := by
 unfold f27 f26
 rw [Pe (by simp) (by omega), A1, Arc (by omega), A1]
 unfold A7n Lw
 simp only [List.any_cons, List.any_nil, Bool.or_false, List.all_cons, List.all_nil, Bool.and_true, decide_eq_true_eq]
 rw [Bool.cond_decide]
 by_cases hl : x.length ≤ 4096
 · rw [if_neg (by omega), if_neg (by omega)]
   cases hm : Is x a with
   | true =>
    obtain ⟨k, X, rfl, h1, h2, rfl, hX, hlen⟩ := B55 hm
    have h16 := Dw h2
    have s40 := Awn hX hlen
    rw [Bool.not_true, cond_false, if_pos rfl, bne_self_eq_false, cond_false]
    unfold f66 f71 f139 S2
    have q1 := Alg (f := f) hX hlen h2 (by omega) (k0 := fun z_5 => some z_5) (k1 := fun z_6 z_7 => (
     Fx f f z_6 z_7 1
      (fun z_15 => (
       some z_15))
      (fun (_ : Unit) => (
       some true)))) f 0 (by omega) (by omega)
    have q1 : M1 f f (vq X) (k : Int) 0 _ _ = _ := q1
    have ml := A7l X k
    have q2 := Kb (n := f) (x := X) (y := Ee X k) (by rw [ml, hlen]) (by omega) hX s40 (by omega) (k0 := fun z_4 => some z_4) (k1 := fun (_ : Unit) => some true) f 0 (by omega) (by omega)
    have q2 : F8 f f (vq (Ee X k)) (vq X) (X.length : Int) 0 _ _ = _ := q2
    have p1 := Alh (f := f) hX hlen h2 hf (k0 := fun z_15 => some z_15) (k1 := fun (_ : Unit) => some true) k 1 f (by omega) (by omega) (by omega) (by omega)
    have p1 : Fx f f (vq X) (k : Int) 1 _ _ = _ := p1
    have p2 := Am0 (f := f) hX hlen h2 hf (k0 := fun z_10 => some z_10) (k1 := fun (_ : Unit) => some true) k 1 f (by omega) (by omega) (by omega) (by omega)
    have p2 : Lz f f (vq X) (k : Int) 1 _ _ = _ := p2
    rw [q1, Aqy hX hlen h2 (by omega), A1, At, At, show ((X.length : Int) != ((Ee X k).length : Int)) = false by rw [ml, hlen]; simp, cond_false, q2, List.drop_zero, List.drop_zero]
    by_cases hs : X = Ee X k
    · rw [if_pos ((Xr hlen).1 hs), if_pos hs, p1, A1, A1, Bool.not_true, cond_false, p2]
      cases G7 X k k 1 <;> exact ⟨_, rfl, rfl⟩
    · rw [if_neg (fun h => hs ((Xr hlen).2 h)), if_neg hs]
      exact ⟨_, rfl, rfl⟩
   | false => exact ⟨(false, 1), rfl, rfl⟩
 · rw [if_pos (by omega), if_pos (by omega)]
   exact ⟨(false, 2), rfl, rfl⟩

def Xo (M : Nat → Nat → Rat) : Rat := M 0 0

def Xn (M : Nat → Nat → Rat) : Rat := M 0 0 * M 1 1 - M 0 1 * M 1 0

def Aa4 (M : Nat → Nat → Rat) : Rat := M 0 0 * (M 1 1 * M 2 2 - M 1 2 * M 2 1) - M 0 1 * (M 1 0 * M 2 2 - M 1 2 * M 2 0) + M 0 2 * (M 1 0 * M 2 1 - M 1 1 * M 2 0)

theorem Aet {m : Nat} {d : Rat} {M : Nat → Nat → Rat} : (Am (m + 1) 1 m d M).1 = d * M m m := by
 have e : Bg M m (m + 1) = if M m m = 0 then m + 1 else m := by
  unfold Bg
  rw [show m + 1 - m = 1 by omega]
  unfold Ce
  rw [if_pos (by omega)]
  by_cases h : M m m = 0
  · rw [if_pos h, if_pos h]; rfl
  · rw [if_neg h, if_neg h]
 unfold Am
 rw [e]
 by_cases h : M m m = 0
 · rw [if_pos h, if_pos rfl, h, Rat.mul_zero]
 · rw [if_neg h, if_neg (by omega), if_pos rfl]
   unfold Am
   dsimp only
   unfold Ag
   rw [if_pos rfl]

theorem B1m {m k : Nat} {M : Nat → Nat → Rat} (h : m = k + 2) : Bg M k m = if M k k ≠ 0 then k else if M (k + 1) k ≠ 0 then k + 1 else m := by
 subst h
 unfold Bg
 rw [show k + 2 - k = 2 by omega]
 unfold Ce Ce Ce
 by_cases a : M k k = 0
 · by_cases b : M (k + 1) k = 0
   · simp [a, b]
   · simp [a, b]
 · simp [a]

theorem Ad8 {k : Nat} {d : Rat} {M : Nat → Nat → Rat} : (Am (k + 2) 2 k d M).1 = d * (M k k * M (k + 1) (k + 1) - M k (k + 1) * M (k + 1) k) := by
 have e := B1m (M := M) (show k + 2 = k + 2 from rfl)
 by_cases a : M k k = 0
 · by_cases b : M (k + 1) k = 0
   · have e : Bg M k (k + 2) = k + 2 := by rw [e]; simp [a, b]
     unfold Am
     rw [e, if_pos rfl, a, b]; grind
   · have e : Bg M k (k + 2) = k + 1 := by rw [e]; simp [a, b]
     unfold Am
     rw [e, if_neg (by omega), if_neg (by omega), Aet]
     unfold Ai Ag
     simp [a]
     grind
 · have e : Bg M k (k + 2) = k := by rw [e]; simp [a]
   unfold Am
   rw [e, if_neg (by omega), if_pos rfl, Aet]
   unfold Ai Ag
   have h := Rat.div_mul_cancel (a := M (k + 1) k) a
   simp
   generalize M (k + 1) k / M k k = t at *
   grind

theorem O2 {M : Nat → Nat → Rat} : Cs 1 M = Xo M := by
 unfold Cs Xo
 rw [Aet, Rat.one_mul]

theorem Th {M : Nat → Nat → Rat} : Cs 2 M = Xn M := by
 unfold Cs Xn
 rw [show Am 2 2 0 1 M = Am (0 + 2) 2 0 1 M from rfl, Ad8, Rat.one_mul]

theorem Aq6 {M : Nat → Nat → Rat} : Bg M 0 3 = if M 0 0 ≠ 0 then 0 else if M 1 0 ≠ 0 then 1 else if M 2 0 ≠ 0 then 2 else 3 := by
 unfold Bg
 rw [show 3 - 0 = 3 by omega]
 unfold Ce Ce Ce Ce
 by_cases a : M 0 0 = 0
 · by_cases b : M 1 0 = 0
   · by_cases c : M 2 0 = 0
     · simp [a, b, c]
     · simp [a, b, c]
   · simp [a, b]
 · simp [a]

theorem Zd {M : Nat → Nat → Rat} : Cs 3 M = Aa4 M := by
 unfold Cs Aa4
 have e := Aq6 (M := M)
 by_cases a : M 0 0 = 0
 · by_cases b : M 1 0 = 0
   · by_cases c : M 2 0 = 0
     · have e : Bg M 0 3 = 3 := by rw [e]; simp [a, b, c]
       unfold Am
       rw [e, if_pos rfl, a, b, c]; grind
     · have e : Bg M 0 3 = 2 := by rw [e]; simp [a, b, c]
       unfold Am
       rw [e, if_neg (by omega), if_neg (by omega), show Am 3 2 (0 + 1) = Am (1 + 2) 2 1 from rfl, Ad8]
       unfold Ai Ag
       simp [a, b]
       grind
   · have e : Bg M 0 3 = 1 := by rw [e]; simp [a, b]
     unfold Am
     rw [e, if_neg (by omega), if_neg (by omega), show Am 3 2 (0 + 1) = Am (1 + 2) 2 1 from rfl, Ad8]
     unfold Ai Ag
     have h := Rat.div_mul_cancel (a := M 2 0) b
     simp [a]
     generalize M 2 0 / M 1 0 = t at *
     grind
 · have e : Bg M 0 3 = 0 := by rw [e]; simp [a]
   unfold Am
   rw [e, if_neg (by omega), if_pos rfl, show Am 3 2 (0 + 1) = Am (1 + 2) 2 1 from rfl, Ad8]
   unfold Ai Ag
   have h1 := Rat.div_mul_cancel (a := M 1 0) a
   have h2 := Rat.div_mul_cancel (a := M 2 0) a
   simp
   generalize M 1 0 / M 0 0 = t at *
   generalize M 2 0 / M 0 0 = u at *
   grind

theorem B4t (a : Int) : rq (a : Rat) = (decide (a < 0), dg a.natAbs, dg 1) := by
 unfold rq
 rw [Rat.num_intCast, Rat.den_intCast]

theorem B4q {n : Nat} {a : Int} (h : -1000000000 ≤ a ∧ a ≤ 1000000000) (hn : 1048577 ≤ n) : f106 n a = some (rq (a : Rat)) := by rw [A9n h hn, B4t]

theorem Ahv {a : Int} {N : Nat} (h : a.natAbs ≤ N) : Bq (a : Rat) N 1 := by
 unfold Bq
 rw [Rat.num_intCast, Rat.den_intCast]
 exact ⟨h, Nat.le_refl _⟩

theorem B8n {x : Rat} {N D : Nat} (h : Bq x N D) : Bq (-x) N D := by
 unfold Bq at *
 rw [Rat.neg_num, Rat.neg_den, Int.natAbs_neg]
 exact h

theorem Xq {x y : Rat} {N D N' D' : Nat} (hx : Bq x N D) (hy : Bq y N' D') : Bq (x - y) (N * D' + N' * D) (D * D') := by
 rw [Rat.sub_eq_add_neg]; exact A78 hx (B8n hy)

theorem A0t {α : Type} {n k : Nat} (hk : k ≤ 4) (hn : 1048577 ≤ n) {k0 : List Rt → List Int → Int → Int → Option α} : ∀ (m i : Nat) (P : Int) (o : List Rat) (s : Src), Ju P s → P + 3 * (k * k - i : Nat) ≤ 1099511620000 → o.length = i → i ≤ k * k → k * k < i + m → Bv o 3 1 →
  ∃ (x : List Rat) (s' : Src), x.length = k * k ∧ Bv x 3 1 ∧ L6 n m (k : Int) (i : Int) (vq o) s.1 s.2.1 s.2.2 k0 = k0 (vq x) s'.1 s'.2.1 s'.2.2
 | 0, i, P, o, s, h1, h2, h3, h4, h5, h6 => by omega
 | m + 1, i, P, o, s, h1, h2, h3, h4, h5, h6 => by
  have h16 := Dw hk
  rw [Asp]
  unfold A1s
  rw [Bool.cond_decide, Wm (by omega)]
  by_cases h : i < k * k
  · obtain ⟨v, s', e1, r1, o1⟩ := A9m (n := n) (k := 7) h1 (by omega) (by omega) (by omega)
    have e1 : Ta n (s.1, s.2.1, s.2.2) 7 = some (v, s') := e1
    rw [if_pos (by omega), e1, A1]
    dsimp only
    rw [A9 (x := v - 3) (by omega) (by omega), B4q (by omega) hn, A1, A3 (by simp [At]; omega), A9 (x := (i : Int) + 1) (by omega) (by omega)]
    have e : vq o ++ [rq ((v - 3 : Int) : Rat)] = vq (o ++ [((v - 3 : Int) : Rat)]) := by simp [vq]
    rw [e]
    exact A0t hk hn m (i + 1) (P + 3) (o ++ [((v - 3 : Int) : Rat)]) s' o1 (by omega) (by simp [h3]) (by omega) (by omega) (fun a ha => by
     rcases List.mem_append.1 ha with ha | ha
     · exact h6 a ha
     · rw [List.mem_singleton.1 ha]; exact Ahv (by omega))
  · rw [if_neg (by omega)]
    exact ⟨o, s, by omega, h6, rfl⟩

theorem Aql {n k : Nat} {l : List Int} (h : ∀ x ∈ l, 0 ≤ x ∧ x ≤ 255) (hl : l.length ≤ 1048576) (hk : k ≤ 4) (hn : 1048577 ≤ n) : ∃ X : List Rat, f11 n l (k : Int) = some (vq X) ∧ X.length = k * k ∧ Bv X 3 1 := by
 have h16 := Dw hk
 unfold f11 A1t Afl
 rw [A1]
 obtain ⟨x, s', a1, a2, a3⟩ := A0t (n := n) hk hn (k0 := fun z_3 z_4 z_5 z_6 => some (z_3, (z_4, z_5, z_6))) n 0 0 [] (l, 0, Int.tmod (l.length : Int) 1000) (Ax1 h hl) (by omega) rfl (by omega) (by omega) (fun a ha => by simp at ha)
 have a3 : L6 n n (k : Int) 0 [] l 0 (Int.tmod (l.length : Int) 1000) _ = _ := a3
 dsimp only
 rw [a3, A1]
 exact ⟨x, rfl, a1, a2⟩

theorem Aqh {X : List Rat} {k : Nat} (hX : Sv X 40) (hl : X.length = k * k) (h1 : 1 ≤ k) (h4 : k ≤ 4) : Is (vq X) (k : Int) = true := by
 unfold Is
 simp only [Bool.and_eq_true, decide_eq_true_eq, beq_iff_eq]
 refine ⟨⟨by omega, ?_⟩, List.all_eq_true.2 fun r hr => ?_⟩
 · rw [At, hl, ← Int.natCast_mul]
 · obtain ⟨x, hx, rfl⟩ := List.mem_map.1 hr
   exact Ow (hX x hx)

theorem A0u {X : List Rat} {k : Nat} (hX : Sv X 40) (hl : X.length = k * k) (h1 : 1 ≤ k) (h4 : k ≤ 4) : A7n (k : Int) [vq X] = 0 := by
 have h16 := Dw h4
 unfold A7n Lw
 rw [if_neg (by simp; omega), if_pos (by simp [Aqh hX hl h1 h4])]

theorem B8s {n : Nat} {x : Rat} : f121 n (rq x) = some (I2 x) := by
 unfold f121 I2 rq
 dsimp only
 rw [Bool.cond_decide]
 by_cases h : (dg x.num.natAbs).length ≤ 40
 · rw [if_pos (by omega), decide_eq_true h, Bool.true_and]
   by_cases c : (dg x.den).length ≤ 40
   · rw [decide_eq_true c, decide_eq_true (by omega)]
   · rw [decide_eq_false c, decide_eq_false (by omega)]
 · rw [if_neg (by omega), decide_eq_false h]; rfl

def Alv (X : List Rat) (k : Nat) : Nat → Nat → Rat := Ek X k k

theorem Ft {X : List Rat} {k r : Nat} (hl : X.length = k * k) (hr : r < k) : Au X k r = (List.range k).map fun j => X.getD (r * k + j) 0 := by
 apply List.ext_getElem
 · rw [Bd hl hr]; simp
 · intro j h1 h2
   simp at h2
   have := Ei hr h2
   simp only [Au, List.getElem_take, List.getElem_drop, List.getElem_map, List.getElem_range]
   rw [List.getD_eq_getElem?_getD, List.getElem?_eq_getElem (by omega)]; rfl

theorem B4i {N : Nat} : Bq 0 N 1 := ⟨by simp, by decide⟩

theorem Lj {x y : Rat} {L K : Nat} (hx : Sz x L) (hy : Sz y K) : Sz (x + y) (L + K + 1) := by
 obtain ⟨x1, x2⟩ := hx
 obtain ⟨y1, y2⟩ := hy
 have l1 := Ar x.num.natAbs y.den
 have l2 := Ar y.num.natAbs x.den
 have l3 := Ar x.den y.den
 have l4 := P3 (x.num.natAbs * y.den) (y.num.natAbs * x.den)
 have hd : 0 < x.den * y.den := Nat.mul_pos (Nat.pos_of_ne_zero x.den_nz) (Nat.pos_of_ne_zero y.den_nz)
 by_cases hs : decide (x.num < 0) = decide (y.num < 0)
 · rw [Nc hs]; exact Im hd (by omega) (by omega)
 · by_cases hle : y.num.natAbs * x.den ≤ x.num.natAbs * y.den
   · have l5 := Aw (Nat.sub_le (x.num.natAbs * y.den) (y.num.natAbs * x.den))
     rw [Gt hs hle]; exact Im hd (by omega) (by omega)
   · have l5 := Aw (Nat.sub_le (y.num.natAbs * x.den) (x.num.natAbs * y.den))
     rw [Rat.add_comm, Gt (fun e => hs e.symm) (by omega), Nat.mul_comm y.den x.den]; exact Im hd (by omega) (by omega)

theorem Al7 {x y : Rat} {L K : Nat} (hx : Sz x L) (hy : Sz y K) : Sz (x - y) (L + K + 1) := by
 rw [Rat.sub_eq_add_neg]; exact Lj hx (Gu hy)

theorem Qd {x y : Rat} {L K : Nat} (hx : Sz x L) (hy : Sz y K) : Sz (x * y) (L + K + 1) := by
 obtain ⟨x1, x2⟩ := hx
 obtain ⟨y1, y2⟩ := hy
 have l1 := Ar x.num.natAbs y.num.natAbs
 have l3 := Ar x.den y.den
 rw [V8]
 exact Im (Nat.mul_pos (Nat.pos_of_ne_zero x.den_nz) (Nat.pos_of_ne_zero y.den_nz)) (by omega) (by omega)

theorem Aa2 {x y : Rat} {L K : Nat} (hx : Sz x L) (hy : Sz y K) (hy0 : y ≠ 0) : Sz (x / y) (L + K + 1) := by
 obtain ⟨x1, x2⟩ := hx
 obtain ⟨y1, y2⟩ := hy
 have l1 := Ar x.num.natAbs y.den
 have l3 := Ar x.den y.num.natAbs
 have hyn : y.num ≠ 0 := fun e => hy0 (Rat.num_eq_zero.1 e)
 rw [Xf hy0]
 exact Im (Nat.mul_pos (Nat.pos_of_ne_zero x.den_nz) (by omega)) (by omega) (by omega)

theorem B5d {n L : Nat} {x y : Rat} (hx : Sz x L) (hy : Sz y L) (hL : 2 * L + 1 ≤ 1099511627000) (hn : 28 * (2 * L + 1) + 10040 ≤ n) : f110 n (rq x) (rq y) = some (rq (x - y)) := by
 unfold f110
 rw [Ad7 hy (by omega), A1, A5a hx (Gu hy) hL hn, A1, Rat.sub_eq_add_neg]

theorem Y4 {n : Nat} (hn : 1048577 ≤ n) : f92 n 0 = some (rq 0) := Ara (c := 0) (by omega) hn

theorem Apb {T i : Nat} (h : i < 4) : T * (i + 1) = T * i + T ∧ T * i ≤ T * 3 := ⟨Nat.mul_succ T i, Nat.mul_le_mul_left T (by omega)⟩

theorem Aau {α : Type} {n L K : Nat} {x y : List Rat} (hx : Sv x L) (hy : Sv y K) (hl : x.length = y.length) (h4 : x.length ≤ 4) (hB : 8 * (L + K + 2) + 3 ≤ 1099511627000) (hn : 28 * (8 * (L + K + 2) + 3) + 10040 ≤ n) {f : Bool} {k0 : Bool → Bool → List Int → List Int → List Rt → Option α} : ∀ (m i : Nat) (acc : Rat), Sz acc ((L + K + 2) * i + 1) → i ≤ x.length → x.length < i + m →
  P9 n m (vq x) (x.length : Int) (i : Int) f (rq acc).1 (rq acc).2.1 (rq acc).2.2 (vq y) k0 = k0 f (rq (A7 acc (x.drop i) (y.drop i))).1 (rq (A7 acc (x.drop i) (y.drop i))).2.1 (rq (A7 acc (x.drop i) (y.drop i))).2.2 (vq y)
 | 0, i, acc, ho, hi, hm => by omega
 | m + 1, i, acc, ho, hi, hm => by
  rw [Arn]
  unfold A18
  dsimp only
  rw [Bool.cond_decide]
  by_cases h : i < x.length
  · rw [if_pos (by omega), A3 (by simp; omega), A3 (by simp; omega), A3 (by simp; omega)]
    obtain ⟨t1, t2⟩ := Apb (T := L + K + 2) (i := i) (by omega)
    have h1 : Sz (x.getD i 0 * y.getD i 0) (L + K + 1) := Qd (hx.get h) (hy.get (by omega))
    have h2 : Sz (acc + x.getD i 0 * y.getD i 0) ((L + K + 2) * (i + 1) + 1) := (Lj ho h1).mono (by omega)
    have e2 := A5a (n := n) (L := (L + K + 2) * 3 + 1) (ho.mono (by omega)) (h1.mono (by omega)) (by omega) (by omega)
    have e2 : f104 n ((rq acc).1, (rq acc).2.1, (rq acc).2.2) _ = _ := e2
    have e1 := Y5 (n := n) (L := L + K) ((hx.get h).mono (by omega)) ((hy.get (show i < y.length by omega)).mono (by omega)) (by omega) (by omega)
    rw [Int.toNat_natCast, Cp h, Cp (by omega), e1, A1, e2, A1, A9 (x := (i : Int) + 1) (by omega) (by omega)]
    have := Aau hx hy hl h4 hB hn (f := f) (k0 := k0) m (i + 1) _ h2 (by omega) (by omega)
    rw [Dq h, Dq (x := y) (by omega)]
    rw [show (i : Int) + 1 = ((i + 1 : Nat) : Int) from rfl, this]
    rfl
  · rw [if_neg (by omega), List.drop_of_length_le (by omega), List.drop_of_length_le (by omega)]
    rfl

theorem B5e {n L K : Nat} {x y : List Rat} (hx : Sv x L) (hy : Sv y K) (hl : x.length = y.length) (h4 : x.length ≤ 4) (hB : 8 * (L + K + 2) + 3 ≤ 1099511627000) (hn : 28 * (8 * (L + K + 2) + 3) + 10040 ≤ n) (hn1 : 1048577 ≤ n) : Af4 n (vq x) (vq y) = some (rq (A7 0 x y), vq y) := by
 unfold Af4
 rw [Y4 hn1, A1]
 have h1 := Aau (n := n) hx hy hl h4 hB hn (f := false) (k0 := fun z_6 z_7 z_8 z_9 z_10 => some ((z_7, z_8, z_9), z_10)) n 0 0 (C0.mono (by omega)) (by omega) (by omega)
 have h1 : P9 n n (vq x) (x.length : Int) 0 _ _ _ _ _ _ = _ := h1
 rw [At, h1, List.drop_zero, List.drop_zero]

theorem Hk {L K : Nat} : ∀ {x y : List Rat} {acc : Rat} {i : Nat}, Sv x L → Sv y K → Sz acc ((L + K + 2) * i + 1) → i + x.length ≤ 4 → Sz (A7 acc x y) ((L + K + 2) * 4 + 1)
 | [], _, acc, i, _, _, h, hl => h.mono (by have := Nat.mul_le_mul_left (L + K + 2) (show i ≤ 4 by simp at hl; omega); omega)
 | p :: x, [], acc, i, _, _, h, hl => h.mono (by have := Nat.mul_le_mul_left (L + K + 2) (show i ≤ 4 by omega); omega)
 | p :: x, q :: y, acc, i, hx, hy, h, hl => by
  have h1 : Sz (p * q) (L + K + 1) := Qd (hx p (by simp)) (hy q (by simp))
  have h2 : Sz (acc + p * q) ((L + K + 2) * (i + 1) + 1) := (Lj h h1).mono (by rw [Nat.mul_succ]; omega)
  simp only [List.length_cons] at hl
  exact Hk (x := x) (y := y) (fun a ha => hx a (by simp [ha])) (fun a ha => hy a (by simp [ha])) h2 (by omega)

def Dl (M : Nat → Nat → Rat) (m i : Nat) : List Rat := (List.range m).map (M i)

theorem Lo (M : Nat → Nat → Rat) (m i : Nat) : (Dl M m i).length = m := by simp [Dl]

def bsV (M : Nat → Nat → Rat) (m i : Nat) (X : List Rat) : Rat := (M i m - A7 0 (Dl M m i) X) / M i i

def bs (M : Nat → Nat → Rat) (m : Nat) : Nat → List Rat → List Rat
 | 0, X => X
 | i + 1, X => bs M m i (X.set i (bsV M m i X))

theorem Aw9 (M : Nat → Nat → Rat) (m : Nat) : ∀ (i : Nat) (X : List Rat), (bs M m i X).length = X.length
 | 0, _ => rfl
 | i + 1, X => by unfold bs; rw [Aw9 M m i]; simp

def kb (L : Nat) : Nat → Nat → Nat
 | 0, K => K
 | i + 1, K => kb L i (6 * L + 4 * K + 20)

theorem B0m (L : Nat) : ∀ (i K : Nat), K ≤ kb L i K
 | 0, _ => Nat.le_refl _
 | i + 1, K => by unfold kb; have := B0m L i (6 * L + 4 * K + 20); omega

theorem Aa3 {M : Nat → Nat → Rat} {m i L : Nat} (h : Gw M L) : Sv (Dl M m i) L := fun a ha => by
 obtain ⟨c, _, rfl⟩ := List.mem_map.1 ha
 exact h i c

theorem B8i {M : Nat → Nat → Rat} {m i L K : Nat} {X : List Rat} (hM : Gw M L) (hX : Sv X K) (hm : m ≤ 4) (hd : M i i ≠ 0) : Sz (bsV M m i X) (6 * L + 4 * K + 20) :=
 (Aa2 (Al7 (hM i m) (Hk (i := 0) (Aa3 hM) hX (C0.mono (by omega)) (by rw [Lo]; omega))) (hM i i) hd).mono (by omega)

theorem B8j {X : List Rat} {K i : Nat} {x : Rat} (h : Sv X K) (hx : Sz x K) : Sv (X.set i x) K := fun a ha => by
 rcases List.mem_or_eq_of_mem_set ha with h1 | rfl
 · exact h a h1
 · exact hx

theorem B4l {X : List Rat} {i : Nat} {x : Rat} : (vq X).set i (rq x) = vq (X.set i x) := by simp [vq, List.map_set]

theorem Apw {m : Nat} {row : List Rt} {v : Nat → Rat} (h : Eo (m + 1) row v) : (row.drop 0).take (m - 0) = vq ((List.range m).map v) := by
 rw [List.drop_zero, Nat.sub_zero]
 apply List.ext_getElem
 · simp [h.1]
 · intro j h1 h2
   simp [h.1] at h1
   have := h.2 j (by omega)
   rw [List.getD_eq_getElem?_getD, List.getElem?_eq_getElem (by rw [h.1]; omega)] at this
   simp only [List.getElem_take, vq, List.getElem_map, List.getElem_range]
   exact this

theorem B5g {α : Type} {n m L : Nat} {R : List (List Rt)} {M : Nat → Nat → Rat} (hR : Bw m (m + 1) R M) (hM : Gw M L) (hm : m ≤ 4) (hd : ∀ i, i < m → M i i ≠ 0) (hn1 : 1048577 ≤ n) {k0 : List Rt → Option α} : ∀ (i fu K : Nat) (X : List Rat), X.length = m → Sv X K → i ≤ m → i < fu → 4 * kb L i K + 3 ≤ 1099511627000 → 28 * (4 * kb L i K + 3) + 10040 ≤ n →
  A5u n fu (m : Int) ((i : Int) - 1) R (vq X) k0 = k0 (vq (bs M m i X))
 | i, 0, K, X, h1, h2, h3, h4, h5, h6 => by omega
 | 0, fu + 1, K, X, h1, h2, h3, h4, h5, h6 => by
  rw [Afg]
  unfold Yq
  rw [Bool.cond_decide, if_neg (by omega)]; rfl
 | i + 1, fu + 1, K, X, h1, h2, h3, h4, h5, h6 => by
  have hk := B0m L i (6 * L + 4 * K + 20)
  simp only [kb] at h5 h6
  rw [Afg]
  unfold Yq
  have ei : (((i + 1 : Nat) : Int) - 1) = (i : Int) := by omega
  have ri := hR.2 i (by omega)
  have c1 : (R.getD i []).getD m (false, [], []) = rq (M i m) := ri.2 m (by omega)
  have c2 : (R.getD i []).getD i (false, [], []) = rq (M i i) := ri.2 i (by omega)
  have hr := hR.1
  have hw := ri.1
  rw [ei, Bool.cond_decide, if_pos (by omega)]
  dsimp only
  simp only [Int.toNat_natCast]
  rw [c1, c2, Apw ri]
  have hz := Hk (i := 0) (acc := 0) (Aa3 (i := i) (m := m) hM) h2 (C0.mono (by omega)) (by rw [Lo]; omega)
  have hd1 := B5e (n := n) (Aa3 (i := i) (m := m) hM) h2 (by rw [Lo, h1]) (by rw [Lo]; exact hm) (by omega) (by omega) hn1
  have hd1 : Af4 n (vq ((List.range m).map (M i))) (vq X) = _ := hd1
  have hs := Al7 (hM i m) hz
  have e3 := B5d (n := n) (L := (L + K + 2) * 4 + 1) ((hM i m).mono (by omega)) hz (by omega) (by omega)
  have e4 := A5b (n := n) (L := 5 * L + 4 * K + 11) (hs.mono (by omega)) ((hM i i).mono (by omega)) (hd i (by omega)) (by omega) (by omega)
  have g : ∀ {p q : Prop} {_ : Decidable p} {_ : Decidable q}, p → q → (decide p && decide q) = true := fun a b => by simp [a, b]
  rw [A3 (g (by omega) (by omega)), A3 (decide_eq_true (by omega)), A3 (g (by omega) (by omega)), A3 (g (by omega) (by omega)), A3 (decide_eq_true (by omega)), A3 (g (by omega) (by omega)), hd1, A1,
   A3 (by simp), e3, A1, A3 (g (by omega) (by omega)), A3 (decide_eq_true (by omega)), A3 (g (by omega) (by omega)), e4, A1, A3 (by simp [h1]; omega), A3 (by simp [h1]; omega), A9 (x := (i : Int) - 1) (by omega) (by omega), B4l]
  have hv := B8i (m := m) (i := i) hM h2 hm (hd i (by omega))
  exact B5g hR hM hm hd hn1 i fu (6 * L + 4 * K + 20) (X.set i (bsV M m i X)) (by simp [h1]) (B8j (h2.mono (by omega)) hv) (by omega) (by omega) h5 h6

theorem Aja {i : Nat} : vq (List.replicate i 0) ++ [rq 0] = vq (List.replicate (i + 1) 0) := by
 rw [List.replicate_succ']; simp [vq]

theorem U8 {α : Type} {n m : Nat} (hm : m ≤ 1000) (hn : 1048577 ≤ n) {k0 : List Rt → Option α} : ∀ (fu i : Nat), i ≤ m → m < i + fu → Yc n fu (m : Int) (i : Int) (vq (List.replicate i 0)) k0 = k0 (vq (List.replicate m 0))
 | 0, i, h1, h2 => by omega
 | fu + 1, i, h1, h2 => by
  rw [Arq]
  unfold A1b
  rw [Bool.cond_decide]
  by_cases h : i < m
  · rw [if_pos (by omega), Y4 hn, A1, A3 (by simp; omega), W1 (by omega), Aja]
    exact U8 hm hn fu (i + 1) (by omega) (by omega)
  · obtain rfl : i = m := by omega
    rw [if_neg (by omega)]

theorem Axt {n m : Nat} (hm : m ≤ 1000) (hn : 1048577 ≤ n) : Amg n (m : Int) = some (vq (List.replicate m 0)) := by
 unfold Amg
 exact U8 (n := n) (k0 := fun z => some z) hm hn n 0 (by omega) (by omega)

def Cf (A B : List Rat) (k : Nat) : Nat → Nat → Rat := fun r c => if r < k ∧ c < k then A.getD (r * k + c) 0 else if r < k ∧ c = k then B.getD r 0 else 0

theorem Zi {X : List Rat} {L i : Nat} (h : Sv X L) (h1 : 1 ≤ L) : Sz (X.getD i 0) L := by
 by_cases c : i < X.length
 · exact h.get c
 · have : X.getD i 0 = 0 := by simp [List.getD_eq_getElem?_getD, List.getElem?_eq_none (Nat.le_of_not_lt c)]
   rw [this]; exact C0.mono h1

theorem Ala {A B : List Rat} {k : Nat} (hA : Sv A 40) (hB : Sv B 40) : Gw (Cf A B k) 40 := by
 intro r c
 unfold Cf
 split
 · exact Zi hA (by omega)
 · split
   · exact Zi hB (by omega)
   · exact C0.mono (by omega)

theorem Vh {α : Type} {f m : Nat} {P B : List Rat} (hP : P.length = m * m) (hB : B.length = m) (hm : m ≤ 4) {k0 : List (List Rt) → Option α} : ∀ (fu i : Nat), i ≤ m → m < i + fu →
  R7 f fu (vq P) (m : Int) (vq B) (m : Int) (i : Int) ((List.range i).map fun i => vq (Au P m i) ++ [rq (B.getD i 0)]) k0 = k0 ((List.range m).map fun i => vq (Au P m i) ++ [rq (B.getD i 0)])
 | 0, i, hi, hf => by omega
 | fu + 1, i, hi, hf => by
  rw [Amp]
  unfold Vw
  rw [Bool.cond_decide]
  by_cases h : i < m
  · have h16 := Dw hm
    have h1 := Ln h
    have h2 : (i + 1) * m = i * m + m := Nat.succ_mul i _
    have hne : (!(vq (Au P m i)).isEmpty) = true := by
     have := Bd hP h
     cases hr : Au P m i with
     | nil => rw [hr] at this; simp at this; omega
     | cons => rfl
    have hne2 : (!(vq B).isEmpty) = true := by
     cases hr : B with
     | nil => rw [hr] at hB; simp at hB; omega
     | cons => rfl
    have eb : (vq B).getD i (false, [], []) = rq (B.getD i 0) := Dr (by omega)
    rw [if_pos (by omega), W1 (by omega), Wm (by omega), Wm (by omega), At, A3 (Xw h hP)]
    simp only [Int.toNat_natCast]
    rw [Ox]
    unfold A6h
    rw [A3 hne, A3 (by simp [Bd hP h]; omega), A1, A3 hne2, A3 (by simp [hB]; omega), A3 (by simp [Bd hP h]; omega), A3 (by simp; omega), eb]
    have e : ((List.range i).map fun i => vq (Au P m i) ++ [rq (B.getD i 0)]) ++ [vq (Au P m i) ++ [rq (B.getD i 0)]] = (List.range (i + 1)).map fun i => vq (Au P m i) ++ [rq (B.getD i 0)] := by simp [List.range_succ]
    rw [e]
    exact Vh hP hB hm fu (i + 1) (by omega) (by omega)
  · obtain rfl : i = m := by omega
    rw [if_neg (by omega)]

theorem B1y {f m : Nat} {P B : List Rat} (hP : P.length = m * m) (hB : B.length = m) (hm : m ≤ 4) (hn : 1048577 ≤ f) : Adb f (vq P) (m : Int) (vq B) = some ((List.range m).map fun i => vq (Au P m i) ++ [rq (B.getD i 0)]) := by
 unfold Adb
 exact Vh (f := f) (k0 := fun z_2 => some z_2) hP hB hm f 0 (by omega) (by omega)

theorem Apv {m : Nat} {P B : List Rat} (hP : P.length = m * m) : Bw m (m + 1) ((List.range m).map fun i => vq (Au P m i) ++ [rq (B.getD i 0)]) (Cf P B m) := by
 refine ⟨by simp, fun r hr => ?_⟩
 have e : ((List.range m).map fun i => vq (Au P m i) ++ [rq (B.getD i 0)]).getD r [] = vq (Au P m r) ++ [rq (B.getD r 0)] := by
  rw [List.getD_eq_getElem?_getD, List.getElem?_map, List.getElem?_range hr]; rfl
 rw [e]
 refine ⟨by simp [Bd hP hr], fun c hc => ?_⟩
 by_cases h : c < m
 · rw [U9 (by rw [At, Bd hP hr]; exact h)]
   refine (Dr (X := Au P m r) (i := c) (by rw [Bd hP hr]; exact h)).trans ?_
   unfold Cf
   rw [if_pos ⟨hr, h⟩]
   unfold Au
   simp [List.getD_eq_getElem?_getD, List.getElem?_take, h]
 · obtain rfl : c = m := by omega
   rw [Ua (by rw [At, Bd hP hr])]
   unfold Cf
   rw [if_neg (by omega), if_pos ⟨hr, rfl⟩]

theorem Ac9 {m : Nat} : ∀ (f k : Nat) (M : Nat → Nat → Rat) (d : Rat) (L : Nat), Gw M L → f = m - k → k ≤ m → Gw (Am m f k d M).2 (Nn L f)
 | 0, k, M, d, L, hM, h, hk => by unfold Am Nn; exact hM
 | f + 1, k, M, d, L, hM, h, hk => by
  have hl := A52 f (8 * L + 7)
  unfold Am Nn
  split
  · exact hM.mono (by omega)
  · rename_i hp
    obtain ⟨p1, p2⟩ := Kz (M := M) (k := k) (m := m) (m - k) k hk
    have hne : M (Bg M k m) k ≠ 0 := P0 (m - k) k (by omega) (by have : Bg M k m ≤ m := p2; have : Bg M k m ≠ m := hp; show Bg M k m < m; omega)
    have hs := A4i (k := k) (p := Bg M k m) hM
    have hnz : Ag M k (Bg M k m) k k ≠ 0 := by unfold Ag; rw [if_pos rfl]; exact hne
    exact Ac9 f (k + 1) _ _ (8 * L + 7) (Tz hs hnz) (by omega) (by omega)

theorem Qr {m : Nat} : ∀ (f k : Nat) (M : Nat → Nat → Rat) (d : Rat), f = m - k → k ≤ m → Zz m k M → (∀ i, i < k → M i i ≠ 0) → (Am m f k d M).1 ≠ 0 → Zz m m (Am m f k d M).2 ∧ ∀ i, i < m → (Am m f k d M).2 i i ≠ 0
 | 0, k, M, d, h, hk, hlow, hd, hne => by
  obtain rfl : k = m := by omega
  exact ⟨hlow, hd⟩
 | f + 1, k, M, d, h, hk, hlow, hd, hne => by
  unfold Am at hne ⊢
  split at hne
  · exact absurd rfl hne
  · rename_i hp
    rw [if_neg hp]
    obtain ⟨p1, p2⟩ := Kz (M := M) (k := k) (m := m) (m - k) k hk
    have p1 : k ≤ Bg M k m := p1
    have p2 : Bg M k m ≤ m := p2
    have hpm : Bg M k m < m := by omega
    have hnk : M (Bg M k m) k ≠ 0 := P0 (m - k) k (by omega) hpm
    have hnz : Ag M k (Bg M k m) k k ≠ 0 := by unfold Ag; rw [if_pos rfl]; exact hnk
    refine Qr f (k + 1) _ _ (by omega) (by omega) (Aek (Aej hlow p1 hpm) (by omega) hnz) (fun i hi => ?_) hne
    unfold Ai
    rw [if_neg (by omega)]
    by_cases e : i = k
    · subst e; exact hnz
    · unfold Ag
      rw [if_neg e, if_neg (by omega)]
      exact hd i (by omega)

def Ho (A B : List Rat) (k : Nat) : List Rat := bs (Am k k 0 1 (Cf A B k)).2 k k (List.replicate k 0)

theorem Xt (A B : List Rat) (k : Nat) : (Ho A B k).length = k := by unfold Ho; rw [Aw9]; simp

def Ax2 (A B : List Rat) (k : Nat) : List Rt × Bool := if Cs k (Cf A B k) = 0 then ([], false) else (vq (Ho A B k), true)

theorem kb8 {k : Nat} (h : k ≤ 4) : 4 * kb (Nn 40 k) k 1 + 3 ≤ 400000000 := by
 rcases (show k = 0 ∨ k = 1 ∨ k = 2 ∨ k = 3 ∨ k = 4 by omega) with rfl | rfl | rfl | rfl | rfl <;> decide

theorem Awm {k L : Nat} (h : 1 ≤ L) : Sv (List.replicate k 0) L := fun a ha => by
 rw [(List.mem_replicate.1 ha).2]; exact C0.mono h

theorem B1x {n k : Nat} {A B : List Rat} (hA : Sv A 40) (hB : Sv B 40) (hl : A.length = k * k) (hb : B.length = k) (h4 : k ≤ 4) (hn : 17179869184 ≤ n) : f50 n (vq A) (vq B) = some (Ax2 A B k) := by
 have hk8 := kb8 h4
 have h16 := Dw h4
 unfold f50 Ax2
 rw [At, hb, B1y hl hb h4 (by omega), A1]
 obtain ⟨R', q1, q2⟩ := Asb (n := n) h4 (show k ≤ k + 1 by omega) (by omega) (Apv (B := B) hl) (Ala hA hB) (by omega)
 rw [q1, A1]
 dsimp only
 rw [A3 (by rw [q2.1]; simp), A59, A1, Bool.cond_decide]
 by_cases e : Cs k (Cf A B k) = 0
 · rw [if_pos e, if_pos e]
 · rw [if_neg e, if_neg e, Axt (by omega) (by omega), A1, A9 (x := (k : Int) - 1) (by omega) (by omega)]
   obtain ⟨g1, g2⟩ := Qr (m := k) k 0 (Cf A B k) 1 (by omega) (by omega) A0v (fun i h => by omega) e
   exact B5g (n := n) (k0 := fun z_10 => some (z_10, true)) q2 (Ac9 (m := k) k 0 _ 1 40 (Ala hA hB) (by omega) (by omega)) h4 g2 (by omega) k n 1 (List.replicate k 0) (by simp) (Awm (by omega)) (by omega) (by omega) (by omega) (by omega)

theorem Br : ∀ (x y : List Rat) (a : Rat), A7 a x y = a + A7 0 x y
 | [], _, a => by simp [A7, Rat.add_zero]
 | p :: x, [], a => by simp [A7, Rat.add_zero]
 | p :: x, q :: y, a => by
  simp only [A7]
  rw [Br x y (a + p * q), Br x y (0 + p * q)]
  grind

theorem Agv {u v : Nat → Rat} {t : Rat} : ∀ (l : List Nat) (y : List Rat), A7 0 (l.map fun c => u c - t * v c) y = A7 0 (l.map u) y - t * A7 0 (l.map v) y
 | [], y => by simp only [List.map_nil, A7]; grind
 | c :: l, [] => by simp only [List.map_cons, A7]; grind
 | c :: l, q :: y => by
  simp only [List.map_cons, A7]
  rw [Br, Br (l.map u), Br (l.map v), Agv l y]
  grind

theorem Aky : ∀ (x y : List Rat) (i : Nat) (v : Rat), i < x.length → i < y.length → A7 0 x (y.set i v) = A7 0 x y + x.getD i 0 * (v - y.getD i 0)
 | [], y, i, v, h, _ => by simp at h
 | p :: x, [], i, v, _, h => by simp at h
 | p :: x, q :: y, 0, v, _, _ => by
  simp only [List.set_cons_zero, A7, List.getD_cons_zero]
  rw [Br, Br x y (0 + p * q)]
  grind
 | p :: x, q :: y, i + 1, v, h1, h2 => by
  simp only [List.set_cons_succ, A7, List.getD_cons_succ]
  simp only [List.length_cons] at h1 h2
  rw [Br, Br x y (0 + p * q), Aky x y i v (by omega) (by omega)]
  grind

def Ol (M : Nat → Nat → Rat) (m : Nat) (X : List Rat) : Prop := ∀ r, r < m → A7 0 (Dl M m r) X = M r m

theorem Awo {M : Nat → Nat → Rat} {m k p : Nat} {X : List Rat} (h : Ol (Ag M k p) m X) (hk : k < m) (hp : p < m) : Ol M m X := by
 intro r hr
 have row : ∀ {M' : Nat → Nat → Rat} {r r' : Nat}, M' r = M r' → A7 0 (Dl M' m r) X = M' r m → A7 0 (Dl M m r') X = M r' m := fun e h2 => by
  unfold Dl at h2 ⊢
  rw [e] at h2; exact h2
 by_cases c1 : r = p
 · subst c1
   exact row (M' := Ag M k r) (r := k) (by funext c; unfold Ag; rw [if_pos rfl]) (h k hk)
 · by_cases c2 : r = k
   · subst c2
     exact row (M' := Ag M r p) (r := p) (by funext c; unfold Ag; rw [if_neg (fun e => c1 e.symm), if_pos rfl]) (h p hp)
   · exact row (M' := Ag M k p) (r := r) (by funext c; unfold Ag; rw [if_neg c2, if_neg c1]) (h r hr)

theorem Awp {M : Nat → Nat → Rat} {m k : Nat} {X : List Rat} (h : Ol (Ai M k m) m X) (hk : k < m) : Ol M m X := by
 have low_ : ∀ r, r ≤ k → r < m → A7 0 (Dl M m r) X = M r m := fun r hrk hr => by
  have e : Ai M k m r = M r := by funext c; unfold Ai; rw [if_neg (by omega)]
  have := h r hr
  unfold Dl at this ⊢
  rw [e] at this; exact this
 intro r hr
 by_cases c : r ≤ k
 · exact low_ r c hr
 · have e : Ai M k m r = fun c => M r c - M r k / M k k * M k c := by funext c; unfold Ai; rw [if_pos (by omega)]
   have h1 := h r hr
   have h2 := low_ k (Nat.le_refl _) hk
   unfold Dl at h1 h2 ⊢
   rw [e, Agv] at h1
   rw [h2] at h1
   grind

theorem Aaq {m : Nat} {X : List Rat} : ∀ (f k : Nat) (M : Nat → Nat → Rat) (d : Rat), f = m - k → k ≤ m → (Am m f k d M).1 ≠ 0 → Ol (Am m f k d M).2 m X → Ol M m X
 | 0, k, M, d, h, hk, hne, hs => hs
 | f + 1, k, M, d, h, hk, hne, hs => by
  unfold Am at hne hs
  split at hne
  · exact absurd rfl hne
  · rename_i hp
    rw [if_neg hp] at hs
    obtain ⟨p1, p2⟩ := Kz (M := M) (k := k) (m := m) (m - k) k hk
    have p2 : Bg M k m ≤ m := p2
    have hpm : Bg M k m < m := by omega
    exact Awo (Awp (Aaq f (k + 1) _ _ (by omega) (by omega) hne hs) (by omega)) (by omega) hpm

theorem Ax6 {M : Nat → Nat → Rat} {m r i : Nat} (h : i < m) : (Dl M m r).getD i 0 = M r i := by
 unfold Dl
 rw [List.getD_eq_getElem?_getD, List.getElem?_map, List.getElem?_range h]; rfl

theorem Aw8 {M : Nat → Nat → Rat} {m : Nat} (hlow : Zz m m M) (hd : ∀ i, i < m → M i i ≠ 0) : ∀ (i : Nat) (X : List Rat), i ≤ m → X.length = m → (∀ r, i ≤ r → r < m → A7 0 (Dl M m r) X = M r m) → (∀ j, j < i → X.getD j 0 = 0) → Ol M m (bs M m i X)
 | 0, X, _, _, h, _ => fun r hr => h r (Nat.zero_le _) hr
 | i + 1, X, hi, hX, h, hz => by
  unfold bs
  refine Aw8 hlow hd i _ (by omega) (by simp [hX]) (fun r h1 h2 => ?_) (fun j hj => ?_)
  · rw [Aky _ _ _ _ (by rw [Lo]; omega) (by omega), Ax6 (by omega), hz i (by omega)]
    by_cases c : r = i
    · subst c
      unfold bsV
      have := hd r h2
      have e : M r r * ((M r m - A7 0 (Dl M m r) X) / M r r - 0) = M r m - A7 0 (Dl M m r) X := by grind
      rw [e]; grind
    · rw [hlow r i (by omega) (by omega) h2, h r (by omega) h2]; grind
  · rw [getD_set_ne (by omega)]; exact hz j (by omega)

theorem B09 {A B : List Rat} {k : Nat} (hne : Cs k (Cf A B k) ≠ 0) : Ol (Cf A B k) k (Ho A B k) := by
 obtain ⟨g1, g2⟩ := Qr (m := k) k 0 (Cf A B k) 1 (by omega) (by omega) A0v (fun i h => by omega) hne
 refine Aaq (m := k) k 0 (Cf A B k) 1 (by omega) (by omega) hne ?_
 refine Aw8 g1 g2 k _ (Nat.le_refl _) (by simp) (fun r h1 h2 => by omega) (fun j hj => ?_)
 simp [List.getD_eq_getElem?_getD, hj]

theorem B4d {A B : List Rat} {k r : Nat} (hl : A.length = k * k) (hr : r < k) : Dl (Cf A B k) k r = Au A k r := by
 rw [Ft hl hr]
 unfold Dl
 refine List.map_congr_left fun c hc => ?_
 unfold Cf
 rw [if_pos ⟨hr, List.mem_range.1 hc⟩]

theorem Ab0 {n : Nat} {x : List Rat} (hl : x.length ≤ 4096) {k1 : List Rt → Option (List Rt × Int)} : ∀ (m i : Nat) (o : List Rt), o.length ≤ i → i ≤ x.length → x.length < i + m →
  W5 n m (vq x) (i : Int) o (fun z_5 z_6 => some (z_6, z_5)) k1 = if (x.drop i).all I2 = true then k1 (o ++ vq (x.drop i)) else some ([], 7)
 | 0, i, o, ho, hi, hm => by omega
 | m + 1, i, o, ho, hi, hm => by
  rw [Ayw]
  unfold A8s
  dsimp only
  rw [Bool.cond_decide, At]
  by_cases h : i < x.length
  · rw [if_pos (by omega), A3 (by simp; omega), Int.toNat_natCast, Cp h, Dq h, List.all_cons, B8s, A1]
    cases hf : I2 (x.getD i 0) with
    | false => simp
    | true =>
     obtain ⟨z1, z2⟩ := A0z.1 hf
     have e2 : f122 n (rq (x.getD i 0)) = some (rq (x.getD i 0)) := by
      unfold f122
      rw [A3 (by simp only [decide_eq_true_eq]; show (0 + (dg (x.getD i 0).num.natAbs).length) * 8 ≤ _; omega), A3 (by simp only [decide_eq_true_eq]; show (0 + (dg (x.getD i 0).den).length) * 8 ≤ _; omega)]
     rw [Bool.not_true, cond_false, A3 (by simp; omega), e2, A1, A3 (by simp; omega), A9 (x := (i : Int) + 1) (by omega) (by omega), Bool.true_and]
     have := Ab0 hl (n := n) (k1 := k1) m (i + 1) (o ++ [rq (x.getD i 0)]) (by simp; omega) (by omega) (by omega)
     rw [show (i : Int) + 1 = ((i + 1 : Nat) : Int) from rfl, this, List.append_assoc]
     rfl
  · rw [if_neg (by omega), List.drop_of_length_le (by omega)]
    simp [vq]

theorem B1e {n : Nat} {x : List Rat} (hl : x.length ≤ 4096) (hn : 1048577 ≤ n) : f54 n (vq x) = some (Oi x) := by
 unfold f54 Oi
 have h1 := Ab0 (n := n) hl (k1 := fun z_7 => some (z_7, 0)) n 0 [] (by simp) (by omega) (by omega)
 have h1 : W5 n n (vq x) 0 [] _ _ = _ := h1
 rw [h1, List.drop_zero]
 split <;> rfl

def Alf (A B : List Rat) (k : Nat) : List Rt × Int := if Cs k (Cf A B k) = 0 then ([], 5) else Oi (Ho A B k)

theorem B4j {x d e : Rat} {N D N' D' : Nat} (h : x * d = e) (hd : d ≠ 0) (he : Bq e N D) (hd' : Bq d N' D') : Bq x (N * D') (D * N') := by
 have ex : x = e / d := by rw [← h]; grind
 rw [ex, Xf hd]
 have hyn : d.num ≠ 0 := fun e => hd (Rat.num_eq_zero.1 e)
 exact Zn (Nat.mul_pos (Nat.pos_of_ne_zero e.den_nz) (by omega)) (Nat.mul_le_mul he.1 hd'.2) (Nat.mul_le_mul he.2 hd'.1)

theorem Cd {A B : List Rat} {k r c : Nat} (hr : r < k) (hc : c < k) : Cf A B k r c = Alv A k r c := by
 unfold Cf Alv Ek
 rw [if_pos ⟨hr, hc⟩, if_pos ⟨hr, hc⟩]

theorem B48 {A B : List Rat} {k : Nat} (h1 : 1 ≤ k) (h3 : k ≤ 3) : Cs k (Cf A B k) = Cs k (Alv A k) := by
 rcases (show k = 1 ∨ k = 2 ∨ k = 3 by omega) with rfl | rfl | rfl
 · rw [O2, O2]; unfold Xo
   rw [Cd (by omega) (by omega)]
 · rw [Th, Th]; unfold Xn
   rw [Cd (by omega) (by omega), Cd (by omega) (by omega), Cd (by omega) (by omega), Cd (by omega) (by omega)]
 · rw [Zd, Zd]; unfold Aa4
   rw [Cd (r := 0) (c := 0) (by omega) (by omega), Cd (r := 0) (c := 1) (by omega) (by omega), Cd (r := 0) (c := 2) (by omega) (by omega), Cd (r := 1) (c := 0) (by omega) (by omega), Cd (r := 1) (c := 1) (by omega) (by omega), Cd (r := 1) (c := 2) (by omega) (by omega), Cd (r := 2) (c := 0) (by omega) (by omega), Cd (r := 2) (c := 1) (by omega) (by omega), Cd (r := 2) (c := 2) (by omega) (by omega)]

def A47 (M : Nat → Nat → Rat) (j c : Nat) : Nat → Nat → Rat := fun r i => if i = j then M r c else M r i

theorem B8o {M : Nat → Nat → Rat} {j c N D : Nat} (h : ∀ r c, Bq (M r c) N D) (r i : Nat) : Bq (A47 M j c r i) N D := by
 unfold A47; split
 · exact h r c
 · exact h r i

theorem Ah2 {M : Nat → Nat → Rat} {k : Nat} {X : List Rat} (h1 : 1 ≤ k) (h3 : k ≤ 3) (hX : X.length = k) (h : Ol M k X) : ∀ j, j < k → X.getD j 0 * Cs k M = Cs k (A47 M j k) := by
 rcases (show k = 1 ∨ k = 2 ∨ k = 3 by omega) with rfl | rfl | rfl
 · obtain ⟨x0, rfl⟩ := List.length_eq_one_iff.1 hX
   have e0 := h 0 (by omega)
   simp only [Dl, List.range_succ, List.range_zero, List.nil_append, List.map_cons, List.map_nil, A7] at e0
   intro j hj
   obtain rfl : j = 0 := by omega
   rw [O2, O2]
   simp only [Xo, A47, List.getD_cons_zero, if_true]
   grind
 · obtain ⟨x0, x1, rfl⟩ : ∃ x0 x1, X = [x0, x1] := by
    match X, hX with
    | [a, b], _ => exact ⟨a, b, rfl⟩
   have e0 := h 0 (by omega)
   have e1 := h 1 (by omega)
   simp only [Dl, List.range_succ, List.range_zero, List.nil_append, List.cons_append, List.map_cons, List.map_nil, A7] at e0 e1
   intro j hj
   rw [Th, Th]
   rcases (show j = 0 ∨ j = 1 by omega) with rfl | rfl
   · simp [Xn, A47]
     grind
   · simp [Xn, A47]
     grind
 · obtain ⟨x0, x1, x2, rfl⟩ : ∃ x0 x1 x2, X = [x0, x1, x2] := by
    match X, hX with
    | [a, b, c], _ => exact ⟨a, b, c, rfl⟩
   have e0 := h 0 (by omega)
   have e1 := h 1 (by omega)
   have e2 := h 2 (by omega)
   simp only [Dl, List.range_succ, List.range_zero, List.nil_append, List.cons_append, List.map_cons, List.map_nil, A7] at e0 e1 e2
   intro j hj
   rw [Zd, Zd]
   rw [Rat.zero_add] at e0 e1 e2
   rcases (show j = 0 ∨ j = 1 ∨ j = 2 by omega) with rfl | rfl | rfl
   all_goals simp [Aa4, A47]
   all_goals rw [← e0, ← e1, ← e2]
   all_goals generalize M 0 0 = a, M 0 1 = b, M 0 2 = c, M 1 0 = d, M 1 1 = e, M 1 2 = f, M 2 0 = g, M 2 1 = h', M 2 2 = i
   all_goals grind

theorem Aqd {A X : List Rat} {k : Nat} (hA : Sv A 40) (hX : Sv X 40) (hl : A.length = k * k) (hx : X.length = k) (h1 : 1 ≤ k) (h4 : k ≤ 4) : mvC (vq A) (vq X) = 0 := by
 have h16 := Dw h4
 unfold mvC Lw
 rw [if_neg (by simp; omega), At, hx, Aqh hA hl h1 h4]
 have hv : vok (vq X) = true := by
  unfold vok
  simp only [Bool.and_eq_true, decide_eq_true_eq]
  refine ⟨by rw [At]; omega, List.all_eq_true.2 fun r hr => ?_⟩
  obtain ⟨x, hx', rfl⟩ := List.mem_map.1 hr
  exact Ow (hX x hx')
 rw [hv]; rfl

theorem Aat {α : Type} {n L K : Nat} {x y : List Rat} (hx : Sv x L) (hy : Sv y K) (hl : x.length = y.length) (h4 : x.length ≤ 4) (hB : 8 * (L + K + 2) + 3 ≤ 1099511627000) (hn : 28 * (8 * (L + K + 2) + 3) + 10040 ≤ n) {f : Bool} {k0 : Bool → Bool → List Int → List Int → Option α} : ∀ (m i : Nat) (acc : Rat), Sz acc ((L + K + 2) * i + 1) → i ≤ x.length → x.length < i + m →
  Vp n m (vq y) (vq x) (x.length : Int) (i : Int) f (rq acc).1 (rq acc).2.1 (rq acc).2.2 k0 = k0 f (rq (A7 acc (x.drop i) (y.drop i))).1 (rq (A7 acc (x.drop i) (y.drop i))).2.1 (rq (A7 acc (x.drop i) (y.drop i))).2.2
 | 0, i, acc, ho, hi, hm => by omega
 | m + 1, i, acc, ho, hi, hm => by
  rw [Ay7]
  unfold A83
  dsimp only
  rw [Bool.cond_decide]
  by_cases h : i < x.length
  · rw [if_pos (by omega), A3 (by simp; omega), A3 (by simp; omega)]
    obtain ⟨t1, t2⟩ := Apb (T := L + K + 2) (i := i) (by omega)
    have h1 : Sz (x.getD i 0 * y.getD i 0) (L + K + 1) := Qd (hx.get h) (hy.get (by omega))
    have h2 : Sz (acc + x.getD i 0 * y.getD i 0) ((L + K + 2) * (i + 1) + 1) := (Lj ho h1).mono (by omega)
    have e2 := A5a (n := n) (L := (L + K + 2) * 3 + 1) (ho.mono (by omega)) (h1.mono (by omega)) (by omega) (by omega)
    have e2 : f104 n ((rq acc).1, (rq acc).2.1, (rq acc).2.2) _ = _ := e2
    have e1 := Y5 (n := n) (L := L + K) ((hx.get h).mono (by omega)) ((hy.get (show i < y.length by omega)).mono (by omega)) (by omega) (by omega)
    rw [Int.toNat_natCast, Cp h, Cp (by omega), e1, A1, e2, A1, A9 (x := (i : Int) + 1) (by omega) (by omega)]
    have := Aat hx hy hl h4 hB hn (f := f) (k0 := k0) m (i + 1) _ h2 (by omega) (by omega)
    rw [Dq h, Dq (x := y) (by omega)]
    rw [show (i : Int) + 1 = ((i + 1 : Nat) : Int) from rfl, this]
    rfl
  · rw [if_neg (by omega), List.drop_of_length_le (by omega), List.drop_of_length_le (by omega)]
    rfl

theorem A5c {n L K : Nat} {x y : List Rat} (hx : Sv x L) (hy : Sv y K) (hl : x.length = y.length) (h4 : x.length ≤ 4) (hB : 8 * (L + K + 2) + 3 ≤ 1099511627000) (hn : 28 * (8 * (L + K + 2) + 3) + 10040 ≤ n) (hn1 : 1048577 ≤ n) : f73 n (vq x) (vq y) = some (rq (A7 0 x y)) := by
 unfold f73
 rw [Y4 hn1, A1]
 have h1 := Aat (n := n) hx hy hl h4 hB hn (f := false) (k0 := fun z_6 z_7 z_8 z_9 => some (z_7, z_8, z_9)) n 0 0 (C0.mono (by omega)) (by omega) (by omega)
 have h1 : Vp n n (vq y) (vq x) (x.length : Int) 0 _ _ _ _ _ = _ := h1
 rw [At, h1, List.drop_zero, List.drop_zero]

theorem A6l {α : Type} {n L K : Nat} {x y : List Rat} (hx : Sv x L) (hy : Sv y K) (hl : x.length = y.length) (h4 : x.length ≤ 4) (hB : 8 * (L + K + 2) + 3 ≤ 1099511627000) (hn : 28 * (8 * (L + K + 2) + 3) + 10040 ≤ n) {f : Bool} {k0 : Bool → Bool → List Int → List Int → Option α} : ∀ (m i : Nat) (acc : Rat), Sz acc ((L + K + 2) * i + 1) → i ≤ x.length → x.length < i + m →
  Jd n m (vq x) (vq y) (i : Int) f (rq acc).1 (rq acc).2.1 (rq acc).2.2 k0 = k0 f (rq (A7 acc (x.drop i) (y.drop i))).1 (rq (A7 acc (x.drop i) (y.drop i))).2.1 (rq (A7 acc (x.drop i) (y.drop i))).2.2
 | 0, i, acc, ho, hi, hm => by omega
 | m + 1, i, acc, ho, hi, hm => by
  rw [Abp]
  unfold Sx
  dsimp only
  rw [Bool.cond_decide, At]
  by_cases h : i < x.length
  · rw [if_pos (by omega), A3 (by simp; omega), A3 (by simp [At]; omega)]
    obtain ⟨t1, t2⟩ := Apb (T := L + K + 2) (i := i) (by omega)
    have h1 : Sz (x.getD i 0 * y.getD i 0) (L + K + 1) := Qd (hx.get h) (hy.get (by omega))
    have h2 : Sz (acc + x.getD i 0 * y.getD i 0) ((L + K + 2) * (i + 1) + 1) := (Lj ho h1).mono (by omega)
    have e2 := Ux (n := n) (L := (L + K + 2) * 3 + 1) (ho.mono (by omega)) (h1.mono (by omega)) (by omega) (by omega)
    have e2 : f146 n ((rq acc).1, (rq acc).2.1, (rq acc).2.2) _ = _ := e2
    have e1 := Ky (n := n) (L := L + K) ((hx.get h).mono (by omega)) ((hy.get (show i < y.length by omega)).mono (by omega)) (by omega) (by omega)
    rw [Int.toNat_natCast, Cp h, Cp (by omega), e1, A1, e2, A1, A9 (x := (i : Int) + 1) (by omega) (by omega)]
    have := A6l hx hy hl h4 hB hn (f := f) (k0 := k0) m (i + 1) _ h2 (by omega) (by omega)
    rw [Dq h, Dq (x := y) (by omega)]
    rw [show (i : Int) + 1 = ((i + 1 : Nat) : Int) from rfl, this]
    rfl
  · rw [if_neg (by omega), List.drop_of_length_le (by omega), List.drop_of_length_le (by omega)]
    rfl

theorem A4s {n L K : Nat} {x y : List Rat} (hx : Sv x L) (hy : Sv y K) (hl : x.length = y.length) (h4 : x.length ≤ 4) (hB : 8 * (L + K + 2) + 3 ≤ 1099511627000) (hn : 28 * (8 * (L + K + 2) + 3) + 10040 ≤ n) (hn1 : 1048577 ≤ n) : f120 n (vq x) (vq y) = some (rq (A7 0 x y)) := by
 unfold f120
 rw [Abv hn1, A1]
 have h1 := A6l (n := n) hx hy hl h4 hB hn (f := false) (k0 := fun z_6 z_7 z_8 z_9 => some (z_7, z_8, z_9)) n 0 0 (C0.mono (by omega)) (by omega) (by omega)
 have h1 : Jd n n (vq x) (vq y) 0 _ _ _ _ _ = _ := h1
 rw [h1, List.drop_zero, List.drop_zero]

theorem B01 {w : Nat} {z : List Rt} {v : Nat → Rat} (h : Eo w z v) : z = vq ((List.range w).map v) := by
 apply List.ext_getElem
 · simp [h.1]
 · intro j h1 h2
   have := h.2 j (by rw [← h.1]; exact h1)
   rw [List.getD_eq_getElem?_getD, List.getElem?_eq_getElem h1] at this
   simp only [vq, List.getElem_map, List.getElem_range]
   exact this

theorem Adi (X : List Rat) : Eo X.length (vq X) (fun c => X.getD c 0) := ⟨At X, fun c hc => Dr hc⟩

theorem Ap9 {t : Rat} {X Y : List Rat} (hl : X.length = Y.length) : (List.range X.length).map (fun c => t * X.getD c 0 + Y.getD c 0) = Ct t X Y := by
 apply List.ext_getElem
 · simp [Ct, hl]
 · intro i h1 h2
   simp at h1
   simp [Ct, List.getD_eq_getElem?_getD, List.getElem?_eq_getElem h1, List.getElem?_eq_getElem (show i < Y.length by omega)]

theorem A7r {n L : Nat} {t : Rat} {X Y : List Rat} (ht : Sz t L) (hX : Sv X L) (hY : Sv Y L) (h1 : 1 ≤ L) (hl : X.length = Y.length) (h4 : X.length ≤ 4) (hL : 4 * L + 3 ≤ 1099511627000) (hn : 28 * (4 * L + 3) + 10040 ≤ n) : f76 n (rq t) (vq X) (vq Y) = some (vq (Ct t X Y)) := by
 have hy : Eo X.length (vq Y) (fun c => Y.getD c 0) := by rw [hl]; exact Adi Y
 obtain ⟨z, e1, e2⟩ := Arl (n := n) ht (fun c => Zi hX h1) (fun c => Zi hY h1) (Adi X) hy (by omega) hL hn
 rw [e1, B01 e2, Ap9 hl]

theorem A6c {α : Type} {n L : Nat} {A : Rat} {x y : List Rat} (hA : Sz A L) (hx : Sv x L) (hy : Sv y L) (hl : x.length = y.length) (h4 : x.length ≤ 4) (hL : 4 * L + 3 ≤ 1099511627000) (hn : 28 * (4 * L + 3) + 10040 ≤ n) {k0 : List Rt → Option α} : ∀ (m i : Nat) (o : List Rt), o.length ≤ i → i ≤ x.length → x.length < i + m →
  Pw n m (vq x) (vq y) (i : Int) (rq A).1 (rq A).2.1 (rq A).2.2 o k0 = k0 (o ++ vq (Ct A (x.drop i) (y.drop i)))
 | 0, i, o, ho, hi, hm => by omega
 | m + 1, i, o, ho, hi, hm => by
  rw [Auo]
  unfold A3i
  dsimp only
  rw [Bool.cond_decide, At]
  by_cases h : i < x.length
  · rw [if_pos (by omega), A3 (by simp; omega)]
    have h1 : Sz (A * x.getD i 0) (2 * L + 1) := Gv hA (hx.get h)
    have hy' := hy.get (i := i) (by omega)
    have e1 := Ky (n := n) hA (hx.get h) (by omega) (by omega)
    have e1 : f176 n ((rq A).1, (rq A).2.1, (rq A).2.2) (rq (x.getD i 0)) = _ := e1
    rw [Int.toNat_natCast, Cp h, e1, A1, A3 (by simp; omega)]
    rw [Cp (by omega), Ux h1 (hy'.mono (by omega)) (by omega) (by omega), A1, A3 (by simp; omega), A9 (x := (i : Int) + 1) (by omega) (by omega)]
    have := A6c hA hx hy hl h4 hL hn (k0 := k0) m (i + 1) (o ++ [rq (A * x.getD i 0 + y.getD i 0)]) (by simp; omega) (by omega) (by omega)
    rw [Dq h, Dq (x := y) (by omega)]
    rw [show (i : Int) + 1 = ((i + 1 : Nat) : Int) from rfl, this, List.append_assoc]
    rfl
  · rw [if_neg (by omega), List.drop_of_length_le (by omega), List.drop_of_length_le (by omega)]
    simp [Ct, vq]

theorem A7e {n L : Nat} {t : Rat} {X Y : List Rat} (ht : Sz t L) (hX : Sv X L) (hY : Sv Y L) (hl : X.length = Y.length) (h4 : X.length ≤ 4) (hL : 4 * L + 3 ≤ 1099511627000) (hn : 28 * (4 * L + 3) + 10040 ≤ n) : f137 n (rq t) (vq X) (vq Y) = some (vq (Ct t X Y)) := by
 unfold f137
 have h1 := A6c (n := n) ht hX hY hl h4 hL hn (k0 := fun z_5 => some z_5) n 0 [] (by simp) (by omega) (by omega)
 have h1 : Pw n n (vq X) (vq Y) 0 _ _ _ _ _ = _ := h1
 rw [h1, List.drop_zero, List.drop_zero, List.nil_append]

theorem Zj {L K J : Nat} {t : Rat} (ht : Sz t J) : ∀ {X Y : List Rat}, Sv X L → Sv Y K → Sv (Ct t X Y) (J + L + K + 2)
 | [], _, _, _ => fun a ha => by simp [Ct] at ha
 | p :: X, [], _, _ => fun a ha => by simp [Ct] at ha
 | p :: X, q :: Y, hX, hY => fun a ha => by
  simp only [Ct, List.zipWith_cons_cons, List.mem_cons] at ha
  rcases ha with rfl | ha
  · exact (Lj (Qd ht (hX p (by simp))) (hY q (by simp))).mono (by omega)
  · exact Zj ht (X := X) (Y := Y) (fun a h => hX a (by simp [h])) (fun a h => hY a (by simp [h])) a ha

theorem B8k {A X : List Rat} {L K : Nat} (hA : Sv A L) (hX : Sv X K) (hl : A.length = X.length * X.length) (h4 : X.length ≤ 4) : Sv (Av A X) ((L + K + 2) * 4 + 1) := fun a ha => by
 obtain ⟨i, hi, rfl⟩ := List.mem_map.1 ha
 exact Hk (i := 0) (K2 hA) hX (C0.mono (by omega)) (by rw [Bd hl (List.mem_range.1 hi)]; omega)

theorem Azl {n i L K : Nat} {A X : List Rat} (hA : Sv A L) (hX : Sv X K) (hl : A.length = X.length * X.length) (h4 : X.length ≤ 4) (hi : i < X.length) (hB : 8 * (L + K + 2) + 3 ≤ 1099511627000) (hn : 28 * (8 * (L + K + 2) + 3) + 10040 ≤ n) (hn1 : 1048577 ≤ n) :
  f130 n (i : Int) (vq A) (X.length : Int) (vq X) = some (rq (A7 0 (Au A X.length i) X)) := by
 have h16 := Dw h4
 have h1 := Ln hi
 have h2 : (i + 1) * X.length = i * X.length + X.length := Nat.succ_mul i _
 unfold f130
 rw [W1 (by omega), Wm (by omega), Wm (by omega), At, A3 (Xw hi hl), Int.toNat_natCast, Int.toNat_natCast, Ox, A5c (K2 hA) hX (Bd hl hi) (by rw [Bd hl hi]; exact h4) hB hn hn1, A1]

theorem A6g {α : Type} {n L : Nat} {s1 : List Rt × Int × List Rt} {g : Nat → Rat} {N : Nat} (hN : N ≤ 4096) (hL : L ≤ 1099511627000) (hg : ∀ i, i < N → f130 n (i : Int) s1.1 s1.2.1 s1.2.2 = some (rq (g i)) ∧ Sz (g i) L) {k0 : List Rt → Option α} : ∀ (m i : Nat), i ≤ N → N < i + m →
  Gq n m s1 (N : Int) (i : Int) (vq ((List.range i).map g)) k0 = k0 (vq ((List.range N).map g))
 | 0, i, hi, hm => by omega
 | m + 1, i, hi, hm => by
  rw [Acs]
  unfold Mw
  rw [Bool.cond_decide]
  by_cases h : i < N
  · rw [if_pos (by omega), (hg i h).1, A1, Ak1 (hg i h).2 hL, A1, A3 (by simp [vq]; omega)]
    have e : vq ((List.range i).map g) ++ [rq (g i)] = vq ((List.range (i + 1)).map g) := by simp [vq, List.range_succ]
    rw [e, A9 (x := (i : Int) + 1) (by omega) (by omega)]
    exact A6g hN hL hg m (i + 1) (by omega) (by omega)
  · obtain rfl : i = N := by omega
    rw [if_neg (by omega)]

theorem B8x {n L K : Nat} {A X : List Rat} (hA : Sv A L) (hX : Sv X K) (hl : A.length = X.length * X.length) (h4 : X.length ≤ 4) (hB : 8 * (L + K + 2) + 3 ≤ 1099511627000) (hn : 28 * (8 * (L + K + 2) + 3) + 10040 ≤ n) (hn1 : 1048577 ≤ n) : f59 n (vq A) (vq X) = some (vq (Av A X)) := by
 have g : ∀ i, i < X.length → f130 n (i : Int) (vq A, (X.length : Int), vq X).1 (vq A, (X.length : Int), vq X).2.1 (vq A, (X.length : Int), vq X).2.2 = some (rq (A7 0 (Au A X.length i) X)) ∧ Sz (A7 0 (Au A X.length i) X) ((L + K + 2) * 4 + 1) := fun i hi =>
  ⟨Azl hA hX hl h4 hi hB hn hn1, Hk (i := 0) (K2 hA) hX (C0.mono (by omega)) (by rw [Bd hl hi]; omega)⟩
 unfold f59 A3n
 have h := A6g (n := n) (s1 := (vq A, (X.length : Int), vq X)) (by omega) (by omega) g (k0 := fun z_3 => some z_3) n 0 (by omega) (by omega)
 have h : Gq n n (vq A, (X.length : Int), vq X) (X.length : Int) 0 [] _ = _ := h
 rw [At, h, A1]
 rfl

theorem A4q {α : Type} {n L K : Nat} {A X : List Rat} (hA : Sv A L) (hX : Sv X K) (hl : A.length = X.length * X.length) (h4 : X.length ≤ 4) (hB : 8 * (L + K + 2) + 3 ≤ 1099511627000) (hn : 28 * (8 * (L + K + 2) + 3) + 10040 ≤ n) (hn1 : 1048577 ≤ n) {k0 : List Rt → Option α} : ∀ (m i : Nat), i ≤ X.length → X.length < i + m →
  Z5 n m (vq A) (vq X) (X.length : Int) (i : Int) (vq ((List.range i).map fun i => A7 0 (Au A X.length i) X)) k0 = k0 (vq (Av A X))
 | 0, i, hi, hm => by omega
 | m + 1, i, hi, hm => by
  rw [Aur]
  unfold A3l
  rw [Bool.cond_decide]
  by_cases h : i < X.length
  · have h16 := Dw h4
    have h1 := Ln h
    have h2 : (i + 1) * X.length = i * X.length + X.length := Nat.succ_mul i _
    rw [if_pos (by omega), W1 (by omega), Wm (by omega), Wm (by omega), At, A3 (Xw h hl), Int.toNat_natCast, Int.toNat_natCast, Ox, A4s (K2 hA) hX (Bd hl h) (by rw [Bd hl h]; exact h4) hB hn hn1, A1, A3 (by simp [vq]; omega)]
    have e : vq ((List.range i).map fun i => A7 0 (Au A X.length i) X) ++ [rq (A7 0 (Au A X.length i) X)] = vq ((List.range (i + 1)).map fun i => A7 0 (Au A X.length i) X) := by simp [vq, List.range_succ]
    rw [e]
    exact A4q hA hX hl h4 hB hn hn1 m (i + 1) (by omega) (by omega)
  · obtain rfl : i = X.length := by omega
    rw [if_neg (by omega)]; rfl

theorem B8r {n L K : Nat} {A X : List Rat} (hA : Sv A L) (hX : Sv X K) (hl : A.length = X.length * X.length) (h4 : X.length ≤ 4) (hB : 8 * (L + K + 2) + 3 ≤ 1099511627000) (hn : 28 * (8 * (L + K + 2) + 3) + 10040 ≤ n) (hn1 : 1048577 ≤ n) : f136 n (vq A) (vq X) = some (vq (Av A X)) := by
 unfold f136
 rw [At]
 exact A4q (n := n) (k0 := fun z_2 => some z_2) hA hX hl h4 hB hn hn1 n 0 (by omega) (by omega)

def F0 (A R D : List Rat) : Rat := A7 0 R R / A7 0 D (Av A D)

def Ax (A R D : List Rat) : List Rat := Ct (-F0 A R D) (Av A D) R

def Eb (A R D : List Rat) : List Rat := Ct (A7 0 (Ax A R D) (Ax A R D) / A7 0 R R) D (Ax A R D)

def N7 (A X R D : List Rat) : List Rat := Ct (F0 A R D) D X

def F1 (A : List Rat) : Nat → List Rat → List Rat → List Rat → List Rat
 | 0, X, _, _ => X
 | s + 1, X, R, D => if A7 0 R R = 0 then X else F1 A s (N7 A X R D) (Ax A R D) (Eb A R D)

def To (A : List Rat) : Nat → List Rat → List Rat → Prop
 | 0, _, _ => True
 | s + 1, R, D => A7 0 R R = 0 ∨ (A7 0 D (Av A D) ≠ 0 ∧ To A s (Ax A R D) (Eb A R D))

def N8 : Nat → Nat → Nat
 | 0, L => L
 | s + 1, L => N8 s (500 * L + 700)

theorem Ah8 : ∀ (s L : Nat), L ≤ N8 s L
 | 0, _ => Nat.le_refl _
 | s + 1, L => by unfold N8; have := Ah8 s (500 * L + 700); omega

structure Ahu (A X R D : List Rat) (k L : Nat) : Prop where
 lA : A.length = k * k
 lX : X.length = k
 lR : R.length = k
 lD : D.length = k
 sA : Sv A L
 sX : Sv X L
 sR : Sv R L
 sD : Sv D L

theorem Ah6 {A X R D : List Rat} {k L : Nat} (h : Ahu A X R D k L) (h4 : k ≤ 4) (hr : A7 0 R R ≠ 0) (hp : A7 0 D (Av A D) ≠ 0) :
  Ahu A (N7 A X R D) (Ax A R D) (Eb A R D) k (500 * L + 700) ∧ (Av A D).length = k ∧ Sv (Av A D) (8 * L + 9) ∧ Sz (A7 0 R R) (8 * L + 9) ∧ Sz (A7 0 D (Av A D)) (36 * L + 45) ∧ Sz (F0 A R D) (44 * L + 55) ∧
  Sv (Ax A R D) (53 * L + 66) ∧ Sz (A7 0 (Ax A R D) (Ax A R D)) (424 * L + 537) ∧ Sz (A7 0 (Ax A R D) (Ax A R D) / A7 0 R R) (432 * L + 547) := by
 have lR := h.lR
 have lD := h.lD
 have lX := h.lX
 have lm : (Av A D).length = k := by rw [Ci, lD]
 have s1 : Sz (A7 0 R R) (8 * L + 9) := (Hk (i := 0) h.sR h.sR (C0.mono (by omega)) (by omega)).mono (by omega)
 have s2 : Sv (Av A D) (8 * L + 9) := (B8k h.sA h.sD (by rw [lD]; exact h.lA) (by omega)).mono (by omega)
 have s3 : Sz (A7 0 D (Av A D)) (36 * L + 45) := (Hk (i := 0) h.sD s2 (C0.mono (by omega)) (by omega)).mono (by omega)
 have s4 : Sz (F0 A R D) (44 * L + 55) := (Aa2 s1 s3 hp).mono (by omega)
 have l5 : (Ax A R D).length = k := by unfold Ax; rw [Co (by omega), lm]
 have s5 : Sv (Ax A R D) (53 * L + 66) := (Zj (Gu s4) s2 h.sR).mono (by omega)
 have s6 : Sz (A7 0 (Ax A R D) (Ax A R D)) (424 * L + 537) := (Hk (i := 0) s5 s5 (C0.mono (by omega)) (by omega)).mono (by omega)
 have s7 := (Aa2 s6 s1 hr).mono (show 424 * L + 537 + (8 * L + 9) + 1 ≤ 432 * L + 547 by omega)
 exact ⟨⟨h.lA, by unfold N7; rw [Co (by omega), lD], l5, by unfold Eb; rw [Co (by omega), lD], h.sA.mono (by omega), (Zj s4 h.sD h.sX).mono (by omega), s5.mono (by omega), (Zj s7 h.sD s5).mono (by omega)⟩, lm, s2, s1, s3, s4, s5, s6, s7⟩

set_option maxRecDepth 20000 in
theorem B5f {α : Type} {n k s0 : Nat} (h4 : k ≤ 4) (hs : s0 ≤ 100) (hn1 : 1048577 ≤ n) {k0 : List Rt → Option α} : ∀ (fu j L : Nat) (A X R D : List Rat), Ahu A X R D k L → 1 ≤ L → j ≤ s0 → s0 < j + fu → To A (s0 - j) R D → 4 * N8 (s0 - j) L + 3 ≤ 1099511627000 → 28 * (4 * N8 (s0 - j) L + 3) + 10040 ≤ n →
  W6 n fu (vq A) (vq X) (vq R) (vq D) (s0 : Int) (j : Int) k0 = k0 (vq (F1 A (s0 - j) X R D))
 | 0, j, L, A, X, R, D, h, h1, h2, h3, h5, h6, h7 => by omega
 | fu + 1, j, L, A, X, R, D, h, h1, h2, h3, h5, h6, h7 => by
  rw [Az2]
  unfold A8y
  rw [Bool.cond_decide]
  by_cases hj : j < s0
  · obtain ⟨q, hq⟩ : ∃ q, s0 - j = q + 1 := ⟨s0 - j - 1, by omega⟩
    have hq2 : s0 - (j + 1) = q := by omega
    rw [hq] at h5 h6 h7 ⊢
    simp only [N8] at h6 h7
    have hle := Ah8 q (500 * L + 700)
    have lR := h.lR
    have lD := h.lD
    have lX := h.lX
    rw [if_pos (by omega), A5c h.sR h.sR rfl (by omega) (by omega) (by omega) hn1, A1, A59, A1, Bool.cond_decide]
    unfold F1
    by_cases hr : A7 0 R R = 0
    · rw [if_pos hr, if_pos hr]
    · rw [if_neg hr, if_neg hr]
      rcases h5 with h5 | ⟨hp, h5⟩
      · exact absurd h5 hr
      obtain ⟨g, lm, s2, s1, s3, s4, s5, s6, s7⟩ := Ah6 h h4 hr hp
      have lr' := g.lR
      have e1 : f59 n (vq A) (vq D) = some (vq (Av A D)) := B8x h.sA h.sD (by rw [lD]; exact h.lA) (by omega) (by omega) (by omega) hn1
      have e2 : f73 n (vq D) (vq (Av A D)) = some (rq (A7 0 D (Av A D))) := A5c h.sD s2 (by omega) (by omega) (by omega) (by omega) hn1
      have e3 : f75 n (rq (A7 0 R R)) (rq (A7 0 D (Av A D))) = some (rq (F0 A R D)) := A5b (L := 36 * L + 45) (s1.mono (by omega)) s3 hp (by omega) (by omega)
      have e4 : f76 n (rq (F0 A R D)) (vq D) (vq X) = some (vq (N7 A X R D)) := A7r (L := 44 * L + 55) s4 (h.sD.mono (by omega)) (h.sX.mono (by omega)) (by omega) (by omega) (by omega) (by omega) (by omega)
      have e5 : f77 n (rq (F0 A R D)) = some (rq (-F0 A R D)) := Ad7 s4 (by omega)
      have e6 : f76 n (rq (-F0 A R D)) (vq (Av A D)) (vq R) = some (vq (Ax A R D)) := A7r (L := 44 * L + 55) (Gu s4) (s2.mono (by omega)) (h.sR.mono (by omega)) (by omega) (by omega) (by omega) (by omega) (by omega)
      have e7 : f73 n (vq (Ax A R D)) (vq (Ax A R D)) = some (rq (A7 0 (Ax A R D) (Ax A R D))) := A5c s5 s5 rfl (by omega) (by omega) (by omega) hn1
      have e8 : f75 n (rq (A7 0 (Ax A R D) (Ax A R D))) (rq (A7 0 R R)) = some (rq (A7 0 (Ax A R D) (Ax A R D) / A7 0 R R)) := A5b (L := 424 * L + 537) s6 (s1.mono (by omega)) hr (by omega) (by omega)
      have e9 : f76 n (rq (A7 0 (Ax A R D) (Ax A R D) / A7 0 R R)) (vq D) (vq (Ax A R D)) = some (vq (Eb A R D)) := A7r (L := 432 * L + 547) s7 (h.sD.mono (by omega)) (s5.mono (by omega)) (by omega) (by omega) (by omega) (by omega) (by omega)
      rw [e1, A1, e2, A1, e3, A1, e4, A1, e5, A1, e6, A1, e7, A1, e8, A1, e9, A1, W1 (by omega)]
      have := B5f h4 hs hn1 (k0 := k0) fu (j + 1) (500 * L + 700) A (N7 A X R D) (Ax A R D) (Eb A R D) g (by omega) (by omega) (by omega) (by rw [hq2]; exact h5) (by rw [hq2]; exact h6) (by rw [hq2]; exact h7)
      rw [hq2] at this
      exact this
  · rw [if_neg (by omega), show s0 - j = 0 by omega]; rfl

set_option maxRecDepth 20000 in
theorem B4s {α : Type} {n k s0 : Nat} (h4 : k ≤ 4) (hs : s0 ≤ 100) (hn1 : 1048577 ≤ n) {k0 : List Rt → Option α} : ∀ (fu j L : Nat) (A X R D : List Rat), Ahu A X R D k L → 1 ≤ L → j ≤ s0 → s0 < j + fu → To A (s0 - j) R D → 4 * N8 (s0 - j) L + 3 ≤ 1099511627000 → 28 * (4 * N8 (s0 - j) L + 3) + 10040 ≤ n →
  Vs n fu (vq A) (s0 : Int) (vq X) (vq R) (vq D) (j : Int) k0 k0 = k0 (vq (F1 A (s0 - j) X R D))
 | 0, j, L, A, X, R, D, h, h1, h2, h3, h5, h6, h7 => by omega
 | fu + 1, j, L, A, X, R, D, h, h1, h2, h3, h5, h6, h7 => by
  rw [Ayj]
  unfold A8h
  rw [Bool.cond_decide]
  by_cases hj : j < s0
  · obtain ⟨q, hq⟩ : ∃ q, s0 - j = q + 1 := ⟨s0 - j - 1, by omega⟩
    have hq2 : s0 - (j + 1) = q := by omega
    rw [hq] at h5 h6 h7 ⊢
    simp only [N8] at h6 h7
    have hle := Ah8 q (500 * L + 700)
    have lR := h.lR
    have lD := h.lD
    have lX := h.lX
    rw [if_pos (by omega), A4s h.sR h.sR rfl (by omega) (by omega) (by omega) hn1, A1, Adz, A1, Bool.cond_decide]
    unfold F1
    by_cases hr : A7 0 R R = 0
    · rw [if_pos hr, if_pos hr]
    · rw [if_neg hr, if_neg hr]
      rcases h5 with h5 | ⟨hp, h5⟩
      · exact absurd h5 hr
      obtain ⟨g, lm, s2, s1, s3, s4, s5, s6, s7⟩ := Ah6 h h4 hr hp
      have lr' := g.lR
      have e1 : f136 n (vq A) (vq D) = some (vq (Av A D)) := B8r h.sA h.sD (by rw [lD]; exact h.lA) (by omega) (by omega) (by omega) hn1
      have e2 : f120 n (vq D) (vq (Av A D)) = some (rq (A7 0 D (Av A D))) := A4s h.sD s2 (by omega) (by omega) (by omega) (by omega) hn1
      have e3 : f118 n (rq (A7 0 R R)) (rq (A7 0 D (Av A D))) = some (rq (F0 A R D)) := Ae0 (L := 36 * L + 45) (s1.mono (by omega)) s3 hp (by omega) (by omega)
      have e4 : f137 n (rq (F0 A R D)) (vq D) (vq X) = some (vq (N7 A X R D)) := A7e (L := 44 * L + 55) s4 (h.sD.mono (by omega)) (h.sX.mono (by omega)) (by omega) (by omega) (by omega) (by omega)
      have e5 : f138 n (rq (F0 A R D)) = some (rq (-F0 A R D)) := Ali
      have e6 : f137 n (rq (-F0 A R D)) (vq (Av A D)) (vq R) = some (vq (Ax A R D)) := A7e (L := 44 * L + 55) (Gu s4) (s2.mono (by omega)) (h.sR.mono (by omega)) (by omega) (by omega) (by omega) (by omega)
      have e7 : f120 n (vq (Ax A R D)) (vq (Ax A R D)) = some (rq (A7 0 (Ax A R D) (Ax A R D))) := A4s s5 s5 rfl (by omega) (by omega) (by omega) hn1
      have e8 : f118 n (rq (A7 0 (Ax A R D) (Ax A R D))) (rq (A7 0 R R)) = some (rq (A7 0 (Ax A R D) (Ax A R D) / A7 0 R R)) := Ae0 (L := 424 * L + 537) s6 (s1.mono (by omega)) hr (by omega) (by omega)
      have e9 : f137 n (rq (A7 0 (Ax A R D) (Ax A R D) / A7 0 R R)) (vq D) (vq (Ax A R D)) = some (vq (Eb A R D)) := A7e (L := 432 * L + 547) s7 (h.sD.mono (by omega)) (s5.mono (by omega)) (by omega) (by omega) (by omega) (by omega)
      rw [e1, A1, e2, A1, e3, A1, e4, A1, e5, A1, e6, A1, e7, A1, e8, A1, e9, A1, W1 (by omega)]
      have := B4s h4 hs hn1 (k0 := k0) fu (j + 1) (500 * L + 700) A (N7 A X R D) (Ax A R D) (Eb A R D) g (by omega) (by omega) (by omega) (by rw [hq2]; exact h5) (by rw [hq2]; exact h6) (by rw [hq2]; exact h7)
      rw [hq2] at this
      exact this
  · rw [if_neg (by omega), show s0 - j = 0 by omega]; rfl

theorem B7 : ∀ (x y : List Rat), A7 0 x y = A7 0 y x
 | [], [] => rfl
 | [], _ :: _ => rfl
 | _ :: _, [] => rfl
 | p :: x, q :: y => by
  simp only [A7]
  rw [Br, Br y, B7 x y]
  grind

theorem Zc {t : Rat} : ∀ {x y : List Rat} (z : List Rat), x.length = y.length → A7 0 (Ct t x y) z = t * A7 0 x z + A7 0 y z
 | [], [], z, _ => by simp only [Ct, List.zipWith_nil_left, A7]; grind
 | [], q :: y, z, h => by simp at h
 | p :: x, [], z, h => by simp at h
 | p :: x, q :: y, [], _ => by simp only [Ct, List.zipWith_cons_cons, A7]; grind
 | p :: x, q :: y, c :: z, h => by
  simp only [List.length_cons, Nat.add_right_cancel_iff] at h
  have ih := Zc (t := t) z h
  simp only [Ct] at ih
  simp only [Ct, List.zipWith_cons_cons, A7]
  rw [Br, Br x, Br y, ih]
  grind

theorem Tg : ∀ (x : List Rat), 0 ≤ A7 0 x x
 | [] => by simp only [A7]; exact Rat.le_refl
 | p :: x => by
  have := Tg x
  have h2 : (0 : Rat) ≤ p * p := by
   rcases Rat.le_total (a := 0) (b := p) with h | h
   · exact Rat.mul_nonneg h h
   · have := Rat.mul_nonneg (a := -p) (b := -p) (by grind) (by grind)
     grind
  simp only [A7]
  rw [Br]
  grind

theorem Ah (p : Rat) : 0 ≤ p * p := by
 rcases Rat.le_total (a := 0) (b := p) with h | h
 · exact Rat.mul_nonneg h h
 · have := Rat.mul_nonneg (a := -p) (b := -p) (by grind) (by grind)
   grind

theorem Tf : ∀ {x : List Rat}, A7 0 x x = 0 → ∀ i, x.getD i 0 = 0
 | [], _, i => by simp
 | p :: x, h, i => by
  simp only [A7] at h
  rw [Br] at h
  have h1 := Tg x
  have h2 := Ah p
  have h3 : A7 0 x x = 0 := by grind
  have h4 : p * p = 0 := by grind
  have h5 : p = 0 := by rcases Rat.mul_eq_zero.1 h4 with h | h <;> exact h
  cases i with
  | zero => simpa using h5
  | succ i => simpa using Tf h3 i

theorem Xe : ∀ {x : List Rat} (z : List Rat), (∀ i, x.getD i 0 = 0) → A7 0 x z = 0
 | [], _, _ => rfl
 | p :: x, [], _ => rfl
 | p :: x, c :: z, h => by
  have h0 : p = 0 := by simpa using h 0
  have h1 := Xe (x := x) z fun i => by simpa using h (i + 1)
  simp only [A7]
  rw [Br, h1, h0]; grind

theorem A9w {t : Rat} {x y : List Rat} (h : x.length = y.length) (i : Nat) : (Ct t x y).getD i 0 = t * x.getD i 0 + y.getD i 0 := by
 by_cases c : i < x.length
 · have c2 : i < (Ct t x y).length := by rw [Co h]; exact c
   rw [List.getD_eq_getElem?_getD, List.getD_eq_getElem?_getD, List.getD_eq_getElem?_getD, List.getElem?_eq_getElem c2, List.getElem?_eq_getElem c, List.getElem?_eq_getElem (show i < y.length by omega)]
   simp [Ct]
 · simp only [Ct, List.getD_eq_getElem?_getD, List.getElem?_eq_none (Nat.le_of_not_lt c), List.getElem?_eq_none (show y.length ≤ i by omega)]
   rw [List.getElem?_eq_none (by simp; omega)]
   simp
   grind

theorem V7 {A X : List Rat} {i : Nat} (h : i < X.length) : (Av A X).getD i 0 = A7 0 (Au A X.length i) X := by
 unfold Av
 rw [List.getD_eq_getElem?_getD, List.getElem?_map, List.getElem?_range h]; rfl

theorem B51 {A X Y : List Rat} {t : Rat} (h : X.length = Y.length) : Av A (Ct t X Y) = Ct t (Av A X) (Av A Y) := by
 have l1 := Co (A := t) h
 have l2 : (Av A X).length = (Av A Y).length := by rw [Ci, Ci, h]
 apply List.ext_getElem
 · rw [Ci, l1, Co l2, Ci]
 · intro i h1 h2
   rw [Ci, l1] at h1
   have e1 : (Av A (Ct t X Y)).getD i 0 = (Av A (Ct t X Y))[i] := by rw [List.getD_eq_getElem?_getD, List.getElem?_eq_getElem (by rw [Ci, l1]; exact h1)]; rfl
   have e2 : (Ct t (Av A X) (Av A Y)).getD i 0 = (Ct t (Av A X) (Av A Y))[i] := by rw [List.getD_eq_getElem?_getD, List.getElem?_eq_getElem h2]; rfl
   rw [← e1, ← e2, A9w l2, V7 (by rw [l1]; exact h1), V7 h1, V7 (by omega), l1, B7, Zc _ h, B7 X, B7 Y, h]

structure Pd (A : List Rat) (k : Nat) : Prop where
 sa : ∀ X Y, X.length = k → Y.length = k → A7 0 (Av A X) Y = A7 0 X (Av A Y)
 pd : ∀ X, X.length = k → A7 0 X X ≤ A7 0 X (Av A X)

structure Xp (A R D : List Rat) (k : Nat) : Prop where
 lR : R.length = k
 lD : D.length = k
 i1 : A7 0 R D = A7 0 R R
 i2 : A7 0 R (Av A D) = A7 0 D (Av A D)

theorem Xp.p {A R D : List Rat} {k : Nat} (h : Xp A R D k) (hA : Pd A k) (hr : A7 0 R R ≠ 0) : A7 0 D (Av A D) ≠ 0 := by
 intro e
 have h1 := hA.pd D h.lD
 have h2 := Tg D
 have h3 : A7 0 D D = 0 := by grind
 have h4 := Xe R (Tf h3)
 rw [B7, h.i1] at h4
 exact hr h4

theorem Lh {A R D : List Rat} {k : Nat} (h : Xp A R D k) (Z : List Rat) : A7 0 (Ax A R D) Z = A7 0 R Z - F0 A R D * A7 0 (Av A D) Z := by
 unfold Ax
 rw [Zc _ (by rw [Ci, h.lD, h.lR])]
 grind

theorem A9v {A R D : List Rat} {k : Nat} (h : Xp A R D k) : (Ax A R D).length = k := by
 unfold Ax; rw [Co (by rw [Ci, h.lD, h.lR]), Ci, h.lD]

theorem Q7 {A R D : List Rat} {k : Nat} (h : Xp A R D k) (Z : List Rat) : A7 0 (Eb A R D) Z = A7 0 (Ax A R D) (Ax A R D) / A7 0 R R * A7 0 D Z + A7 0 (Ax A R D) Z := by
 unfold Eb
 rw [Zc _ (by rw [h.lD, A9v h])]

theorem A9u {A R D : List Rat} {k : Nat} (h : Xp A R D k) (hA : Pd A k) (hr : A7 0 R R ≠ 0) :
  A7 0 (Ax A R D) R = 0 ∧ A7 0 (Ax A R D) D = 0 ∧ A7 0 (Eb A R D) (Av A D) = 0 ∧ Xp A (Ax A R D) (Eb A R D) k := by
 have hp := h.p hA hr
 have i1 := h.i1
 have i2 := h.i2
 have lR := A9v h
 have lD : (Eb A R D).length = k := by unfold Eb; rw [Co (by rw [h.lD, lR]), h.lD]
 have ht : F0 A R D * A7 0 D (Av A D) = A7 0 R R := by unfold F0; grind
 have b1 : A7 0 (Ax A R D) R = 0 := by
  rw [Lh h, B7 (Av A D), i2]; grind
 have b2 : A7 0 (Ax A R D) D = 0 := by
  rw [Lh h, i1, B7 (Av A D)]; grind
 have b3 : A7 0 (Ax A R D) (Ax A R D) = - (F0 A R D * A7 0 (Ax A R D) (Av A D)) := by
  conv => lhs; rw [Lh h]
  rw [B7 R, b1, B7 (Av A D)]; grind
 have b4 : A7 0 (Eb A R D) (Av A D) = 0 := by
  rw [Q7 h, b3]
  generalize A7 0 (Ax A R D) (Av A D) = u at *
  generalize F0 A R D = t at *
  generalize A7 0 D (Av A D) = p at *
  rw [← ht]
  have : t ≠ 0 := by intro e; rw [e] at ht; grind
  grind
 have b5 : A7 0 (Ax A R D) (Eb A R D) = A7 0 (Ax A R D) (Ax A R D) := by
  rw [B7, Q7 h, B7 D, b2]; grind
 have b6 : A7 0 (Ax A R D) (Av A (Eb A R D)) = A7 0 (Eb A R D) (Av A (Eb A R D)) := by
  have e := Q7 h (Av A (Eb A R D))
  have e2 : A7 0 D (Av A (Eb A R D)) = 0 := by
   rw [← hA.sa _ _ h.lD lD, B7, b4]
  rw [e2] at e
  rw [e]; grind
 exact ⟨b1, b2, b4, lR, lD, b5, b6⟩

def Om (A B X R : List Rat) (k : Nat) : Prop := X.length = k ∧ R.length = k ∧ ∀ i, i < k → (Av A X).getD i 0 + R.getD i 0 = B.getD i 0

theorem A0r {A B X R D : List Rat} {k : Nat} (h : Xp A R D k) (hr : Om A B X R k) : Om A B (N7 A X R D) (Ax A R D) k := by
 obtain ⟨l1, l2, h3⟩ := hr
 refine ⟨by unfold N7; rw [Co (by rw [h.lD, l1]), h.lD], A9v h, fun i hi => ?_⟩
 unfold N7 Ax
 rw [B51 (by rw [h.lD, l1]), A9w (by rw [Ci, Ci, h.lD, l1]), A9w (by rw [Ci, h.lD, l2]), ← h3 i hi]
 grind

theorem B1j {A B X R : List Rat} {k : Nat} (hr : Om A B X R k) (hb : B.length = k) (hz : ∀ i, i < k → R.getD i 0 = 0) : Av A X = B := by
 obtain ⟨l1, l2, h3⟩ := hr
 apply List.ext_getElem
 · rw [Ci, l1, hb]
 · intro i h1 h2
   have := h3 i (by omega)
   rw [hz i (by omega), List.getD_eq_getElem?_getD, List.getD_eq_getElem?_getD, List.getElem?_eq_getElem h1, List.getElem?_eq_getElem h2] at this
   simp only [Option.getD_some] at this
   grind

theorem Ba6 {u z : List Rat} (lu : u.length = 1) (lz : z.length = 1) (hu : A7 0 u u ≠ 0) (h : A7 0 z u = 0) : ∀ i, i < 1 → z.getD i 0 = 0 := by
 match u, z, lu, lz with
 | [a], [x], _, _ =>
  simp only [A7] at hu h
  intro i hi
  obtain rfl : i = 0 := by omega
  simp only [List.getD_cons_zero]
  have ha : a ≠ 0 := by intro e; subst e; exact hu (by grind)
  grind

theorem Ba5 {u v z : List Rat} (lu : u.length = 2) (lv : v.length = 2) (lz : z.length = 2) (hu : A7 0 u u ≠ 0) (hv : A7 0 v v ≠ 0) (huv : A7 0 v u = 0) (h1 : A7 0 z u = 0) (h2 : A7 0 z v = 0) : ∀ i, i < 2 → z.getD i 0 = 0 := by
 match u, v, z, lu, lv, lz with
 | [a, b], [c, d], [x, y], _, _, _ =>
  simp only [A7] at hu hv huv h1 h2
  have hd : a * d - b * c ≠ 0 := by
   intro e
   have : (a * a + b * b) * (c * c + d * d) = 0 := by grind
   rcases Rat.mul_eq_zero.1 this with h | h
   · exact hu (by grind)
   · exact hv (by grind)
  have e1 : x * (a * d - b * c) = 0 := by grind
  have e2 : y * (a * d - b * c) = 0 := by grind
  intro i hi
  rcases (show i = 0 ∨ i = 1 by omega) with rfl | rfl
  · rcases Rat.mul_eq_zero.1 e1 with h | h
    · simpa using h
    · exact absurd h hd
  · rcases Rat.mul_eq_zero.1 e2 with h | h
    · simpa using h
    · exact absurd h hd

theorem B90 {a b c d e f g h i : Rat} (h1 : d * a + e * b + f * c = 0) (h2 : g * a + h * b + i * c = 0) (h3 : g * d + h * e + i * f = 0) :
  (a * (e * i - f * h) - b * (d * i - f * g) + c * (d * h - e * g)) * (a * (e * i - f * h) - b * (d * i - f * g) + c * (d * h - e * g)) = (a * a + b * b + c * c) * ((d * d + e * e + f * f) * (g * g + h * h + i * i)) := by
 have key : (a * (e * i - f * h) - b * (d * i - f * g) + c * (d * h - e * g)) * (a * (e * i - f * h) - b * (d * i - f * g) + c * (d * h - e * g)) =
   (a * a + b * b + c * c) * ((d * d + e * e + f * f) * (g * g + h * h + i * i)) - (a * a + b * b + c * c) * ((g * d + h * e + i * f) * (g * d + h * e + i * f)) - (d * a + e * b + f * c) * (d * a + e * b + f * c) * (g * g + h * h + i * i)
   + (d * a + e * b + f * c) * (g * d + h * e + i * f) * (g * a + h * b + i * c) + (g * a + h * b + i * c) * (d * a + e * b + f * c) * (g * d + h * e + i * f) - (g * a + h * b + i * c) * (g * a + h * b + i * c) * (d * d + e * e + f * f) := by grind
 rw [key, h1, h2, h3]
 grind

theorem Ba4 {u v w z : List Rat} (lu : u.length = 3) (lv : v.length = 3) (lw : w.length = 3) (lz : z.length = 3) (hu : A7 0 u u ≠ 0) (hv : A7 0 v v ≠ 0) (hw : A7 0 w w ≠ 0) (huv : A7 0 v u = 0) (huw : A7 0 w u = 0) (hvw : A7 0 w v = 0) (h1 : A7 0 z u = 0) (h2 : A7 0 z v = 0) (h3 : A7 0 z w = 0) : ∀ i, i < 3 → z.getD i 0 = 0 := by
 match u, v, w, z, lu, lv, lw, lz with
 | [a, b, c], [d, e, f], [g, h, i], [x, y, t], _, _, _, _ =>
  simp only [A7, Rat.zero_add] at hu hv hw huv huw hvw h1 h2 h3
  have hg := B90 huv huw hvw
  generalize hD : a * (e * i - f * h) - b * (d * i - f * g) + c * (d * h - e * g) = Δ at hg
  have hd : Δ ≠ 0 := by
   intro e0
   rw [e0, Rat.zero_mul] at hg
   rcases Rat.mul_eq_zero.1 hg.symm with q | q
   · exact hu q
   · rcases Rat.mul_eq_zero.1 q with q | q
     · exact hv q
     · exact hw q
  have e1 : x * Δ = 0 := by
   rw [← hD]
   have : x * (a * (e * i - f * h) - b * (d * i - f * g) + c * (d * h - e * g)) = (x * a + y * b + t * c) * (e * i - f * h) + (x * d + y * e + t * f) * (c * h - b * i) + (x * g + y * h + t * i) * (b * f - c * e) := by grind
   rw [this, h1, h2, h3]; grind
  have e2 : y * Δ = 0 := by
   rw [← hD]
   have : y * (a * (e * i - f * h) - b * (d * i - f * g) + c * (d * h - e * g)) = (x * a + y * b + t * c) * (f * g - d * i) + (x * d + y * e + t * f) * (a * i - c * g) + (x * g + y * h + t * i) * (c * d - a * f) := by grind
   rw [this, h1, h2, h3]; grind
  have e3 : t * Δ = 0 := by
   rw [← hD]
   have : t * (a * (e * i - f * h) - b * (d * i - f * g) + c * (d * h - e * g)) = (x * a + y * b + t * c) * (d * h - e * g) + (x * d + y * e + t * f) * (b * g - a * h) + (x * g + y * h + t * i) * (a * e - b * d) := by grind
   rw [this, h1, h2, h3]; grind
  have z0 : ∀ {q : Rat}, q * Δ = 0 → q = 0 := fun hq => by
   rcases Rat.mul_eq_zero.1 hq with h | h
   · exact h
   · exact absurd h hd
  intro j hj
  rcases (show j = 0 ∨ j = 1 ∨ j = 2 by omega) with rfl | rfl | rfl
  · simpa using z0 e1
  · simpa using z0 e2
  · simpa using z0 e3

theorem Ah7 {A B X R D : List Rat} {k s : Nat} (hr : A7 0 R R = 0) (h : Om A B X R k) : To A s R D ∧ ∃ R', Om A B (F1 A s X R D) R' k ∧ ∀ i, i < k → R'.getD i 0 = 0 := by
 cases s with
 | zero => exact ⟨trivial, R, h, fun i _ => Tf hr i⟩
 | succ s =>
  refine ⟨.inl hr, R, ?_, fun i _ => Tf hr i⟩
  unfold F1
  rw [if_pos hr]; exact h

theorem Ap3 {A B X R D : List Rat} {k s : Nat} (hr : A7 0 R R ≠ 0) (hp : A7 0 D (Av A D) ≠ 0) (h : To A s (Ax A R D) (Eb A R D) ∧ ∃ R', Om A B (F1 A s (N7 A X R D) (Ax A R D) (Eb A R D)) R' k ∧ ∀ i, i < k → R'.getD i 0 = 0) :
  To A (s + 1) R D ∧ ∃ R', Om A B (F1 A (s + 1) X R D) R' k ∧ ∀ i, i < k → R'.getD i 0 = 0 := by
 refine ⟨.inr ⟨hp, h.1⟩, ?_⟩
 unfold F1
 rw [if_neg hr]; exact h.2

theorem Bak {A R D : List Rat} {k : Nat} (h : Xp A R D k) (hA : Pd A k) (hr : A7 0 R R ≠ 0) : F0 A R D ≠ 0 := by
 have hp := h.p hA hr
 intro e
 have ht : F0 A R D * A7 0 D (Av A D) = A7 0 R R := by unfold F0; grind
 rw [e] at ht
 exact hr (by grind)

theorem Aw2 {A B X : List Rat} {k : Nat} (hA : Pd A k) (h1 : 1 ≤ k) (h3 : k ≤ 3) (lB : B.length = k) (h0 : Om A B X B k) : To A k B B ∧ ∃ R', Om A B (F1 A k X B B) R' k ∧ ∀ i, i < k → R'.getD i 0 = 0 := by
 have c0 : Xp A B B k := ⟨lB, lB, rfl, rfl⟩
 by_cases r0 : A7 0 B B = 0
 · exact Ah7 r0 h0
 obtain ⟨a1, a2, a3, c1⟩ := A9u c0 hA r0
 have p0 := c0.p hA r0
 have t0 := Bak c0 hA r0
 have s1 := A0r c0 h0
 obtain ⟨q, rfl⟩ : ∃ q, k = q + 1 := ⟨k - 1, by omega⟩
 refine Ap3 r0 p0 ?_
 generalize hX1 : N7 A X B B = X1 at *
 have d1 := fun Z => Q7 c0 Z
 have e1 := fun Z => Lh c0 Z
 generalize hR1 : Ax A B B = R1 at *
 generalize hD1 : Eb A B B = D1 at *
 generalize hT0 : F0 A B B = T0 at *
 by_cases q0 : q = 0
 · subst q0
   exact ⟨trivial, R1, s1, Ba6 lB c1.lR r0 a1⟩
 by_cases r1 : A7 0 R1 R1 = 0
 · exact Ah7 r1 s1
 obtain ⟨b1, b2, b3, c2⟩ := A9u c1 hA r1
 have p1 := c1.p hA r1
 have s2 := A0r c1 s1
 obtain ⟨q2, rfl⟩ : ∃ q2, q = q2 + 1 := ⟨q - 1, by omega⟩
 refine Ap3 r1 p1 ?_
 have d2 := fun Z => Q7 c1 Z
 have e2 := fun Z => Lh c1 Z
 generalize hX2 : N7 A X1 R1 D1 = X2 at *
 generalize hR2 : Ax A R1 D1 = R2 at *
 generalize hD2 : Eb A R1 D1 = D2 at *
 generalize hT1 : F0 A R1 D1 = T1 at *
 have f1 : A7 0 (Av A D1) B = 0 := by rw [hA.sa _ _ c1.lD lB]; exact a3
 have f2 : A7 0 R2 B = 0 := by rw [e2, a1, f1]; grind
 by_cases q20 : q2 = 0
 · subst q20
   exact ⟨trivial, R2, s2, Ba5 lB c1.lR c2.lR r0 r1 a1 f2 b1⟩
 by_cases r2 : A7 0 R2 R2 = 0
 · exact Ah7 r2 s2
 obtain ⟨g1, g2, g3, c3⟩ := A9u c2 hA r2
 have p2 := c2.p hA r2
 have s3 := A0r c2 s2
 obtain rfl : q2 = 1 := by omega
 refine Ap3 r2 p2 ⟨trivial, _, s3, ?_⟩
 have e3 := fun Z => Lh c2 Z
 generalize hR3 : Ax A R2 D2 = R3 at *
 generalize hT2 : F0 A R2 D2 = T2 at *
 have i1 : A7 0 (Av A B) R2 = 0 := by
  have := e1 R2
  rw [B7 R1 R2, b1, B7 B R2, f2] at this
  grind
 have i2 : A7 0 D2 (Av A B) = 0 := by
  rw [d2, a3, B7 R2 (Av A B), i1]; grind
 have i3 : A7 0 (Av A D2) B = 0 := by rw [hA.sa _ _ c2.lD lB]; exact i2
 have i4 : A7 0 R3 B = 0 := by rw [e3, f2, i3]; grind
 have i5 : A7 0 (Av A D2) D1 = 0 := by rw [hA.sa _ _ c2.lD c1.lD]; exact b3
 have i6 : A7 0 R3 D1 = 0 := by rw [e3, b2, i5]; grind
 have i7 : A7 0 R3 R1 = 0 := by
  have := d1 R3
  rw [B7 D1 R3, i6, B7 B R3, i4, B7 R1 R3] at this
  grind
 exact Ba4 lB c1.lR c2.lR c3.lR r0 r1 r2 a1 f2 b1 i4 i7 g1

theorem Ax8 {A B : List Rat} {k : Nat} (lB : B.length = k) : Om A B (List.replicate k 0) B k := by
 refine ⟨by simp, lB, fun i hi => ?_⟩
 rw [V7 (by simpa using hi), B7, Xe _ (fun j => by
  simp [List.getD_eq_getElem?_getD]
  by_cases c : j < k <;> simp [c])]
 grind

def hillG (M : List Rat) (k p : Nat) : Rat := A7 0 (Au M k (p / k)) (Au M k (p % k)) + ((if p / k = p % k then 1 else 0 : Nat) : Rat)

def hillR (M : List Rat) (k : Nat) : List Rat := (List.range (k * k)).map (hillG M k)

theorem hill_len (M : List Rat) (k : Nat) : (hillR M k).length = k * k := by simp [hillR]

theorem hill_get {M : List Rat} {k r c : Nat} (hl : M.length = k * k) (hr : r < k) (hc : c < k) : (hillR M k).getD (r * k + c) 0 = A7 0 ((List.range k).map fun j => M.getD (r * k + j) 0) ((List.range k).map fun j => M.getD (c * k + j) 0) + ((if r = c then 1 else 0 : Nat) : Rat) := by
 have hi := Ei hr hc
 obtain ⟨d1, d2⟩ := dm (i := r) hc
 unfold hillR
 rw [List.getD_eq_getElem?_getD, List.getElem?_map, List.getElem?_range hi]
 show hillG M k (r * k + c) = _
 unfold hillG
 rw [d1, d2, Ft hl hr, Ft hl hc]

theorem mv1 {A : List Rat} {x : Rat} (lA : A.length = 1 * 1) : Av A [x] = [A.getD 0 0 * x] := by
 unfold Av
 have e0 := Ft (r := 0) lA (by omega)
 simp only [List.length_cons, List.length_nil, Nat.zero_add, List.range_succ, List.range_zero, List.nil_append, List.map_cons, List.map_nil] at *
 rw [e0]
 simp [A7, Rat.zero_add]

theorem mv2 {A : List Rat} {x y : Rat} (lA : A.length = 2 * 2) : Av A [x, y] = [A.getD 0 0 * x + A.getD 1 0 * y, A.getD 2 0 * x + A.getD 3 0 * y] := by
 unfold Av
 have e0 := Ft (r := 0) lA (by omega)
 have e1 := Ft (r := 1) lA (by omega)
 simp only [List.length_cons, List.length_nil, Nat.zero_add, Nat.reduceAdd, List.range_succ, List.range_zero, List.nil_append, List.cons_append, List.map_cons, List.map_nil] at *
 rw [e0, e1]
 simp [A7, Rat.zero_add]

theorem mv3 {A : List Rat} {x y z : Rat} (lA : A.length = 3 * 3) : Av A [x, y, z] = [A.getD 0 0 * x + A.getD 1 0 * y + A.getD 2 0 * z, A.getD 3 0 * x + A.getD 4 0 * y + A.getD 5 0 * z, A.getD 6 0 * x + A.getD 7 0 * y + A.getD 8 0 * z] := by
 unfold Av
 have e0 := Ft (r := 0) lA (by omega)
 have e1 := Ft (r := 1) lA (by omega)
 have e2 := Ft (r := 2) lA (by omega)
 simp only [List.length_cons, List.length_nil, Nat.zero_add, Nat.reduceAdd, List.range_succ, List.range_zero, List.nil_append, List.cons_append, List.map_cons, List.map_nil] at *
 rw [e0, e1, e2]
 simp [A7, Rat.zero_add]

theorem Axi {X : List Rat} (h : X.length = 1) : ∃ a, X = [a] := by
 match X, h with
 | [a], _ => exact ⟨a, rfl⟩

theorem Axh {X : List Rat} (h : X.length = 2) : ∃ a b, X = [a, b] := by
 match X, h with
 | [a, b], _ => exact ⟨a, b, rfl⟩

theorem Axg {X : List Rat} (h : X.length = 3) : ∃ a b c, X = [a, b, c] := by
 match X, h with
 | [a, b, c], _ => exact ⟨a, b, c, rfl⟩

theorem hill1 {M : List Rat} (hl : M.length = 1 * 1) : ∃ a, (hillR M 1).getD 0 0 = a * a + 1 := by
 have h := hill_get (r := 0) (c := 0) hl (by omega) (by omega)
 simp only [List.range_succ, List.range_zero, List.nil_append, List.map_cons, List.map_nil, A7, Nat.zero_mul, Nat.add_zero, if_true] at h
 exact ⟨M.getD 0 0, by rw [h]; simp [Rat.zero_add]⟩

theorem hill2 {M : List Rat} (hl : M.length = 2 * 2) : ∃ a b c d, (hillR M 2).getD 0 0 = a * a + b * b + 1 ∧ (hillR M 2).getD 1 0 = a * c + b * d ∧ (hillR M 2).getD 2 0 = a * c + b * d ∧ (hillR M 2).getD 3 0 = c * c + d * d + 1 := by
 have h00 := hill_get (r := 0) (c := 0) hl (by omega) (by omega)
 have h01 := hill_get (r := 0) (c := 1) hl (by omega) (by omega)
 have h10 := hill_get (r := 1) (c := 0) hl (by omega) (by omega)
 have h11 := hill_get (r := 1) (c := 1) hl (by omega) (by omega)
 simp [List.range_succ, A7, Rat.zero_add] at h00 h01 h10 h11
 refine ⟨M.getD 0 0, M.getD 1 0, M.getD 2 0, M.getD 3 0, ?_, ?_, ?_, ?_⟩
 · simpa using h00
 · simpa using h01.trans (by grind)
 · simpa using h10.trans (by grind)
 · simpa using h11

theorem hill3 {M : List Rat} (hl : M.length = 3 * 3) : ∃ a b c d e f g h i, (hillR M 3).getD 0 0 = a * a + b * b + c * c + 1 ∧ (hillR M 3).getD 1 0 = a * d + b * e + c * f ∧ (hillR M 3).getD 2 0 = a * g + b * h + c * i ∧
  (hillR M 3).getD 3 0 = a * d + b * e + c * f ∧ (hillR M 3).getD 4 0 = d * d + e * e + f * f + 1 ∧ (hillR M 3).getD 5 0 = d * g + e * h + f * i ∧
  (hillR M 3).getD 6 0 = a * g + b * h + c * i ∧ (hillR M 3).getD 7 0 = d * g + e * h + f * i ∧ (hillR M 3).getD 8 0 = g * g + h * h + i * i + 1 := by
 have h00 := hill_get (r := 0) (c := 0) hl (by omega) (by omega)
 have h01 := hill_get (r := 0) (c := 1) hl (by omega) (by omega)
 have h02 := hill_get (r := 0) (c := 2) hl (by omega) (by omega)
 have h10 := hill_get (r := 1) (c := 0) hl (by omega) (by omega)
 have h11 := hill_get (r := 1) (c := 1) hl (by omega) (by omega)
 have h12 := hill_get (r := 1) (c := 2) hl (by omega) (by omega)
 have h20 := hill_get (r := 2) (c := 0) hl (by omega) (by omega)
 have h21 := hill_get (r := 2) (c := 1) hl (by omega) (by omega)
 have h22 := hill_get (r := 2) (c := 2) hl (by omega) (by omega)
 simp [List.range_succ, A7, Rat.zero_add] at h00 h01 h02 h10 h11 h12 h20 h21 h22
 refine ⟨M.getD 0 0, M.getD 1 0, M.getD 2 0, M.getD 3 0, M.getD 4 0, M.getD 5 0, M.getD 6 0, M.getD 7 0, M.getD 8 0, ?_, ?_, ?_, ?_, ?_, ?_, ?_, ?_, ?_⟩
 · simpa using h00
 · simpa using h01.trans (by grind)
 · simpa using h02.trans (by grind)
 · simpa using h10.trans (by grind)
 · simpa using h11
 · simpa using h12.trans (by grind)
 · simpa using h20.trans (by grind)
 · simpa using h21.trans (by grind)
 · simpa using h22

theorem hill_pd {M : List Rat} {k : Nat} (hl : M.length = k * k) (h1 : 1 ≤ k) (h3 : k ≤ 3) : Pd (hillR M k) k := by
 have lA := hill_len M k
 rcases (show k = 1 ∨ k = 2 ∨ k = 3 by omega) with rfl | rfl | rfl
 · obtain ⟨a, e0⟩ := hill1 hl
   refine ⟨fun X Y hX hY => ?_, fun X hX => ?_⟩
   · obtain ⟨x, rfl⟩ := Axi hX
     obtain ⟨y, rfl⟩ := Axi hY
     rw [mv1 lA, mv1 lA]
     simp only [A7]; grind
   · obtain ⟨x, rfl⟩ := Axi hX
     rw [mv1 lA, e0]
     simp only [A7]
     have := Ah (a * x)
     grind
 · obtain ⟨a, b, c, d, e0, e1, e2, e3⟩ := hill2 hl
   refine ⟨fun X Y hX hY => ?_, fun X hX => ?_⟩
   · obtain ⟨x, x', rfl⟩ := Axh hX
     obtain ⟨y, y', rfl⟩ := Axh hY
     rw [mv2 lA, mv2 lA, e1, e2]
     simp only [A7]; grind
   · obtain ⟨x, x', rfl⟩ := Axh hX
     rw [mv2 lA, e0, e1, e2, e3]
     simp only [A7]
     have q1 := Ah (a * x + c * x')
     have q2 := Ah (b * x + d * x')
     have : 0 + x * ((a * a + b * b + 1) * x + (a * c + b * d) * x') + x' * ((a * c + b * d) * x + (c * c + d * d + 1) * x') = 0 + x * x + x' * x' + (a * x + c * x') * (a * x + c * x') + (b * x + d * x') * (b * x + d * x') := by grind
     rw [this]; grind
 · obtain ⟨a, b, c, d, e, f, g, h, i, e0, e1, e2, e3, e4, e5, e6, e7, e8⟩ := hill3 hl
   refine ⟨fun X Y hX hY => ?_, fun X hX => ?_⟩
   · obtain ⟨x, x', x'', rfl⟩ := Axg hX
     obtain ⟨y, y', y'', rfl⟩ := Axg hY
     rw [mv3 lA, mv3 lA, e1, e2, e3, e5, e6, e7]
     simp only [A7]; grind
   · obtain ⟨x, y, z, rfl⟩ := Axg hX
     rw [mv3 lA, e0, e1, e2, e3, e4, e5, e6, e7, e8]
     simp only [A7]
     have q1 := Ah (a * x + d * y + g * z)
     have q2 := Ah (b * x + e * y + h * z)
     have q3 := Ah (c * x + f * y + i * z)
     have : 0 + x * ((a * a + b * b + c * c + 1) * x + (a * d + b * e + c * f) * y + (a * g + b * h + c * i) * z) + y * ((a * d + b * e + c * f) * x + (d * d + e * e + f * f + 1) * y + (d * g + e * h + f * i) * z) + z * ((a * g + b * h + c * i) * x + (d * g + e * h + f * i) * y + (g * g + h * h + i * i + 1) * z) =
      0 + x * x + y * y + z * z + (a * x + d * y + g * z) * (a * x + d * y + g * z) + (b * x + e * y + h * z) * (b * x + e * y + h * z) + (c * x + f * y + i * z) * (c * x + f * y + i * z) := by grind
     rw [this]; grind

theorem hill_sym {M : List Rat} {k : Nat} (hl : M.length = k * k) : hillR M k = Ee (hillR M k) k := by
 refine (Xr (hill_len M k)).2 fun r c _ hr hc => ?_
 rw [hill_get hl hr (by omega), hill_get hl (by omega) hr, B7, if_neg (by omega), if_neg (by omega)]

theorem hill_pos {M : List Rat} {k : Nat} (hl : M.length = k * k) (h1 : 1 ≤ k) (h3 : k ≤ 3) : G7 (hillR M k) k k 1 = true := by
 rcases (show k = 1 ∨ k = 2 ∨ k = 3 by omega) with rfl | rfl | rfl
 · obtain ⟨a, e0⟩ := hill1 hl
   have q1 := Ah a
   simp only [G7, Bool.and_true, decide_eq_true_eq]
   rw [O2]
   simp [Xo, Ek]
   simp at e0
   rw [e0]; grind
 · obtain ⟨a, b, c, d, e0, e1, e2, e3⟩ := hill2 hl
   simp only [G7, Bool.and_true, Bool.and_eq_true, decide_eq_true_eq]
   have q1 := Ah a
   have q2 := Ah b
   have q3 := Ah c
   have q4 := Ah d
   have q5 := Ah (a * d - b * c)
   refine ⟨?_, ?_⟩
   · rw [O2]
     simp [Xo, Ek]
     simp at e0
     rw [e0]; grind
   · rw [Th]
     simp [Xn, Ek]
     simp at e0 e1 e2 e3
     rw [e0, e1, e2, e3]
     have : (a * a + b * b + 1) * (c * c + d * d + 1) - (a * c + b * d) * (a * c + b * d) = 1 + a * a + b * b + c * c + d * d + (a * d - b * c) * (a * d - b * c) := by grind
     rw [this]; grind
 · obtain ⟨a, b, c, d, e, f, g, h, i, e0, e1, e2, e3, e4, e5, e6, e7, e8⟩ := hill3 hl
   simp only [G7, Bool.and_true, Bool.and_eq_true, decide_eq_true_eq]
   have q1 := Ah a
   have q2 := Ah b
   have q3 := Ah c
   have q4 := Ah d
   have q5 := Ah e
   have q6 := Ah f
   have q7 := Ah g
   have q8 := Ah h
   have q9 := Ah i
   have m1 := Ah (a * e - b * d)
   have m2 := Ah (a * f - c * d)
   have m3 := Ah (b * f - c * e)
   have m4 := Ah (a * h - b * g)
   have m5 := Ah (a * i - c * g)
   have m6 := Ah (b * i - c * h)
   have m7 := Ah (d * h - e * g)
   have m8 := Ah (d * i - f * g)
   have m9 := Ah (e * i - f * h)
   have dd := Ah (a * (e * i - f * h) - b * (d * i - f * g) + c * (d * h - e * g))
   refine ⟨?_, ?_, ?_⟩
   · rw [O2]
     simp [Xo, Ek]
     simp at e0
     rw [e0]; grind
   · rw [Th]
     simp [Xn, Ek]
     simp at e0 e1 e3 e4
     rw [e0, e1, e3, e4]
     have : (a * a + b * b + c * c + 1) * (d * d + e * e + f * f + 1) - (a * d + b * e + c * f) * (a * d + b * e + c * f) = 1 + a * a + b * b + c * c + d * d + e * e + f * f + (a * e - b * d) * (a * e - b * d) + (a * f - c * d) * (a * f - c * d) + (b * f - c * e) * (b * f - c * e) := by grind
     rw [this]; grind
   · rw [Zd]
     simp [Aa4, Ek]
     simp at e0 e1 e2 e3 e4 e5 e6 e7 e8
     rw [e0, e1, e2, e3, e4, e5, e6, e7, e8]
     have : (a * a + b * b + c * c + 1) * ((d * d + e * e + f * f + 1) * (g * g + h * h + i * i + 1) - (d * g + e * h + f * i) * (d * g + e * h + f * i)) - (a * d + b * e + c * f) * ((a * d + b * e + c * f) * (g * g + h * h + i * i + 1) - (d * g + e * h + f * i) * (a * g + b * h + c * i)) + (a * g + b * h + c * i) * ((a * d + b * e + c * f) * (d * g + e * h + f * i) - (d * d + e * e + f * f + 1) * (a * g + b * h + c * i)) =
      1 + a * a + b * b + c * c + d * d + e * e + f * f + g * g + h * h + i * i + (a * e - b * d) * (a * e - b * d) + (a * f - c * d) * (a * f - c * d) + (b * f - c * e) * (b * f - c * e) + (a * h - b * g) * (a * h - b * g) + (a * i - c * g) * (a * i - c * g) + (b * i - c * h) * (b * i - c * h) + (d * h - e * g) * (d * h - e * g) + (d * i - f * g) * (d * i - f * g) + (e * i - f * h) * (e * i - f * h)
      + (a * (e * i - f * h) - b * (d * i - f * g) + c * (d * h - e * g)) * (a * (e * i - f * h) - b * (d * i - f * g) + c * (d * h - e * g)) := by grind
     rw [this]; grind

theorem Ae9 {f k : Nat} {X : List Rat} (hX : Sv X 40) (hlen : X.length = k * k) (h2 : k ≤ 4) (hs : X = Ee X k) (hp : G7 X k k 1 = true) (hf : 67108864 ≤ f) : f66 f (vq X) (k : Int) = some true ∧ f71 f (vq X) (k : Int) = some true := by
 have h16 := Dw h2
 have s40 := Awn hX hlen
 unfold f66 f71 f139 S2
 have q1 := Alg (f := f) hX hlen h2 (by omega) (k0 := fun z_5 => some z_5) (k1 := fun z_6 z_7 => (
  Fx f f z_6 z_7 1
   (fun z_15 => (
    some z_15))
   (fun (_ : Unit) => (
    some true)))) f 0 (by omega) (by omega)
 have q1 : M1 f f (vq X) (k : Int) 0 _ _ = _ := q1
 have ml := A7l X k
 have q2 := Kb (n := f) (x := X) (y := Ee X k) (by rw [ml, hlen]) (by omega) hX s40 (by omega) (k0 := fun z_4 => some z_4) (k1 := fun (_ : Unit) => some true) f 0 (by omega) (by omega)
 have q2 : F8 f f (vq (Ee X k)) (vq X) (X.length : Int) 0 _ _ = _ := q2
 have p1 := Alh (f := f) hX hlen h2 hf (k0 := fun z_15 => some z_15) (k1 := fun (_ : Unit) => some true) k 1 f (by omega) (by omega) (by omega) (by omega)
 have p1 : Fx f f (vq X) (k : Int) 1 _ _ = _ := p1
 have p2 := Am0 (f := f) hX hlen h2 hf (k0 := fun z_10 => some z_10) (k1 := fun (_ : Unit) => some true) k 1 f (by omega) (by omega) (by omega) (by omega)
 have p2 : Lz f f (vq X) (k : Int) 1 _ _ = _ := p2
 rw [q1, Aqy hX hlen h2 (by omega), A1, At, At, show ((X.length : Int) != ((Ee X k).length : Int)) = false by rw [ml, hlen]; simp, cond_false, q2, List.drop_zero, List.drop_zero]
 rw [if_pos ((Xr hlen).1 hs), if_pos hs, p1, A1, A1, Bool.not_true, cond_false, p2, if_pos hp]
 exact ⟨rfl, rfl⟩

theorem U7 {α : Type} {n m : Nat} (hm : m ≤ 1000) (hn : 1048577 ≤ n) {k0 : List Rt → Option α} : ∀ (fu i : Nat), i ≤ m → m < i + fu → A5n n fu (m : Int) (i : Int) (vq (List.replicate i 0)) k0 = k0 (vq (List.replicate m 0))
 | 0, i, h1, h2 => by omega
 | fu + 1, i, h1, h2 => by
  rw [Ay9]
  unfold A86
  rw [Bool.cond_decide]
  by_cases h : i < m
  · rw [if_pos (by omega), Y4 hn, A1, A3 (by simp; omega), W1 (by omega), Aja]
    exact U7 hm hn fu (i + 1) (by omega) (by omega)
  · obtain rfl : i = m := by omega
    rw [if_neg (by omega)]

theorem Axs {n m : Nat} (hm : m ≤ 1000) (hn : 1048577 ≤ n) : f72 n (m : Int) = some (vq (List.replicate m 0)) := by
 unfold f72
 exact U7 (n := n) (k0 := fun z => some z) hm hn n 0 (by omega) (by omega)

theorem Axu {n k : Nat} {A B : List Rat} (hA : Sv A 40) (hB : Sv B 40) (hl : A.length = k * k) (hb : B.length = k) (h4 : k ≤ 4) (hc : mvC (vq A) (vq B) = 0) (hn : 17179869184 ≤ n) : f13 n (vq A) (vq B) = some (Alf A B k) := by
 have sl := Xt A B k
 unfold f13
 rw [Asl (by omega), A1, hc, bne_self_eq_false, cond_false, B1x hA hB hl hb h4 hn, A1]
 unfold Ax2 Alf
 by_cases e : Cs k (Cf A B k) = 0
 · rw [if_pos e, if_pos e]; rfl
 · rw [if_neg e, if_neg e]
   dsimp only
   rw [Bool.not_true, cond_false, Aqz (by omega) (by omega), A1]
   rfl

theorem hillG_at {M : List Rat} {k i j : Nat} (hj : j < k) : hillG M k (i * k + j) = A7 0 (Au M k i) (Au M k j) + ((if i = j then 1 else 0 : Nat) : Rat) := by
 obtain ⟨d1, d2⟩ := dm (i := i) hj
 unfold hillG; rw [d1, d2]

theorem B8e {n i j : Nat} (hn : 1048577 ≤ n) : f106 n (if ((i : Int) == (j : Int)) = true then 1 else 0) = some (rq ((if i = j then 1 else 0 : Nat) : Rat)) := by
 by_cases c : i = j
 · subst c
   rw [BEq.rfl, if_pos rfl, if_pos rfl]
   exact A4r (c := 1) (by omega) hn
 · rw [show ((i : Int) == (j : Int)) = false by rw [beq_eq_false_iff_ne]; omega, if_neg c]
   exact A4r (c := 0) (by omega) hn

theorem B8d {i j : Nat} : Sz ((if i = j then 1 else 0 : Nat) : Rat) 1311 := by
 split
 · exact (Ahl (c := 1) (by omega)).mono (by omega)
 · exact (Ahl (c := 0) (by omega)).mono (by omega)

theorem hill_room {k i j : Nat} {g : Nat → Rat} (hk : k ≤ 4) (hi : i < k) (hj : j < k) : decide (((vq ((List.range (i * k + j)).map g)).length + 1) * 56 ≤ 140737488355328) = true := by
 have h4 := Dw hk
 have := Ei hi hj
 simp [vq]; omega

theorem hill_cell {n k i j : Nat} {M : List Rat} (hM : Sv M 40) (hl : M.length = k * k) (hk : k ≤ 4) (hi : i < k) (hj : j < k) (hn : 1048577 ≤ n) :
  f120 n (vq (Au M k i)) (vq (Au M k j)) = some (rq (A7 0 (Au M k i) (Au M k j))) ∧ f146 n (rq (A7 0 (Au M k i) (Au M k j))) (rq ((if i = j then 1 else 0 : Nat) : Rat)) = some (rq (hillG M k (i * k + j))) := by
 rw [hillG_at hj]
 exact ⟨B8t (K2 hM) (K2 hM) (by rw [Bd hl hi, Bd hl hj]) (by rw [Bd hl hi]; exact hk) hn, Ux (n := n) (L := 1311) (B8h (K2 hM) (K2 hM) (by rw [Bd hl hi]; exact hk)) B8d (by decide) (by omega)⟩

theorem hill_inner {α : Type} {n k i : Nat} {M : List Rat} (hM : Sv M 40) (hl : M.length = k * k) (hk : k ≤ 4) (hi : i < k) (hn : 1048577 ≤ n) {c0 : List Int} {c1 c2 : Int} {k0 : Int → List Rt → Int → List Rt → List Int → Int → Int → Option α} : ∀ (m j : Nat), j ≤ k → k < j + m →
  Y9 n m (k : Int) (vq M) (i : Int) (j : Int) (vq ((List.range (i * k + j)).map (hillG M k))) c0 c1 c2 k0 = k0 (k : Int) (vq M) (i : Int) (vq ((List.range ((i + 1) * k)).map (hillG M k))) c0 c1 c2
 | 0, j, hj, hm => by omega
 | m + 1, j, hj, hm => by
  rw [Are]
  unfold A12
  rw [Bool.cond_decide]
  have h4 := Dw hk
  by_cases h : j < k
  · obtain ⟨x1, x2⟩ := hill_cell (n := n) hM hl hk hi h hn
    have hb := hill_room (g := hillG M k) hk hi h
    have e : vq ((List.range (i * k + j)).map (hillG M k)) ++ [rq (hillG M k (i * k + j))] = vq ((List.range (i * k + (j + 1))).map (hillG M k)) := by
     rw [← Nat.add_assoc, List.range_succ, List.map_append, List.map_singleton]
     simp [vq]
    have r1 := Ln h
    have r2 := Ln hi
    have r3 : (j + 1) * k = j * k + k := Nat.succ_mul j k
    have r4 : (i + 1) * k = i * k + k := Nat.succ_mul i k
    rw [if_pos (by omega), W1 (by omega), W1 (by omega), Wm (by omega), Wm (by omega), Wm (by omega), Wm (by omega), At, A3 (Xw hi hl), A3 (Xw h hl)]
    simp only [Int.toNat_natCast]
    rw [Ox, Ox, x1, A1, Pr, A1, B8e hn, A1, x2, A1, A3 hb, e]
    exact hill_inner hM hl hk hi hn m (j + 1) (by omega) (by omega)
  · obtain rfl : j = k := by omega
    rw [if_neg (by omega), show i * j + j = (i + 1) * j by rw [Nat.succ_mul]]

theorem hill_loop {α : Type} {n k : Nat} {M : List Rat} (hM : Sv M 40) (hl : M.length = k * k) (hk : k ≤ 4) (hn : 1048577 ≤ n) {c0 : List Int} {c1 c2 : Int} {k0 : List Rt → List Int → Int → Int → Option α} : ∀ (m i : Nat), i ≤ k → k < i + m →
  P7 n m (k : Int) (vq M) (i : Int) (vq ((List.range (i * k)).map (hillG M k))) c0 c1 c2 k0 = k0 (vq (hillR M k)) c0 c1 c2
 | 0, i, hi, hm => by omega
 | m + 1, i, hi, hm => by
  rw [Arh]
  unfold A15
  rw [Bool.cond_decide]
  by_cases h : i < k
  · rw [if_pos (by omega)]
    refine (hill_inner hM hl hk h hn n 0 (by omega) (by omega)).trans ?_
    dsimp only
    rw [W1 (by omega)]
    exact hill_loop hM hl hk hn m (i + 1) (by omega) (by omega)
  · obtain rfl : i = k := by omega
    rw [if_neg (by omega)]; rfl

theorem hill_drawn {n k : Nat} {l : List Int} (h : ∀ x ∈ l, 0 ≤ x ∧ x ≤ 255) (hl : l.length ≤ 1048576) (hk : k ≤ 4) (hn : 1048577 ≤ n) : ∃ M : List Rat, f25 n l (k : Int) = some (vq (hillR M k)) ∧ M.length = k * k ∧ Bv M 3 1 := by
 have h16 := Dw hk
 unfold f25 A1t Ay6 Afl
 rw [A1]
 obtain ⟨x, s', a1, a2, a3⟩ := A0t (n := n) hk hn (k0 := fun z_3 z_4 z_5 z_6 => some (z_3, (z_4, z_5, z_6))) n 0 0 [] (l, 0, Int.tmod (l.length : Int) 1000) (Ax1 h hl) (by omega) rfl (by omega) (by omega) (fun a ha => by simp at ha)
 have a3 : L6 n n (k : Int) 0 [] l 0 (Int.tmod (l.length : Int) 1000) _ = _ := a3
 have sx : Sv x 40 := a2.sz (by decide) (by decide)
 have q := hill_loop (n := n) sx a1 hk hn (c0 := s'.1) (c1 := s'.2.1) (c2 := s'.2.2) (k0 := fun z_9 z_10 z_11 z_12 => some (z_9, (z_10, z_11, z_12))) n 0 (by omega) (by omega)
 rw [Nat.zero_mul] at q
 have q : P7 n n (k : Int) (vq x) 0 [] s'.1 s'.2.1 s'.2.2 _ = _ := q
 dsimp only
 rw [a3, A1]
 dsimp only
 rw [q, A1]
 exact ⟨x, rfl, a1, a2⟩

theorem B4h {M : List Rat} {k : Nat} (hM : Bv M 3 1) (hl : M.length = k * k) (hk : k ≤ 4) : Bv (hillR M k) 37 1 := by
 intro a ha
 obtain ⟨p, hp, rfl⟩ := List.mem_map.1 ha
 obtain ⟨h1, h2⟩ := Ap0 (List.mem_range.1 hp)
 have rb : ∀ {r : Nat}, Bv (Au M k r) 3 1 := fun a ha => hM a (List.mem_of_mem_drop (List.mem_of_mem_take ha))
 have hd : Bq (A7 0 (Au M k (p / k)) (Au M k (p % k))) 36 1 := (B4k rb rb (by decide) (by rw [Bd hl h2]; omega)).mono (by decide) (by decide)
 have hc : Bq ((if p / k = p % k then 1 else 0 : Nat) : Rat) 1 1 := by
  split
  · exact Ahv (a := 1) (by decide)
  · exact Ahv (a := 0) (by decide)
 exact (A78 hd hc).mono (by decide) (by decide)

theorem B5j {a b : Int} : Oh [a, b] = if a = 0 then b else a := Axv

theorem B0s {n k s0 L : Nat} {A B : List Rat} (hA : Sv A 40) (hB : Sv B 40) (hA1 : Sv A L) (hB1 : Sv B L) (h1 : 1 ≤ L) (lA : A.length = k * k) (lB : B.length = k) (hk1 : 1 ≤ k) (hk4 : k ≤ 4) (hs : s0 ≤ 8) (hsym : A = Ee A k) (hpos : G7 A k k 1 = true) (hok : To A s0 B B)
  (hb1 : 4 * N8 s0 L + 3 ≤ 1099511627000) (hb2 : 28 * (4 * N8 s0 L + 3) + 10040 ≤ n) (hn : 67108864 ≤ n) :
  f24 n (vq A) (vq B) (s0 : Int) = some (Oi (F1 A s0 (List.replicate k 0) B B)) ∧ f23 n (vq A) (vq B) (s0 : Int) = some (Oi (F1 A s0 (List.replicate k 0) B B)) := by
 have h16 := Dw hk4
 have hc := Aqd hA hB lA lB hk1 hk4
 obtain ⟨p1, p2⟩ := Ae9 hA lA hk4 hsym hpos hn
 have sz : Ahu A (List.replicate k 0) B B k L := ⟨lA, by simp, lB, lB, hA1, Awm h1, hB1, hB1⟩
 have lz : ∀ (s : Nat) (X R D : List Rat), X.length = k → R.length = k → D.length = k → (F1 A s X R D).length = k := by
  intro s
  induction s with
  | zero => intro X R D hX _ _; exact hX
  | succ s ih =>
   intro X R D hX hR hD
   unfold F1
   split
   · exact hX
   · have l1 : (Ax A R D).length = k := by unfold Ax; rw [Co (by rw [Ci, hD, hR]), Ci, hD]
     exact ih _ _ _ (by unfold N7; rw [Co (by rw [hD, hX]), hD]) l1 (by unfold Eb; rw [Co (by rw [hD, l1]), hD])
 have lS := lz s0 (List.replicate k 0) B B (by simp) lB lB
 constructor
 · unfold f24
   have q := B5f (n := n) hk4 (show s0 ≤ 100 by omega) (by omega) (k0 := fun z_22 => ob (f51 n z_22) fun r_23 => some (r_23.1, r_23.2)) n 0 L A (List.replicate k 0) B B sz h1 (by omega) (by omega) (by rw [Nat.sub_zero]; exact hok) (by rw [Nat.sub_zero]; exact hb1) (by rw [Nat.sub_zero]; exact hb2)
   rw [Nat.sub_zero] at q
   have q : W6 n n (vq A) (vq (List.replicate k 0)) (vq B) (vq B) (s0 : Int) 0 _ = _ := q
   rw [Asl (by omega), A1, hc, Arx, A1, decide_eq_true (by omega), Yg, A1, if_pos rfl, A5p (by simp) (by omega), A1, B5j, if_pos rfl]
   dsimp only
   rw [bne_self_eq_false, cond_false, At, lB, p2, A1, Yg, A1, if_pos rfl, A5p (by simp) (by omega), A1, B5j, if_pos rfl, bne_self_eq_false, cond_false, Axs (by omega) (by omega), A1, q, Aqz (by omega) (by omega), A1]
   rfl
 · unfold f23 f67
   have q := B4s (n := n) hk4 (show s0 ≤ 100 by omega) (by omega) (k0 := fun z_13 => some z_13) n 0 L A (List.replicate k 0) B B sz h1 (by omega) (by omega) (by rw [Nat.sub_zero]; exact hok) (by rw [Nat.sub_zero]; exact hb1) (by rw [Nat.sub_zero]; exact hb2)
   rw [Nat.sub_zero] at q
   have q : Vs n n (vq A) (s0 : Int) (vq (List.replicate k 0)) (vq B) (vq B) 0 _ _ = _ := q
   have sA : (vq A).length = k * k := by rw [At, lA]
   have sB : (vq B).length = k := by rw [At, lB]
   rw [sA, sB, Bool.cond_decide, if_neg (by omega), Bool.cond_decide, if_neg (by omega), B5y (by omega), A1, hc, bne_self_eq_false, cond_false, Pc, A1, decide_eq_true (by omega), Bool.not_true, cond_false, p1, A1, Bool.not_true, cond_false, Ajh (by omega) (by omega), A1, A3 (by simp; omega), A3 (by simp; omega), q, A1, B1e (by omega) (by omega), A1]

set_option maxRecDepth 20000 in
theorem B9g {f : Nat} {a b : List Int} (ha : ∀ x ∈ a, 0 ≤ x ∧ x ≤ 255) (hb : ∀ x ∈ b, 0 ≤ x ∧ x ≤ 255) (hf : 34359738368 ≤ f) : f6 f a b = some true := by
 unfold f6
 rw [Bool.cond_decide]
 by_cases la : a.length ≤ 1048576
 · rw [if_neg (by omega), Bool.cond_decide]
   by_cases lb : b.length ≤ 1048576
   · rw [if_neg (by omega)]
     obtain ⟨v, ev, hv⟩ := B82 (n := f) hb lb (c := 3) (by omega)
     rw [ev, A1, A9 (x := 1 + (v : Int)) (by omega) (by omega), show (1 : Int) + (v : Int) = ((1 + v : Nat) : Int) by omega]
     generalize hk : 1 + v = k
     have k1 : 1 ≤ k := by omega
     have k3 : k ≤ 3 := by omega
     obtain ⟨M, eA, lM, bM⟩ := hill_drawn (n := f) (k := k) ha la (by omega) (by omega)
     obtain ⟨B, eB, lB, bB⟩ := B7l (n := f) (k := k) hb lb (by omega) (by omega)
     obtain ⟨C, eC, lC, bC⟩ := Aql (n := f) (k := k) hb lb (by omega) (by omega)
     have lA := hill_len M k
     have bA := B4h bM lM (show k ≤ 4 by omega)
     have hpd := hill_pd lM k1 k3
     have hsym := hill_sym (k := k) lM
     have hpos := hill_pos lM k1 k3
     generalize hillR M k = A at *
     have sA1 : Sv A 1 := bA.sz (by decide) (by decide)
     have sB1 : Sv B 1 := bB.sz (by decide) (by decide)
     have sA : Sv A 40 := sA1.mono (by omega)
     have sB : Sv B 40 := sB1.mono (by omega)
     have hc := Aqd sA sB lA lB k1 (by omega)
     have e1 := Axu (n := f) sA sB lA lB (by omega) hc (by omega)
     obtain ⟨ok, R', hres, hz⟩ := Aw2 hpd k1 k3 lB (Ax8 lB)
     have hAX := B1j hres lB hz
     have lX := hres.1
     have c0 : Xp A B B k := ⟨lB, lB, rfl, rfl⟩
     have ok1 : To A 1 B B := by
      by_cases r0 : A7 0 B B = 0
      · exact .inl r0
      · exact .inr ⟨c0.p hpd r0, trivial⟩
     have cb : ∀ s, s ≤ 3 → 4 * N8 s 1 + 3 ≤ 1201402803 := fun s hs => by
      rcases (show s = 0 ∨ s = 1 ∨ s = 2 ∨ s = 3 by omega) with rfl | rfl | rfl | rfl <;> decide
     have cb1 := cb k k3
     have cb2 : 4 * N8 1 1 + 3 ≤ 1201402803 := by decide
     have n2 : 28 * (4 * N8 1 1 + 3) + 10040 ≤ f := Nat.le_trans (show 28 * (4 * N8 1 1 + 3) + 10040 ≤ 34359738368 by decide) hf
     obtain ⟨g1, _⟩ := B0s (n := f) (s0 := k) (L := 1) sA sB sA1 sB1 (by omega) lA lB k1 (by omega) (by omega) hsym hpos ok (by omega) (by omega) (by omega)
     obtain ⟨g2, g3⟩ := B0s (n := f) (s0 := 1) (L := 1) sA sB sA1 sB1 (by omega) lA lB k1 (by omega) (by omega) hsym hpos ok1 (Nat.le_trans cb2 (by decide)) n2 (by omega)
     have g2 : f24 f (vq A) (vq B) 1 = _ := g2
     have g3 : f23 f (vq A) (vq B) 1 = _ := g3
     have hdet : Cs k (Cf A B k) ≠ 0 := by
      rw [B48 k1 k3]
      intro e
      have hp : ∀ (g m : Nat), g = k + 1 - m → 1 ≤ m → m ≤ k → G7 A k g m = true → 0 < Cs k (Ek A k k) := by
       intro g
       induction g with
       | zero => intro m h1 h2 h3; omega
       | succ g ih =>
        intro m h1 h2 h3 h4
        simp only [G7, Bool.and_eq_true, decide_eq_true_eq] at h4
        by_cases c : m = k
        · rw [← c]; rw [← c] at h4; exact h4.1
        · exact ih (m + 1) (by omega) (by omega) (by omega) h4.2
      have := hp k 1 (by omega) (by omega) (by omega) hpos
      unfold Alv at e
      rw [e] at this
      exact absurd this (by grind)
     have hXY : F1 A k (List.replicate k 0) B B = Ho A B k := by
      have q1 := B09 hdet
      have q2 : Ol (Cf A B k) k (F1 A k (List.replicate k 0) B B) := fun r hr => by
       rw [B4d lA hr]
       have e := V7 (A := A) (X := F1 A k (List.replicate k 0) B B) (i := r) (by omega)
       rw [hAX, lX] at e
       rw [← e]
       unfold Cf
       rw [if_neg (by omega), if_pos ⟨hr, rfl⟩]
      have w1 := Ah2 k1 k3 (Xt A B k) q1
      have w2 := Ah2 k1 k3 lX q2
      apply List.ext_getElem
      · rw [lX, Xt]
      · intro i h1 h2
        have z1 := w1 i (by omega)
        have z2 := w2 i (by omega)
        rw [List.getD_eq_getElem?_getD, List.getElem?_eq_getElem h2, Option.getD_some] at z1
        rw [List.getD_eq_getElem?_getD, List.getElem?_eq_getElem h1, Option.getD_some] at z2
        rw [← z1] at z2
        grind
     have sl := Xt A B k
     have hs : Sv (Ho A B k) 40 := by
      have hM : ∀ r c, Bq (Cf A B k r c) 37 9 := fun r c => by
       unfold Cf
       split
       · rename_i h
         have h2 : Bq (A.getD (r * k + c) 0) 37 1 := bA.get (by rw [lA]; exact Ei h.1 h.2)
         exact h2.mono (by decide) (by decide)
       · split
         · rename_i h
           have h2 : Bq (B.getD r 0) 10 9 := bB.get (by omega)
           exact h2.mono (by decide) (by decide)
         · exact (B4i (N := 1)).mono (by decide) (by decide)
      have bd : ∀ {N : Nat → Nat → Rat}, (∀ r c, Bq (N r c) 37 9) → Bq (Cs k N) (10 ^ 60) (10 ^ 60) := fun {N} hN => by
       rcases (show k = 1 ∨ k = 2 ∨ k = 3 by omega) with h | h | h
       · rw [h, O2]; unfold Xo; exact (hN 0 0).mono (by decide) (by decide)
       · rw [h, Th]; unfold Xn; exact (Xq (F3 (hN 0 0) (hN 1 1)) (F3 (hN 0 1) (hN 1 0))).mono (by decide) (by decide)
       · rw [h, Zd]; unfold Aa4
         have q1 := F3 (hN 0 0) (Xq (F3 (hN 1 1) (hN 2 2)) (F3 (hN 1 2) (hN 2 1)))
         have q2 := F3 (hN 0 1) (Xq (F3 (hN 1 0) (hN 2 2)) (F3 (hN 1 2) (hN 2 0)))
         have q3 := F3 (hN 0 2) (Xq (F3 (hN 1 0) (hN 2 1)) (F3 (hN 1 1) (hN 2 0)))
         exact (A78 (Xq q1 q2) q3).mono (by decide) (by decide)
      intro a ha'
      obtain ⟨i, hi, rfl⟩ := List.getElem_of_mem ha'
      have hc' := Ah2 k1 k3 sl (B09 hdet) i (by omega)
      have e : (Ho A B k).getD i 0 = (Ho A B k)[i] := by rw [List.getD_eq_getElem?_getD, List.getElem?_eq_getElem hi]; rfl
      rw [e] at hc'
      exact (B4j hc' hdet (bd (B8o hM)) (bd hM)).sz (by decide) (by decide)
     obtain ⟨r, i1, i2⟩ := B1l (f := f) (x := vq C) (a := (k : Int)) (by omega)
     have sC : Sv C 40 := bC.sz (by decide) (by decide)
     have i3 : ∃ w, f26 f (vq C) (k : Int) = some (w, 0) := by
      unfold f26
      obtain ⟨w, hw⟩ : ∃ w, f71 f (vq C) (k : Int) = some w := by
       have := i2
       unfold f26 at this
       rw [Pe (by simp) (by omega), A1, A0u sC lC k1 (by omega), bne_self_eq_false, cond_false] at this
       cases hq : f71 f (vq C) (k : Int) with
       | none => rw [hq] at this; cases this
       | some w => exact ⟨w, rfl⟩
      rw [Pe (by simp) (by omega), A1, A0u sC lC k1 (by omega), bne_self_eq_false, cond_false, hw, A1]
      exact ⟨w, rfl⟩
     obtain ⟨w, i3⟩ := i3
     rw [i3] at i2
     obtain rfl := Option.some.inj i2
     have i4 : f26 f (vq A) (k : Int) = some (true, 0) := by
      unfold f26
      obtain ⟨_, p2⟩ := Ae9 sA lA (show k ≤ 4 by omega) hsym hpos (f := f) (by omega)
      rw [Pe (by simp) (by omega), A1, A0u sA lA k1 (by omega), bne_self_eq_false, cond_false, p2, A1]
     have e3 : Alf A B k = (vq (Ho A B k), 0) := by unfold Alf; rw [if_neg hdet, Ak5 hs]
     have s1 : f16 f (vq (Ho A B k)) (vq (Ho A B k)) = some (decide (Ho A B k = Ho A B k)) := Aep rfl (by omega) (hs.mono (by omega)) (by omega)
     have s2 : f16 f (Oi (F1 A 1 (List.replicate k 0) B B)).1 (Oi (F1 A 1 (List.replicate k 0) B B)).1 = some true := by
      unfold Oi
      split
      · rename_i hq
        have hl1 : (F1 A 1 (List.replicate k 0) B B).length = k := by
         unfold F1
         split
         · simp
         · unfold F1 N7
           rw [Co (by rw [lB]; simp), lB]
        have := Aep (n := f) (x := F1 A 1 (List.replicate k 0) B B) (y := F1 A 1 (List.replicate k 0) B B) rfl (by omega) (fun a ha' => (A0z.1 (List.all_eq_true.1 hq a ha')).mono (by omega)) (by omega)
        rw [decide_eq_true rfl] at this
        exact this
      · exact Aep (n := f) (x := []) (y := []) rfl (by simp) (fun a h => by simp at h) (by omega)
     rw [eA, A1, eB, A1, i4, A1, g1, A1, e1, A1, g2, A1, g3, A1, eC, A1, i3, A1, A1, i1, A1, hXY, Ak5 hs, e3]
     dsimp only
     rw [BEq.rfl, BEq.rfl, cond_true, cond_true, cond_true, cond_true, s1, A1, decide_eq_true rfl, cond_true, cond_true, s2, A1, cond_true, cond_true, BEq.rfl]
   · rw [if_pos (by omega)]
 · rw [if_pos (by omega)]

end Go.Ev
