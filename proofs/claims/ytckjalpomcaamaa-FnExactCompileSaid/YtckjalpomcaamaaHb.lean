/- DERIVED. The plain laws: what the models compute. -/
import Derived.Test.YtckjalpomcaamaaHa

/- DERIVED. FnExactCompile: steps. -/
namespace Go.Ev
open Go

def fi : List Nod → Nod → Nat → Int
  | [], _, _ => -1
  | y :: r, x, k => if y = x then (k : Int) else fi r x (k + 1)

theorem fi_range : ∀ (r : List Nod) (x : Nod) (k : Nat), fi r x k = -1 ∨ ((k : Int) ≤ fi r x k ∧ fi r x k < (k : Int) + r.length)
  | [], x, k => .inl rfl
  | y :: r, x, k => by
    unfold fi
    by_cases h : y = x
    · rw [if_pos h]; right; simp only [List.length_cons]; omega
    · rw [if_neg h]
      rcases fi_range r x (k + 1) with h1 | h1
      · exact .inl h1
      · right; simp only [List.length_cons]; omega

theorem nod_eq {a x : Nod} : (a.1 == x.1 && (a.2.1 == x.2.1 && (a.2.2.1 == x.2.2.1 && (a.2.2.2 == x.2.2.2 && true)))) = decide (a = x) := by
  obtain ⟨a1, a2, a3, a4⟩ := a
  obtain ⟨b1, b2, b3, b4⟩ := x
  apply Bool.eq_iff_iff.2
  simp

theorem find50 {α : Type} {n : Nat} {st : List Nod} {x : Nod} (hN : st.length ≤ 1048576) {k0 : Int → Option α} {k1 : Unit → Option α} : ∀ (r : List Nod) (m k : Nat), st.drop k = r → k + r.length = st.length → r.length < m →
    f50_L2 n m st (k : Int) x.1 x.2.1 x.2.2.1 x.2.2.2 k0 k1 = if fi r x k < 0 then k1 () else k0 (fi r x k)
  | [], m + 1, k, hd, hl, hm => by
    rw [f50_L2_s]
    unfold f50_L2B
    simp only [List.length_nil] at hl
    rw [Bool.cond_decide, if_neg (by omega), if_pos (by simp [fi])]
  | y :: r, m + 1, k, hd, hl, hm => by
    obtain ⟨hx, hlt, hd'⟩ := getD_drop_cons (d := (0, 0, 0, 0)) hd
    rw [f50_L2_s]
    unfold f50_L2B
    simp only [List.length_cons] at hl hm
    rw [Bool.cond_decide, if_pos (by omega), gd_pos (by simp; omega), W_id (by omega) (by omega)]
    simp only [Int.toNat_natCast, hx, nod_eq]
    rw [Bool.cond_decide]
    by_cases h : y = x
    · rw [if_pos h, fi, if_pos h, if_neg (by omega)]
    · rw [if_neg h, fi, if_neg h]
      exact find50 hN r m (k + 1) hd' (by omega) (by omega)

theorem f50_eq {n : Nat} {st : List Nod} {x : Nod} (hN : st.length ≤ 1048576) (hn : 1048577 ≤ n) : f50 n st x = some (fi st x 0) := by
  unfold f50
  have := find50 (n := n) (x := x) hN (k0 := fun z => some z) (k1 := fun _ => some (-1)) st n 0 rfl (by omega) (by omega)
  have this : f50_L2 n n st 0 x.1 x.2.1 x.2.2.1 x.2.2.2 (fun z => some z) (fun _ => some (-1)) = _ := this
  rw [this]
  rcases fi_range st x 0 with h | h
  · rw [h]; rfl
  · rw [if_neg (by omega)]

theorem find35 {α : Type} {n : Nat} {st : List Nod} {x : Nod} (hN : st.length ≤ 1048576) {k0 : Int → Option α} {k1 : Unit → Option α} : ∀ (r : List Nod) (m k : Nat), st.drop k = r → k + r.length = st.length → r.length < m →
    f35_L2 n m st (st.length : Int) (k : Int) x.1 x.2.1 x.2.2.1 x.2.2.2 k0 k1 = if fi r x k < 0 then k1 () else k0 (fi r x k)
  | [], m + 1, k, hd, hl, hm => by
    rw [f35_L2_s]
    unfold f35_L2B
    simp only [List.length_nil] at hl
    rw [Bool.cond_decide, if_neg (by omega), if_pos (by simp [fi])]
  | y :: r, m + 1, k, hd, hl, hm => by
    obtain ⟨hx, hlt, hd'⟩ := getD_drop_cons (d := (0, 0, 0, 0)) hd
    rw [f35_L2_s]
    unfold f35_L2B
    simp only [List.length_cons] at hl hm
    rw [Bool.cond_decide, if_pos (by omega), gd_pos (by simp; omega), W_id (by omega) (by omega)]
    simp only [Int.toNat_natCast, hx, nod_eq]
    rw [Bool.cond_decide]
    by_cases h : y = x
    · rw [if_pos h.symm, fi, if_pos h, if_neg (by omega)]
    · rw [if_neg (fun e => h e.symm), fi, if_neg h]
      exact find35 hN r m (k + 1) hd' (by omega) (by omega)

theorem f35_eq {n : Nat} {st : List Nod} {x : Nod} (hN : st.length ≤ 1048576) (hn : 1048577 ≤ n) : f35 n st x = some (fi st x 0) := by
  unfold f35
  have := find35 (n := n) (x := x) hN (k0 := fun z => some z) (k1 := fun _ => some (-1)) st n 0 rfl (by omega) (by omega)
  have this : f35_L2 n n st (st.length : Int) 0 x.1 x.2.1 x.2.2.1 x.2.2.2 (fun z => some z) (fun _ => some (-1)) = _ := this
  rw [this]
  rcases fi_range st x 0 with h | h
  · rw [h]; rfl
  · rw [if_neg (by omega)]

/-- a step: its children are places of steps -/
def cx (at_ : List Int) (x : Nod) : Nod :=
  (x.1, if 3 ≤ x.1 ∧ x.1 ≤ 8 then at_.getD x.2.1.toNat 0 else x.2.1, if 3 ≤ x.1 ∧ x.1 ≤ 6 then at_.getD x.2.2.1.toNat 0 else x.2.2.1, x.2.2.2)

def cst (p : List Nod × List Int) (x : Nod) : List Nod × List Int :=
  if fi p.1 (cx p.2 x) 0 < 0 then (p.1 ++ [cx p.2 x], p.2 ++ [(p.1.length : Int)]) else (p.1, p.2 ++ [fi p.1 (cx p.2 x) 0])

theorem spec_cround {α : Type} {n : Nat} {e : List Nod} (hN : e.length ≤ 1048576) (hn : 1048577 ≤ n) (hk : Kids e) {p : List Nod × List Int} (hlt : p.2.length < e.length) (hp : p.1.length ≤ p.2.length) {c2 c3 : Int} {f} {k0 : Int → Int → List Nod → List Int → Option α} :
    f33_L4B n (p.2.length : Int) e c2 c3 p.1 p.2 f k0 = f ((p.2.length : Int) + 1) e c2 c3 (cst p (e.getD p.2.length (0, 0, 0, 0))).1 (cst p (e.getD p.2.length (0, 0, 0, 0))).2 := by
  obtain ⟨st, at_⟩ := p
  simp only at hlt hp ⊢
  have h := hk at_.length hlt
  simp only at h
  unfold f33_L4B
  rw [Bool.cond_decide, if_pos (by omega), gd_pos (by simp; omega)]
  simp only [Int.toNat_natCast]
  obtain ⟨x, hx⟩ : ∃ x, x = e.getD at_.length (0, 0, 0, 0) := ⟨_, rfl⟩
  simp only [← hx] at h ⊢
  clear hx
  obtain ⟨h1, h2, h3⟩ := h
  rw [f44_eq, ob_some, Bool.cond_decide]
  by_cases t2 : 3 ≤ x.1 ∧ x.1 ≤ 6
  · have a2 := h2 (by omega)
    have a3 := h3 t2
    rw [if_pos t2, gd_pos (by simp; omega), gd_pos (by simp; omega), gd_pos (by simp; omega), gd_pos (by simp; omega), f46_eq, ob_some, Bool.cond_decide, if_neg (by omega)]
    have e1 : (x.1, at_.getD x.2.1.toNat 0, at_.getD x.2.2.1.toNat 0, x.2.2.2) = cx at_ x := by
      unfold cx; rw [if_pos (by omega), if_pos t2]
    rw [e1, f50_eq (by omega) hn, ob_some, Bool.cond_decide]
    unfold cst
    by_cases hf : fi st (cx at_ x) 0 < 0
    · rw [if_pos hf, if_pos hf, gd_pos (by simp; omega), gd_pos (by simp; omega), W_id (by omega) (by omega)]
    · rw [if_neg hf, if_neg hf, gd_pos (by simp; omega), W_id (by omega) (by omega)]
  · rw [if_neg t2, f46_eq, ob_some, Bool.cond_decide]
    by_cases t1 : x.1 = 7 ∨ x.1 = 8
    · have a2 := h2 (by omega)
      rw [if_pos t1, gd_pos (by simp; omega), gd_pos (by simp; omega)]
      have e1 : (x.1, at_.getD x.2.1.toNat 0, x.2.2.1, x.2.2.2) = cx at_ x := by
        unfold cx; rw [if_pos (by omega), if_neg t2]
      rw [e1, f50_eq (by omega) hn, ob_some, Bool.cond_decide]
      unfold cst
      by_cases hf : fi st (cx at_ x) 0 < 0
      · rw [if_pos hf, if_pos hf, gd_pos (by simp; omega), gd_pos (by simp; omega), W_id (by omega) (by omega)]
      · rw [if_neg hf, if_neg hf, gd_pos (by simp; omega), W_id (by omega) (by omega)]
    · rw [if_neg t1]
      have e1 : (x.1, x.2.1, x.2.2.1, x.2.2.2) = cx at_ x := by
        unfold cx; rw [if_neg (by omega), if_neg t2]
      rw [e1, f50_eq (by omega) hn, ob_some, Bool.cond_decide]
      unfold cst
      by_cases hf : fi st (cx at_ x) 0 < 0
      · rw [if_pos hf, if_pos hf, gd_pos (by simp; omega), gd_pos (by simp; omega), W_id (by omega) (by omega)]
      · rw [if_neg hf, if_neg hf, gd_pos (by simp; omega), W_id (by omega) (by omega)]

end Go.Ev

/- DERIVED. FnExactCompile: both sides' steps. -/
namespace Go.Ev
open Go

theorem cst_len (p : List Nod × List Int) (x : Nod) : (cst p x).2.length = p.2.length + 1 ∧ (cst p x).1.length ≤ p.1.length + 1 := by
  unfold cst
  split
  · simp
  · simp

theorem spec_cloop {α : Type} {n : Nat} {e : List Nod} (hN : e.length ≤ 1048576) (hn : 1048577 ≤ n) (hk : Kids e) {c2 c3 : Int} {k0 : Int → Int → List Nod → List Int → Option α} : ∀ (r : List Nod) (m : Nat) (p : List Nod × List Int), e.drop p.2.length = r → p.2.length + r.length = e.length → p.1.length ≤ p.2.length → r.length < m →
    f33_L4 n m (p.2.length : Int) e c2 c3 p.1 p.2 k0 = k0 c2 c3 (r.foldl cst p).1 (r.foldl cst p).2
  | [], m + 1, p, hd, hl, hp, hm => by
    rw [f33_L4_s]
    unfold f33_L4B
    simp only [List.length_nil] at hl
    rw [Bool.cond_decide, if_neg (by omega)]
    rfl
  | x :: r, m + 1, p, hd, hl, hp, hm => by
    obtain ⟨hx, hlt, hd'⟩ := getD_drop_cons (d := (0, 0, 0, 0)) hd
    rw [f33_L4_s, spec_cround hN hn hk hlt hp, hx]
    simp only [List.length_cons] at hl hm
    obtain ⟨q1, q2⟩ := cst_len p x
    have := spec_cloop (c2 := c2) (c3 := c3) hN hn hk r m (cst p x) (by rw [q1]; exact hd') (by omega) (by omega) (by omega) (n := n) (k0 := k0)
    rw [q1] at this
    exact this

theorem impl_croundB {α : Type} {n : Nat} {e : List Nod} (hN : e.length ≤ 1048576) (hn : 1048577 ≤ n) (hk : Kids e) {p : List Nod × List Int} (hlt : p.2.length < e.length) (hp : p.1.length ≤ p.2.length) {c2 : Int} {f} {k0 : Int → List Nod → Option α} :
    f16B_L6B n e (e.length : Int) (p.2.length : Int) c2 p.1 p.2 f k0 = f e (e.length : Int) ((p.2.length : Int) + 1) c2 (cst p (e.getD p.2.length (0, 0, 0, 0))).1 (cst p (e.getD p.2.length (0, 0, 0, 0))).2 := by
  obtain ⟨st, at_⟩ := p
  simp only at hlt hp ⊢
  have h := hk at_.length hlt
  simp only at h
  unfold f16B_L6B
  rw [Bool.cond_decide, if_pos (by omega), gd_pos (by simp; omega)]
  simp only [Int.toNat_natCast]
  obtain ⟨x, hx⟩ : ∃ x, x = e.getD at_.length (0, 0, 0, 0) := ⟨_, rfl⟩
  simp only [← hx] at h ⊢
  clear hx
  obtain ⟨h1, h2, h3⟩ := h
  simp only [f34_eq, ob_some]
  by_cases t2 : 3 ≤ x.1 ∧ x.1 ≤ 6
  · have a2 := h2 (by omega)
    have a3 := h3 t2
    have hkd : kidsP x.1 = 2 := by unfold kidsP; rw [if_pos (by omega)]
    rw [hkd, Bool.cond_decide, if_pos (by omega), gd_pos (by simp; omega), gd_pos (by simp; omega), Bool.cond_decide, if_pos (by omega), gd_pos (by simp; omega), gd_pos (by simp; omega)]
    have e1 : (x.1, at_.getD x.2.1.toNat 0, at_.getD x.2.2.1.toNat 0, x.2.2.2) = cx at_ x := by
      unfold cx; rw [if_pos (by omega), if_pos t2]
    rw [e1, f35_eq (by omega) hn, ob_some, Bool.cond_decide]
    unfold cst
    by_cases hf : fi st (cx at_ x) 0 < 0
    · rw [if_pos hf, if_pos hf, gd_pos (by simp; omega), gd_pos (by simp; omega), W_id (by omega) (by omega)]
    · rw [if_neg hf, if_neg hf, gd_pos (by simp; omega), W_id (by omega) (by omega)]
  · by_cases t1 : x.1 = 7 ∨ x.1 = 8
    · have a2 := h2 (by omega)
      have hkd : kidsP x.1 = 1 := by unfold kidsP; rw [if_neg (by omega), if_pos (by omega)]
      rw [hkd, Bool.cond_decide, if_pos (by omega), gd_pos (by simp; omega), gd_pos (by simp; omega), Bool.cond_decide, if_neg (by omega)]
      have e1 : (x.1, at_.getD x.2.1.toNat 0, x.2.2.1, x.2.2.2) = cx at_ x := by
        unfold cx; rw [if_pos (by omega), if_neg t2]
      rw [e1, f35_eq (by omega) hn, ob_some, Bool.cond_decide]
      unfold cst
      by_cases hf : fi st (cx at_ x) 0 < 0
      · rw [if_pos hf, if_pos hf, gd_pos (by simp; omega), gd_pos (by simp; omega), W_id (by omega) (by omega)]
      · rw [if_neg hf, if_neg hf, gd_pos (by simp; omega), W_id (by omega) (by omega)]
    · have hkd : kidsP x.1 = 0 := by unfold kidsP; rw [if_neg (by omega), if_neg (by omega)]
      rw [hkd, Bool.cond_decide, if_neg (by omega), Bool.cond_decide, if_neg (by omega)]
      have e1 : (x.1, x.2.1, x.2.2.1, x.2.2.2) = cx at_ x := by
        unfold cx; rw [if_neg (by omega), if_neg t2]
      rw [e1, f35_eq (by omega) hn, ob_some, Bool.cond_decide]
      unfold cst
      by_cases hf : fi st (cx at_ x) 0 < 0
      · rw [if_pos hf, if_pos hf, gd_pos (by simp; omega), gd_pos (by simp; omega), W_id (by omega) (by omega)]
      · rw [if_neg hf, if_neg hf, gd_pos (by simp; omega), W_id (by omega) (by omega)]

theorem impl_cloopB {α : Type} {n : Nat} {e : List Nod} (hN : e.length ≤ 1048576) (hn : 1048577 ≤ n) (hk : Kids e) {c2 : Int} {k0 : Int → List Nod → Option α} : ∀ (r : List Nod) (m : Nat) (p : List Nod × List Int), e.drop p.2.length = r → p.2.length + r.length = e.length → p.1.length ≤ p.2.length → r.length < m →
    f16B_L6 n m e (e.length : Int) (p.2.length : Int) c2 p.1 p.2 k0 = k0 c2 (r.foldl cst p).1
  | [], m + 1, p, hd, hl, hp, hm => by
    rw [f16B_L6_s]
    unfold f16B_L6B
    simp only [List.length_nil] at hl
    rw [Bool.cond_decide, if_neg (by omega)]
    rfl
  | x :: r, m + 1, p, hd, hl, hp, hm => by
    obtain ⟨hx, hlt, hd'⟩ := getD_drop_cons (d := (0, 0, 0, 0)) hd
    rw [f16B_L6_s, impl_croundB hN hn hk hlt hp, hx]
    simp only [List.length_cons] at hl hm
    obtain ⟨q1, q2⟩ := cst_len p x
    have := impl_cloopB (c2 := c2) hN hn hk r m (cst p x) (by rw [q1]; exact hd') (by omega) (by omega) (by omega) (n := n) (k0 := k0)
    rw [q1] at this
    exact this

theorem impl_croundb {α : Type} {n : Nat} {e : List Nod} (hN : e.length ≤ 1048576) (hn : 1048577 ≤ n) (hk : Kids e) {p : List Nod × List Int} (hlt : p.2.length < e.length) (hp : p.1.length ≤ p.2.length) {c2 : Int} {f} {k0 : Int → List Nod → Option α} :
    f16b_L6B n e (e.length : Int) (p.2.length : Int) c2 p.1 p.2 f k0 = f e (e.length : Int) ((p.2.length : Int) + 1) c2 (cst p (e.getD p.2.length (0, 0, 0, 0))).1 (cst p (e.getD p.2.length (0, 0, 0, 0))).2 := by
  obtain ⟨st, at_⟩ := p
  simp only at hlt hp ⊢
  have h := hk at_.length hlt
  simp only at h
  unfold f16b_L6B
  rw [Bool.cond_decide, if_pos (by omega), gd_pos (by simp; omega)]
  simp only [Int.toNat_natCast]
  obtain ⟨x, hx⟩ : ∃ x, x = e.getD at_.length (0, 0, 0, 0) := ⟨_, rfl⟩
  simp only [← hx] at h ⊢
  clear hx
  obtain ⟨h1, h2, h3⟩ := h
  simp only [f34_eq, ob_some]
  by_cases t2 : 3 ≤ x.1 ∧ x.1 ≤ 6
  · have a2 := h2 (by omega)
    have a3 := h3 t2
    have hkd : kidsP x.1 = 2 := by unfold kidsP; rw [if_pos (by omega)]
    rw [hkd, Bool.cond_decide, if_pos (by omega), gd_pos (by simp; omega), gd_pos (by simp; omega), Bool.cond_decide, if_pos (by omega), gd_pos (by simp; omega), gd_pos (by simp; omega)]
    have e1 : (x.1, at_.getD x.2.1.toNat 0, at_.getD x.2.2.1.toNat 0, x.2.2.2) = cx at_ x := by
      unfold cx; rw [if_pos (by omega), if_pos t2]
    rw [e1, f35_eq (by omega) hn, ob_some, Bool.cond_decide]
    unfold cst
    by_cases hf : fi st (cx at_ x) 0 < 0
    · rw [if_pos hf, if_pos hf, gd_pos (by simp; omega), gd_pos (by simp; omega), W_id (by omega) (by omega)]
    · rw [if_neg hf, if_neg hf, gd_pos (by simp; omega), W_id (by omega) (by omega)]
  · by_cases t1 : x.1 = 7 ∨ x.1 = 8
    · have a2 := h2 (by omega)
      have hkd : kidsP x.1 = 1 := by unfold kidsP; rw [if_neg (by omega), if_pos (by omega)]
      rw [hkd, Bool.cond_decide, if_pos (by omega), gd_pos (by simp; omega), gd_pos (by simp; omega), Bool.cond_decide, if_neg (by omega)]
      have e1 : (x.1, at_.getD x.2.1.toNat 0, x.2.2.1, x.2.2.2) = cx at_ x := by
        unfold cx; rw [if_pos (by omega), if_neg t2]
      rw [e1, f35_eq (by omega) hn, ob_some, Bool.cond_decide]
      unfold cst
      by_cases hf : fi st (cx at_ x) 0 < 0
      · rw [if_pos hf, if_pos hf, gd_pos (by simp; omega), gd_pos (by simp; omega), W_id (by omega) (by omega)]
      · rw [if_neg hf, if_neg hf, gd_pos (by simp; omega), W_id (by omega) (by omega)]
    · have hkd : kidsP x.1 = 0 := by unfold kidsP; rw [if_neg (by omega), if_neg (by omega)]
      rw [hkd, Bool.cond_decide, if_neg (by omega), Bool.cond_decide, if_neg (by omega)]
      have e1 : (x.1, x.2.1, x.2.2.1, x.2.2.2) = cx at_ x := by
        unfold cx; rw [if_neg (by omega), if_neg t2]
      rw [e1, f35_eq (by omega) hn, ob_some, Bool.cond_decide]
      unfold cst
      by_cases hf : fi st (cx at_ x) 0 < 0
      · rw [if_pos hf, if_pos hf, gd_pos (by simp; omega), gd_pos (by simp; omega), W_id (by omega) (by omega)]
      · rw [if_neg hf, if_neg hf, gd_pos (by simp; omega), W_id (by omega) (by omega)]

theorem impl_cloopb {α : Type} {n : Nat} {e : List Nod} (hN : e.length ≤ 1048576) (hn : 1048577 ≤ n) (hk : Kids e) {c2 : Int} {k0 : Int → List Nod → Option α} : ∀ (r : List Nod) (m : Nat) (p : List Nod × List Int), e.drop p.2.length = r → p.2.length + r.length = e.length → p.1.length ≤ p.2.length → r.length < m →
    f16b_L6 n m e (e.length : Int) (p.2.length : Int) c2 p.1 p.2 k0 = k0 c2 (r.foldl cst p).1
  | [], m + 1, p, hd, hl, hp, hm => by
    rw [f16b_L6_s]
    unfold f16b_L6B
    simp only [List.length_nil] at hl
    rw [Bool.cond_decide, if_neg (by omega)]
    rfl
  | x :: r, m + 1, p, hd, hl, hp, hm => by
    obtain ⟨hx, hlt, hd'⟩ := getD_drop_cons (d := (0, 0, 0, 0)) hd
    rw [f16b_L6_s, impl_croundb hN hn hk hlt hp, hx]
    simp only [List.length_cons] at hl hm
    obtain ⟨q1, q2⟩ := cst_len p x
    have := impl_cloopb (c2 := c2) hN hn hk r m (cst p x) (by rw [q1]; exact hd') (by omega) (by omega) (by omega) (n := n) (k0 := k0)
    rw [q1] at this
    exact this

theorem cfold_len : ∀ (r : List Nod) (p : List Nod × List Int), p.1.length ≤ p.2.length → (r.foldl cst p).2.length = p.2.length + r.length ∧ (r.foldl cst p).1.length ≤ (r.foldl cst p).2.length
  | [], p, hp => ⟨rfl, hp⟩
  | x :: r, p, hp => by
    obtain ⟨q1, q2⟩ := cst_len p x
    have := cfold_len r (cst p x) (by omega)
    simp only [List.foldl_cons, List.length_cons]
    omega

/-- the steps -/
abbrev csteps (e : List Nod) : List Nod := (e.foldl cst ([], [])).1
abbrev cplaces (e : List Nod) : List Int := (e.foldl cst ([], [])).2

theorem f33_eq {n : Nat} {e : List Nod} (hN : e.length ≤ 1048576) (hn : 1048577 ≤ n) (h : exprP e) : f33 n e = some (csteps e, (cplaces e).getD (e.length - 1) 0) := by
  have h1 := h.1
  unfold f33
  have := spec_cloop (c2 := 0) (c3 := 0) hN hn (exprP_kids hN h) e n ([], []) rfl (by simp) (by simp) (by omega) (n := n) (k0 := fun (z_10 : Int) (z_11 : Int) (z_12 : List Nod) (z_13 : List Int) => (
      gd (decide (0 ≤ (W ((z_13.length : Int) - 1))) && decide ((W ((z_13.length : Int) - 1)) < (z_13.length : Int))) (
        gd (decide ((W ((z_13.length : Int) - 1)).toNat < z_13.length)) (
          some (z_12, (z_13.getD ((W ((z_13.length : Int) - 1)).toNat) 0))))))
  refine Eq.trans this ?_
  obtain ⟨l1, l2⟩ := cfold_len e ([], []) (by simp)
  simp only [List.length_nil, Nat.zero_add] at l1
  rw [l1, W_id (by omega) (by omega), gd_pos (by simp; omega), gd_pos (by simp; omega)]
  rw [show ((e.length : Int) - 1).toNat = e.length - 1 by omega]

open Classical in
theorem f15_eq {n : Nat} {e : List Nod} (hN : e.length ≤ 1048576) (hn : 1048577 ≤ n) : f15 n e = some (if exprP e then ((csteps e, (cplaces e).getD (e.length - 1) 0), 0) else (([], 0), 1)) := by
  unfold f15
  rw [f26_eq hN hn, ob_some]
  by_cases h : exprP e
  · rw [if_pos h, f33_eq hN hn h]
    simp [h]
  · rw [if_neg h]
    simp [h]

open Classical in
theorem f16B_eq {n : Nat} {e : List Nod} (hN : e.length ≤ 1048576) (hn : 1048577 ≤ n) : f16B n e = some (if exprP e then .inl ((csteps e, ((csteps e).length : Int) - 1), 0) else .inr (((), 0), 1)) := by
  unfold f16B
  rw [f23_eq hN hn, ob_some]
  by_cases h : exprP e
  · have h1 := h.1
    rw [if_pos h, if_pos h]
    have := impl_cloopB (c2 := 0) hN hn (exprP_kids hN h) e n ([], []) rfl (by simp) (by simp) (by omega) (n := n) (k0 := fun (z_10 : Int) (z_11 : List Nod) => (
        some (Sum.inl (β := (Unit × Int) × Int) ((z_11, (W ((z_11.length : Int) - 1))), (0 : Int)))))
    obtain ⟨l1, l2⟩ := cfold_len e ([], []) (by simp)
    simp only [List.length_nil, Nat.zero_add] at l1
    rw [W_id (by omega) (by omega)] at this
    exact this
  · rw [if_neg h, if_neg h]
    rfl

open Classical in
theorem f16b_eq {n : Nat} {e : List Nod} (hN : e.length ≤ 1048576) (hn : 1048577 ≤ n) : f16b n e = some (if exprP e then ((csteps e, ((csteps e).length : Int) - 1), 0) else (([], 0), 1)) := by
  unfold f16b
  rw [f23_eq hN hn, ob_some]
  by_cases h : exprP e
  · have h1 := h.1
    rw [if_pos h, if_pos h]
    have := impl_cloopb (c2 := 0) hN hn (exprP_kids hN h) e n ([], []) rfl (by simp) (by simp) (by omega) (n := n) (k0 := fun (z_10 : Int) (z_11 : List Nod) => (
        some ((z_11, (W ((z_11.length : Int) - 1))), (0 : Int))))
    obtain ⟨l1, l2⟩ := cfold_len e ([], []) (by simp)
    simp only [List.length_nil, Nat.zero_add] at l1
    rw [W_id (by omega) (by omega)] at this
    exact this
  · rw [if_neg h, if_neg h]
    rfl

end Go.Ev

/- DERIVED. FnExactCompile: the last node's step is new. -/
namespace Go.Ev
open Go

abbrev d0 : Nod := (0, 0, 0, 0)

theorem fi_some : ∀ (r : List Nod) (x : Nod) (k : Nat), ¬ fi r x k < 0 → ∃ j, j < r.length ∧ fi r x k = (k : Int) + j ∧ r.getD j d0 = x
  | [], x, k, h => by simp [fi] at h
  | y :: r, x, k, h => by
    unfold fi at h ⊢
    by_cases e : y = x
    · refine ⟨0, by simp, by rw [if_pos e]; simp, by simpa using e⟩
    · rw [if_neg e] at h ⊢
      obtain ⟨j, h1, h2, h3⟩ := fi_some r x (k + 1) h
      exact ⟨j + 1, by simpa using h1, by rw [h2]; push_cast; omega, by simpa using h3⟩

structure Tree (e : List Nod) (bs : List Int) : Prop where
  hl : bs.length = e.length
  b : ∀ j, j < bs.length → 0 ≤ bs.getD j 0 ∧ bs.getD j 0 ≤ j
  ran : Ran e bs

def sz (bs : List Int) (j : Nat) : Int := (j : Int) + 1 - bs.getD j 0

theorem sz_rec {e : List Nod} {bs : List Int} (h : Tree e bs) {j : Nat} (hj : j < e.length) {x : Nod} (hx : e.getD j d0 = x) :
    sz bs j = 1 + (if 3 ≤ x.1 ∧ x.1 ≤ 8 then sz bs x.2.1.toNat else 0) + (if 3 ≤ x.1 ∧ x.1 ≤ 6 then sz bs x.2.2.1.toNat else 0) := by
  obtain ⟨⟨h1, h2⟩, h3⟩ := h.ran j (by rw [h.hl]; exact hj)
  have hx' : e.getD j (0, 0, 0, 0) = x := hx
  rw [hx'] at h1 h2 h3
  have tk : ∀ a : Int, 0 ≤ a → a ≤ (j : Int) - 1 → (bs.take j).getD a.toNat 0 = bs.getD a.toNat 0 := fun a a0 a1 => by
    simp only [List.getD_eq_getElem?_getD, List.getElem?_take]
    rw [if_pos (by omega)]
  unfold nodeP at h1
  obtain ⟨h0, h1⟩ := h1
  unfold nb at h3
  unfold sz
  by_cases t2 : 3 ≤ x.1 ∧ x.1 ≤ 6
  · rw [if_pos t2] at h1 ⊢
    rw [if_pos (by omega)] at h3 ⊢
    obtain ⟨g1, g2⟩ := h2 t2
    rw [tk _ (by omega) (by omega)] at g2 h3
    rw [h3, g2, g1]
    omega
  · rw [if_neg t2] at h1 ⊢
    by_cases t1 : x.1 = 7 ∨ x.1 = 8
    · rw [if_pos t1] at h1
      rw [if_pos (by omega)] at h3 ⊢
      rw [tk _ (by omega) (by omega)] at h3
      rw [h3]
      omega
    · rw [if_neg (by omega)] at h3 ⊢
      rw [h3]
      omega

structure CI (bs : List Int) (p : List Nod × List Int) (σ : Nat → Int) : Prop where
  a : ∀ i, i < p.2.length → 0 ≤ p.2.getD i 0 ∧ p.2.getD i 0 < (p.1.length : Int) ∧ σ (p.2.getD i 0).toNat = sz bs i
  s : ∀ k y, k < p.1.length → p.1.getD k d0 = y → σ k = 1 + (if 3 ≤ y.1 ∧ y.1 ≤ 8 then σ y.2.1.toNat else 0) + (if 3 ≤ y.1 ∧ y.1 ≤ 6 then σ y.2.2.1.toNat else 0) ∧
    (3 ≤ y.1 ∧ y.1 ≤ 8 → 0 ≤ y.2.1 ∧ y.2.1 < (p.1.length : Int)) ∧ (3 ≤ y.1 ∧ y.1 ≤ 6 → 0 ≤ y.2.2.1 ∧ y.2.2.1 < (p.1.length : Int))
  t : ∀ k, k < p.1.length → ∃ i, i < p.2.length ∧ p.2.getD i 0 = (k : Int)

theorem cx_val {e : List Nod} {bs : List Int} (h : Tree e bs) (hk : Kids e) {p : List Nod × List Int} {σ : Nat → Int} (hc : CI bs p σ) (hj : p.2.length < e.length) {x : Nod} (hx : e.getD p.2.length d0 = x) :
    let y := cx p.2 x
    1 + (if 3 ≤ y.1 ∧ y.1 ≤ 8 then σ y.2.1.toNat else 0) + (if 3 ≤ y.1 ∧ y.1 ≤ 6 then σ y.2.2.1.toNat else 0) = sz bs p.2.length ∧
      (3 ≤ y.1 ∧ y.1 ≤ 8 → 0 ≤ y.2.1 ∧ y.2.1 < (p.1.length : Int)) ∧ (3 ≤ y.1 ∧ y.1 ≤ 6 → 0 ≤ y.2.2.1 ∧ y.2.2.1 < (p.1.length : Int)) := by
  intro y
  obtain ⟨k1, k2, k3⟩ := hk p.2.length hj
  have hx' : e.getD p.2.length (0, 0, 0, 0) = x := hx
  rw [hx'] at k1 k2 k3
  have y1 : y.1 = x.1 := rfl
  have r := sz_rec h hj hx
  rw [y1, r]
  have A : 3 ≤ x.1 ∧ x.1 ≤ 8 → y.2.1 = p.2.getD x.2.1.toNat 0 := fun t => by show (if _ then _ else _) = _; rw [if_pos t]
  have B : 3 ≤ x.1 ∧ x.1 ≤ 6 → y.2.2.1 = p.2.getD x.2.2.1.toNat 0 := fun t => by show (if _ then _ else _) = _; rw [if_pos t]
  refine ⟨?_, fun t => ?_, fun t => ?_⟩
  · by_cases t1 : 3 ≤ x.1 ∧ x.1 ≤ 8
    · obtain ⟨q1, q2⟩ := k2 t1
      obtain ⟨_, _, e1⟩ := hc.a x.2.1.toNat (by omega)
      rw [if_pos t1, if_pos t1, A t1, e1]
      by_cases t2 : 3 ≤ x.1 ∧ x.1 ≤ 6
      · obtain ⟨q3, q4⟩ := k3 t2
        obtain ⟨_, _, e2⟩ := hc.a x.2.2.1.toNat (by omega)
        rw [if_pos t2, if_pos t2, B t2, e2]
      · rw [if_neg t2, if_neg t2]
    · rw [if_neg t1, if_neg t1, if_neg (by omega), if_neg (by omega)]
  · obtain ⟨q1, q2⟩ := k2 t
    obtain ⟨e1, e2, _⟩ := hc.a x.2.1.toNat (by omega)
    rw [A t]; exact ⟨e1, e2⟩
  · obtain ⟨q1, q2⟩ := k3 t
    obtain ⟨e1, e2, _⟩ := hc.a x.2.2.1.toNat (by omega)
    rw [B t]; exact ⟨e1, e2⟩

theorem CI.step {e : List Nod} {bs : List Int} (h : Tree e bs) (hk : Kids e) {p : List Nod × List Int} {σ : Nat → Int} (hc : CI bs p σ) (hj : p.2.length < e.length) {x : Nod} (hx : e.getD p.2.length d0 = x) : ∃ σ', CI bs (cst p x) σ' := by
  obtain ⟨v1, v2, v3⟩ := cx_val h hk hc hj hx
  obtain ⟨st, at_⟩ := p
  simp only at hj hx v1 v2 v3
  unfold cst
  by_cases hf : fi st (cx at_ x) 0 < 0
  · simp only [if_pos hf]
    let σ' : Nat → Int := fun k => if k = st.length then sz bs at_.length else σ k
    have old : ∀ a : Int, 0 ≤ a → a < (st.length : Int) → σ' a.toNat = σ a.toNat := fun a a0 a1 => by show (if _ then _ else _) = _; rw [if_neg (by omega)]
    refine ⟨σ', fun i hi => ?_, fun k y hk' hy => ?_, fun k hk' => ?_⟩
    · simp only [List.length_append, List.length_cons, List.length_nil] at hi ⊢
      rcases Nat.lt_or_ge i at_.length with hi' | hi'
      · rw [getD_append_left hi']
        obtain ⟨a1, a2, a3⟩ := hc.a i hi'
        simp only at a1 a2 a3
        exact ⟨a1, by omega, by rw [old _ a1 a2]; exact a3⟩
      · obtain rfl : i = at_.length := by omega
        rw [getD_append_last]
        refine ⟨by omega, by omega, ?_⟩
        show (if _ then _ else _) = _
        rw [if_pos (by omega)]
    · simp only [List.length_append, List.length_cons, List.length_nil] at hk' ⊢
      rcases Nat.lt_or_ge k st.length with hk2 | hk2
      · rw [getD_append_left hk2] at hy
        obtain ⟨s1, s2, s3⟩ := hc.s k y hk2 hy
        simp only at s1 s2 s3
        refine ⟨?_, fun t => by have := s2 t; omega, fun t => by have := s3 t; omega⟩
        have : σ' k = σ k := by show (if _ then _ else _) = _; rw [if_neg (by omega)]
        rw [this, s1]
        by_cases t1 : 3 ≤ y.1 ∧ y.1 ≤ 8
        · rw [if_pos t1, if_pos t1, old _ (s2 t1).1 (s2 t1).2]
          by_cases t2 : 3 ≤ y.1 ∧ y.1 ≤ 6
          · rw [if_pos t2, if_pos t2, old _ (s3 t2).1 (s3 t2).2]
          · rw [if_neg t2, if_neg t2]
        · rw [if_neg t1, if_neg t1, if_neg (by omega), if_neg (by omega)]
      · obtain rfl : k = st.length := by omega
        rw [getD_append_last] at hy
        subst hy
        refine ⟨?_, fun t => by have := v2 t; omega, fun t => by have := v3 t; omega⟩
        have : σ' st.length = sz bs at_.length := by show (if _ then _ else _) = _; rw [if_pos rfl]
        rw [this, ← v1]
        by_cases t1 : 3 ≤ (cx at_ x).1 ∧ (cx at_ x).1 ≤ 8
        · rw [if_pos t1, if_pos t1, old _ (v2 t1).1 (v2 t1).2]
          by_cases t2 : 3 ≤ (cx at_ x).1 ∧ (cx at_ x).1 ≤ 6
          · rw [if_pos t2, if_pos t2, old _ (v3 t2).1 (v3 t2).2]
          · rw [if_neg t2, if_neg t2]
        · rw [if_neg t1, if_neg t1, if_neg (by omega), if_neg (by omega)]
    · simp only [List.length_append, List.length_cons, List.length_nil] at hk' ⊢
      rcases Nat.lt_or_ge k st.length with hk2 | hk2
      · obtain ⟨i, i1, i2⟩ := hc.t k hk2
        simp only at i1 i2
        exact ⟨i, by omega, by rw [getD_append_left i1]; exact i2⟩
      · obtain rfl : k = st.length := by omega
        exact ⟨at_.length, by omega, by rw [getD_append_last]⟩
  · simp only [if_neg hf]
    obtain ⟨k, k1, k2, k3⟩ := fi_some _ _ _ hf
    obtain ⟨s1, _, _⟩ := hc.s k _ k1 k3
    refine ⟨σ, fun i hi => ?_, fun k y hk' hy => hc.s k y hk' hy, fun k hk' => ?_⟩
    · simp only [List.length_append, List.length_cons, List.length_nil] at hi ⊢
      rcases Nat.lt_or_ge i at_.length with hi' | hi'
      · rw [getD_append_left hi']
        exact hc.a i hi'
      · obtain rfl : i = at_.length := by omega
        rw [getD_append_last, k2]
        refine ⟨by omega, by omega, ?_⟩
        rw [show (((0 : Nat) : Int) + (k : Int)).toNat = k by omega, s1]
        exact v1
    · simp only [List.length_append, List.length_cons, List.length_nil] at hk' ⊢
      obtain ⟨i, i1, i2⟩ := hc.t k hk'
      simp only at i1 i2
      exact ⟨i, by omega, by rw [getD_append_left i1]; exact i2⟩

theorem last_new {e : List Nod} {bs : List Int} (h : Tree e bs) (hk : Kids e) (h0 : bs.getD (e.length - 1) 0 = 0) : ∀ (r : List Nod) (p : List Nod × List Int) (σ : Nat → Int), r ≠ [] → e.drop p.2.length = r → CI bs p σ →
    (r.foldl cst p).2.getD (e.length - 1) 0 = ((r.foldl cst p).1.length : Int) - 1
  | [], _, _, hr, _, _ => absurd rfl hr
  | [x], p, σ, _, hd, hc => by
    obtain ⟨hx, hlt, hd'⟩ := getD_drop_cons (d := d0) hd
    have hlast : p.2.length + 1 = e.length := by
      have := congrArg List.length hd
      simp at this; omega
    obtain ⟨v1, v2, v3⟩ := cx_val h hk hc hlt hx
    simp only [List.foldl_cons, List.foldl_nil]
    unfold cst
    by_cases hf : fi p.1 (cx p.2 x) 0 < 0
    · rw [if_pos hf]
      simp only [List.length_append, List.length_cons, List.length_nil]
      rw [show e.length - 1 = p.2.length by omega, getD_append_last]
      omega
    · exfalso
      obtain ⟨k, k1, k2, k3⟩ := fi_some _ _ _ hf
      obtain ⟨s1, _, _⟩ := hc.s k _ k1 k3
      obtain ⟨i, i1, i2⟩ := hc.t k k1
      obtain ⟨_, _, a3⟩ := hc.a i i1
      rw [i2, Int.toNat_natCast, s1] at a3
      have a4 : sz bs p.2.length = sz bs i := v1.symm.trans a3
      unfold sz at a4
      rw [show p.2.length = e.length - 1 by omega, h0] at a4
      have := (h.b i (by rw [h.hl]; omega)).1
      omega
  | x :: x2 :: r, p, σ, _, hd, hc => by
    obtain ⟨hx, hlt, hd'⟩ := getD_drop_cons (d := d0) hd
    obtain ⟨σ', hc'⟩ := hc.step h hk hlt hx
    obtain ⟨q1, _⟩ := cst_len p x
    exact last_new h hk h0 (x2 :: r) (cst p x) σ' (by simp) (by rw [q1]; exact hd') hc'

theorem cplaces_last {e : List Nod} (hN : e.length ≤ 1048576) (h : exprP e) : (cplaces e).getD (e.length - 1) 0 = ((csteps e).length : Int) - 1 := by
  have hk := exprP_kids hN h
  obtain ⟨h1, bs, ds, hr, hb0, _⟩ := h
  obtain ⟨hi, hl, _, _⟩ := runE_inv e [] [] bs ds inv0 (by simpa using hN) hr
  have hran := runE_ran e [] [] bs ds (fun j hj => by simp at hj) rfl hr
  simp only [List.length_nil, Nat.zero_add] at hl
  exact last_new ⟨hl, hi.b, hran⟩ hk hb0 e ([], []) (fun _ => 0) (fun e0 => by subst e0; simp at h1) rfl ⟨fun i hi => by simp at hi, fun k y hk' => by simp at hk', fun k hk' => by simp at hk'⟩

end Go.Ev

/- DERIVED. FnExactCompile's model answers true. -/
namespace Go.Ev
open Go

theorem copy_loopB {α : Type} {n : Nat} {e : List Nod} (hN : e.length ≤ 1048576) {k0 : List Nod → Option α} : ∀ (r : List Nod) (m : Nat) (out : List Nod), e.drop out.length = r → out.length + r.length = e.length → r.length < m →
    (∀ j, j < out.length → out.getD j (0, 0, 0, 0) = e.getD j (0, 0, 0, 0)) → f31B_L3 n m e (out.length : Int) (out ++ List.replicate r.length (0, 0, 0, 0)) k0 = k0 e
  | [], m + 1, out, hd, hl, hm, ho => by
    rw [f31B_L3_s]
    unfold f31B_L3B
    simp only [List.length_nil] at hl
    rw [Bool.cond_decide, if_neg (by omega)]
    congr 1
    simp only [List.length_nil, List.replicate_zero, List.append_nil]
    apply List.ext_getElem (by omega)
    intro j h1 h2
    have := ho j h1
    simpa [List.getD_eq_getElem?_getD, h1, h2] using this
  | x :: r, m + 1, out, hd, hl, hm, ho => by
    obtain ⟨hx, hlt, hd'⟩ := getD_drop_cons (d := (0, 0, 0, 0)) hd
    rw [f31B_L3_s]
    unfold f31B_L3B
    simp only [List.length_cons] at hl hm
    rw [Bool.cond_decide, if_pos (by omega), gd_pos (by simp; omega), W_id (by omega) (by omega)]
    simp only [Int.toNat_natCast, hx]
    unfold f48
    rw [ob_some, gd_pos (by simp; omega), gd_pos (by simp)]
    have es : (out ++ List.replicate (x :: r).length (0, 0, 0, 0)).set out.length x = (out ++ [x]) ++ List.replicate r.length (0, 0, 0, 0) := by
      rw [List.set_append_right _ _ (Nat.le_refl _)]
      simp [List.replicate_succ]
    rw [es]
    have ih := copy_loopB hN r m (out ++ [x]) (by simpa using hd') (by simp; omega) (by omega) (fun j hj => by
      simp only [List.length_append, List.length_cons, List.length_nil] at hj
      rcases Nat.lt_or_ge j out.length with h | h
      · rw [getD_append_left h]; exact ho j h
      · obtain rfl : j = out.length := by omega
        rw [getD_append_last, hx]) (n := n) (k0 := k0)
    simp only [List.length_append, List.length_cons, List.length_nil, Nat.zero_add] at ih
    exact ih

theorem f13B_eq {n : Nat} {e : List Nod} (hN : e.length ≤ 1048576) (hn : 1048577 ≤ n) : f13B n e = some e := by
  unfold f13B f31B
  rw [gd_pos (by simp; omega)]
  have := copy_loopB (n := n) hN (k0 := fun z => some z) e n [] rfl (by simp) (by omega) (fun j hj => by simp at hj)
  simp only [List.length_nil, List.nil_append] at this
  rw [Int.toNat_natCast]
  have this : f31B_L3 n n e 0 (List.replicate e.length (0, 0, 0, 0)) (fun z => some z) = some e := this
  rw [this]
  rfl


theorem f32_eq {n : Nat} {e : List Nod} (hN : e.length ≤ 1048576) (hn : 1048577 ≤ n) : f32 n e e = some true := by
  unfold f32
  simp only [bne_self_eq_false, cond_false]
  exact same_loop (n := n) hN (k0 := fun z => some z) (k1 := fun _ => some true) n 0 (by omega) (by omega)

theorem f17_eq {n : Nat} {e : List Nod} {o : Int} (hN : e.length ≤ 1048576) (hn : 1048577 ≤ n) : f17 n (e, o) (e, o) = some true := by
  unfold f17
  simp [f32_eq hN hn]

def mkL (k : Int) : Nat → List Nod
  | 0 => []
  | m + 1 => (k, k + 1, k + 2, k + 3) :: mkL (k + 4) m

theorem mkL_len : ∀ (m : Nat) (k : Int), (mkL k m).length = m
  | 0, _ => rfl
  | m + 1, k => by simp [mkL, mkL_len m]

theorem gds {l : List Nod} {i : Nat} {a d : Nod} (h : i < l.length) : (l.set i a).getD i d = a := by
  simp [List.getD_eq_getElem?_getD, h]

theorem mark_round {α : Type} {n : Nat} {b : List Nod} {i : Nat} {k : Int} (hi : i < b.length) (hN : b.length ≤ 1048576) (hk : 0 ≤ k ∧ k < 1000000000) {f} {k0 : Int → List Nod → Option α} :
    f36B_L2B n k (i : Int) b f k0 = f (k + 4) ((i : Int) + 1) (b.set i (k, k + 1, k + 2, k + 3)) := by
  unfold f36B_L2B
  have w1 : W (k + 1) = k + 1 := W_id (by omega) (by omega)
  have w2 : W (k + 1 + 1) = k + 2 := by rw [W_id (by omega) (by omega)]; omega
  have w3 : W (k + 2 + 1) = k + 3 := by rw [W_id (by omega) (by omega)]; omega
  have w4 : W (k + 3 + 1) = k + 4 := by rw [W_id (by omega) (by omega)]; omega
  simp only [w1, w2, w3, w4, Int.toNat_natCast, List.set_set, gds hi, List.length_set]
  have g1 : (decide (0 ≤ (i : Int)) && decide ((i : Int) < (b.length : Int))) = true := by simp; omega
  have g2 : decide (i < b.length) = true := by simpa using hi
  rw [Bool.cond_decide, if_pos (by omega)]
  simp only [g1, g2, gd_true]
  rw [W_id (by omega) (by omega)]

theorem mark_loop {α : Type} {n : Nat} {k0 : Int → List Nod → Option α} : ∀ (r : List Nod) (m : Nat) (pre : List Nod) (k : Int), pre.length + r.length ≤ 1048576 → r.length < m → 0 ≤ k → k + 4 * r.length < 1000000000 →
    f36B_L2 n m k (pre.length : Int) (pre ++ r) k0 = k0 (k + 4 * r.length) (pre ++ mkL k r.length)
  | [], m + 1, pre, k, hN, hm, h0, hk => by
    rw [f36B_L2_s]
    unfold f36B_L2B
    rw [Bool.cond_decide, if_neg (by simp)]
    simp [mkL]
  | x :: r, m + 1, pre, k, hN, hm, h0, hk => by
    simp only [List.length_cons] at hN hm hk
    rw [f36B_L2_s, mark_round (by simp) (by simp; omega) ⟨h0, by omega⟩]
    have es : (pre ++ x :: r).set pre.length (k, k + 1, k + 2, k + 3) = (pre ++ [(k, k + 1, k + 2, k + 3)]) ++ r := by
      rw [List.set_append_right _ _ (Nat.le_refl _)]
      simp
    rw [es]
    have ih := mark_loop (n := n) (k0 := k0) r m (pre ++ [(k, k + 1, k + 2, k + 3)]) (k + 4) (by simp; omega) (by omega) (by omega) (by omega)
    simp only [List.length_append, List.length_cons, List.length_nil, Nat.zero_add] at ih
    refine Eq.trans ih ?_
    rw [show k + 4 + 4 * (r.length : Int) = k + 4 * ((r.length + 1 : Nat) : Int) by omega]
    simp [mkL]

theorem f36B_eq {n : Nat} {e : List Nod} (hN : e.length ≤ 1048576) (hn : 1048577 ≤ n) : f36B n e 1 = some (1 + 4 * (e.length : Int), mkL 1 e.length) := by
  unfold f36B
  exact mark_loop (n := n) (k0 := fun z w => some (z, w)) e n [] 1 (by simpa using hN) (by omega) (by omega) (by omega)

theorem f18B_eq {n : Nat} {e : List Nod} (hN : e.length ≤ 1048576) (hn : 1048577 ≤ n) : f18B n e 1 = some (1 + 4 * (e.length : Int), mkL 1 e.length) := by
  unfold f18B
  rw [f36B_eq hN hn, ob_some, gd_pos (by simp [mkL_len])]

theorem f19B_eq {n : Nat} {e : List Nod} {o : Int} (hN : e.length ≤ 1048576) (hn : 1048577 ≤ n) : f19B n (e, o) 1 = some (1 + 4 * (e.length : Int), mkL 1 e.length) := by
  unfold f19B
  rw [f36B_eq hN hn, ob_some, gd_pos (by simp [mkL_len])]

theorem held_loop {α : Type} {n : Nat} {l : List Nod} {k0 k1 : Int → Option α} (hN : l.length ≤ 1048576) : ∀ (q m i : Nat) (k : Int), l.drop i = mkL k q → i + q = l.length → q < m → 0 ≤ k → k + 4 * q < 1000000000 →
    f37_L2 n m l k (i : Int) k0 k1 = k1 (k + 4 * q)
  | 0, m + 1, i, k, hd, hl, hm, h0, hk => by
    rw [f37_L2_s]
    unfold f37_L2B
    rw [Bool.cond_decide, if_neg (by omega)]
    simp
  | q + 1, m + 1, i, k, hd, hl, hm, h0, hk => by
    obtain ⟨hx, hlt, hd'⟩ := getD_drop_cons (d := (0, 0, 0, 0)) hd
    rw [f37_L2_s]
    unfold f37_L2B
    have w1 : W (k + 1) = k + 1 := W_id (by omega) (by omega)
    have w2 : W (k + 1 + 1) = k + 2 := by rw [W_id (by omega) (by omega)]; omega
    have w3 : W (k + 2 + 1) = k + 3 := by rw [W_id (by omega) (by omega)]; omega
    have w4 : W (k + 3 + 1) = k + 4 := by rw [W_id (by omega) (by omega)]; omega
    have g1 : (decide (0 ≤ (i : Int)) && decide ((i : Int) < (l.length : Int))) = true := by simp; omega
    rw [Bool.cond_decide, if_pos (by omega)]
    simp only [g1, gd_true, Int.toNat_natCast, hx, w1, w2, w3, w4, bne_self_eq_false, cond_false]
    rw [W_id (by omega) (by omega)]
    have ih := held_loop (n := n) (k0 := k0) (k1 := k1) hN q m (i + 1) (k + 4) hd' (by omega) (by omega) (by omega) (by omega)
    refine Eq.trans ih ?_
    rw [show k + 4 + 4 * (q : Int) = k + 4 * ((q + 1 : Nat) : Int) by omega]

theorem f37_eq {n m : Nat} (hN : m ≤ 1048576) (hn : 1048577 ≤ n) : f37 n (mkL 1 m) 1 = some (1 + 4 * (m : Int)) := by
  unfold f37
  exact held_loop (n := n) (k0 := fun z => some z) (k1 := fun z => some z) (by rw [mkL_len]; exact hN) m n 0 1 rfl (by rw [mkL_len]; omega) (by omega) (by omega) (by omega)

theorem f20_eq {n m : Nat} {o : Int} (hN : m ≤ 1048576) (hn : 1048577 ≤ n) : f20 n (mkL 1 m, o) 1 = some (1 + 4 * (m : Int)) := by
  unfold f20
  rw [f37_eq hN hn, ob_some, Bool.cond_decide, if_neg (by omega)]

theorem f19b_eq {n : Nat} {x : Unit × Int} (hn : 1048577 ≤ n) : f19b n x 1 = some 1 := by
  unfold f19b f36b
  obtain ⟨m, rfl⟩ : ∃ m, n = m + 1 := ⟨n - 1, by omega⟩
  rw [f36b_L2_s]
  rfl

theorem f6_eq {n : Nat} {e : List Nod} (hlen : e.length ≤ 9223372036854775807) (hn : 1048577 ≤ n) : f6 n e = some true := by
  unfold f6
  rw [f11_eq hlen, ob_some]
  by_cases hN : e.length ≤ 1048576
  · rw [if_pos hN, Bool.cond_decide, if_neg (by omega), f13_eq hN hn, ob_some, f15_eq hN hn, ob_some, f13B_eq hN hn, ob_some, f16B_eq hN hn, ob_some]
    by_cases h : exprP e
    · have hl : (csteps e).length ≤ 1048576 := by
        obtain ⟨l1, l2⟩ := cfold_len e ([], []) (by simp)
        simp only [List.length_nil, Nat.zero_add] at l1
        show (e.foldl cst ([], [])).1.length ≤ _
        omega
      simp only [if_pos h, caseS, cplaces_last hN h, f17_eq hl hn, ob_some, Bool.not_true, cond_false, bne_self_eq_false, f14_eq hN hn, f18B_eq hN hn, mkL_len, f19B_eq hl hn, f20_eq hl hn, f16b_eq hN hn]
      have z1 : decide (1 + 4 * (e.length : Int) < 0) = false := by simp; omega
      have z2 : decide (1 + 4 * ((csteps e).length : Int) < 0) = false := by simp; omega
      simp [z1, z2]
    · have h20 : f20 n ([], 0) 1 = some 1 := f20_eq (m := 0) (by omega) hn
      simp only [if_neg h, caseS, f17_eq (e := []) (by simp) hn, ob_some, Bool.not_true, cond_false, bne_self_eq_false, f14_eq hN hn, f18B_eq hN hn, mkL_len, f19b_eq hn, h20, f16b_eq hN hn]
      have z1 : decide (1 + 4 * (e.length : Int) < 0) = false := by simp; omega
      simp [z1]
  · rw [if_neg hN]
    rfl

end Go.Ev
