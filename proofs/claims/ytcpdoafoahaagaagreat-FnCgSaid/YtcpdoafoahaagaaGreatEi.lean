/- DERIVED. The evaluator over shapes of data: all paths of a function. -/
import Derived.Test.YtcpdoafoahaagaaGreatEd

set_option linter.all false
set_option linter.unusedVariables false
set_option linter.unusedSimpArgs false

/- DERIVED. Regions that draw their order, over shapes: each order gives the same. -/
namespace Go.Ev
open Go
variable {P : Program} {T : Ty} {α : Type}
inductive RV where
 | sv (x : SV)
 | bx (E : Ent3) (z : HF (Af 1000 E.ts) E.forms)
inductive AV where
 | none
 | im (E : Ent) (x : HL E.ts) (y : SV)
 | bx (E : Ent3) (x : HP E.ts) (z : HF (Af 1000 E.ts) E.forms)
def AV.ok : AV → Prop
 | .none => True
 | .im E x y => ∃ r, E.m x = some r ∧ y = C2 E.rs r
 | .bx E x z => E.m x = some z
def Dk : List (Nat × Sh) → St3 → Option (Bool × St3)
 | [], s => some (true, s)
 | (t, sh) :: r, s => match Kx s t sh with
  | some (g, s1) => match Dk r s1 with
   | some (g', s2) => some (g && g', s2)
   | none => none
  | none => none
def D5 (T : Ty) (K : Ac) (A : OA) (rv : Option RV) (o : Oper) (s : St3) : Option (Bool × AV × St3) :=
 match Dk A.fz s with
 | none => none
 | some (g0, s0) => match A.ent with
  | some E => match rv with
   | some (.sv y) => match O6 E o s0 with
    | some (g, x) => match s0.put3 K o.dst y with
     | some s' => some (g0 && g, .im E x y, s')
     | none => none
    | none => none
   | _ => none
  | none => match A.entB with
   | some _ => match rv with
    | some (.bx E z) => match Ij E.f E.ts o s0 with
     | some (g, x, bor, q) => Ii (Af 1000 E.ts) E.forms z fun rs y =>
      bif Fl ⟨E.f, E.ts, rs⟩ A.hb s0 x bor q y then (match (Ba ⟨E.f, E.ts, rs⟩ A.hb s0 q y).2.put3 K o.dst (Ba ⟨E.f, E.ts, rs⟩ A.hb s0 q y).1 with
       | some s' => some (g0 && (g && Fa (B4 ⟨E.f, E.ts, rs⟩ y) s0.boxes (Cl ⟨E.f, E.ts, rs⟩ (Hr ⟨E.f, E.ts, rs⟩ A.hb q)) q), .bx E x z, s')
       | none => none) else none
     | none => none
    | _ => none
   | none => match Zg T K A o s0 with
    | some (g, s') => some (g0 && g, .none, s')
    | none => none
theorem Zt {nt : Nat} : ∀ {l : List (Nat × Sh)} {s s' : St3} {g : Bool}, Dk l s = some (g, s') → g = true → Xl (s.st nt) (s'.st nt)
 | [], s, s', g, h, _ => by
  simp only [Dk, Option.some.injEq, Prod.mk.injEq] at h
  obtain ⟨_, rfl⟩ := h
  exact fun _ _ E _ hs => ⟨E, hs⟩
 | (t, sh) :: r, s, s', g, h, hg => by
  simp only [Dk] at h
  split at h
  · rename_i g1 s1 h1
    split at h
    · rename_i g2 s2 h2
      simp only [Option.some.injEq, Prod.mk.injEq] at h
      obtain ⟨rfl, rfl⟩ := h
      simp only [Bool.and_eq_true] at hg
      intro Γ w E tmps hs
      obtain ⟨x', ob, q1, q2⟩ := Qj (nt := nt) h1 hg.1
      obtain ⟨E1, hs1⟩ := D4 [(t, x')] (s' := s1.st nt) (obs := ob ++ []) hs (by simp only [Dv, q1]) (fun p hp => by simp only [List.append_nil] at hp; exact q2 p hp)
      exact Zt h2 hg.2 Γ w E1 tmps hs1
    · cases h
  · cases h
def RV.S (P : Program) : Option RV → Prop
 | some (.bx E _) => E.Sound P
 | _ => True
theorem A0q (hT : Aq P T) {K : Ac} {A : OA} {rv : Option RV} {o : Oper} {s s' : St3} {g : Bool} {av : AV} {nt : Nat} (h : D5 T K A rv o s = some (g, av, s')) (hg : g = true) (hav : av.ok) (hE : A.S P) (hrv : RV.S P rv) : Zk P K o (s.st nt) (s'.st nt) := by
 unfold D5 at h
 split at h
 · cases h
 rename_i g0 s0 h0
 have fin : ∀ {D : F2} {obs : List Prop}, g0 = true → D6 P T K o D (s0.st nt) = some (s'.st nt, obs) → (∀ p ∈ obs, p) → Zk P K o (s.st nt) (s'.st nt) := fun hg0 hs ho => ⟨_, Zt h0 hg0, F5 hT hs ho⟩
 split at h
 · rename_i E hent
   split at h
   · rename_i y
     split at h
     · rename_i g1 x hc
       split at h
       · rename_i s2 hp
         simp only [Option.some.injEq, Prod.mk.injEq] at h
         obtain ⟨rfl, rfl, rfl⟩ := h
         simp only [Bool.and_eq_true] at hg
         obtain ⟨rfl, rfl⟩ := hg
         obtain ⟨r, hm, rfl⟩ := hav
         obtain ⟨obs, h1, h2⟩ := A49 (T := T) (nt := nt) hc hm (hE.1 E hent)
         have := Oz (nt := nt) hp
         rw [A7f] at this
         obtain ⟨D', obs', h3, h4⟩ := Qk h2 this
         exact fin rfl h3 (h4 h1)
       · cases h
     · cases h
   · cases h
 · rename_i hent
   split at h
   · rename_i F hF
     split at h
     · rename_i E z
       split at h
       · rename_i g1 x bor q hc
         have hS : E.Sound P := hrv
         have hm : ∀ {r : Bool × AV × St3} , Ii (Af 1000 E.ts) E.forms z (fun rs y =>
          bif Fl ⟨E.f, E.ts, rs⟩ A.hb s0 x bor q y then (match (Ba ⟨E.f, E.ts, rs⟩ A.hb s0 q y).2.put3 K o.dst (Ba ⟨E.f, E.ts, rs⟩ A.hb s0 q y).1 with
           | some s' => some (g0 && (g1 && Fa (B4 ⟨E.f, E.ts, rs⟩ y) s0.boxes (Cl ⟨E.f, E.ts, rs⟩ (Hr ⟨E.f, E.ts, rs⟩ A.hb q)) q), AV.bx E x z, s')
           | none => none) else none) = some r → r.2.1 = .bx E x z := fun {r} hr => by
          have key : ∀ (fs : List (List PK)) (zz : HF (Af 1000 E.ts) fs), Ii (Af 1000 E.ts) fs zz (fun rs y =>
           bif Fl ⟨E.f, E.ts, rs⟩ A.hb s0 x bor q y then (match (Ba ⟨E.f, E.ts, rs⟩ A.hb s0 q y).2.put3 K o.dst (Ba ⟨E.f, E.ts, rs⟩ A.hb s0 q y).1 with
            | some s' => some (g0 && (g1 && Fa (B4 ⟨E.f, E.ts, rs⟩ y) s0.boxes (Cl ⟨E.f, E.ts, rs⟩ (Hr ⟨E.f, E.ts, rs⟩ A.hb q)) q), AV.bx E x z, s')
            | none => none) else none) = some r → r.2.1 = .bx E x z := by
           intro fs zz hz
           have hall : Aa7 (Af 1000 E.ts) fs zz (fun _ _ => True) := by
            clear hz
            induction fs with
            | nil => trivial
            | cons f fs ih =>
             cases fs with
             | nil => trivial
             | cons f2 fs => cases zz with
              | inl a => trivial
              | inr b => exact ih b
           obtain ⟨rs, y, h1, _⟩ := Kr hz hall
           cases hck : Fl ⟨E.f, E.ts, rs⟩ A.hb s0 x bor q y with
           | false => rw [hck] at h1; cases h1
           | true =>
            rw [hck] at h1
            simp only [cond] at h1
            split at h1
            · obtain rfl := Option.some.inj h1; rfl
            · cases h1
          exact key E.forms z hr
         have e1 : av = .bx E x z := hm h
         subst e1
         have hav : E.m x = some z := hav
         obtain ⟨rs, y, h1, h2⟩ := Kr h (hS nt x z hav)
         cases hck : Fl ⟨E.f, E.ts, rs⟩ A.hb s0 x bor q y with
         | false => rw [hck] at h1; cases h1
         | true =>
          rw [hck] at h1
          simp only [cond] at h1
          split at h1
          · rename_i s2 hp
            simp only [Option.some.injEq, Prod.mk.injEq] at h1
            obtain ⟨e, _, rfl⟩ := h1
            rw [← e] at hg
            simp only [Bool.and_eq_true] at hg
            obtain ⟨rfl, rfl, hl⟩ := hg
            obtain ⟨D, obs, q1, q2⟩ := Ac3 (T := T) (E := ⟨E.f, E.ts, rs⟩) hc hck hl h2 hp
            exact fin rfl q1 q2
          · cases h1
       · cases h
     · cases h
   · split at h
     · rename_i g1 s2 hr
       simp only [Option.some.injEq, Prod.mk.injEq] at h
       obtain ⟨rfl, rfl, rfl⟩ := h
       simp only [Bool.and_eq_true] at hg
       obtain ⟨D, obs, h1, h2⟩ := Ahd (nt := nt) hT hr hg.2
       exact fin hg.1 h1 h2
     · cases h
abbrev OA.at (A : List (Nat × OA)) (i : Nat) : OA := (A0 i A).getD {}
def S3 (T : Ty) (K : Ac) (A : List (Nat × OA)) (q : List (Nat × RV)) (L : Nat) : List (Nat × Oper) → St3 → St3
 | [], s => s
 | (i, o) :: l, s => S3 T K A q L l (bif L.testBit i then (match D5 T K (OA.at A i) (A0 i q) o s with
  | some r => r.2.2
  | none => s) else s)
def WT (A : List (Nat × OA)) : List (Nat × Oper) → List (Nat × RV) → Prop
 | [], q => q = []
 | (i, _) :: l, q => match (OA.at A i).ent with
  | some E => ∃ y q', q = (i, .sv (C2 E.rs y)) :: q' ∧ WT A l q'
  | none => match (OA.at A i).entB with
   | some F => ∃ z q', q = (i, .bx F z) :: q' ∧ WT A l q'
   | none => WT A l q
def Ff (T : Ty) (K : Ac) (A : List (Nat × OA)) (q : List (Nat × RV)) : List (Nat × Oper) → St3 → St3 → Prop
 | [], s, s' => s = s'
 | (i, o) :: l, s, s' => ∃ av s1, D5 T K (OA.at A i) (A0 i q) o s = some (true, av, s1) ∧ av.ok ∧ Ff T K A q l s1 s'
theorem WT.keys {A : List (Nat × OA)} : ∀ {l : List (Nat × Oper)} {q : List (Nat × RV)}, WT A l q → ∀ i, (∀ p ∈ l, p.1 ≠ i) → A0 i q = none
 | [], q, h, i, _ => by unfold WT at h; subst h; rfl
 | (j, o) :: l, q, h, i, hi => by
  have ih := fun q' (h' : WT A l q') => WT.keys h' i fun p hp => hi p (by simp [hp])
  unfold WT at h
  split at h
  · obtain ⟨y, q', rfl, h'⟩ := h
    rw [B5 (hi (j, o) (by simp))]
    exact ih q' h'
  · split at h
    · obtain ⟨y, q', rfl, h'⟩ := h
      rw [B5 (hi (j, o) (by simp))]
      exact ih q' h'
    · exact ih q h
theorem Ff.congr {K : Ac} {A : List (Nat × OA)} {q q' : List (Nat × RV)} : ∀ {l : List (Nat × Oper)} {s s' : St3}, (∀ p ∈ l, A0 p.1 q = A0 p.1 q') → Ff T K A q l s s' → Ff T K A q' l s s'
 | [], _, _, _, h => h
 | (i, o) :: l, s, s', hq, h => by
  obtain ⟨av, s1, h1, h2, h3⟩ := h
  exact ⟨av, s1, by rw [← hq (i, o) (by simp)]; exact h1, h2, Ff.congr (fun p hp => hq p (by simp [hp])) h3⟩
theorem Ai3 {l : List (Nat × Sh)} {s : St3} {k : St3 → Option α} {r : α} (h : H6 l s k = some r) : ∃ s', Dk l s = some (true, s') ∧ k s' = some r := by
 induction l generalizing s with
 | nil => exact ⟨s, rfl, h⟩
 | cons p l ih =>
  obtain ⟨t, sh⟩ := p
  simp only [H6] at h
  split at h
  · rename_i g s1 h1
    cases g with
    | false => cases h
    | true =>
     obtain ⟨s2, h2, h3⟩ := ih h
     exact ⟨s2, by simp only [Dk, h1, h2, Bool.and_self], h3⟩
  · cases h
theorem A4v {K : Ac} {ops : List Oper} {A : List (Nat × OA)} : ∀ (l : List (Nat × Oper)) (s : St3) (k : St3 → Option α) (r : α), (l.map (·.1)).Nodup → (∀ p ∈ l, p.2.guard = none) → (∀ p ∈ l, (OA.at A p.1).two = false) →
  Hw T K ops A l s k = some r → ∃ q s', WT A l q ∧ k s' = some r ∧ Ff T K A q l s s'
 | [], s, k, r, _, _, _, h => ⟨[], s, rfl, h, rfl⟩
 | (i, o) :: l, s, k, r, hn, hg, hx, h => by
  simp only [List.map_cons, List.nodup_cons] at hn
  have hni : ∀ p ∈ l, p.1 ≠ i := fun p hp e => hn.1 (by rw [← e]; exact List.mem_map.2 ⟨p, hp, rfl⟩)
  simp only [Hw] at h
  obtain ⟨s0, h0, h⟩ := Ai3 h
  have hgo : o.guard = none := hg (i, o) (by simp)
  unfold Vj at h
  rw [hgo] at h
  simp only at h
  have ih := fun s1 h' => A4v (K := K) (ops := ops) (A := A) l s1 k r hn.2 (fun p hp => hg p (by simp [hp])) (fun p hp => hx p (by simp [hp])) h'
  obtain ⟨hxi, hal, hbo, hsh⟩ := OA.two_false (hx (i, o) (by simp))
  unfold Qh Ot at h
  simp only [OA.at] at hal hbo hsh
  simp only [hal, hbo, hsh, Ahk] at h
  cases hent : (OA.at A i).ent with
  | some E =>
   have hB : (OA.at A i).entB = none := by
    cases e : (OA.at A i).entB with
    | none => rfl
    | some F => rw [hent, e] at hxi; cases hxi
   simp only [OA.at] at hent hB
   simp only [hent, hB] at h
   split at h
   · rename_i g x hc
     cases g with
     | false => cases h
     | true =>
      simp only [cond, ob] at h
      split at h
      · rename_i y hm
        split at h
        · rename_i s1 hp
          obtain ⟨q, s', w1, w2, w3⟩ := ih s1 h
          refine ⟨(i, .sv (C2 E.rs y)) :: q, s', ?_, w2, ?_⟩
          · unfold WT; simp only [OA.at, hent]; exact ⟨y, q, rfl, w1⟩
          · refine ⟨.im E x (C2 E.rs y), s1, ?_, ⟨y, hm, rfl⟩, Ff.congr (fun p hp => (B5 (hni p hp).symm).symm) w3⟩
            rw [Be]
            simp only [D5, OA.at, h0, hent, hc, hp, Bool.and_self]
        · cases h
      · cases h
   · cases h
  | none =>
   cases hB : (OA.at A i).entB with
   | some F =>
    simp only [OA.at] at hent hB
    simp only [hent, hB] at h
    unfold Or at h
    split at h
    · rename_i g x bor qn hc
      cases g with
      | false => cases h
      | true =>
       simp only [cond] at h
       split at h
       · rename_i z hm
         have hall : ∀ (fs : List (List PK)) (zz : HF (Af 1000 F.ts) fs), Aa7 (Af 1000 F.ts) fs zz (fun _ _ => True) := by
          intro fs
          induction fs with
          | nil => intro _; trivial
          | cons f fs ih2 =>
           intro zz
           cases fs with
           | nil => trivial
           | cons f2 fs => cases zz with
            | inl a => trivial
            | inr b => exact ih2 b
         have key : ∀ (fs : List (List PK)) (zz : HF (Af 1000 F.ts) fs), (Ii (Af 1000 F.ts) fs zz fun rs y => onB K ⟨F.f, F.ts, rs⟩ ((A0 i A).getD {}).hb o s0 x bor qn y fun s2 => Hw T K ops A l s2 k) = some r →
           ∃ s1, (Ii (Af 1000 F.ts) fs zz fun rs y =>
            bif Fl ⟨F.f, F.ts, rs⟩ ((A0 i A).getD {}).hb s0 x bor qn y then (match (Ba ⟨F.f, F.ts, rs⟩ ((A0 i A).getD {}).hb s0 qn y).2.put3 K o.dst (Ba ⟨F.f, F.ts, rs⟩ ((A0 i A).getD {}).hb s0 qn y).1 with
             | some s' => some (true && (true && Fa (B4 ⟨F.f, F.ts, rs⟩ y) s0.boxes (Cl ⟨F.f, F.ts, rs⟩ (Hr ⟨F.f, F.ts, rs⟩ ((A0 i A).getD {}).hb qn)) qn), AV.bx F x z, s')
             | none => none) else none) = some (true, .bx F x z, s1) ∧ Hw T K ops A l s1 k = some r := by
          intro fs
          induction fs with
          | nil => intro _ h; cases h
          | cons f fs ih2 =>
           have one : ∀ (y : HR f (Af 1000 F.ts)), (onB K ⟨F.f, F.ts, f⟩ ((A0 i A).getD {}).hb o s0 x bor qn y fun s2 => Hw T K ops A l s2 k) = some r →
             ∃ s1, (bif Fl ⟨F.f, F.ts, f⟩ ((A0 i A).getD {}).hb s0 x bor qn y then (match (Ba ⟨F.f, F.ts, f⟩ ((A0 i A).getD {}).hb s0 qn y).2.put3 K o.dst (Ba ⟨F.f, F.ts, f⟩ ((A0 i A).getD {}).hb s0 qn y).1 with
             | some s' => some (true && (true && Fa (B4 ⟨F.f, F.ts, f⟩ y) s0.boxes (Cl ⟨F.f, F.ts, f⟩ (Hr ⟨F.f, F.ts, f⟩ ((A0 i A).getD {}).hb qn)) qn), AV.bx F x z, s')
             | none => none) else none) = some (true, .bx F x z, s1) ∧ Hw T K ops A l s1 k = some r := by
            intro y h
            unfold onB at h
            cases hck : Fl ⟨F.f, F.ts, f⟩ ((A0 i A).getD {}).hb s0 x bor qn y with
            | false => rw [hck] at h; cases h
            | true =>
             rw [hck] at h
             simp only [cond] at h
             cases hl : Fa (B4 ⟨F.f, F.ts, f⟩ y) s0.boxes (Cl ⟨F.f, F.ts, f⟩ (Hr ⟨F.f, F.ts, f⟩ ((A0 i A).getD {}).hb qn)) qn with
             | false => rw [hl] at h; cases h
             | true =>
              rw [hl] at h
              simp only at h
              split at h
              · rename_i s1 hp
                refine ⟨s1, ?_, h⟩
                simp only [cond, hp, Bool.and_self]
              · cases h
           cases fs with
           | nil => exact one
           | cons f2 fs =>
            intro zz h
            cases zz with
            | inl a => exact one a h
            | inr b => exact ih2 b h
         obtain ⟨s1, k1, k2⟩ := key F.forms z h
         obtain ⟨q, s', w1, w2, w3⟩ := ih s1 k2
         refine ⟨(i, .bx F z) :: q, s', ?_, w2, ?_⟩
         · unfold WT; simp only [OA.at, hent, hB]; exact ⟨z, q, rfl, w1⟩
         · refine ⟨.bx F x z, s1, ?_, hm, Ff.congr (fun p hp => (B5 (hni p hp).symm).symm) w3⟩
           rw [Be]
           simp only [D5, OA.at, h0, hent, hB, hc]
           exact k1
       · cases h
    · cases h
   | none =>
    simp only [OA.at] at hent hB
    simp only [hent, hB] at h
    split at h
    · rename_i gr s2 hr
      cases gr with
      | false => cases h
      | true =>
       simp only [cond] at h
       obtain ⟨q, s', w1, w2, w3⟩ := ih s2 h
       refine ⟨q, s', ?_, w2, ?_⟩
       · unfold WT; simp only [OA.at, hent, hB]; exact w1
       · refine ⟨.none, s2, ?_, trivial, w3⟩
         have hnone : A0 i q = none := WT.keys w1 i hni
         rw [hnone]
         simp only [D5, OA.at, h0, hent, hB, hr, Bool.and_self]
    · cases h
def A6s (o : Oper) (L : Nat) : Bool := o.after.toList.all fun e => !Region.binds .any e || L.testBit e.on
def Kq : List (Nat × Oper) → List Nat → List Nat
 | [], D => D
 | (i, o) :: l, D => Kq l (D ++ (D.filter (A6s o)).map fun L => L ||| 1 <<< i)
def rdy (l : List (Nat × Oper)) (L : Nat) : List (Nat × Oper) := l.filter fun p => !L.testBit p.1 && A6s p.2 L
def U0 (T : Ty) (K : Ac) (A : List (Nat × OA)) (l : List (Nat × Oper)) (s : St3) (q : List (Nat × RV)) : Prop :=
 (Kq l [0]).map (fun L => (rdy l L).map fun p => D5 T K (OA.at A p.1) (A0 p.1 q) p.2 (S3 T K A q L l s)) =
 (Kq l [0]).map (fun L => (rdy l L).map fun p => (D5 T K (OA.at A p.1) (A0 p.1 q) p.2 (S3 T K A q (2 ^ p.1 - 1) l s)).map fun r => (r.1, r.2.1, S3 T K A q (L ||| 1 <<< p.1) l s))
theorem U0.mk {K : Ac} {A : List (Nat × OA)} {l : List (Nat × Oper)} {s : St3} {q : List (Nat × RV)}
  (h : (Kq l [0]).map (fun L => (rdy l L).map fun p => D5 T K (OA.at A p.1) (A0 p.1 q) p.2 (S3 T K A q L l s)) =
   (Kq l [0]).map (fun L => (rdy l L).map fun p => (D5 T K (OA.at A p.1) (A0 p.1 q) p.2 (S3 T K A q (2 ^ p.1 - 1) l s)).map fun r => (r.1, r.2.1, S3 T K A q (L ||| 1 <<< p.1) l s))) : U0 T K A l s q := h
def Ar5 (A : List (Nat × OA)) (l : List (Nat × Oper)) : Bool :=
 l.all fun p => (match p.2.guard with | none => true | some _ => false) && p.2.after.toList.all (fun e => !Region.binds .any e || Nat.blt e.on p.1) && !(OA.at A p.1).two
theorem A4y (L i : Nat) : (L.testBit i = true → L % 2 ^ (i + 1) = L % 2 ^ i ||| 1 <<< i) ∧ (L.testBit i = false → L % 2 ^ (i + 1) = L % 2 ^ i) := by
 constructor
 · intro h
   refine Nat.eq_of_testBit_eq fun j => ?_
   rw [Nat.testBit_mod_two_pow, Nat.testBit_or, Nat.testBit_mod_two_pow, Nat.testBit_shiftLeft]
   by_cases e : j = i
   · subst e; simp [h]
   · by_cases h1 : j < i
     · have h2 : j < i + 1 := by omega
       have h3 : ¬ i ≤ j := by omega
       simp [h1, h2, h3]
     · have h2 : ¬ j < i + 1 := by omega
       obtain ⟨d, hd⟩ : ∃ d, j - i = d + 1 := ⟨j - i - 1, by omega⟩
       simp [h1, h2, hd, Nat.testBit_succ]
 · intro h
   refine Nat.eq_of_testBit_eq fun j => ?_
   rw [Nat.testBit_mod_two_pow, Nat.testBit_mod_two_pow]
   by_cases e : j = i
   · subst e; simp [h]
   · by_cases h1 : j < i
     · have h2 : j < i + 1 := by omega
       simp [h1, h2]
     · have h2 : ¬ j < i + 1 := by omega
       simp [h1, h2]
theorem Aai {L : Nat} : ∀ (l : List (Nat × Oper)) (i : Nat) (D : List Nat), (∀ k p, l[k]? = some p → p.1 = i + k ∧ (∀ e ∈ p.2.after, Region.binds .any e = true → e.on < p.1) ∧ (L.testBit p.1 = true → ∀ e ∈ p.2.after, Region.binds .any e = true → L.testBit e.on = true)) →
  L % 2 ^ i ∈ D → L % 2 ^ (i + l.length) ∈ Kq l D
 | [], i, D, _, h => by simpa [Kq] using h
 | (j, o) :: l, i, D, hl, h => by
  obtain ⟨h1, h2, h3⟩ := hl 0 (j, o) rfl
  simp only [Nat.add_zero] at h1
  subst h1
  simp only [Kq, List.length_cons]
  rw [show j + (l.length + 1) = j + 1 + l.length by omega]
  refine Aai l (j + 1) _ (fun k p hk => ?_) ?_
  · obtain ⟨a, b⟩ := hl (k + 1) p (by simpa using hk)
    exact ⟨by omega, b⟩
  · cases hb : L.testBit j with
    | false =>
     rw [(A4y L j).2 hb]
     exact List.mem_append.2 (.inl h)
    | true =>
     rw [(A4y L j).1 hb]
     refine List.mem_append.2 (.inr (List.mem_map.2 ⟨_, List.mem_filter.2 ⟨h, ?_⟩, rfl⟩))
     unfold A6s
     refine List.all_eq_true.2 fun e he => ?_
     cases hbe : Region.binds .any e with
     | false => rfl
     | true =>
      have he' : e ∈ o.after := by simpa using he
      have := h2 e he' hbe
      simp only [Nat.testBit_mod_two_pow, this, decide_true, Bool.true_and, Bool.not_true, Bool.false_or]
      exact h3 hb e he' hbe
theorem A75 {K : Ac} {A : List (Nat × OA)} {q : List (Nat × RV)} {L : Nat} : ∀ {l : List (Nat × Oper)} {s s' : St3}, Ff T K A q l s s' → (∀ p ∈ l, L.testBit p.1 = true) → S3 T K A q L l s = s'
 | [], s, s', h, _ => h
 | (i, o) :: l, s, s', h, hL => by
  obtain ⟨av, s1, h1, _, h3⟩ := h
  simp only [S3, hL (i, o) (by simp), cond, h1]
  exact A75 h3 fun p hp => hL p (by simp [hp])
theorem Lk {K : Ac} {A : List (Nat × OA)} {q : List (Nat × RV)} {L : Nat} : ∀ {l : List (Nat × Oper)} {s : St3}, (∀ p ∈ l, L.testBit p.1 = false) → S3 T K A q L l s = s
 | [], s, _ => rfl
 | (i, o) :: l, s, hL => by
  simp only [S3, hL (i, o) (by simp), cond]
  exact Lk fun p hp => hL p (by simp [hp])
theorem Ff.at {K : Ac} {A : List (Nat × OA)} {q : List (Nat × RV)} {i0 : Nat} : ∀ {l : List (Nat × Oper)} {s s' : St3} {b : Nat}, Ff T K A q l s s' → (∀ k p, l[k]? = some p → p.1 = b + k) → ∀ {i : Nat} {o : Oper}, i = b + i0 → l[i0]? = some (i, o) →
  ∃ av s1, D5 T K (OA.at A i) (A0 i q) o (S3 T K A q (2 ^ i - 1) l s) = some (true, av, s1) ∧ av.ok := by
 induction i0 with
 | zero =>
  intro l s s' b h hl i o hi ho
  match l, h with
  | [], _ => simp at ho
  | (j, o') :: l, h =>
   simp only [List.getElem?_cons_zero, Option.some.injEq, Prod.mk.injEq] at ho
   obtain ⟨rfl, rfl⟩ := ho
   obtain ⟨av, s1, h1, h2, _⟩ := h
   refine ⟨av, s1, ?_, h2⟩
   rw [Lk (fun p hp => ?_)]
   · exact h1
   · obtain ⟨k, hk⟩ := List.getElem?_of_mem hp
     have := hl k p hk
     rw [Nat.testBit_two_pow_sub_one]
     simp only [decide_eq_false_iff_not]
     omega
 | succ i0 ih =>
  intro l s s' b h hl i o hi ho
  match l, h with
  | [], _ => simp at ho
  | (j, o') :: l, h =>
   obtain ⟨av, s1, h1, _, h3⟩ := h
   have hj := hl 0 (j, o') rfl
   simp only [Nat.add_zero] at hj
   obtain ⟨av2, s2, q1, q2⟩ := ih (b := b + 1) h3 (fun k p hk => by have := hl (k + 1) p (by simpa using hk); omega) (i := i) (o := o) (by omega) (by simpa using ho)
   refine ⟨av2, s2, ?_, q2⟩
   have hb : (2 ^ i - 1).testBit j = true := by
    rw [Nat.testBit_two_pow_sub_one]; simp only [decide_eq_true_eq]; omega
   simp only [S3, hb, cond, h1]
   exact q1
theorem WT.bx {A : List (Nat × OA)} : ∀ {l : List (Nat × Oper)} {q : List (Nat × RV)}, WT A l q → ∀ {i : Nat} {E : Ent3} {z : HF (Af 1000 E.ts) E.forms}, A0 i q = some (.bx E z) → (OA.at A i).entB = some E
 | [], q, h, i, E, z, hi => by unfold WT at h; subst h; cases hi
 | (j, o) :: l, q, h, i, E, z, hi => by
  unfold WT at h
  split at h
  · obtain ⟨y, q', rfl, h'⟩ := h
    simp only [A0] at hi
    cases hb : Nat.beq j i with
    | true => rw [hb] at hi; cases hi
    | false => rw [hb] at hi; exact WT.bx h' hi
  · split at h
    · rename_i F hF
      obtain ⟨y, q', rfl, h'⟩ := h
      simp only [A0] at hi
      cases hb : Nat.beq j i with
      | true =>
       rw [hb] at hi
       have := Nat.eq_of_beq_eq_true hb
       subst this
       simp only [cond, Option.some.injEq, RV.bx.injEq] at hi
       obtain ⟨rfl, _⟩ := hi
       exact hF
      | false => rw [hb] at hi; exact WT.bx h' hi
    · exact WT.bx h hi
theorem A4n {l : List Oper} {k : Nat} {p : Nat × Oper} (h : (Ab l)[k]? = some p) : p.1 = 0 + k := by
 rw [Nat.zero_add]; exact (C4 h).1
end Go.Ev

/- DERIVED. Regions that draw their order: what an operation does hangs on what it names, and on the boxes. -/
namespace Go.Ev
open Go
variable {P : Program} {T : Ty} {α : Type}
def Hu (o : Oper) : Option (List Operand) := match o.op with
 | .move x => some [x]
 | .assign x => some [x]
 | .pick c a b => some [c, a, b]
 | .load _ a => some [a]
 | .nilCheck x => some [x]
 | .binOp _ _ x y _ => some [x, y]
 | .unOp _ _ x => some [x]
 | .convert _ _ x => some [x]
 | .fieldAddr _ x _ => some [x]
 | .indexAddr _ x i => some [x, i]
 | .extract x _ => some [x]
 | .store _ a x => some [a, x]
 | .alloc _ => some []
 | .box _ x => some [x]
 | .call c => match c.callee with
  | .value f => some (f :: c.args.toList)
  | .builtin .len => some c.args.toList
  | .builtin .max => some c.args.toList
  | .builtin .min => some c.args.toList
  | _ => none
 | .slice _ x lo hi none => some (x :: (lo.toList ++ hi.toList))
 | .build _ ps => some (ps.toList.map (·.2))
 | .buildSlice _ _ ps => some (ps.toList.map (·.2))
 | _ => none
theorem K7 {s s2 : St3} : ∀ {l : List Operand}, (∀ x ∈ l, s.val x = s2.val x) → l.map s.val = l.map s2.val
 | [], _ => rfl
 | x :: l, h => by rw [List.map_cons, List.map_cons, h x (by simp), K7 fun y hy => h y (by simp [hy])]
theorem U4 {s s2 : St3} : ∀ {o : Option Operand}, (∀ x ∈ o.toList, s.val x = s2.val x) → o.map s.val = o.map s2.val
 | none, _ => rfl
 | some x, h => by rw [Option.map_some, Option.map_some, h x (by simp)]
theorem V3 {s s2 : St3} {ps : Array (Nat × Operand)} (h : ∀ x ∈ ps.toList.map (·.2), s.val x = s2.val x) : Ch s ps = Ch s2 ps := by
 unfold Ch
 exact List.map_congr_left fun p hp => by rw [h p.2 (List.mem_map.2 ⟨p, hp, rfl⟩)]
theorem Aj4 {hint : Option Sh} {o : Oper} {xs : List Operand} {s s2 : St3} (hq : Hu o = some xs) (hx : ∀ x ∈ xs, s.val x = s2.val x) (hb : s.boxes = s2.boxes) : Js T hint o s = Js T hint o s2 := by
 unfold Hu at hq
 unfold Js
 split at hq
 case h_15 c e =>
  rw [e]
  dsimp only
  split at hq
  · rename_i f hc
    rw [hc]
  · rename_i hc
    rw [hc]
    obtain rfl := Option.some.inj hq
    dsimp only
    split
    · rename_i x t h1 h2
      rw [hx x (by rw [h1]; simp), hb]
    · rfl
  · rename_i hc
    rw [hc]
    obtain rfl := Option.some.inj hq
    dsimp only
    split
    · rename_i x y h1
      rw [hx x (by rw [h1]; simp), hx y (by rw [h1]; simp)]
    · rfl
  · rename_i hc
    rw [hc]
    obtain rfl := Option.some.inj hq
    dsimp only
    split
    · rename_i x y h1
      rw [hx x (by rw [h1]; simp), hx y (by rw [h1]; simp)]
    · rfl
  · cases hq
 case h_2 x e =>
  obtain rfl := Option.some.inj hq
  rw [e]
  cases x with
  | tmp t =>
   show H0 (s.val (.tmp t)) = H0 (s2.val (.tmp t))
   rw [hx _ (by simp)]
  | const v => cases v <;> first | rfl | (rename_i a; cases a <;> rfl)
  | func f => rfl
  | global g => rfl
 case h_16 t x lo hi e =>
  obtain rfl := Option.some.inj hq
  rw [e]
  dsimp only
  rw [hx x (by simp), U4 (o := lo) fun y hy => hx y (by simp [hy]), U4 (o := hi) fun y hy => hx y (by simp [hy]), hb]
 case h_17 t ps e =>
  obtain rfl := Option.some.inj hq
  rw [e]
  dsimp only
  rw [V3 hx]
 case h_18 t n ps e =>
  obtain rfl := Option.some.inj hq
  rw [e]
  dsimp only
  rw [V3 hx]
 all_goals first
  | (cases hq; done)
  | (rename_i e
     obtain rfl := Option.some.inj hq
     simp only [List.mem_cons, List.not_mem_nil, or_false, forall_eq_or_imp, forall_eq] at hx
     first
      | (rw [e]; done)
      | (rw [e]; simp only [hx, hb]))
theorem Aj7 {E : Ent} {o : Oper} {xs : List Operand} {s s2 : St3} (hq : Hu o = some xs) (hx : ∀ x ∈ xs, s.val x = s2.val x) (hb : s.boxes = s2.boxes) : O6 E o s = O6 E o s2 := by
 unfold Hu at hq
 unfold O6
 split at hq
 case h_15 c e =>
  rw [e]
  dsimp only
  split at hq
  · rename_i f hc
    rw [hc]
    obtain rfl := Option.some.inj hq
    dsimp only
    rw [hx f (by simp), K7 (s := s) (s2 := s2) (l := c.args.toList) (fun y hy => hx y (by simp [hy])), hb]
  · rename_i hc; rw [hc]
  · rename_i hc; rw [hc]
  · rename_i hc; rw [hc]
  · cases hq
 all_goals first
  | (cases hq; done)
  | (rename_i e; rw [e])
theorem Aha {f0 : Nat} {ts : List PK} {o : Oper} {xs : List Operand} {s s2 : St3} (hq : Hu o = some xs) (hx : ∀ x ∈ xs, s.val x = s2.val x) (hb : s.boxes = s2.boxes) : Ij f0 ts o s = Ij f0 ts o s2 := by
 unfold Hu at hq
 unfold Ij
 split at hq
 case h_15 c e =>
  rw [e]
  dsimp only
  split at hq
  · rename_i f hc
    rw [hc]
    obtain rfl := Option.some.inj hq
    dsimp only
    rw [hx f (by simp), K7 (s := s) (s2 := s2) (l := c.args.toList) (fun y hy => hx y (by simp [hy])), hb]
  · rename_i hc; rw [hc]
  · rename_i hc; rw [hc]
  · rename_i hc; rw [hc]
  · cases hq
 all_goals first
  | (cases hq; done)
  | (rename_i e; rw [e])
def B19 (A : OA) (E : Ent3) (bs : List (Nat × B3)) (g : Bool) (x : HP E.ts) (bor : List Nat) (q : List (Nat × Nat)) (z : HF (Af 1000 E.ts) E.forms) : Option (Bool × AV × SV × E3) :=
 Ii (Af 1000 E.ts) E.forms z fun rs y =>
  bif (rs.flatMap PK.backs).isEmpty && (Y1 rs).isEmpty && Fl ⟨E.f, E.ts, rs⟩ A.hb ⟨[], bs⟩ x bor q y then (match B4 ⟨E.f, E.ts, rs⟩ y, q with
   | [(_, b)], [(_, h)] => some (true && (g && Fa (B4 ⟨E.f, E.ts, rs⟩ y) bs [] q), .bx E x z, (Ba ⟨E.f, E.ts, rs⟩ A.hb ⟨[], bs⟩ q y).1, .set h b)
   | _, _ => none) else none
theorem A0f {α : Type} {os : List (Nat × CK)} : ∀ {fs : List (List PK)} {z : HF os fs} {k : (rs : List PK) → HR rs os → Option α} {r : α}, Ii os fs z k = some r → ∃ rs y, k rs y = some r ∧ ∀ {β : Type} (k' : (rs : List PK) → HR rs os → Option β), Ii os fs z k' = k' rs y
 | [], _, _, _, h => by cases h
 | [rs], y, k, r, h => ⟨rs, y, h, fun _ => rfl⟩
 | rs :: r0 :: q, .inl y, k, r, h => ⟨rs, y, h, fun _ => rfl⟩
 | rs :: r0 :: q, .inr z, k, r, h => by
  obtain ⟨rs', y, h1, h2⟩ := A0f (fs := r0 :: q) (z := z) (k := k) h
  exact ⟨rs', y, h1, fun k' => h2 k'⟩
theorem Aju {f : SV → SV} (h : ∀ x, f x = x) : ∀ l : List (Nat × SV), Ae f l = l
 | [] => rfl
 | (i, x) :: r => by
  have ih := Aju h r
  simp only [Ae, List.map_cons, h] at ih ⊢
  rw [ih]
def Oj (T : Ty) (A : OA) (rv : Option RV) (o : Oper) (s : St3) : Option (Bool × AV × SV × E3) :=
 match A.fz, A.entB, A.ent, A.tr with
 | [], none, some E, _ => match rv with
  | some (.sv y) => match O6 E o s with
   | some (g, x) => some (true && g, .im E x y, y, .none)
   | none => none
  | _ => none
 | [], none, none, none => match Js T A.sh o s with
  | some r => some (true && r.g, .none, r.val, r.eff)
  | none => none
 | [], some _, none, _ => match rv with
  | some (.bx E z) => match Ij E.f E.ts o s with
   | some (g, x, bor, q) => B19 A E s.boxes g x bor q z
   | none => none
  | _ => none
 | _, _, _, _ => none
theorem Aoz {A : OA} {rv : Option RV} {o : Oper} {xs : List Operand} {s s2 : St3} (hq : Hu o = some xs) (hx : ∀ x ∈ xs, s.val x = s2.val x) (hb : s.boxes = s2.boxes) : Oj T A rv o s = Oj T A rv o s2 := by
 unfold Oj
 rw [Aj4 hq hx hb]
 split
 · rw [Aj7 hq hx hb]
 · rfl
 · split
   · rw [Aha hq hx hb, hb]
   · rfl
 · rfl
theorem Aac {K : Ac} {A : OA} {rv : Option RV} {o : Oper} {s : St3} {g : Bool} {av : AV} {x : SV} {e : E3} (h : Oj T A rv o s = some (g, av, x, e)) :
  D5 T K A rv o s = (s.eff3 K o.dst e).bind fun s1 => (s1.put3 K o.dst x).map fun s' => (g, av, s') := by
 unfold Oj at h
 unfold D5
 split at h
 · rename_i h1 h2 h3
   rw [h1, h3]
   simp only [Dk]
   split at h
   · rename_i y
     split at h
     · rename_i g' x' hc
       simp only [Option.some.injEq, Prod.mk.injEq] at h
       obtain ⟨rfl, rfl, rfl, rfl⟩ := h
       try rw [hc]
       simp only [St3.eff3, Option.bind_some]
       cases s.put3 K o.dst y <;> rfl
     · cases h
   · cases h
 · rename_i h0 h1 h2 h3
   rw [h0, h1, h2]
   simp only [Dk]
   unfold Zg
   rw [h3]
   split at h
   · rename_i r hc
     try rw [hc]
     simp only [Option.some.injEq, Prod.mk.injEq] at h
     obtain ⟨rfl, rfl, rfl, rfl⟩ := h
     dsimp only
     cases s.eff3 K o.dst r.eff with
     | none => rfl
     | some s1 =>
      simp only [Option.bind_some]
      cases s1.put3 K o.dst r.val <;> rfl
   · cases h
 · rename_i EB h0 h1 h2
   rw [h0, h1, h2]
   simp only [Dk]
   split at h
   · rename_i E z
     split at h
     · rename_i g' x' bor q hc
       unfold B19 at h
       obtain ⟨rs, y, e1, e2⟩ := A0f h
       simp only [hc, e2]
       cases hk : (rs.flatMap PK.backs).isEmpty with
       | false => rw [hk] at e1; cases e1
       | true =>
        cases hk2 : (Y1 rs).isEmpty with
        | false => rw [hk, hk2] at e1; cases e1
        | true =>
         have b1 : rs.flatMap PK.backs = [] := List.isEmpty_iff.1 hk
         have b2 : Y1 rs = [] := List.isEmpty_iff.1 hk2
         have b3 : Hr ⟨E.f, E.ts, rs⟩ A.hb q = q := by simp only [Hr, b2]; rfl
         have b4 : ∀ rn, Cl ⟨E.f, E.ts, rs⟩ rn = [] := fun rn => by simp only [Cl, b1]; rfl
         have b5 : Fl ⟨E.f, E.ts, rs⟩ A.hb s x' bor q y = Fl ⟨E.f, E.ts, rs⟩ A.hb ⟨[], s.boxes⟩ x' bor q y := by
          simp only [Fl, b2, List.all_nil]
         rw [hk, hk2, Bool.true_and, Bool.true_and] at e1
         rw [b5]
         cases hck : Fl ⟨E.f, E.ts, rs⟩ A.hb ⟨[], s.boxes⟩ x' bor q y with
         | false => rw [hck] at e1; cases e1
         | true =>
          rw [hck] at e1
          simp only [cond] at e1 ⊢
          split at e1
          · rename_i k1 b k2 hh he
            simp only [Option.some.injEq, Prod.mk.injEq] at e1
            obtain ⟨rfl, rfl, rfl, rfl⟩ := e1
            have b6 : (Ba ⟨E.f, E.ts, rs⟩ A.hb s [(k2, hh)] y) = ((Ba ⟨E.f, E.ts, rs⟩ A.hb ⟨[], s.boxes⟩ [(k2, hh)] y).1, ⟨s.slots, As hh b s.boxes⟩) := by
             unfold Ba
             rw [b4, b3, he]
             simp only [List.any_nil, cond, Vg]
             rw [Aju fun _ => rfl]
            rw [b6, b3, b4]
            simp only [St3.eff3, Option.bind_some]
            cases St3.put3 K _ o.dst _ <;> rfl
          · cases e1
     · cases h
   · cases h
 · cases h
theorem J1 {β : Type} (k i : Nat) (x z : β) (l : List (Nat × β)) : As k x ((i, z) :: l) = if k < i then (k, x) :: (i, z) :: l else if i = k then (k, x) :: l else (i, z) :: As k x l := by
 have bl : Nat.blt k i = decide (k < i) := by
  cases e : Nat.blt k i with
  | true => rw [Nat.blt_eq] at e; simp [e]
  | false =>
   have : ¬ k < i := fun hh => by rw [← Nat.blt_eq] at hh; rw [hh] at e; cases e
   simp [this]
 have be : Nat.beq i k = decide (i = k) := by
  cases e : Nat.beq i k with
  | true => simp [Nat.eq_of_beq_eq_true e]
  | false =>
   have : i ≠ k := fun hh => by subst hh; simp at e
   simp [this]
 simp only [As, bl, be, Bool.cond_decide]
theorem A0y {β : Type} {k j : Nat} (x y : β) (h : k ≠ j) : ∀ l : List (Nat × β), As k x (As j y l) = As j y (As k x l)
 | [] => by
  have e : ∀ (a : Nat) (b : β), As a b [] = [(a, b)] := fun _ _ => rfl
  rw [e, e, J1, J1, e, e]
  grind
 | (i, z) :: l => by
  have ih := A0y x y h l
  rw [J1, J1]
  by_cases h2 : j < i <;> by_cases h4 : i = j <;> by_cases h1 : k < i <;> by_cases h3 : i = k <;> simp only [h1, h2, h3, h4, if_true, if_false, J1] <;> grind [J1]
end Go.Ev

/- DERIVED. Regions that draw their order: a light check, one A0 at each operation for each set of operations with effects. -/
namespace Go.Ev
open Go
variable {P : Program} {T : Ty} {α : Type}
structure Dat where
 g : Bool
 av : AV
 x : SV
 e : E3
def Te (k : Option Tmp) (e : E3) (bs : List (Nat × B3)) : List (Nat × B3) := match e with
 | .new b => match k with
  | some k => As k b bs
  | none => bs
 | .set h b => As h b bs
 | _ => bs
def Qm (k : Option Tmp) (x : SV) (sl : List (Nat × SV)) : List (Nat × SV) := match k with
 | some t => As t x sl
 | none => sl
def Fo (d : Option Tmp) (D : Dat) (s : St3) : St3 := ⟨Qm d D.x s.slots, Te d D.e s.boxes⟩
def okE (d : Option Tmp) : E3 → Bool
 | .none => true
 | .new _ => d.isSome
 | .set _ _ => true
 | _ => false
def isE : E3 → Bool
 | .none => false
 | _ => true
def hdl (d : Option Tmp) : E3 → Option Nat
 | .new _ => d
 | .set h _ => some h
 | _ => none
def Aeh (k : Nat) : E3 → Bool
 | .new b => b.men k
 | .set _ b => b.men k
 | _ => false
def eqO : Option Nat → Option Nat → Bool
 | some a, some b => Nat.beq a b
 | _, _ => false
theorem Xa {a b : Option Nat} (h : eqO a b = false) : ∀ t, a = some t → b ≠ some t := by
 rintro t rfl rfl
 simp [eqO] at h
abbrev En := List (Nat × Option Tmp × Dat)
def SL (L : Nat) : En → St3 → St3
 | [], s => s
 | (i, d, D) :: r, s => SL L r (bif L.testBit i then Fo d D s else s)
def Uz (T : Ty) (A : List (Nat × OA)) (q : List (Nat × RV)) : List (Nat × Oper) → St3 → Option En
 | [], _ => some []
 | (i, o) :: l, s => match Oj T (OA.at A i) (A0 i q) o s with
  | some (g, av, x, e) => bif okE o.dst e then (match Uz T A q l (Fo o.dst ⟨g, av, x, e⟩ s) with
   | some r => some ((i, o.dst, ⟨g, av, x, e⟩) :: r)
   | none => none) else none
  | none => none
def Ti (o : Oper) (j : Nat) : Bool := o.after.toList.any fun e => Region.binds .any e && Nat.beq e.on j
def opT : Operand → Option Nat
 | .tmp t => some t
 | _ => none
def Ajp (D : En) (i : Nat) (o : Oper) : Bool := match Hu o with
 | none => false
 | some xs => xs.all fun x => D.all fun p => !eqO (opT x) p.2.1 || (Ti o p.1 && Nat.blt p.1 i)
def Xx (i : Nat) : En → Option Dat
 | [] => none
 | (j, _, D) :: r => bif Nat.beq j i then some D else Xx i r
def B0k (K : Ac) (l : List (Nat × Oper)) (D : En) (s : St3) (p : Nat × Oper) : Bool :=
 Ajp D p.1 p.2 && (match p.2.dst with
  | some t => Nat.blt t K.N
  | none => true) && (match Xx p.1 D with
  | some Di => D.all (fun r => Nat.beq r.1 p.1 || (!eqO p.2.dst r.2.1 && (!eqO (hdl p.2.dst Di.e) (hdl r.2.1 r.2.2.e) || (match A0 r.1 l with
    | some o => Ti o p.1 || Ti p.2 r.1
    | none => false)))) && (match Di.e with
   | .new _ => match p.2.dst with
    | some k => (A0 k s.boxes).isNone && Nat.blt k 1000 && s.clean k && D.all (fun r => Nat.beq r.1 p.1 || (!eqO (some k) (hdl r.2.1 r.2.2.e) && !r.2.2.x.men k && !Aeh k r.2.2.e) || (match A0 r.1 l with
     | some o => Ti o p.1
     | none => false))
    | none => false
   | _ => true)
  | none => false)
def Baf (K : Ac) (l : List (Nat × Oper)) (D : En) (s : St3) : Bool := l.all (B0k K l D s)
def A4o : List Nat → List Nat
 | [] => [0]
 | e :: r => A4o r ++ (A4o r).map (· ||| 1 <<< e)
theorem Adr (L : Nat) : ∀ E : List Nat, ∃ m ∈ A4o E, ∀ x, m.testBit x = (E.any (Nat.beq x) && L.testBit x)
 | [] => ⟨0, by simp [A4o], fun x => by simp⟩
 | e :: r => by
  obtain ⟨m, hm, h⟩ := Adr L r
  cases hb : L.testBit e with
  | true =>
   refine ⟨m ||| 1 <<< e, List.mem_append.2 (.inr (List.mem_map.2 ⟨m, hm, rfl⟩)), fun x => ?_⟩
   rw [Nat.testBit_or, h]
   by_cases c : x = e
   · subst c
     simp [hb]
   · have e1 : (1 <<< e).testBit x = false := by
      rw [Nat.testBit_shiftLeft]
      by_cases c2 : e ≤ x
      · obtain ⟨d, hd⟩ : ∃ d, x - e = d + 1 := ⟨x - e - 1, by omega⟩
        rw [hd]; simp [Nat.testBit_succ]
      · simp [c2]
     have e2 : Nat.beq x e = false := by cases e3 : Nat.beq x e with | false => rfl | true => exact absurd (Nat.eq_of_beq_eq_true e3) c
     rw [e1, List.any_cons, e2, Bool.or_false, Bool.false_or]
  | false =>
   refine ⟨m, List.mem_append.2 (.inl hm), fun x => ?_⟩
   rw [h, List.any_cons]
   by_cases c : x = e
   · subst c; simp [hb]
   · have e2 : Nat.beq x e = false := by cases e3 : Nat.beq x e with | false => rfl | true => exact absurd (Nat.eq_of_beq_eq_true e3) c
     rw [e2, Bool.false_or]
def Xd (D : En) : List Nat := (D.filter fun p => isE p.2.2.e).map (·.1)
def Aa0 (acc : List (Nat × Nat)) : List Go.Edge → Nat
 | [] => 0
 | e :: r => bif Region.binds .any e then Aa0 acc r ||| 1 <<< e.on ||| (A0 e.on acc).getD 0 else Aa0 acc r
def A4g : List (Nat × Oper) → List (Nat × Nat) → List (Nat × Nat)
 | [], acc => acc
 | (i, o) :: l, acc => A4g l ((i, Aa0 acc o.after.toList) :: acc)
def Alw (l : List (Nat × Oper)) (D : En) (p : Nat × Oper) : List Nat :=
 (A4o (Xd D)).filter fun m => !m.testBit p.1 && ((A4g l []).all fun r => !(m.testBit r.1 && r.2.testBit p.1) && (!(Nat.beq r.1 p.1 || m.testBit r.1) || (Xd D).all (fun k => !r.2.testBit k || m.testBit k)))
theorem Al6 {L : Nat} {acc : List (Nat × Nat)} (ha : ∀ j m, A0 j acc = some m → L.testBit j = true → ∀ k, m.testBit k = true → L.testBit k = true) : ∀ {es : List Go.Edge}, (∀ e ∈ es, Region.binds .any e = true → L.testBit e.on = true) → ∀ k, (Aa0 acc es).testBit k = true → L.testBit k = true
 | [], _, k, h => by simp [Aa0] at h
 | e :: r, he, k, h => by
  simp only [Aa0] at h
  have ih := Al6 ha (es := r) (fun e h => he e (by simp [h])) k
  cases hb : Region.binds .any e with
  | false => rw [hb] at h; exact ih h
  | true =>
   rw [hb] at h
   have hL := he e (by simp) hb
   simp only [cond, Nat.testBit_or, Bool.or_eq_true] at h
   rcases h with (h | h) | h
   · exact ih h
   · rw [Nat.testBit_shiftLeft] at h
     have : k = e.on := by
      rcases Nat.lt_trichotomy k e.on with c | c | c
      · have : ¬ k ≥ e.on := by omega
        simp [this] at h
      · exact c
      · obtain ⟨d, hd⟩ : ∃ d, k - e.on = d + 1 := ⟨k - e.on - 1, by omega⟩
        rw [hd] at h; simp [Nat.testBit_succ] at h
     rw [this]; exact hL
   · cases hl : A0 e.on acc with
     | none => rw [hl] at h; simp at h
     | some m => rw [hl] at h; exact ha _ m hl hL k h
theorem A9z {L i0 : Nat} {l0 : List (Nat × Oper)} (hr : ∀ p ∈ l0, L.testBit p.1 = true ∨ p.1 = i0 → ∀ e ∈ p.2.after, Region.binds .any e = true → L.testBit e.on = true) : ∀ {l : List (Nat × Oper)} {acc : List (Nat × Nat)}, (∀ p ∈ l, p ∈ l0) →
  (∀ r ∈ acc, L.testBit r.1 = true ∨ r.1 = i0 → ∀ k, r.2.testBit k = true → L.testBit k = true) → ∀ r ∈ A4g l acc, L.testBit r.1 = true ∨ r.1 = i0 → ∀ k, r.2.testBit k = true → L.testBit k = true
 | [], acc, _, ha, r, h => ha r h
 | (i, o) :: l, acc, hl, ha, r, h => by
  refine A9z hr (l := l) (fun p hp => hl p (by simp [hp])) (fun r hr' => ?_) r h
  rcases List.mem_cons.1 hr' with rfl | hr'
  · intro hi k hk
    refine Al6 (fun j m hj hL k hk => ha (j, m) (C7 hj) (.inl hL) k hk) (fun e he hb => hr (i, o) (hl _ (by simp)) hi e (by simpa using he) hb) k hk
  · exact ha r hr'
abbrev B04 := Option (Bool × AV × SV × E3)
def B89 : Option Dat → B04
 | some D => some (D.g, D.av, D.x, D.e)
 | none => none
def Bae (T : Ty) (A : List (Nat × OA)) (q : List (Nat × RV)) (l : List (Nat × Oper)) (D : En) (s : St3) : List (List B04) :=
 l.map fun p => (Alw l D p).map fun m => Oj T (OA.at A p.1) (A0 p.1 q) p.2 ⟨(SL (2 ^ p.1 - 1) D s).slots, (SL m D s).boxes⟩
def Bad (l : List (Nat × Oper)) (D : En) : List (List B04) :=
 l.map fun p => (Alw l D p).map fun _ => B89 (Xx p.1 D)
def B57 (m : Nat) (l : List (Nat × Oper)) : Bool := (A4g l []).all fun r => Nat.blt r.1 m || (List.range r.1).all fun k => r.2.testBit k
def Alc (T : Ty) (K : Ac) (A : List (Nat × OA)) (l : List (Nat × Oper)) (s : St3) (q : List (Nat × RV)) : Prop :=
 ∃ m, B57 m l = true ∧ (match Uz T A q (l.take m) s with
  | some D => Baf K (l.take m) D s
  | none => false) = true ∧ Bae T A q (l.take m) ((Uz T A q (l.take m) s).getD []) s = Bad (l.take m) ((Uz T A q (l.take m) s).getD [])
theorem Avt {d d' : Option Tmp} {e e' : E3} (h : ∀ t, hdl d e = some t → hdl d' e' ≠ some t) (bs : List (Nat × B3)) : Te d e (Te d' e' bs) = Te d' e' (Te d e bs) := by
 cases e <;> cases e' <;> first | rfl | skip
 all_goals cases d <;> cases d' <;> first | rfl | skip
 all_goals (simp only [Te]; first | rfl | (refine A0y _ _ (fun c => ?_) _; subst c; exact h _ rfl rfl))
theorem Aq3 {d d' : Option Tmp} {x x' : SV} (h : ∀ t, d = some t → d' ≠ some t) (sl : List (Nat × SV)) : Qm d x (Qm d' x' sl) = Qm d' x' (Qm d x sl) := by
 cases d <;> cases d' <;> first | rfl | skip
 simp only [Qm]
 refine A0y _ _ (fun c => ?_) _
 subst c; exact h _ rfl rfl
theorem Awg {d d' : Option Tmp} {D D' : Dat} (h1 : ∀ t, d = some t → d' ≠ some t) (h2 : ∀ t, hdl d D.e = some t → hdl d' D'.e ≠ some t) (s : St3) : Fo d D (Fo d' D' s) = Fo d' D' (Fo d D s) := by
 simp only [Fo, Aq3 h1, Avt h2]
theorem Ahp {L L' : Nat} : ∀ {D : En} {s : St3}, (∀ p ∈ D, L.testBit p.1 = L'.testBit p.1) → SL L D s = SL L' D s
 | [], _, _ => rfl
 | (i, d, D) :: r, s, h => by
  simp only [SL, h (i, d, D) (by simp)]
  exact Ahp fun p hp => h p (by simp [hp])
theorem Xk (L i j : Nat) : (L ||| 1 <<< i).testBit j = (L.testBit j || decide (j = i)) := by
 rw [Nat.testBit_or]
 congr 1
 rw [Nat.testBit_shiftLeft]
 by_cases c : j = i
 · subst c; simp
 · by_cases c2 : i ≤ j
   · obtain ⟨d, hd⟩ : ∃ d, j - i = d + 1 := ⟨j - i - 1, by omega⟩
     rw [hd]; simp [Nat.testBit_succ, c]
   · simp [c2, c]
theorem Awq {L : Nat} {d : Option Tmp} {D0 : Dat} : ∀ {D : En} {s : St3}, (∀ p ∈ D, L.testBit p.1 = true → (∀ t, d = some t → p.2.1 ≠ some t) ∧ (∀ t, hdl d D0.e = some t → hdl p.2.1 p.2.2.e ≠ some t)) →
  SL L D (Fo d D0 s) = Fo d D0 (SL L D s)
 | [], _, _ => rfl
 | (j, d', D') :: r, s, h => by
  simp only [SL]
  have ih := fun s => Awq (L := L) (d := d) (D0 := D0) (D := r) (s := s) fun p hp => h p (by simp [hp])
  cases hb : L.testBit j with
  | false => simp only [cond]; exact ih s
  | true =>
   simp only [cond]
   obtain ⟨h1, h2⟩ := h (j, d', D') (by simp) hb
   rw [← Awg h1 h2, ih]
theorem Awr {L i : Nat} {d : Option Tmp} {D0 : Dat} : ∀ {D : En} {s : St3}, (D.map (·.1)).Pairwise (· < ·) → (i, d, D0) ∈ D → L.testBit i = false → (∀ p ∈ D, i < p.1 → L.testBit p.1 = true → (∀ t, d = some t → p.2.1 ≠ some t) ∧ (∀ t, hdl d D0.e = some t → hdl p.2.1 p.2.2.e ≠ some t)) →
  SL (L ||| 1 <<< i) D s = Fo d D0 (SL L D s)
 | [], _, _, h, _, _ => by simp at h
 | (j, d', D') :: r, s, hn, hm, hb, h => by
  simp only [List.map_cons, List.pairwise_cons] at hn
  have hlt : ∀ p ∈ r, j < p.1 := fun p hp => hn.1 p.1 (List.mem_map.2 ⟨p, hp, rfl⟩)
  rcases List.mem_cons.1 hm with e | hm
  · simp only [Prod.mk.injEq] at e
    obtain ⟨rfl, rfl, rfl⟩ := e
    simp only [SL, hb, Xk, decide_true, Bool.or_true, cond]
    rw [Ahp (L' := L) fun p hp => by rw [Xk]; have := hlt p hp; simp [show p.1 ≠ i by omega]]
    exact Awq fun p hp => h p (by simp [hp]) (hlt p hp)
  · have hne : j ≠ i := fun c => by have := hlt _ hm; simp only at this; omega
    simp only [SL, Xk, hne, decide_false, Bool.or_false]
    exact Awr hn.2 hm hb fun p hp => h p (by simp [hp])
theorem Alb {L L' t : Nat} : ∀ {D : En} {s s' : St3}, A0 t s.slots = A0 t s'.slots → (∀ p ∈ D, p.2.1 = some t → L.testBit p.1 = L'.testBit p.1) → A0 t (SL L D s).slots = A0 t (SL L' D s').slots
 | [], _, _, h, _ => h
 | (i, d, D) :: r, s, s', h, hp => by
  simp only [SL]
  refine Alb ?_ fun p hq => hp p (by simp [hq])
  have key : ∀ s, d ≠ some t → A0 t (Fo d D s).slots = A0 t s.slots := fun s hd => by
   cases d with
   | none => rfl
   | some u => exact Ao _ _ fun c => hd (by rw [c])
  by_cases hd : d = some t
  · rw [hp (i, d, D) (by simp) hd]
    cases L'.testBit i with
    | false => exact h
    | true => subst hd; simp only [cond, Fo, Qm, Ap]
  · cases L.testBit i <;> cases L'.testBit i <;> simp only [cond, key _ hd, h]
theorem Avs {d : Option Tmp} {e : E3} (h : isE e = false) (bs : List (Nat × B3)) : Te d e bs = bs := by cases e <;> first | rfl | cases h
theorem Ahr {L L' : Nat} : ∀ {D : En} {s s' : St3}, s.boxes = s'.boxes → (∀ p ∈ D, isE p.2.2.e = true → L.testBit p.1 = L'.testBit p.1) → (SL L D s).boxes = (SL L' D s').boxes
 | [], _, _, h, _ => h
 | (i, d, D) :: r, s, s', h, hp => by
  simp only [SL]
  refine Ahr ?_ fun p hq => hp p (by simp [hq])
  cases he : isE D.e with
  | true =>
   rw [hp (i, d, D) (by simp) he]
   cases L'.testBit i <;> simp only [cond, Fo, h]
  | false => cases L.testBit i <;> cases L'.testBit i <;> simp only [cond, Fo, Avs he, h]
theorem Aa1 {β : Type} {f : Nat × β → Bool} {k : Nat} {x : β} {l : List (Nat × β)} (h : l.all f = true) (hx : f (k, x) = true) : (As k x l).all f = true := by
 refine List.all_eq_true.2 fun p hp => ?_
 rcases Q2 hp with rfl | hp
 · exact hx
 · exact List.all_eq_true.1 h p hp
theorem Ahq {L k : Nat} : ∀ {D : En} {s : St3}, s.clean k = true → (∀ p ∈ D, L.testBit p.1 = true → p.2.2.x.men k = false ∧ Aeh k p.2.2.e = false) → (SL L D s).clean k = true
 | [], _, h, _ => h
 | (i, d, D) :: r, s, h, hp => by
  simp only [SL]
  refine Ahq ?_ fun p hq => hp p (by simp [hq])
  cases hb : L.testBit i with
  | false => exact h
  | true =>
   obtain ⟨h1, h2⟩ := hp (i, d, D) (by simp) hb
   simp only [cond]
   unfold St3.clean at h ⊢
   simp only [Bool.and_eq_true] at h ⊢
   refine ⟨?_, ?_⟩
   · cases d with
     | none => exact h.1
     | some t => exact Aa1 h.1 (by simp only at h1; simp [h1])
   · show List.all (Te d D.e s.boxes) _ = true
     simp only at h2
     cases he : D.e with
     | new b =>
      rw [he] at h2
      cases d with
      | none => exact h.2
      | some t => exact Aa1 h.2 (by simp only [Aeh] at h2; simp [h2])
     | set hh b =>
      rw [he] at h2
      exact Aa1 h.2 (by simp only [Aeh] at h2; simp [h2])
     | none => exact h.2
     | app hh b => exact h.2
     | frz ks => exact h.2
theorem Aho {L k : Nat} : ∀ {D : En} {s : St3}, A0 k s.boxes = none → (∀ p ∈ D, L.testBit p.1 = true → hdl p.2.1 p.2.2.e ≠ some k) → A0 k (SL L D s).boxes = none
 | [], _, h, _ => h
 | (i, d, D) :: r, s, h, hp => by
  simp only [SL]
  refine Aho ?_ fun p hq => hp p (by simp [hq])
  cases hb : L.testBit i with
  | false => exact h
  | true =>
   have h1 := hp (i, d, D) (by simp) hb
   simp only at h1
   simp only [cond]
   show A0 k (Te d D.e s.boxes) = none
   cases he : D.e with
   | new b =>
    rw [he] at h1
    cases d with
    | none => exact h
    | some t => exact (Ao _ _ fun c => h1 (by simp only [hdl]; rw [c])).trans h
   | set hh b =>
    rw [he] at h1
    exact (Ao _ _ fun c => h1 (by simp only [hdl]; rw [c])).trans h
   | none => exact h
   | app hh b => exact h
   | frz ks => exact h
theorem Apo {K : Ac} {A : OA} {rv : Option RV} {o : Oper} {s : St3} {g : Bool} {av : AV} {x : SV} {e : E3} (h : Oj T A rv o s = some (g, av, x, e)) (hK : ∀ t, o.dst = some t → Nat.blt t K.N = true) (he : okE o.dst e = true)
  (hnew : ∀ b k, e = .new b → o.dst = some k → (A0 k s.boxes).isNone = true ∧ Nat.blt k 1000 = true ∧ s.clean k = true) : D5 T K A rv o s = some (g, av, Fo o.dst ⟨g, av, x, e⟩ s) := by
 rw [Aac h]
 have put : ∀ s1 : St3, s1.put3 K o.dst x = some ⟨Qm o.dst x s1.slots, s1.boxes⟩ := fun s1 => by
  unfold St3.put3
  cases hd : o.dst with
  | none => rfl
  | some t => simp only [hK t hd, cond]; rfl
 cases e with
 | none => simp only [St3.eff3, Option.bind_some, put, Option.map_some]; rfl
 | set hh b => simp only [St3.eff3, Option.bind_some, put, Option.map_some]; rfl
 | new b =>
  cases hd : o.dst with
  | none => rw [hd] at he; cases he
  | some k =>
   obtain ⟨q1, q2, q3⟩ := hnew b k rfl hd
   rw [hd] at put
   simp only [St3.eff3, q1, q2, q3, Bool.and_self, cond, Option.bind_some, put, Option.map_some]; rfl
 | app hh b => cases he
 | frz ks => cases he
theorem Apn {K : Ac} {A : OA} {rv : Option RV} {o : Oper} {s s1 : St3} {g g1 : Bool} {av av1 : AV} {x : SV} {e : E3} (h : Oj T A rv o s = some (g, av, x, e)) (he : okE o.dst e = true) (hs : D5 T K A rv o s = some (g1, av1, s1)) :
  g1 = g ∧ av1 = av ∧ s1 = Fo o.dst ⟨g, av, x, e⟩ s := by
 rw [Aac h] at hs
 have put : ∀ {s0 : St3}, (s0.put3 K o.dst x).map (fun s' => (g, av, s')) = some (g1, av1, s1) → g1 = g ∧ av1 = av ∧ s1 = ⟨Qm o.dst x s0.slots, s0.boxes⟩ := fun {s0} hp => by
  unfold St3.put3 at hp
  cases hd : o.dst with
  | none =>
   rw [hd] at hp
   simp only [Option.map_some, Option.some.injEq, Prod.mk.injEq] at hp
   obtain ⟨rfl, rfl, rfl⟩ := hp
   exact ⟨rfl, rfl, rfl⟩
  | some t =>
   rw [hd] at hp
   simp only at hp
   cases hb : Nat.blt t K.N with
   | false => rw [hb] at hp; cases hp
   | true =>
    rw [hb] at hp
    simp only [cond, Option.map_some, Option.some.injEq, Prod.mk.injEq] at hp
    obtain ⟨rfl, rfl, rfl⟩ := hp
    exact ⟨rfl, rfl, rfl⟩
 cases e with
 | none => exact put hs
 | set hh b => exact put hs
 | new b =>
  cases hd : o.dst with
  | none => rw [hd] at he; cases he
  | some k =>
   rw [hd] at hs put
   simp only [St3.eff3] at hs
   cases hb : ((A0 k s.boxes).isNone && Nat.blt k 1000 && s.clean k) with
   | false => rw [hb] at hs; cases hs
   | true => rw [hb] at hs; exact put hs
 | app hh b => cases he
 | frz ks => cases he
theorem Ae1 {K : Ac} {A : List (Nat × OA)} {q : List (Nat × RV)} : ∀ {l : List (Nat × Oper)} {s s' : St3} {D : En}, Ff T K A q l s s' → Uz T A q l s = some D →
  D.map (fun p => (p.1, p.2.1)) = l.map (fun p => (p.1, p.2.dst)) ∧ (∀ p ∈ D, p.2.2.g = true ∧ p.2.2.av.ok ∧ okE p.2.1 p.2.2.e = true) ∧ ∀ L : Nat, (∀ p ∈ D, L.testBit p.1 = true) → SL L D s = s'
 | [], s, s', D, h, hd => by
  simp only [Uz, Option.some.injEq] at hd
  subst hd
  exact ⟨rfl, fun p hp => by simp at hp, fun _ _ => h⟩
 | (i, o) :: l, s, s', D, h, hd => by
  obtain ⟨av, s1, h1, h2, h3⟩ := h
  simp only [Uz] at hd
  split at hd
  · rename_i g av' x e he
    cases hok : okE o.dst e with
    | false => rw [hok] at hd; cases hd
    | true =>
     rw [hok] at hd
     simp only [cond] at hd
     split at hd
     · rename_i r hr
       obtain rfl := Option.some.inj hd
       obtain ⟨rfl, rfl, rfl⟩ := Apn he hok h1
       obtain ⟨a1, a2, a3⟩ := Ae1 h3 hr
       refine ⟨by simp only [List.map_cons, a1], fun p hp => ?_, fun L hL => ?_⟩
       · rcases List.mem_cons.1 hp with rfl | hp
         · exact ⟨rfl, h2, hok⟩
         · exact a2 p hp
       · have hi := hL (i, o.dst, ⟨true, av, x, e⟩) (by simp)
         simp only at hi
         simp only [SL, hi, cond]
         exact a3 L fun p hp => hL p (by simp [hp])
     · cases hd
  · cases hd
theorem Aak {i : Nat} {D0 : Dat} : ∀ {D : En}, Xx i D = some D0 → ∃ d, (i, d, D0) ∈ D
 | [], h => by cases h
 | (j, d, D1) :: r, h => by
  simp only [Xx] at h
  cases hb : Nat.beq j i with
  | true =>
   rw [hb] at h
   obtain rfl := Option.some.inj h
   obtain rfl := Nat.eq_of_beq_eq_true hb
   exact ⟨d, by simp⟩
  | false =>
   rw [hb] at h
   obtain ⟨d', h'⟩ := Aak h
   exact ⟨d', by simp [h']⟩
theorem Awu {s s2 : St3} {x : Operand} (h : ∀ t, opT x = some t → A0 t s.slots = A0 t s2.slots) : s.val x = s2.val x := by
 cases x with
 | tmp t => simp only [St3.val, h t rfl]
 | _ => rfl
theorem A9p {o : Oper} {j : Nat} (h : Ti o j = true) : ∃ e ∈ o.after, Region.binds .any e = true ∧ e.on = j := by
 unfold Ti at h
 obtain ⟨e, he, h2⟩ := List.any_eq_true.1 h
 simp only [Bool.and_eq_true] at h2
 exact ⟨e, by simpa using he, h2.1, Nat.eq_of_beq_eq_true h2.2⟩
theorem Ff.split {K : Ac} {A : List (Nat × OA)} {q : List (Nat × RV)} : ∀ (m : Nat) {l : List (Nat × Oper)} {s s' : St3}, Ff T K A q l s s' → ∃ s1, Ff T K A q (l.take m) s s1 ∧ Ff T K A q (l.drop m) s1 s'
 | 0, l, s, s', h => ⟨s, by simp [Ff], by simpa using h⟩
 | m + 1, [], s, s', h => ⟨s', by simpa using h, by simp [Ff]⟩
 | m + 1, (i, o) :: l, s, s', h => by
  obtain ⟨av, s1, h1, h2, h3⟩ := h
  obtain ⟨s2, k1, k2⟩ := Ff.split m h3
  exact ⟨s2, ⟨av, s1, h1, h2, k1⟩, k2⟩
theorem Aca {K : Ac} {A : List (Nat × OA)} {q : List (Nat × RV)} {L : Nat} : ∀ {a b : List (Nat × Oper)} {s : St3}, S3 T K A q L (a ++ b) s = S3 T K A q L b (S3 T K A q L a s)
 | [], _, _ => rfl
 | (i, o) :: a, b, s => by simp only [List.cons_append, S3]; exact Aca
theorem Ff.at2 {K : Ac} {A : List (Nat × OA)} {q : List (Nat × RV)} {i0 : Nat} : ∀ {l : List (Nat × Oper)} {s s' : St3} {b : Nat}, Ff T K A q l s s' → (∀ k p, l[k]? = some p → p.1 = b + k) → ∀ {i : Nat} {o : Oper}, i = b + i0 → l[i0]? = some (i, o) →
  ∃ av, D5 T K (OA.at A i) (A0 i q) o (S3 T K A q (2 ^ i - 1) l s) = some (true, av, S3 T K A q (2 ^ (i + 1) - 1) l s) ∧ av.ok := by
 induction i0 with
 | zero =>
  intro l s s' b h hl i o hi ho
  match l, h with
  | [], _ => simp at ho
  | (j, o') :: l, h =>
   simp only [List.getElem?_cons_zero, Option.some.injEq, Prod.mk.injEq] at ho
   obtain ⟨rfl, rfl⟩ := ho
   obtain ⟨av, s1, h1, h2, _⟩ := h
   have hgt : ∀ p ∈ l, j < p.1 := fun p hp => by
    obtain ⟨k, hk⟩ := List.getElem?_of_mem hp
    have := hl (k + 1) p (by simpa using hk)
    omega
   refine ⟨av, ?_, h2⟩
   rw [Lk (fun p hp => ?_)]
   · have hb : (2 ^ (j + 1) - 1).testBit j = true := by rw [Nat.testBit_two_pow_sub_one]; simp
     simp only [S3, hb, cond, h1]
     rw [Lk fun p hp => by have := hgt p hp; rw [Nat.testBit_two_pow_sub_one]; simp only [decide_eq_false_iff_not]; omega]
   · obtain ⟨k, hk⟩ := List.getElem?_of_mem hp
     have := hl k p hk
     rw [Nat.testBit_two_pow_sub_one]
     simp only [decide_eq_false_iff_not]
     omega
 | succ i0 ih =>
  intro l s s' b h hl i o hi ho
  match l, h with
  | [], _ => simp at ho
  | (j, o') :: l, h =>
   obtain ⟨av, s1, h1, _, h3⟩ := h
   have hj := hl 0 (j, o') rfl
   simp only [Nat.add_zero] at hj
   obtain ⟨av2, q1, q2⟩ := ih (b := b + 1) h3 (fun k p hk => by have := hl (k + 1) p (by simpa using hk); omega) (i := i) (o := o) (by omega) (by simpa using ho)
   refine ⟨av2, ?_, q2⟩
   have hb : (2 ^ i - 1).testBit j = true := by
    rw [Nat.testBit_two_pow_sub_one]; simp only [decide_eq_true_eq]; omega
   have hb2 : (2 ^ (i + 1) - 1).testBit j = true := by
    rw [Nat.testBit_two_pow_sub_one]; simp only [decide_eq_true_eq]; omega
   simp only [S3, hb, hb2, cond, h1]
   exact q1
theorem Ay0 (hT : Aq P T) (hfol : P.follows .mixedOrders = true) {K : Ac} {A : List (Nat × OA)} {X : Tm} {id : Nat} {ops : Array Oper} {nt : Nat} (hE : ∀ i a, A0 i A = some a → a.S P) (hchk : Ar5 A (Ab ops.toList) = true)
  {w : X.den} {q : List (Nat × RV)} {s' : St3} (hw : WT A (Ab ops.toList) q) (hF : Alc T K A (Ab ops.toList) (X.enc w) q) (hrun : Ff T K A q (Ab ops.toList) (X.enc w) s') :
  Code.Den P K (.region id ops true) ((X.enc w).st nt) .normal (s'.st nt) := by
 obtain ⟨m, hsuf, h1, h2⟩ := hF
 obtain ⟨sm, hrun1, hrun2⟩ := hrun.split m
 cases hD : Uz T A q ((Ab ops.toList).take m) (X.enc w) with
 | none => rw [hD] at h1; cases h1
 | some D =>
 rw [hD] at h1 h2
 simp only [Option.getD_some] at h1 h2
 obtain ⟨a1, a2, a3⟩ := Ae1 hrun1 hD
 have chk : ∀ p ∈ Ab ops.toList, p.2.guard = none ∧ (∀ e ∈ p.2.after, Region.binds .any e = true → e.on < p.1) ∧ (OA.at A p.1).two = false := fun p hp => by
  have := List.all_eq_true.1 hchk p hp
  simp only [Bool.and_eq_true] at this
  obtain ⟨⟨h1, h2⟩, h3⟩ := this
  refine ⟨?_, fun e he hb => ?_, by cases hx : (OA.at A p.1).two with | false => rfl | true => rw [hx] at h3; cases h3⟩
  · cases hg : p.2.guard with
    | none => rfl
    | some _ => rw [hg] at h1; cases h1
  · have := List.all_eq_true.1 h2 e (by simpa using he)
    rw [hb] at this
    simpa [Nat.blt_eq] using this
 have hsz : (Ab ops.toList).length = ops.size := by simp [Ab]
 have at_ : ∀ (i : Nat) (o : Oper), ops[i]? = some o → (Ab ops.toList)[i]? = some (i, o) := fun i o hi => by
  obtain ⟨h1, h2⟩ := Array.getElem?_eq_some_iff.1 hi
  simp [Ab, List.getElem?_zipIdx, h1, h2]
 have opsAt : ∀ p ∈ Ab ops.toList, ops[p.1]? = some p.2 := fun p hp => by
  obtain ⟨k, hk⟩ := List.getElem?_of_mem hp
  obtain ⟨q1, q2⟩ := C4 hk
  rw [q1]; simpa using q2
 have key : ((Ab ops.toList).map (·.1)) = List.range ops.toList.length := by
  apply List.ext_getElem?
  intro j
  simp only [Ab, List.map_map, List.getElem?_map, List.getElem?_zipIdx]
  by_cases hj : j < ops.toList.length
  · simp at hj; simp [hj]
  · simp at hj; simp [hj]
 have kD : D.map (·.1) = ((Ab ops.toList).take m).map (·.1) := by
  have := congrArg (List.map (·.1)) a1
  simpa [List.map_map, Function.comp_def] using this
 have hnd : (D.map (·.1)).Pairwise (· < ·) := by
  rw [kD, List.map_take, key]
  exact List.pairwise_lt_range.sublist (List.take_sublist _ _)
 have tk : ∀ p ∈ (Ab ops.toList).take m, p.1 < m := fun p hp => by
  obtain ⟨k, hk⟩ := List.getElem?_of_mem hp
  rw [List.getElem?_take] at hk
  split at hk
  · rename_i hlt
    have := (C4 hk).1; omega
  · cases hk
 have ent : ∀ p ∈ D, ∃ o, ops[p.1]? = some o ∧ p.2.1 = o.dst ∧ p.1 < m := fun p hp => by
  have : (p.1, p.2.1) ∈ ((Ab ops.toList).take m).map (fun p => (p.1, p.2.dst)) := by rw [← a1]; exact List.mem_map.2 ⟨p, hp, rfl⟩
  obtain ⟨r, hr, e⟩ := List.mem_map.1 this
  simp only [Prod.mk.injEq] at e
  exact ⟨r.2, by rw [← e.1]; exact opsAt r (List.mem_of_mem_take hr), e.2.symm, by rw [← e.1]; exact tk r hr⟩
 have lk : ∀ (i : Nat) (o : Oper), i < m → ops[i]? = some o → A0 i ((Ab ops.toList).take m) = some o := fun i o him hi => by
  have hm : (i, o) ∈ (Ab ops.toList).take m := List.mem_of_getElem? (i := i) (by rw [List.getElem?_take, if_pos him]; exact at_ i o hi)
  have nd : (((Ab ops.toList).take m).map (·.1)).Nodup := (Er ops.toList).sublist ((List.take_sublist _ _).map _)
  generalize (Ab ops.toList).take m = l at hm nd
  induction l with
  | nil => simp at hm
  | cons r l ih =>
   obtain ⟨j, o'⟩ := r
   simp only [List.map_cons, List.nodup_cons] at nd
   rcases List.mem_cons.1 hm with e | hm
   · simp only [Prod.mk.injEq] at e
     obtain ⟨rfl, rfl⟩ := e
     exact Be
   · rw [B5 fun c => nd.1 (by rw [c]; exact List.mem_map.2 ⟨_, hm, rfl⟩)]
     exact ih hm nd.2
 have h0 : SL 0 D (X.enc w) = X.enc w := by
  clear a3 hD h1 h2 a1 a2 kD hnd ent hrun1
  generalize X.enc w = s
  induction D generalizing s with
  | nil => rfl
  | cons p r ih => obtain ⟨i, d, D⟩ := p; simp only [SL, Nat.zero_testBit, cond]; exact ih s
 have hpre : ∀ L : Nat, (∀ j, j < m → L.testBit j = true) → SL L D (X.enc w) = sm := fun L hL => a3 _ fun p hp => hL p.1 (ent p hp).choose_spec.2.2
 have hpre3 : S3 T K A q (2 ^ m - 1) (Ab ops.toList) (X.enc w) = sm := by
  conv => lhs; rw [← List.take_append_drop m (Ab ops.toList)]
  rw [Aca, A75 hrun1 fun p hp => by have := tk p hp; rw [Nat.testBit_two_pow_sub_one]; simpa using this]
  refine Lk fun p hp => ?_
  obtain ⟨k, hk⟩ := List.getElem?_of_mem hp
  rw [List.getElem?_drop] at hk
  have := (C4 hk).1
  rw [Nat.testBit_two_pow_sub_one]
  simp only [decide_eq_false_iff_not]; omega
 have hfull : (if 2 ^ ops.size - 1 < 2 ^ m then SL (2 ^ ops.size - 1) D (X.enc w) else S3 T K A q (2 ^ ops.size - 1) (Ab ops.toList) (X.enc w)) = s' := by
  have hS3 : S3 T K A q (2 ^ ops.size - 1) (Ab ops.toList) (X.enc w) = s' := A75 hrun fun p hp => by
   obtain ⟨j, hj⟩ := List.getElem?_of_mem hp
   have := (C4 hj).1
   have hlt := (List.getElem?_eq_some_iff.1 hj).1
   rw [Nat.testBit_two_pow_sub_one]
   simp only [decide_eq_true_eq]
   omega
  split
  · rename_i hlt
    have hnm : ops.size ≤ m := by
     rcases Nat.lt_or_ge m ops.size with h | h
     · exfalso
       have h3 : 2 ^ (m + 1) ≤ 2 ^ ops.size := Nat.pow_le_pow_right (by omega) h
       have h4 : 0 < 2 ^ m := Nat.pow_pos (by omega)
       have : 2 ^ (m + 1) = 2 * 2 ^ m := by rw [Nat.pow_succ]; omega
       omega
     · exact h
    rw [List.drop_of_length_le (by omega)] at hrun2
    have e : sm = s' := hrun2
    rw [← e]
    refine a3 _ fun p hp => ?_
    obtain ⟨o, ho, _, _⟩ := ent p hp
    have := (Array.getElem?_eq_some_iff.1 ho).1
    rw [Nat.testBit_two_pow_sub_one]
    simpa using this
  · exact hS3
 have := Aas (P := P) hfol (K := K) (id := id) (ops := ops) (S := fun L => (if L < 2 ^ m then SL L D (X.enc w) else S3 T K A q L (Ab ops.toList) (X.enc w)).st nt)
  (fun i o hi => (chk (i, o) (List.mem_of_getElem? (at_ i o hi))).2.1) (fun L i o hbig hcl hoi hbit hdep => ?_)
 · simp only [hfull, if_pos (show 0 < 2 ^ m from Nat.pow_pos (by omega)), h0] at this
   exact this
 · have hmem := List.mem_of_getElem? (at_ i o hoi)
   refine ⟨(chk (i, o) hmem).1, ?_⟩
   have hAi : (OA.at A i).S P := by
    unfold OA.at
    cases hl : A0 i A with
    | none => exact ⟨(fun E h => by cases h), (fun E h => by cases h), (fun E h => by cases h)⟩
    | some a => exact hE i a hl
   have hRV : RV.S P (A0 i q) := by
    unfold RV.S
    split
    · rename_i E z hz
      exact hAi.2.1 E (WT.bx hw hz)
    · trivial
   have anc0 : ∀ r ∈ A4g (Ab ops.toList) [], L.testBit r.1 = true ∨ r.1 = i → ∀ k, r.2.testBit k = true → L.testBit k = true := A9z (L := L) (i0 := i) (l0 := Ab ops.toList) (fun p hp hpi e he hbe => by
    rcases hpi with h3 | h3
    · exact hcl p.1 p.2 h3 (opsAt p hp) e he hbe
    · have q3 := opsAt p hp
      rw [h3, hoi] at q3
      obtain rfl := Option.some.inj q3
      exact hdep e he hbe) (l := Ab ops.toList) (acc := []) (fun _ h => h) (fun r h => by simp at h)
   have inA : ∀ j, j < ops.size → ∃ mk, (j, mk) ∈ A4g (Ab ops.toList) [] := fun j hj => by
    have : ∀ (l : List (Nat × Oper)) (acc : List (Nat × Nat)), ((∃ p ∈ l, p.1 = j) ∨ ∃ mk, (j, mk) ∈ acc) → ∃ mk, (j, mk) ∈ A4g l acc := by
     intro l
     induction l with
     | nil => intro acc h; rcases h with ⟨p, hp, _⟩ | h; simp at hp; exact h
     | cons p l ih =>
      intro acc h
      obtain ⟨i1, o1⟩ := p
      refine ih _ ?_
      rcases h with ⟨p, hp, rfl⟩ | ⟨mk, h⟩
      · rcases List.mem_cons.1 hp with rfl | hp
        · exact .inr ⟨_, List.mem_cons_self⟩
        · exact .inl ⟨p, hp, rfl⟩
      · exact .inr ⟨mk, List.mem_cons_of_mem _ h⟩
    exact this _ _ (.inl ⟨(j, ops[j]), List.mem_of_getElem? (at_ j _ (Array.getElem?_eq_getElem hj)), rfl⟩)
   have all_ : ∀ j, m ≤ j → j < ops.size → (L.testBit j = true ∨ j = i) → ∀ k, k < j → L.testBit k = true := fun j hmj hj hji k hk => by
    obtain ⟨mk, hmk⟩ := inA j hj
    have := List.all_eq_true.1 hsuf _ hmk
    simp only [Bool.or_eq_true] at this
    rcases this with h3 | h3
    · rw [Nat.blt_eq] at h3; omega
    · exact anc0 _ hmk hji k (List.all_eq_true.1 h3 k (List.mem_range.2 hk))
   have hin : i < ops.size := (Array.getElem?_eq_some_iff.1 hoi).1
   rcases Nat.lt_or_ge i m with him | him
   rotate_left
   · -- one of those that wait for all
     have hLi : L = 2 ^ i - 1 := by
      refine Nat.eq_of_testBit_eq fun j => ?_
      rw [Nat.testBit_two_pow_sub_one]
      rcases Nat.lt_trichotomy j i with c | c | c
      · rw [all_ i him hin (.inr rfl) j c]; simp [c]
      · subst c; rw [hbit]; simp
      · have e : L.testBit j = false := by
         cases hb : L.testBit j with
         | false => rfl
         | true =>
          exfalso
          have hjn : j < ops.size := by
           rcases Nat.lt_or_ge j ops.size with h | h
           · exact h
           · rw [hbig j h] at hb; cases hb
          rw [all_ j (by omega) hjn (.inl hb) i c] at hbit; cases hbit
        rw [e]; simp; omega
     have e1 : L ||| 1 <<< i = 2 ^ (i + 1) - 1 := by
      refine Nat.eq_of_testBit_eq fun j => ?_
      rw [Xk, hLi, Nat.testBit_two_pow_sub_one, Nat.testBit_two_pow_sub_one]
      by_cases c : j = i
      · subst c; simp
      · by_cases c2 : j < i
        · have : j < i + 1 := by omega
          simp [c2, this]
        · have : ¬ j < i + 1 := by omega
          simp [c, c2, this]
     have e2 : (if L < 2 ^ m then SL L D (X.enc w) else S3 T K A q L (Ab ops.toList) (X.enc w)) = S3 T K A q (2 ^ i - 1) (Ab ops.toList) (X.enc w) := by
      split
      · rename_i hlt
        have : i = m := by
         rcases Nat.lt_or_ge m i with h | h
         · exfalso
           have h3 : 2 ^ (m + 1) ≤ 2 ^ i := Nat.pow_le_pow_right (by omega) h
           have h4 : 0 < 2 ^ m := Nat.pow_pos (by omega)
           have : 2 ^ (m + 1) = 2 * 2 ^ m := by rw [Nat.pow_succ]; omega
           omega
         · omega
        rw [this, hpre3]
        exact hpre L fun j hj => by rw [hLi, Nat.testBit_two_pow_sub_one, this]; simpa using hj
      · rw [hLi]
     have e3 : ¬ L ||| 1 <<< i < 2 ^ m := by
      rw [e1]
      have h3 : 2 ^ (m + 1) ≤ 2 ^ (i + 1) := Nat.pow_le_pow_right (by omega) (by omega)
      have h4 : 0 < 2 ^ m := Nat.pow_pos (by omega)
      have : 2 ^ (m + 1) = 2 * 2 ^ m := by rw [Nat.pow_succ]; omega
      omega
     obtain ⟨av, b1, b2⟩ := Ff.at2 (i0 := i) hrun (fun k p hk => A4n hk) (i := i) (o := o) (by omega) (at_ i o hoi)
     rw [e2, if_neg e3, e1]
     exact A0q hT b1 rfl b2 hAi hRV
   have hLm : L < 2 ^ m := Nat.lt_pow_two_of_testBit L fun j hj => by
    cases hb : L.testBit j with
    | false => rfl
    | true =>
     exfalso
     have hjn : j < ops.size := by
      rcases Nat.lt_or_ge j ops.size with h | h
      · exact h
      · rw [hbig j h] at hb; cases hb
     rw [all_ j hj hjn (.inl hb) i (by omega)] at hbit; cases hbit
   have hLm2 : L ||| 1 <<< i < 2 ^ m := Nat.lt_pow_two_of_testBit _ fun j hj => by
    rw [Xk, Nat.testBit_lt_two_pow (Nat.lt_of_lt_of_le hLm (Nat.pow_le_pow_right (by omega) hj))]
    have : j ≠ i := by omega
    simp [this]
   rw [if_pos hLm, if_pos hLm2]
   have hmemt : (i, o) ∈ (Ab ops.toList).take m := List.mem_of_getElem? (i := i) (by rw [List.getElem?_take, if_pos him]; exact at_ i o hoi)
   have hB := List.all_eq_true.1 h1 (i, o) hmemt
   unfold B0k at hB
   simp only [Bool.and_eq_true] at hB
   obtain ⟨⟨hnm, hK⟩, hB⟩ := hB
   cases hDi : Xx i D with
   | none => rw [hDi] at hB; cases hB
   | some Di =>
   rw [hDi] at hB
   simp only [Bool.and_eq_true] at hB
   obtain ⟨hsep, hnew⟩ := hB
   obtain ⟨d0, hm⟩ := Aak hDi
   obtain ⟨o', ho', hd0, _⟩ := ent _ hm
   simp only at ho' hd0
   rw [hoi] at ho'
   obtain rfl := Option.some.inj ho'
   subst hd0
   obtain ⟨g1, g2, g3⟩ := a2 _ hm
   simp only at g1 g2 g3
   have nodep : ∀ p ∈ D, L.testBit p.1 = true → ∀ o', A0 p.1 ((Ab ops.toList).take m) = some o' → Ti o' i = false := fun p hp hb o' ho' => by
    obtain ⟨o2, ho2, _, hlt⟩ := ent p hp
    rw [lk _ _ hlt ho2] at ho'
    obtain rfl := Option.some.inj ho'
    cases hd : Ti o2 i with
    | false => rfl
    | true =>
     obtain ⟨e, he, hbe, rfl⟩ := A9p hd
     rw [hcl p.1 o2 hb ho2 e he hbe] at hbit; cases hbit
   have depL : ∀ j, Ti o j = true → L.testBit j = true := fun j hd => by
    obtain ⟨e, he, hbe, rfl⟩ := A9p hd
    exact hdep e he hbe
   obtain ⟨mm, hm1, hm2⟩ := Adr L (Xd D)
   have inE : ∀ x, (Xd D).any (Nat.beq x) = true ↔ x ∈ Xd D := fun x => by
    constructor
    · intro h
      obtain ⟨y, hy, e⟩ := List.any_eq_true.1 h
      exact Nat.eq_of_beq_eq_true e ▸ hy
    · intro h; exact List.any_eq_true.2 ⟨x, h, Nat.beq_refl x⟩
   have hmask : mm ∈ Alw ((Ab ops.toList).take m) D (i, o) := by
    refine List.mem_filter.2 ⟨hm1, ?_⟩
    simp only [Bool.and_eq_true]
    refine ⟨?_, ?_⟩
    · rw [hm2, hbit]; simp
    · refine List.all_eq_true.2 fun r hr => ?_
      have anc := A9z (L := L) (i0 := i) (l0 := (Ab ops.toList).take m) (fun p hp hpi e he hbe => by
       have q3 := opsAt p (List.mem_of_mem_take hp)
       rcases hpi with h3 | h3
       · exact hcl p.1 p.2 h3 q3 e he hbe
       · rw [h3, hoi] at q3
         obtain rfl := Option.some.inj q3
         exact hdep e he hbe) (l := (Ab ops.toList).take m) (acc := []) (fun _ h => h) (fun r h => by simp at h) r hr
      have mL : mm.testBit r.1 = true → L.testBit r.1 = true := fun h3 => by
       rw [hm2] at h3
       simp only [Bool.and_eq_true] at h3
       exact h3.2
      simp only [Bool.and_eq_true]
      refine ⟨?_, ?_⟩
      · cases hmr : mm.testBit r.1 with
        | false => rfl
        | true =>
         cases hd : r.2.testBit i with
         | false => rfl
         | true => rw [anc (.inl (mL hmr)) i hd] at hbit; cases hbit
      · cases hmr : (Nat.beq r.1 i || mm.testBit r.1) with
        | false => rfl
        | true =>
         rw [Bool.not_true, Bool.false_or]
         refine List.all_eq_true.2 fun k hk => ?_
         cases hd : r.2.testBit k with
         | false => rfl
         | true =>
          have hri : L.testBit r.1 = true ∨ r.1 = i := by
           simp only [Bool.or_eq_true] at hmr
           rcases hmr with h3 | h3
           · exact .inr (Nat.eq_of_beq_eq_true h3)
           · exact .inl (mL h3)
          rw [hm2, anc hri k hd, (inE k).2 hk]; rfl
   have e1 := List.map_inj_left.1 h2 (i, o) hmemt
   have e2 := List.map_inj_left.1 e1 mm hmask
   simp only [hDi, B89] at e2
   have hbx : (SL L D (X.enc w)).boxes = (SL mm D (X.enc w)).boxes := Ahr rfl fun p hp he => by
    rw [hm2, (inE p.1).2 (List.mem_map.2 ⟨p, List.mem_filter.2 ⟨hp, he⟩, rfl⟩), Bool.true_and]
   have heff : Oj T (OA.at A i) (A0 i q) o (SL L D (X.enc w)) = some (Di.g, Di.av, Di.x, Di.e) := by
    unfold Ajp at hnm
    cases hq : Hu o with
    | none => rw [hq] at hnm; cases hnm
    | some xs =>
     rw [hq] at hnm
     simp only at hnm
     rw [← e2]
     refine Aoz hq (fun x hx => Awu fun t ht => ?_) hbx
     refine Alb rfl fun p hp hpt => ?_
     have := List.all_eq_true.1 (List.all_eq_true.1 hnm x hx) p hp
     rw [ht, hpt] at this
     simp only [eqO, Nat.beq_refl, Bool.not_true, Bool.false_or, Bool.and_eq_true] at this
     rw [depL p.1 this.1, Nat.testBit_two_pow_sub_one]
     have h3 : p.1 < i := by simpa [Nat.blt_eq] using this.2
     simp [h3]
   have hstep := Apo (K := K) heff (fun t ht => by rw [ht] at hK; exact hK) g3 (fun b k hb hk => by
    rw [hb, hk] at hnew
    simp only [Bool.and_eq_true] at hnew
    obtain ⟨⟨⟨n1, n2⟩, n3⟩, n4⟩ := hnew
    have key : ∀ p ∈ D, L.testBit p.1 = true → hdl p.2.1 p.2.2.e ≠ some k ∧ p.2.2.x.men k = false ∧ Aeh k p.2.2.e = false := fun p hp hpb => by
     have := List.all_eq_true.1 n4 p hp
     simp only [Bool.or_eq_true] at this
     rcases this with (h3 | h3) | h3
     · rw [Nat.eq_of_beq_eq_true h3, hbit] at hpb; cases hpb
     · simp only [Bool.and_eq_true, Bool.not_eq_true'] at h3
       exact ⟨Xa h3.1.1 k rfl, h3.1.2, h3.2⟩
     · exfalso
       split at h3
       · rename_i o2 ho2
         rw [nodep p hp hpb o2 ho2] at h3; cases h3
       · cases h3
    refine ⟨?_, n2, Ahq n3 fun p hp hpb => (key p hp hpb).2⟩
    rw [Aho (by simpa using n1) fun p hp hpb => (key p hp hpb).1]; rfl)
   have hadd : SL (L ||| 1 <<< i) D (X.enc w) = Fo o.dst Di (SL L D (X.enc w)) := Awr hnd hm hbit fun p hp hlt hpb => by
    have := List.all_eq_true.1 hsep p hp
    simp only [Bool.or_eq_true] at this
    rcases this with h3 | h3
    · have := Nat.eq_of_beq_eq_true h3; omega
    · simp only [Bool.and_eq_true, Bool.not_eq_true', Bool.or_eq_true] at h3
      refine ⟨Xa h3.1, ?_⟩
      rcases h3.2 with h4 | h4
      · exact Xa h4
      · exfalso
        obtain ⟨o2, ho2, _, hlt2⟩ := ent p hp
        rw [lk _ _ hlt2 ho2] at h4
        simp only [Bool.or_eq_true] at h4
        rcases h4 with h4 | h4
        · rw [nodep p hp hpb o2 (lk _ _ hlt2 ho2)] at h4; cases h4
        · obtain ⟨e, he, hbe, h5⟩ := A9p h4
          have := (chk (i, o) hmem).2.1 e he hbe
          simp only at this
          omega
   have e5 : (⟨Di.g, Di.av, Di.x, Di.e⟩ : Dat) = Di := rfl
   rw [e5, ← hadd, g1] at hstep
   exact A0q hT hstep rfl g2 hAi hRV
end Go.Ev

/- DERIVED. Regions that draw their order: both checks. -/
namespace Go.Ev
open Go
variable {P : Program} {T : Ty} {α : Type}
def Cj (T : Ty) (K : Ac) (A : List (Nat × OA)) (X : Tm) (ops : Array Oper) : Prop :=
 Ar5 A (Ab ops.toList) = true ∧ ∀ w q, WT A (Ab ops.toList) q → U0 T K A (Ab ops.toList) (X.enc w) q ∨ Alc T K A (Ab ops.toList) (X.enc w) q
theorem B5m (hT : Aq P T) (hfol : P.follows .mixedOrders = true) {K : Ac} {A : List (Nat × OA)} {X : Tm} {id : Nat} {ops : Array Oper} {nt : Nat} (hE : ∀ i a, A0 i A = some a → a.S P) (hF : Cj T K A X ops) {w : X.den} {k : St3 → Option α} {r : α}
  (h : Hw T K ops.toList A (Ab ops.toList) (X.enc w) k = some r) : ∃ s', Code.Den P K (.region id ops true) ((X.enc w).st nt) .normal (s'.st nt) ∧ k s' = some r := by
 obtain ⟨hchk, hfam⟩ := hF
 have chk : ∀ p ∈ Ab ops.toList, p.2.guard = none ∧ (∀ e ∈ p.2.after, Region.binds .any e = true → e.on < p.1) ∧ (OA.at A p.1).two = false := fun p hp => by
  have := List.all_eq_true.1 hchk p hp
  simp only [Bool.and_eq_true] at this
  obtain ⟨⟨h1, h2⟩, h3⟩ := this
  refine ⟨?_, fun e he hb => ?_, by cases hx : (OA.at A p.1).two with | false => rfl | true => rw [hx] at h3; cases h3⟩
  · cases hg : p.2.guard with
    | none => rfl
    | some _ => rw [hg] at h1; cases h1
  · have := List.all_eq_true.1 h2 e (by simpa using he)
    rw [hb] at this
    simpa [Nat.blt_eq] using this
 have hnod : ((Ab ops.toList).map (·.1)).Nodup := by
  have : (Ab ops.toList).map (·.1) = List.range ops.toList.length := by
   apply List.ext_getElem?
   intro j
   simp only [Ab, List.map_map, List.getElem?_map, List.getElem?_zipIdx]
   by_cases hj : j < ops.toList.length
   · simp at hj; simp [hj]
   · simp at hj; simp [hj]
  rw [this]; exact List.nodup_range
 obtain ⟨q, s', hw, hk, hrun⟩ := A4v _ _ _ _ hnod (fun p hp => (chk p hp).1) (fun p hp => (chk p hp).2.2) h
 refine ⟨s', ?_, hk⟩
 rcases hfam w q hw with hfam | hlite
 rotate_left
 · exact Ay0 hT hfol hE hchk hw hlite hrun
 have hsz : (Ab ops.toList).length = ops.size := by simp [Ab]
 have at_ : ∀ (i : Nat) (o : Oper), ops[i]? = some o → (Ab ops.toList)[i]? = some (i, o) := fun i o hi => by
  obtain ⟨h1, h2⟩ := Array.getElem?_eq_some_iff.1 hi
  simp [Ab, List.getElem?_zipIdx, h1, h2]
 have h0 : S3 T K A q 0 (Ab ops.toList) (X.enc w) = X.enc w := Lk fun p _ => by simp
 have hfull : S3 T K A q (2 ^ ops.size - 1) (Ab ops.toList) (X.enc w) = s' := A75 hrun fun p hp => by
  obtain ⟨j, hj⟩ := List.getElem?_of_mem hp
  have := (C4 hj).1
  have hlt := (List.getElem?_eq_some_iff.1 hj).1
  rw [Nat.testBit_two_pow_sub_one]
  simp only [decide_eq_true_eq]
  omega
 have := Aas (P := P) hfol (K := K) (id := id) (ops := ops) (S := fun L => (S3 T K A q L (Ab ops.toList) (X.enc w)).st nt)
  (fun i o hi => (chk (i, o) (List.mem_of_getElem? (at_ i o hi))).2.1) (fun L i o hbig hcl hoi hbit hdep => ?_)
 · simp only [h0, hfull] at this
   exact this
 · have hmem := List.mem_of_getElem? (at_ i o hoi)
   refine ⟨(chk (i, o) hmem).1, ?_⟩
   have hLd : L ∈ Kq (Ab ops.toList) [0] := by
    have := Aai (L := L) (Ab ops.toList) 0 [0] (fun k p hk => ?_) (by simp [Nat.mod_one])
    · have e : L % 2 ^ (0 + (Ab ops.toList).length) = L := by
       refine Nat.eq_of_testBit_eq fun j => ?_
       rw [Nat.testBit_mod_two_pow, hsz, Nat.zero_add]
       by_cases hj : j < ops.size
       · simp [hj]
       · rw [hbig j (by omega)]; simp
      rw [e] at this; exact this
    · obtain ⟨h1, h2⟩ := C4 hk
      refine ⟨by omega, (chk p (List.mem_of_getElem? hk)).2.1, fun hb e he hbe => hcl p.1 p.2 hb ?_ e he hbe⟩
      rw [h1]
      simpa using h2
   have hrd : (i, o) ∈ rdy (Ab ops.toList) L := by
    refine List.mem_filter.2 ⟨hmem, ?_⟩
    simp only [hbit, Bool.not_false, Bool.true_and]
    unfold A6s
    refine List.all_eq_true.2 fun e he => ?_
    cases hbe : Region.binds .any e with
    | false => rfl
    | true => simpa using hdep e (by simpa using he) hbe
   have e1 := List.map_inj_left.1 hfam L hLd
   have e2 := List.map_inj_left.1 e1 (i, o) hrd
   obtain ⟨av, s1, b1, b2⟩ := Ff.at (i0 := i) hrun (fun k p hk => A4n hk) (i := i) (o := o) (by omega) (at_ i o hoi)
   simp only [b1, Option.map_some] at e2
   have hAi : (OA.at A i).S P := by
    unfold OA.at
    cases hl : A0 i A with
    | none => exact ⟨(fun E h => by cases h), (fun E h => by cases h), (fun E h => by cases h)⟩
    | some a => exact hE i a hl
   refine A0q hT e2 rfl b2 hAi ?_
   unfold RV.S
   split
   · rename_i E z hz
     exact hAi.2.1 E (WT.bx hw hz)
   · trivial
end Go.Ev

/- DERIVED. Code, loops and functions over shapes. -/
namespace Go.Ev
open Go
variable {P : Program} {T : Ty} {α : Type}
def LO.Sound (P : Program) (K : Ac) (L : LO α) (c : Code) : Prop :=
 ∀ (nt : Nat) (v : L.H.den) (k : Exit → St3 → Option α) (r : α), L.run v (Of k L.outs) = some r → ∃ x s', Code.Den P K c ((L.H.enc v).st nt) x (s'.st nt) ∧ k x s' = some r
def Aa : Code → List (Nat × Code)
 | .seq c d => Aa c ++ Aa d
 | .cond _ c d => Aa c ++ Aa d
 | .block _ c => Aa c
 | .loop c => [(Bz c, .loop c)]
 | .rangeFunc f ps a b => [(match Bz a with | 0 => Bz b | n + 1 => n + 1, .rangeFunc f ps a b)]
 | _ => []
def B1 : Code → List (Nat × Array Oper)
 | .seq c d => B1 c ++ B1 d
 | .cond _ c d => B1 c ++ B1 d
 | .block _ c => B1 c
 | .region id ops true => [(id, ops)]
 | _ => []
def Ak : Code → Array Oper
 | .region _ ops _ => ops
 | _ => #[]
structure D3.OK (P : Program) (T : Ty) (K : Ac) (D : D3 α) (c : Code) : Prop where
 ent : ∀ id A, A0 id D.reg = some A → ∀ i a, A0 i A.ops = some a → a.S P
 loop : ∀ p ∈ Aa c, ∀ L, A0 p.1 D.loop = some L → L.Sound P K p.2
 any : ∀ p ∈ B1 c, ∀ X, A0 p.1 D.any = some X → Cj T K ((A0 p.1 D.reg).getD {}).ops X p.2
def C3 : List (Nat × OA) → List (Ent ⊕ Ent3)
 | [] => []
 | (_, a) :: r => a.alt.map .inr ++ match a.ent with
  | some E => .inl E :: (match a.entB with
   | some F => .inr F :: C3 r
   | none => C3 r)
  | none => match a.entB with
   | some E => .inr E :: C3 r
   | none => C3 r
def Ad : List (Nat × RA) → List (Ent ⊕ Ent3)
 | [] => []
 | (_, A) :: r => C3 A.ops ++ Ad r
def Bam (P : Program) : Ent ⊕ Ent3 → Prop
 | .inl E => E.Sound P
 | .inr E => E.Sound P
def Al (P : Program) : List (Ent ⊕ Ent3) → Prop
 | [] => True
 | .inl E :: r => E.Sound P ∧ Al P r
 | .inr E :: r => E.Sound P ∧ Al P r
def Aa6 (P : Program) (K : Ac) (D : D3 α) : List (Nat × Code) → Prop
 | [] => True
 | p :: r => (∀ L, A0 p.1 D.loop = some L → L.Sound P K p.2) ∧ Aa6 P K D r
theorem Al.mem : ∀ {l : List (Ent ⊕ Ent3)}, Al P l → ∀ E ∈ l, Bam P E
 | [], _, E, h => by cases h
 | .inl F :: r, hs, E, h => by
  rcases List.mem_cons.1 h with rfl | h
  · exact hs.1
  · exact Al.mem hs.2 E h
 | .inr F :: r, hs, E, h => by
  rcases List.mem_cons.1 h with rfl | h
  · exact hs.1
  · exact Al.mem hs.2 E h
theorem Aa6.mem {K : Ac} {D : D3 α} : ∀ {l : List (Nat × Code)}, Aa6 P K D l → ∀ p ∈ l, ∀ L, A0 p.1 D.loop = some L → L.Sound P K p.2
 | [], _, p, h => by cases h
 | q :: r, hs, p, h => by
  rcases List.mem_cons.1 h with rfl | h
  · exact hs.1
  · exact Aa6.mem hs.2 p h
theorem Do : ∀ {l : List (Nat × OA)} {i : Nat} {a : OA}, A0 i l = some a → (∀ E, a.ent = some E → Sum.inl E ∈ C3 l) ∧ (∀ E, a.entB = some E → Sum.inr E ∈ C3 l) ∧ ∀ E, E ∈ a.alt → Sum.inr E ∈ C3 l
 | [], _, _, h => by cases h
 | (j, b) :: r, i, a, h => by
  simp only [A0] at h
  cases hb : Nat.beq j i with
  | true =>
   rw [hb] at h
   obtain rfl := Option.some.inj h
   refine ⟨fun E he => ?_, fun E he => ?_, fun E he => by simp only [C3]; exact List.mem_append.2 (.inl (List.mem_map.2 ⟨E, he, rfl⟩))⟩
   · simp only [C3, he]; exact List.mem_append.2 (.inr List.mem_cons_self)
   · simp only [C3]
     refine List.mem_append.2 (.inr ?_)
     cases b.ent with
     | some F => simp only [he]; exact List.mem_cons_of_mem _ List.mem_cons_self
     | none => simp only [he]; exact List.mem_cons_self
  | false =>
   rw [hb] at h
   have := Do h
   have up : ∀ x, x ∈ C3 r → x ∈ C3 ((j, b) :: r) := by
    intro x hx
    simp only [C3]
    refine List.mem_append.2 (.inr ?_)
    split
    · split
      · exact List.mem_cons_of_mem _ (List.mem_cons_of_mem _ hx)
      · exact List.mem_cons_of_mem _ hx
    · split
      · exact List.mem_cons_of_mem _ hx
      · exact hx
   exact ⟨fun E he => up _ (this.1 E he), fun E he => up _ (this.2.1 E he), fun E he => up _ (this.2.2 E he)⟩
theorem Ej : ∀ {l : List (Nat × RA)} {id : Nat} {A : RA} {E : Ent ⊕ Ent3}, A0 id l = some A → E ∈ C3 A.ops → E ∈ Ad l
 | [], _, _, _, h, _ => by cases h
 | (j, B) :: r, id, A, E, h, he => by
  simp only [A0] at h
  simp only [Ad, List.mem_append]
  cases hb : Nat.beq j id with
  | true =>
   rw [hb] at h
   obtain rfl := Option.some.inj h
   exact .inl he
  | false =>
   rw [hb] at h
   exact .inr (Ej h he)
def Ahx (T : Ty) (K : Ac) (D : D3 α) : List (Nat × Array Oper) → Prop
 | [] => True
 | p :: r => (∀ X, A0 p.1 D.any = some X → Cj T K ((A0 p.1 D.reg).getD {}).ops X p.2) ∧ Ahx T K D r
theorem Ahx.mem {K : Ac} {D : D3 α} : ∀ {l : List (Nat × Array Oper)}, Ahx T K D l → ∀ p ∈ l, ∀ X, A0 p.1 D.any = some X → Cj T K ((A0 p.1 D.reg).getD {}).ops X p.2
 | [], _, p, hp => by cases hp
 | q :: r, h, p, hp => by
  rcases List.mem_cons.1 hp with rfl | hp
  · exact h.1
  · exact Ahx.mem h.2 p hp
theorem D3.OK.mk3a {K : Ac} {D : D3 α} {c : Code} {ls : List (Nat × Code)} {as : List (Nat × Array Oper)} (he : Al P (Ad D.reg)) (hl : Aa c = ls) (h : Aa6 P K D ls) (ha : B1 c = as) (h' : Ahx T K D as) : D3.OK P T K D c :=
 ⟨fun _ _ hA _ _ ha' => ⟨fun E hE => he.mem (.inl E) (Ej hA ((Do ha').1 E hE)), fun E hE => he.mem (.inr E) (Ej hA ((Do ha').2.1 E hE)), fun E hE => he.mem (.inr E) (Ej hA ((Do ha').2.2 E hE))⟩, fun p hp => h.mem p (by rw [← hl]; exact hp), fun p hp => h'.mem p (by rw [← ha]; exact hp)⟩
theorem D3.OK.mk3 {K : Ac} {D : D3 α} {c : Code} {ls : List (Nat × Code)} (he : Al P (Ad D.reg)) (hl : Aa c = ls) (h : Aa6 P K D ls) (ha : D.any = [] := by rfl) : D3.OK P T K D c :=
 ⟨fun _ _ hA _ _ ha' => ⟨fun E hE => he.mem (.inl E) (Ej hA ((Do ha').1 E hE)), fun E hE => he.mem (.inr E) (Ej hA ((Do ha').2.1 E hE)), fun E hE => he.mem (.inr E) (Ej hA ((Do ha').2.2 E hE))⟩, fun p hp => h.mem p (by rw [← hl]; exact hp), fun p _ X hX => by rw [ha] at hX; cases hX⟩
theorem A8 {K : Ac} {i : Nat} {l : List (Nat × LO α)} {L0 : LO α} {c : Code} (h : A0 i l = some L0) (hs : L0.Sound P K c) : ∀ L, A0 i l = some L → L.Sound P K c := fun L hL => by
 rw [h] at hL
 obtain rfl := Option.some.inj hL
 exact hs
theorem Den.weakT {K : Ac} {c : Code} {s : St} {s1 : St3} {x : Exit} {X : Tm} {w : X.den} {nt : Nat} (h : Code.Den P K c s x (s1.st nt)) (hd : X.dec s1 = some w) : Code.Den P K c s x ((X.enc w).st nt) :=
 Den.weak h fun _ _ _ _ hs => Tm.dec_ok hd hs
theorem Den.weakIn {K : Ac} {c : Code} {s : St3} {s' : St} {x : Exit} {X : Tm} {w : X.den} {nt : Nat} (h : Code.Den P K c ((X.enc w).st nt) x s') (hd : X.dec s = some w) : Code.Den P K c (s.st nt) x s' := by
 intro Γ wd E a ro n hK hdef hs
 obtain ⟨E', hs'⟩ := Tm.dec_ok hd hs
 exact h Γ wd E' a ro n hK hdef hs'
theorem D3.OK.left {K : Ac} {D : D3 α} {c d : Code} (h : D3.OK P T K D (.seq c d)) : D3.OK P T K D c := ⟨h.ent, fun p hp => h.loop p (List.mem_append.2 (.inl hp)), fun p hp => h.any p (List.mem_append.2 (.inl hp))⟩
theorem D3.OK.right {K : Ac} {D : D3 α} {c d : Code} (h : D3.OK P T K D (.seq c d)) : D3.OK P T K D d := ⟨h.ent, fun p hp => h.loop p (List.mem_append.2 (.inr hp)), fun p hp => h.any p (List.mem_append.2 (.inr hp))⟩
theorem N4 (hT : Aq P T) (hfol : P.follows .mixedOrders = true) {K : Ac} {D : D3 α} {nt : Nat} : ∀ (c : Code) (s : St3) (k : Exit → St3 → Option α) (r : α), D3.OK P T K D c → Bf P T K D c s k = some r →
  ∃ x s', Code.Den P K c (s.st nt) x (s'.st nt) ∧ k x s' = some r := by
 intro c
 induction c with
 | skip => intro s k r _ h; exact ⟨.normal, s, Den.skip, h⟩
 | region id ops draw =>
  intro s k r hD h
  simp only [Bf] at h
  have hEnt : ∀ i a, A0 i ((A0 id D.reg).getD {}).ops = some a → a.S P := fun i a hi => by
   cases hl : A0 id D.reg with
   | none => rw [hl] at hi; cases hi
   | some A => rw [hl] at hi; exact hD.ent id A hl i a hi
  split at h
  · rename_i X hX
    cases draw with
    | false => cases h
    | true =>
     simp only [cond] at h
     split at h
     · rename_i w hw
       obtain ⟨s', h1, h2⟩ := B5m (id := id) (nt := nt) hT hfol hEnt (hD.any (id, ops) (by simp [B1]) X hX) h
       exact ⟨.normal, s', Den.weakIn h1 hw, h2⟩
     · cases h
  · obtain ⟨s', h1, h2⟩ := B1k (id := id) (nt := nt) hT hfol hEnt h
    exact ⟨.normal, s', h1, h2⟩
 | seq c d ihc ihd =>
  intro s k r hD h
  simp only [Bf] at h
  split at h
  · obtain ⟨x, s1, h1, h2⟩ := ihc _ _ _ hD.left h
    cases x with
    | normal =>
     obtain ⟨y, s2, h3, h4⟩ := ihd _ _ _ hD.right h2
     exact ⟨y, s2, Den.seq h1 h3, h4⟩
    | _ => exact ⟨_, s1, Den.seqX (by simp) h1, h2⟩
  · rename_i X hX
    obtain ⟨x, s1, h1, h2⟩ := ihc _ _ _ hD.left h
    cases x with
    | normal =>
     simp only at h2
     split at h2
     · rename_i w hw
       obtain ⟨y, s2, h3, h4⟩ := ihd _ _ _ hD.right h2
       exact ⟨y, s2, Den.seq (Den.weakT h1 hw) h3, h4⟩
     · cases h2
    | _ => exact ⟨_, s1, Den.seqX (by simp) h1, h2⟩
 | cond c a b iha ihb =>
  intro s k r hD h
  cases c with
  | tmp t =>
   simp only [Bf] at h
   split at h
   · rename_i y hl
     have hl' := Aaf (nt := nt) hl
     cases y with
     | true =>
      simp only [cond] at h
      obtain ⟨x, s', h1, h2⟩ := iha _ _ _ (D3.OK.left (d := b) ⟨hD.ent, hD.loop, hD.any⟩) h
      rw [Iu hl] at h1
      exact ⟨x, s', Den.cond (b := true) rfl hl' h1, h2⟩
     | false =>
      simp only [cond] at h
      obtain ⟨x, s', h1, h2⟩ := ihb _ _ _ (D3.OK.right (c := a) ⟨hD.ent, hD.loop, hD.any⟩) h
      rw [Iu hl] at h1
      exact ⟨x, s', Den.cond (b := false) rfl hl' h1, h2⟩
   · cases h
  | const => simp [Bf] at h
  | global => simp [Bf] at h
  | func => simp [Bf] at h
 | block id c ih =>
  intro s k r hD h
  simp only [Bf] at h
  obtain ⟨x, s', h1, h2⟩ := ih _ _ _ ⟨hD.ent, hD.loop, hD.any⟩ h
  cases x with
  | exit j =>
   simp only at h2
   cases hb : Nat.beq j id with
   | true =>
    rw [hb] at h2
    obtain rfl := Nat.eq_of_beq_eq_true hb
    exact ⟨.normal, s', Den.blockX h1, h2⟩
   | false =>
    rw [hb] at h2
    exact ⟨.exit j, s', Den.block h1 (by intro e; injection e with e; subst e; simp at hb), h2⟩
  | _ => exact ⟨_, s', Den.block h1 (by simp), h2⟩
 | loop c ih =>
  intro s k r hD h
  simp only [Bf] at h
  split at h
  · rename_i L hL
    split at h
    · rename_i v hv
      obtain ⟨x, s', h1, h2⟩ := hD.loop _ (List.mem_singleton.2 rfl) L hL nt v k r h
      exact ⟨x, s', Den.weakIn h1 hv, h2⟩
    · cases h
  · cases h
 | rangeFunc f ps a b _ _ =>
  intro s k r hD h
  simp only [Bf] at h
  split at h
  · rename_i L hL
    split at h
    · rename_i v hv
      obtain ⟨x, s', h1, h2⟩ := hD.loop _ (List.mem_singleton.2 rfl) L hL nt v k r h
      exact ⟨x, s', Den.weakIn h1 hv, h2⟩
    · cases h
  · cases h
 | exit id => intro s k r _ h; exact ⟨.exit id, s, Den.exit, h⟩
 | ret => intro s k r _ h; exact ⟨.ret, s, Den.ret, h⟩
 | scope c _ => intro s k r _ h; simp [Bf] at h
 | label l => intro s k r _ h; simp [Bf] at h
 | goto l => intro s k r _ h; simp [Bf] at h
 | refuse w => intro s k r _ h; simp [Bf] at h
theorem Qn {k : Exit → St3 → Option α} {y : Exit} {s : St3} {r : α} : ∀ {l : List (Exit × Tm)}, Kh l (Of k l) y s = some r → ∃ (X : Tm) (w : X.den), X.dec s = some w ∧ k y (X.enc w) = some r
 | [], h => by cases h
 | (x, X) :: l, h => by
  simp only [Kh] at h
  cases hb : Exit.eqb x y with
  | true =>
   rw [hb] at h
   obtain rfl := Exit.eqb_eq hb
   simp only [cond] at h
   split at h
   · rename_i w hw; exact ⟨X, w, hw, h⟩
   · cases h
  | false =>
   rw [hb] at h
   exact Qn h
theorem B1p (hT : Aq P T) (hfol : P.follows .mixedOrders = true) {K : Ac} {D : D3 α} {c : Code} {H : Tm} {outs : List (Exit × Tm)} (B : H.den → (H.den → Option α) → KS α outs → Option α) (hD : D3.OK P T K D c)
  (hB : ∀ v f ks, Bf P T K D c (H.enc v) (A6z H outs f ks) = B v f ks) (n : Nat) : (⟨H, outs, A4 B n⟩ : LO α).Sound P K (.loop c) := by
 intro nt v k r h
 have key : ∀ (n : Nat) (v : H.den), A4 B n v (Of k outs) = some r → ∃ x s', G4 P K c ((H.enc v).st nt) x (s'.st nt) ∧ k x s' = some r := by
  intro n
  induction n with
  | zero => intro v h; cases h
  | succ n ih =>
   intro v h
   simp only [A4] at h
   rw [← hB] at h
   obtain ⟨x, s1, h1, h2⟩ := N4 hT hfol (nt := nt) _ _ _ _ hD h
   have out : ∀ x, x ≠ .normal → Code.Den P K c ((H.enc v).st nt) x (s1.st nt) → Kh outs (Of k outs) x s1 = some r → ∃ x s', G4 P K c ((H.enc v).st nt) x (s'.st nt) ∧ k x s' = some r := by
    intro x hx hd hp
    obtain ⟨X, w, hw, hk⟩ := Qn hp
    exact ⟨x, X.enc w, .last hx (Den.weakT hd hw), hk⟩
   cases x with
   | normal =>
    simp only [A6z] at h2
    split at h2
    · rename_i v' hv
      obtain ⟨y, s2, h3, h4⟩ := ih v' h2
      exact ⟨y, s2, .round (Den.weakT h1 hv) h3, h4⟩
    · cases h2
   | _ => exact out _ (by simp) h1 h2
 obtain ⟨x, s', h1, h2⟩ := key n v h
 exact ⟨x, s', Den.loop h1, h2⟩
theorem A0s {s : St3} {nt : Nat} {rv : ResultVar} {v : SV} (h : A7i T s rv = some v) (hs : v.s (A5 s.boxes) = .v (v.v (A5 s.boxes))) : ∃ obs, Lp T (s.st nt) rv = some (v.v (A5 s.boxes), obs) ∧ ∀ p ∈ obs, p := by
 unfold A7i at h
 split at h
 · rename_i t
   refine ⟨[], ?_, by simp⟩
   simp only [Lp, St3.st, Aj, h, Option.map_some, hs]
 · rename_i a ty
   split at h
   · rename_i hh row col ha
     split at h
     · rename_i e hf fz cs hl
       split at h
       · rename_i r hr
         obtain rfl := Option.some.inj h
         have hv : (s.st nt).val (.tmp a) = .v (.one (.hp hh row col)) := Bj ha rfl
         unfold Xz at hr
         split at hr
         · cases hr
         · rename_i ti hti
           simp only [hl] at hr
           cases hb : (Nat.beq row 0 && Nat.ble (col + ti.size) cs.length && cs.all SV.cellB) with
           | false => rw [hb] at hr; cases hr
           | true =>
            rw [hb] at hr
            simp only [Bool.and_eq_true] at hb
            obtain rfl := Nat.eq_of_beq_eq_true hb.1.1
            simp only [cond, Option.map_eq_some_iff] at hr
            obtain ⟨z, hz, rfl⟩ := hr
            obtain ⟨h1, h2⟩ := Gc (L := A5 s.boxes) hz (Tx _ hb.2)
            rw [List.map_drop] at h1
            have hbx : (s.st nt).box hh = some ((B3.var e hf fz cs).box (A5 s.boxes)) := by
             show A0 hh (Ae (B3.box (A5 s.boxes)) s.boxes) = _
             rw [Bi, hl]; rfl
            refine ⟨[], ?_, by simp⟩
            simp only [Lp, hv, Gs, hti, hbx, B3.box, List.length_map, hb.1.2, Bool.not_false, Bool.and_true, Bool.and_self, cond, h1, Option.bind_some]
       · cases h
     · cases h
   · cases h
theorem Ajl {s : St3} {nt : Nat} {rv : ResultVar} {v : SV} {t : Sh} {q} (h : A7i T s rv = some v) (hc : Xh s.boxes t v = some (true, q)) : ∃ obs, Lp T (s.st nt) rv = some (v.v (A5 s.boxes), obs) ∧ ∀ p ∈ obs, p := by
 obtain ⟨x, ks⟩ := q
 exact A0s h (O3 hc rfl).1
theorem B1n {s : St3} {nt : Nat} {t : Sh} {rv : ResultVar} {g : Bool} {x : t.den} {ks : List Nat} (h : V5 T s rv t = some (g, x, ks)) (hg : g = true) :
  ∃ obs, Ht T (s.st nt) rv (some (t.v x)) = some (t.v x, obs, ks) ∧ (∀ p ∈ obs, p) ∧ ∀ k ∈ ks, k < 1000 ∧ (A0 k s.boxes).isSome = true := by
 subst hg
 unfold V5 at h
 split at h
 · rename_i v hv
   obtain ⟨obs, h1, h2⟩ := Ajl (nt := nt) hv h
   obtain ⟨_, ⟨ob, h3, h4⟩, h5⟩ := O3 h rfl
   have h3' : Ih (s.st nt).box (v.v (A5 s.boxes)) (t.v x) = some (ob, ks) := h3
   refine ⟨obs ++ ob, ?_, fun p hp => ?_, h5⟩
   · simp only [Ht, h1, h3']
   · rcases List.mem_append.1 hp with hp | hp
     · exact h2 p hp
     · exact h4 p hp
 · cases h
theorem Ax7 {s : St3} {nt : Nat} : ∀ {ts : List Sh} {rvs : List ResultVar} {x : HL ts} {g : Bool}, Hs T s ts rvs = some (g, x) → g = true →
  ∃ obs ks, D8 T (s.st nt) rvs ((B2 ts x).map some) = some (B2 ts x, obs, ks) ∧ (∀ p ∈ obs, p) ∧ ∀ k ∈ ks, k < 1000 ∧ (A0 k s.boxes).isSome = true := by
 have one : ∀ {t : Sh} {rv : ResultVar} {g : Bool} {x : t.den} {ks : List Nat}, V5 T s rv t = some (g, x, ks) → g = true →
   ∃ obs, Ht T (s.st nt) rv (some (t.v x)) = some (t.v x, obs, ks) ∧ (∀ p ∈ obs, p) ∧ ∀ k ∈ ks, k < 1000 ∧ (A0 k s.boxes).isSome = true := by
  intro t rv g x ks h hg
  subst hg
  unfold V5 at h
  split at h
  · rename_i v hv
    obtain ⟨obs, h1, h2⟩ := Ajl (nt := nt) hv h
    obtain ⟨_, ⟨ob, h3, h4⟩, h5⟩ := O3 h rfl
    have h3' : Ih (s.st nt).box (v.v (A5 s.boxes)) (t.v x) = some (ob, ks) := h3
    refine ⟨obs ++ ob, ?_, fun p hp => ?_, h5⟩
    · simp only [Ht, h1, h3']
    · rcases List.mem_append.1 hp with hp | hp
      · exact h2 p hp
      · exact h4 p hp
  · cases h
 intro ts
 induction ts with
 | nil =>
  intro rvs x g h hg
  cases rvs with
  | nil => exact ⟨[], [], rfl, by simp, by simp⟩
  | cons => simp [Hs] at h
 | cons t ts ih =>
  intro rvs x g h hg
  cases ts with
  | nil =>
   cases rvs with
   | nil => simp [Hs] at h
   | cons rv rvs =>
    cases rvs with
    | nil =>
     simp only [Hs] at h
     split at h
     · rename_i g1 y ks h1
       simp only [Option.some.injEq, Prod.mk.injEq] at h
       obtain ⟨rfl, rfl⟩ := h
       obtain ⟨obs, o1, o2, o3⟩ := one h1 hg
       refine ⟨obs ++ [], ks ++ [], ?_, by simpa using o2, by simpa using o3⟩
       simp only [B2, List.map_cons, List.map_nil, D8, List.headD_cons, o1]
     · cases h
    | cons => simp [Hs] at h
  | cons u r =>
   cases rvs with
   | nil => simp [Hs] at h
   | cons rv rvs =>
    simp only [Hs] at h
    split at h
    · rename_i g1 y ks g2 ys h1 h2
      simp only [Option.some.injEq, Prod.mk.injEq] at h
      obtain ⟨rfl, rfl⟩ := h
      simp only [Bool.and_eq_true] at hg
      obtain ⟨obs, o1, o2, o3⟩ := one h1 hg.1
      obtain ⟨obs', ks', p1, p2, p3⟩ := ih h2 hg.2
      refine ⟨obs ++ obs', ks ++ ks', ?_, fun p hp => ?_, fun k hk => ?_⟩
      · simp only [B2, List.map_cons, D8, List.headD_cons, List.tail_cons, o1]
        have : D8 T (s.st nt) rvs ((B2 (u :: r) ys).map some) = _ := p1
        rw [this]
      · rcases List.mem_append.1 hp with hp | hp
        · exact o2 p hp
        · exact p2 p hp
      · rcases List.mem_append.1 hk with hk | hk
        · exact o3 k hk
        · exact p3 k hk
    · cases h
theorem V4 : ∀ (vs : List SV) (L : Nat → Nat) (i : Nat), (∀ v ∈ vs, v.s L = .v (v.v L)) → Ae (SV.s L) (Ed i vs) = params i (vs.map (SV.v L))
 | [], _, _, _ => rfl
 | v :: r, L, i, h => by
  have ih := V4 r L (i + 1) fun x hx => h x (by simp [hx])
  simp only [Ed, Ae, List.map_cons, params] at ih ⊢
  rw [h v (by simp), ih]
theorem Apg {L : Nat → Nat} : ∀ (ts : List Sh) (x : HL ts), ∀ v ∈ Dt ts x, v.s L = .v (v.v L)
 | [], _, v, h => by cases h
 | [t], x, v, h => by
  simp only [Dt, List.mem_singleton] at h
  subst h
  rw [(Hn t x).2, (Hn t x).1]
 | t :: u :: r, x, v, h => by
  simp only [Dt, List.mem_cons] at h
  rcases h with rfl | h
  · rw [(Hn t x.1).2, (Hn t x.1).1]
  · exact Apg (u :: r) x.2 v (by simpa [Dt] using h)
theorem Avr (ts : List Sh) (x : HL ts) (nt : Nat) : (Xb ts x).st nt = { slots := params 0 (B2 ts x), boxes := [], nt := nt } := by
 simp only [Xb, St3.st]
 rw [V4 _ _ _ (Apg ts x), A0n]
 rfl
theorem B91 (hT : Aq P T) (hfol : P.follows .mixedOrders = true) {f : Nat} {fn : Func} {c : Code} {K : Ac} {ts rs : List Sh} {m : HL ts → Option (HL rs)} (D : D3 (HL rs))
  (hf : P.funcs[f]? = some fn) (hname : (fn.name == "runtime.NumGoroutine") = false) (hb : fn.body = some c) (hN : fn.ntmps = K.N) (hmv : K.mv = []) (hargs : ts.length ≤ K.N) (hD : D3.OK P T K D c)
  (h : ∀ x, Bf P T K D c (Xb ts x) (Axy T rs fn.results.toList) = m x) : (⟨f, ts, rs, m⟩ : Ent).Sound P := by
 intro nt x r hm
 have hm : m x = some r := hm
 rw [← h] at hm
 obtain ⟨e, s', h1, h2⟩ := N4 hT hfol (nt := nt) _ _ _ _ hD hm
 rw [Avr] at h1
 have key : ∀ e, e = .normal ∨ e = .ret → Code.Den P K c { slots := params 0 (B2 ts x), boxes := [], nt := nt } e (s'.st nt) → (match Hs T s' rs fn.results.toList with | some (g, y) => bif g then some y else none | none => none) = some r → Ip P f nt [] [] (B2 ts x) (Iw rs r) nt [] := by
  intro e he hd h2
  split at h2
  · rename_i g y hy
    cases g with
    | false => cases h2
    | true =>
     obtain rfl := Option.some.inj h2
     obtain ⟨obs, ks, o1, o2, o3⟩ := Ax7 (nt := nt) hy rfl
     exact Ar4 hT hf hname hb hN hmv (by rw [Aa8]; exact hargs) he hd o1 o2 (A48 o3) (A0m rs y)
  · cases h2
 cases e with
 | normal => exact key _ (.inl rfl) h1 h2
 | ret => exact key _ (.inr rfl) h1 h2
 | _ => cases h2
end Go.Ev

/- DERIVED. Functions that are handed boxes or hand out boxes, over shapes. -/
namespace Go.Ev
open Go
variable {P : Program} {T : Ty} {α : Type}
def J3 (T : Ty) (s : St3) : List PK → List ResultVar → Option (Bool × List Nat)
 | [], [] => some (true, [])
 | .im t :: r, rv :: rvs => match V5 T s rv t, J3 T s r rvs with
  | some (g, _, ks), some (g', ks') => some (g && g', ks ++ ks')
  | _, _ => none
 | _ :: r, _ :: rvs => J3 T s r rvs
 | _, _ => none
def Q9 (bs : List (Nat × B3)) (k : Nat) : (c : CK) → SV → Option (c.den × List (Nat × Nat))
 | .im t, v => bif t.one then (v.as false t).map fun x => (x, []) else none
 | .own e t, .hw h => match A0 h bs with
  | some (.arr e' sh false xs) => bif Nat.beq e e' then ((Sh.sl sh).to (.sl t) xs).map fun x => (x, [(k, h)]) else none
  | _ => none
 | .ptr e t, .hp h 0 0 => match A0 h bs with
  | some (.var e' true false cs) => bif Nat.beq e e' && cs.all SV.isD then (t.all false cs).map fun x => (x, [(k, h)]) else none
  | _ => none
 | .back j, .hw h => bif Nat.beq h j then some ((), []) else none
 | .emp t, v => match v.as false (.sl t) with
  | some [] => some ((), [])
  | _ => none
 | .tree e t, .hw h => match A0 h bs with
  | some (.tree e' sh false xs) => bif Nat.beq e e' then ((Sh.sl sh).to (.sl t) xs).map fun x => (x, [(k, h)]) else none
  | _ => none
 | _, _ => none
def Fm (bs : List (Nat × B3)) (k : Nat) : (cs : List CK) → List SV → Option (DC cs × List (Nat × Nat))
 | [], [] => some ((), [])
 | [c], [v] => Q9 bs k c v
 | c :: d :: r, v :: vs => match Q9 bs k c v, Fm bs (k + 1) (d :: r) vs with
  | some (x, q), some (y, q') => some ((x, y), q ++ q')
  | _, _ => none
 | _, _ => none
def A7g (T : Ty) (s : St3) (fbs : List (Nat × B3)) (k : Nat) : (p : PK) → ResultVar → Option (p.den × List (Nat × Nat))
 | .im t, rv => (V5 T s rv t).map fun q => (q.2.1, [])
 | .one c, rv => match A7i T s rv with
  | some v => Q9 fbs k c v
  | none => none
 | .mix cs, rv => match A7i T s rv with
  | some (.agg vs) => Fm fbs k cs vs
  | _ => none
def Nj (T : Ty) (s : St3) (fbs : List (Nat × B3)) (k : Nat) : (ps : List PK) → List ResultVar → Option (HP ps × List (Nat × Nat))
 | [], [] => some ((), [])
 | [p], [rv] => A7g T s fbs k p rv
 | p :: q :: r, rv :: rvs => match A7g T s fbs k p rv, Nj T s fbs (k + p.n) (q :: r) rvs with
  | some (x, l), some (y, l') => some ((x, y), l ++ l')
  | _, _ => none
 | _, _ => none
def Als (bs : List (Nat × B3)) (k : Nat) : (c : CK) → Option c.den
 | .own e t => match A0 k bs with
  | some (.arr e' sh false xs) => bif Nat.beq e e' then (Sh.sl sh).to (.sl t) xs else none
  | _ => none
 | .ptr e t => match A0 k bs with
  | some (.var e' true false cs) => bif Nat.beq e e' && cs.all SV.isD then t.all false cs else none
  | _ => none
 | .tree e t => match A0 k bs with
  | some (.tree e' sh false xs) => bif Nat.beq e e' then (Sh.sl sh).to (.sl t) xs else none
  | _ => none
 | _ => none
def Ad4 (bs : List (Nat × B3)) : (os : List (Nat × CK)) → Option (DO os)
 | [] => some ()
 | [p] => Als bs p.1 p.2
 | p :: q :: r => match Als bs p.1 p.2, Ad4 bs (q :: r) with
  | some x, some y => some (x, y)
  | _, _ => none
def Alu {rs : List PK} : (os : List (Nat × CK)) → HP rs → DO os → HR rs os
 | [], y, _ => y
 | _ :: _, y, z => (y, z)
theorem Axe {rs : List PK} : ∀ (os : List (Nat × CK)) (y : HP rs) (z : DO os), Kg (Alu os y z) = y ∧ B0g (Alu os y z) = z
 | [], _, _ => ⟨rfl, rfl⟩
 | _ :: _, _, _ => ⟨rfl, rfl⟩
def Qq (os : List (Nat × CK)) : List (Nat × Nat) := os.map fun p => (p.1, p.1)
def Am4 (T : Ty) (ts rs : List PK) (rvs : List ResultVar) (s : St3) : Option (Bool × HR rs (Af 1000 ts)) :=
 match J3 T s rs rvs with
 | some (g, ks) => match Nj T s (Cc s.boxes ks) 0 rs rvs, Ad4 (Cc s.boxes ks) (Af 1000 ts) with
  | some (y, q), some z => bif Dx (q ++ Qq (Af 1000 ts)) && Bt (Ca 0 rs y ++ bxO (Af 1000 ts) z) (q ++ Qq (Af 1000 ts)) && (q.all (fun p => Nat.blt p.2 1000) && (Af 1000 ts).all (fun p => Nat.blt p.1 2000)) && (rs.flatMap PK.backs).all (fun j => (A0 j (Ca 0 rs y)).isNone && (Af 1000 ts).any fun p => Nat.beq p.1 j) then
    some (g, Alu (Af 1000 ts) y z) else none
  | _, _ => none
 | none => none
def A7u (T : Ty) (ts : List PK) (rvs : List ResultVar) (s : St3) : (fs : List (List PK)) → Option (HF (Af 1000 ts) fs)
 | [] => none
 | [rs] => match Am4 T ts rs rvs s with
  | some (g, y) => bif g then some y else none
  | none => none
 | rs :: r :: q => match Am4 T ts rs rvs s with
  | some (g, y) => bif g then some (.inl y) else none
  | none => match A7u T ts rvs s (r :: q) with
   | some z => some (.inr z)
   | none => none
def Axx (T : Ty) (ts : List PK) (fs : List (List PK)) (rvs : List ResultVar) (x : Exit) (s : St3) : Option (HF (Af 1000 ts) fs) :=
 match x with
 | .normal => A7u T ts rvs s fs
 | .ret => A7u T ts rvs s fs
 | _ => none
section
variable {bs : List (Nat × B3)} {ρ L0 L' : Nat → Nat} {p : Nat → Bool}
theorem Tp {k : Nat} {c : CK} {v : SV} {x : c.den} {q : List (Nat × Nat)} (h : Q9 bs k c v = some (x, q)) (hL0 : A5 bs = L0)
  (hq : ∀ r ∈ q, ρ r.2 = r.1 ∧ p r.2 = true) (hbk : ∀ j ∈ c.backs, ρ j = j ∧ p j = true ∧ L' j = L0 j) (hL : ∀ k' b, (k', b) ∈ c.bx k x → L' k' = b.len) :
  v.cellB = true ∧ (v.c L0).ren ρ = (c.sv k x).c L' ∧ (v.c L0).okH p = true ∧ (c.sv k x).cellB = true ∧ Fq bs (c.bx k x) q := by
 unfold Q9 at h
 split at h
 · rename_i t
   cases ht : t.one with
   | false => rw [ht] at h; cases h
   | true =>
    rw [ht] at h
    simp only [cond, Option.map_eq_some_iff, Prod.mk.injEq] at h
    obtain ⟨y, hy, rfl, rfl⟩ := h
    obtain rfl := A4b hy
    exact ⟨ht, rfl, rfl, ht, fun k b hb => by cases hb⟩
 · rename_i e t hh
   split at h
   · rename_i e' sh xs hl
     cases he : Nat.beq e e' with
     | false => rw [he] at h; cases h
     | true =>
      rw [he] at h
      simp only [cond, Option.map_eq_some_iff, Prod.mk.injEq] at h
      obtain ⟨y, hy, rfl, rfl⟩ := h
      obtain ⟨rfl, rfl⟩ := D7 hy
      obtain rfl := Nat.eq_of_beq_eq_true he
      have hle : L0 hh = xs.length := by rw [← hL0]; simp [A5, hl, B3.len]
      have hk : L' k = xs.length := hL k (.arr e sh false xs) (by simp [CK.bx])
      obtain ⟨r1, r2⟩ := hq (k, hh) (by simp)
      refine ⟨rfl, ?_, r2, rfl, fun k' b hb => ?_⟩
      · simp only [SV.c, C.ren, CK.sv, hle, hk]
        rw [show ρ hh = k from r1]
      · simp only [CK.bx, List.mem_singleton, Prod.mk.injEq] at hb
        obtain ⟨rfl, rfl⟩ := hb
        exact ⟨hh, _, by simp, hl, rfl, fun _ _ => rfl, fun _ => ⟨rfl, rfl⟩⟩
   · cases h
 · rename_i e t hh
   split at h
   · rename_i e' cs hl
     cases he : (Nat.beq e e' && cs.all SV.isD) with
     | false => rw [he] at h; cases h
     | true =>
      rw [he] at h
      simp only [cond, Option.map_eq_some_iff, Prod.mk.injEq] at h
      obtain ⟨y, hy, rfl, rfl⟩ := h
      simp only [Bool.and_eq_true] at he
      obtain rfl := Nat.eq_of_beq_eq_true he.1
      obtain ⟨a1, _, _, a4⟩ := Cm hy
      obtain ⟨r1, r2⟩ := hq (k, hh) (by simp)
      refine ⟨rfl, ?_, r2, rfl, fun k' b hb => ?_⟩
      · simp only [SV.c, C.ren, CK.sv]
        rw [show ρ hh = k from r1]
      · simp only [CK.bx, List.mem_singleton, Prod.mk.injEq] at hb
        obtain ⟨rfl, rfl⟩ := hb
        refine ⟨hh, _, by simp, hl, rfl, fun L1 L2 => ?_, fun _ => ⟨rfl, rfl⟩⟩
        simp only [B3.box, a1, Kp, A9o, a4]
   · cases h
 · rename_i j hh
   cases he : Nat.beq hh j with
   | false => rw [he] at h; cases h
   | true =>
    rw [he] at h
    simp only [cond, Option.some.injEq, Prod.mk.injEq] at h
    obtain ⟨_, rfl⟩ := h
    obtain rfl := Nat.eq_of_beq_eq_true he
    obtain ⟨b1, b2, b3⟩ := hbk hh (by simp [CK.backs])
    refine ⟨rfl, ?_, b2, rfl, fun k b hb => by cases hb⟩
    simp only [SV.c, C.ren, CK.sv, b1, b3]
 · rename_i t
   split at h
   · rename_i ha
     cases h
     obtain rfl := A4b ha
     exact ⟨rfl, rfl, rfl, rfl, fun k b hb => by cases hb⟩
   · cases h
 · rename_i e t hh
   split at h
   · rename_i e' sh xs hl
     cases he : Nat.beq e e' with
     | false => rw [he] at h; cases h
     | true =>
      rw [he] at h
      simp only [cond, Option.map_eq_some_iff, Prod.mk.injEq] at h
      obtain ⟨y, hy, rfl, rfl⟩ := h
      obtain ⟨rfl, rfl⟩ := D7 hy
      obtain rfl := Nat.eq_of_beq_eq_true he
      have hle : L0 hh = xs.length := by rw [← hL0]; simp [A5, hl, B3.len]
      have hk : L' k = xs.length := hL k (.tree e sh false xs) (by simp [CK.bx])
      obtain ⟨r1, r2⟩ := hq (k, hh) (by simp)
      refine ⟨rfl, ?_, r2, rfl, fun k' b hb => ?_⟩
      · simp only [SV.c, C.ren, CK.sv, hle, hk]
        rw [show ρ hh = k from r1]
      · simp only [CK.bx, List.mem_singleton, Prod.mk.injEq] at hb
        obtain ⟨rfl, rfl⟩ := hb
        exact ⟨hh, _, by simp, hl, rfl, fun _ _ => rfl, fun _ => ⟨rfl, rfl⟩⟩
   · cases h
 · cases h
theorem A0d : ∀ {cs : List CK} {k : Nat} {vs : List SV} {x : DC cs} {q : List (Nat × Nat)}, Fm bs k cs vs = some (x, q) → A5 bs = L0 →
  (∀ r ∈ q, ρ r.2 = r.1 ∧ p r.2 = true) → (∀ j ∈ cs.flatMap CK.backs, ρ j = j ∧ p j = true ∧ L' j = L0 j) → (∀ k' b, (k', b) ∈ Kc k cs x → L' k' = b.len) →
  (vs.map (SV.c L0)).map (C.ren ρ) = (Uq k cs x).map (SV.c L') ∧ (vs.map (SV.c L0)).all (C.okH p) = true ∧ Fq bs (Kc k cs x) q
 | [], k, [], x, q, h, _, _, _, _ => ⟨rfl, rfl, fun k b hb => by cases hb⟩
 | [], k, _ :: _, _, _, h, _, _, _, _ => by simp [Fm] at h
 | [c], k, [], _, _, h, _, _, _, _ => by simp [Fm] at h
 | [c], k, [v], x, q, h, h0, hq, hbk, hL => by
  obtain ⟨_, h1, h2, _, h3⟩ := Tp (x := x) h h0 hq (by simpa using hbk) hL
  exact ⟨by simp only [List.map_cons, List.map_nil, Uq, h1], by simp only [List.map_cons, List.map_nil, List.all_cons, List.all_nil, h2, Bool.and_self], h3⟩
 | [c], k, v :: w :: r, _, _, h, _, _, _, _ => by simp [Fm] at h
 | c :: d :: r, k, [], _, _, h, _, _, _, _ => by simp [Fm] at h
 | c :: d :: r, k, v :: vs, x, q, h, h0, hq, hbk, hL => by
  simp only [Fm] at h
  split at h
  · rename_i x1 q1 y1 q2 h1 h2
    simp only [Option.some.injEq, Prod.mk.injEq] at h
    obtain ⟨rfl, rfl⟩ := h
    obtain ⟨_, a1, a2, _, a3⟩ := Tp h1 h0 (fun r hr => hq r (List.mem_append.2 (.inl hr))) (fun j hj => hbk j (by simp only [List.flatMap_cons, List.mem_append]; exact .inl hj)) (fun k' b hb => hL k' b (by simp only [Kc]; exact List.mem_append.2 (.inl hb)))
    obtain ⟨b1, b2, b3⟩ := A0d h2 h0 (fun r hr => hq r (List.mem_append.2 (.inr hr))) (fun j hj => hbk j (by rw [List.flatMap_cons]; exact List.mem_append.2 (.inr hj))) (fun k' b hb => hL k' b (by simp only [Kc]; exact List.mem_append.2 (.inr hb)))
    refine ⟨?_, ?_, a3.app b3⟩
    · simp only [List.map_cons, Uq, a1]
      rw [b1]
    · simp only [List.map_cons, List.all_cons, a2, b2, Bool.and_self]
  · cases h
theorem Ajk {s : St3} {nt : Nat} {k : Nat} {pk : PK} {rv : ResultVar} {x : pk.den} {q : List (Nat × Nat)} (h : A7g T s bs k pk rv = some (x, q)) (hL0 : A5 bs = A5 s.boxes)
  (hq : ∀ r ∈ q, ρ r.2 = r.1 ∧ p r.2 = true) (hbk : ∀ j ∈ pk.backs, ρ j = j ∧ p j = true ∧ L' j = A5 s.boxes j) (hL : ∀ k' b, (k', b) ∈ pk.bx k x → L' k' = b.len)
  {g : Bool} {ks : List Nat} (hk : J3 T s [pk] [rv] = some (g, ks)) (hg : g = true) :
  ∃ d xv obs, Ht T (s.st nt) rv d = some (xv, obs, ks) ∧ (∀ p ∈ obs, p) ∧ xv.ren ρ = (pk.sv k x).v L' ∧ xv.okH p = true ∧ Fq bs (pk.bx k x) q ∧ (pk.sv k x).s L' = .v ((pk.sv k x).v L') ∧ ∀ j ∈ ks, j < 1000 ∧ (A0 j s.boxes).isSome = true := by
 cases pk with
 | im t =>
  simp only [A7g, Option.map_eq_some_iff, Prod.mk.injEq] at h
  obtain ⟨⟨g1, y, ks1⟩, h1, rfl, rfl⟩ := h
  simp only [J3, h1, Option.some.injEq, Prod.mk.injEq, Bool.and_true, List.append_nil] at hk
  obtain ⟨rfl, rfl⟩ := hk
  obtain ⟨obs, a1, a2, a3⟩ := B1n (nt := nt) h1 hg
  refine ⟨_, _, obs, a1, a2, ?_, ?_, (fun k b hb => by cases hb), ?_, a3⟩
  · rw [show (PK.im t).sv k y = t.sv y from rfl, (Hn t y).1]
    unfold Sh.v
    cases t.one with
    | true => rfl
    | false =>
     simp only [cond, V.ren, List.map_map]
     rfl
  · unfold Sh.v
    cases t.one with
    | true => rfl
    | false => simp [V.okH, C.okH]
  · exact (Hn t y).2.trans (by rw [show (PK.im t).sv k y = t.sv y from rfl, (Hn t y).1])
 | one c =>
  simp only [J3, Option.some.injEq, Prod.mk.injEq] at hk
  obtain ⟨rfl, rfl⟩ := hk
  simp only [A7g] at h
  split at h
  · rename_i v hv
    obtain ⟨a1, a2, a3, a4, a5⟩ := Tp h hL0 hq hbk hL
    obtain ⟨obs, b1, b2⟩ := A0s (nt := nt) hv (by rw [(F9 a1).1, (F9 a1).2])
    refine ⟨none, v.v (A5 s.boxes), obs, by simp only [Ht, b1], b2, ?_, ?_, a5, ?_, by simp⟩
    · rw [(F9 a1).2]
      show V.one _ = (c.sv k x).v L'
      rw [(F9 a4).2, a2]
    · rw [(F9 a1).2]; exact a3
    · show (c.sv k x).s L' = .v ((c.sv k x).v L')
      rw [(F9 a4).1, (F9 a4).2]
  · cases h
 | mix cs =>
  simp only [J3, Option.some.injEq, Prod.mk.injEq] at hk
  obtain ⟨rfl, rfl⟩ := hk
  simp only [A7g] at h
  split at h
  · rename_i vs hv
    obtain ⟨a1, a2, a3⟩ := A0d h hL0 hq hbk hL
    obtain ⟨obs, b1, b2⟩ := A0s (nt := nt) hv rfl
    refine ⟨none, (SV.agg vs).v (A5 s.boxes), obs, by simp only [Ht, b1], b2, ?_, a2, a3, rfl, by simp⟩
    show V.agg _ = V.agg _
    rw [a1]
  · cases h
theorem Ae4 {s : St3} {nt : Nat} : ∀ {ps : List PK} {k : Nat} {rvs : List ResultVar} {x : HP ps} {q : List (Nat × Nat)}, Nj T s bs k ps rvs = some (x, q) → A5 bs = A5 s.boxes →
  (∀ r ∈ q, ρ r.2 = r.1 ∧ p r.2 = true) → (∀ j ∈ ps.flatMap PK.backs, ρ j = j ∧ p j = true ∧ L' j = A5 s.boxes j) → (∀ k' b, (k', b) ∈ Ca k ps x → L' k' = b.len) →
  ∀ {g : Bool} {ks : List Nat}, J3 T s ps rvs = some (g, ks) → g = true →
  ∃ ds xs obs, D8 T (s.st nt) rvs ds = some (xs, obs, ks) ∧ (∀ p ∈ obs, p) ∧ xs.map (V.ren ρ) = (Bo k ps x).map (SV.v L') ∧ xs.all (V.okH p) = true ∧ Fq bs (Ca k ps x) q ∧ (∀ v ∈ Bo k ps x, v.s L' = .v (v.v L')) ∧ ∀ j ∈ ks, j < 1000 ∧ (A0 j s.boxes).isSome = true
 | [], k, [], x, q, h, _, _, _, _, g, ks, hk, _ => by
  simp only [J3, Option.some.injEq, Prod.mk.injEq] at hk
  obtain ⟨_, rfl⟩ := hk
  exact ⟨[], [], [], rfl, by simp, rfl, rfl, (fun k b hb => by cases hb), by simp [Bo], by simp⟩
 | [], k, _ :: _, _, _, h, _, _, _, _, _, _, _, _ => by simp [Nj] at h
 | [pk], k, [], _, _, h, _, _, _, _, _, _, _, _ => by simp [Nj] at h
 | [pk], k, [rv], x, q, h, h0, hq, hbk, hL, g, ks, hk, hg => by
  obtain ⟨d, xv, obs, a1, a2, a3, a4, a5, a6, a7⟩ := Ajk (nt := nt) (x := x) h h0 hq (by simpa using hbk) hL hk hg
  refine ⟨[d], [xv], obs ++ [], ?_, by simpa using a2, ?_, ?_, a5, ?_, a7⟩
  · simp only [D8, List.headD_cons, a1, List.append_nil]
  · simp only [List.map_cons, List.map_nil, Bo, a3]
  · simp [a4]
  · simpa [Bo] using a6
 | [pk], k, rv :: w :: r, _, _, h, _, _, _, _, _, _, _, _ => by simp [Nj] at h
 | pk :: p2 :: r, k, [], _, _, h, _, _, _, _, _, _, _, _ => by simp [Nj] at h
 | pk :: p2 :: r, k, rv :: rvs, x, q, h, h0, hq, hbk, hL, g, ks, hk, hg => by
  simp only [Nj] at h
  split at h
  · rename_i x1 q1 y1 q2 h1 h2
    simp only [Option.some.injEq, Prod.mk.injEq] at h
    obtain ⟨rfl, rfl⟩ := h
    obtain ⟨g1, ks1, g2, ks2, e1, e2, rfl, rfl⟩ : ∃ g1 ks1 g2 ks2, J3 T s [pk] [rv] = some (g1, ks1) ∧ J3 T s (p2 :: r) rvs = some (g2, ks2) ∧ g = (g1 && g2) ∧ ks = ks1 ++ ks2 := by
     cases pk with
     | im t =>
      simp only [J3] at hk
      split at hk
      · rename_i g1 a ks1 g2 ks2 i1 i2
        simp only [Option.some.injEq, Prod.mk.injEq] at hk
        exact ⟨g1, ks1, g2, ks2, by simp [J3, i1], i2, hk.1.symm, hk.2.symm⟩
      · cases hk
     | one c => exact ⟨true, [], g, ks, rfl, hk, by simp, rfl⟩
     | mix cs => exact ⟨true, [], g, ks, rfl, hk, by simp, rfl⟩
    simp only [Bool.and_eq_true] at hg
    obtain ⟨d, xv, obs, a1, a2, a3, a4, a5, a6, a7⟩ := Ajk (nt := nt) h1 h0 (fun r hr => hq r (List.mem_append.2 (.inl hr))) (fun j hj => hbk j (by rw [List.flatMap_cons]; exact List.mem_append.2 (.inl hj))) (fun k' b hb => hL k' b (by simp only [Ca]; exact List.mem_append.2 (.inl hb))) e1 hg.1
    obtain ⟨ds, xs, obs', b1, b2, b3, b4, b5, b6, b7⟩ := Ae4 (nt := nt) h2 h0 (fun r hr => hq r (List.mem_append.2 (.inr hr))) (fun j hj => hbk j (by rw [List.flatMap_cons]; exact List.mem_append.2 (.inr hj))) (fun k' b hb => hL k' b (by simp only [Ca]; exact List.mem_append.2 (.inr hb))) e2 hg.2
    refine ⟨d :: ds, xv :: xs, obs ++ obs', ?_, fun p hp => (List.mem_append.1 hp).elim (a2 p) (b2 p), ?_, ?_, a5.app b5, ?_, fun j hj => (List.mem_append.1 hj).elim (a7 j) (b7 j)⟩
    · simp only [D8, List.headD_cons, List.tail_cons, a1, b1]
    · simp only [List.map_cons, Bo, a3, b3]
    · simp only [List.all_cons, a4, b4, Bool.and_self]
    · simpa [Bo] using ⟨a6, b6⟩
  · cases h
end
end Go.Ev

/- DERIVED. THE USE for a function that is handed boxes or hands out boxes. -/
namespace Go.Ev
open Go
variable {P : Program} {T : Ty} {α : Type}
theorem Ajo {bs : List (Nat × B3)} {k : Nat} {c : CK} {x : c.den} (h : Als bs k c = some x) : Fq bs (c.bx k x) [(k, k)] := by
 unfold Als at h
 split at h
 · rename_i e t
   split at h
   · rename_i e' sh xs hl
     cases he : Nat.beq e e' with
     | false => rw [he] at h; cases h
     | true =>
      rw [he] at h
      obtain ⟨rfl, rfl⟩ := D7 h
      obtain rfl := Nat.eq_of_beq_eq_true he
      intro k' b hb
      simp only [CK.bx, List.mem_singleton, Prod.mk.injEq] at hb
      obtain ⟨rfl, rfl⟩ := hb
      exact ⟨_, _, by simp, hl, rfl, fun _ _ => rfl, fun _ => ⟨rfl, rfl⟩⟩
   · cases h
 · rename_i e t
   split at h
   · rename_i e' cs hl
     cases he : (Nat.beq e e' && cs.all SV.isD) with
     | false => rw [he] at h; cases h
     | true =>
      rw [he] at h
      simp only [cond] at h
      simp only [Bool.and_eq_true] at he
      obtain rfl := Nat.eq_of_beq_eq_true he.1
      obtain ⟨a1, _, _, a4⟩ := Cm h
      intro k' b hb
      simp only [CK.bx, List.mem_singleton, Prod.mk.injEq] at hb
      obtain ⟨rfl, rfl⟩ := hb
      refine ⟨_, _, by simp, hl, rfl, fun L1 L2 => ?_, fun _ => ⟨rfl, rfl⟩⟩
      simp only [B3.box, a1, Kp, A9o, a4]
   · cases h
 · rename_i e t
   split at h
   · rename_i e' sh xs hl
     cases he : Nat.beq e e' with
     | false => rw [he] at h; cases h
     | true =>
      rw [he] at h
      obtain ⟨rfl, rfl⟩ := D7 h
      obtain rfl := Nat.eq_of_beq_eq_true he
      intro k' b hb
      simp only [CK.bx, List.mem_singleton, Prod.mk.injEq] at hb
      obtain ⟨rfl, rfl⟩ := hb
      exact ⟨_, _, by simp, hl, rfl, fun _ _ => rfl, fun _ => ⟨rfl, rfl⟩⟩
   · cases h
 · cases h
theorem Aeb {bs : List (Nat × B3)} : ∀ {os : List (Nat × CK)} {z : DO os}, Ad4 bs os = some z → Fq bs (bxO os z) (Qq os)
 | [], z, _ => fun k b hb => by cases hb
 | [p], z, h => Ajo (c := p.2) h
 | p :: q :: r, z, h => by
  simp only [Ad4] at h
  split at h
  · rename_i x y h1 h2
    obtain rfl := Option.some.inj h
    exact Fq.app (q := [(p.1, p.1)]) (Ajo h1) (Aeb h2)
  · cases h
theorem Azu : ∀ {cs : List CK} {k : Nat} {x : DC cs} {k' : Nat} {b : B3}, (k', b) ∈ Kc k cs x → ∃ c, (k', c) ∈ Alr k cs := by
 have one : ∀ {c : CK} {k : Nat} {x : c.den} {k' : Nat} {b : B3}, (k', b) ∈ c.bx k x → ∃ d, (k', d) ∈ c.owns k := by
  intro c k x k' b h
  cases c <;> simp [CK.bx, CK.owns] at h ⊢ <;> exact h.1
 intro cs
 induction cs with
 | nil => intro k x k' b h; cases h
 | cons c r ih =>
  intro k x k' b h
  cases r with
  | nil =>
   obtain ⟨d, hd⟩ := one (c := c) h
   exact ⟨d, List.mem_append.2 (.inl hd)⟩
  | cons d r =>
   simp only [Kc] at h
   rcases List.mem_append.1 h with h | h
   · obtain ⟨d, hd⟩ := one h
     exact ⟨d, List.mem_append.2 (.inl hd)⟩
   · obtain ⟨d, hd⟩ := ih h
     exact ⟨d, List.mem_append.2 (.inr hd)⟩
theorem Azt : ∀ {ps : List PK} {k : Nat} {x : HP ps} {k' : Nat} {b : B3}, (k', b) ∈ Ca k ps x → ∃ c, (k', c) ∈ Af k ps := by
 have one : ∀ {p : PK} {k : Nat} {x : p.den} {k' : Nat} {b : B3}, (k', b) ∈ p.bx k x → ∃ d, (k', d) ∈ p.owns k := by
  intro p k x k' b h
  cases p with
  | im t => cases h
  | one c => cases c <;> simp [PK.bx, PK.owns, CK.bx, CK.owns] at h ⊢ <;> exact h.1
  | mix cs => exact Azu (cs := cs) h
 intro ps
 induction ps with
 | nil => intro k x k' b h; cases h
 | cons p r ih =>
  intro k x k' b h
  cases r with
  | nil =>
   obtain ⟨d, hd⟩ := one (p := p) h
   exact ⟨d, List.mem_append.2 (.inl hd)⟩
  | cons d r =>
   simp only [Ca] at h
   rcases List.mem_append.1 h with h | h
   · obtain ⟨d, hd⟩ := one h
     exact ⟨d, List.mem_append.2 (.inl hd)⟩
   · obtain ⟨d, hd⟩ := ih h
     exact ⟨d, List.mem_append.2 (.inr hd)⟩
theorem B4n (L : Nat → Nat) : ∀ (ps : List PK) (k : Nat) (x : HP ps), ∀ v ∈ Bo k ps x, v.s L = .v (v.v L) := by
 have one : ∀ (p : PK) (k : Nat) (x : p.den), (p.sv k x).s L = .v ((p.sv k x).v L) := by
  intro p k x
  cases p with
  | im t => exact (Hn t x).2.trans (by rw [show (PK.im t).sv k x = t.sv x from rfl, (Hn t x).1])
  | one c => cases c <;> rfl
  | mix cs => rfl
 intro ps
 induction ps with
 | nil => intro k x v h; cases h
 | cons p r ih =>
  intro k x v h
  cases r with
  | nil =>
   simp only [Bo, List.mem_singleton] at h
   subst h
   exact one p k x
  | cons d r =>
   simp only [Bo, List.mem_cons] at h
   rcases h with rfl | h
   · exact one p k x.1
   · exact ih _ x.2 v (by simpa [Bo] using h)
theorem B59 {L : Nat → Nat} {vs : List SV} (h : ∀ v ∈ vs, v.s L = .v (v.v L)) : (Gf vs).s L = Cv (vs.map (SV.v L)) := by
 match vs, h with
 | [], _ => rfl
 | [x], h => exact h x (by simp)
 | x :: y :: r, _ => rfl
theorem Axn {ρ : Nat → Nat} (xs : List V) : (Cv xs).ren ρ = Cv (xs.map (V.ren ρ)) := by
 match xs with
 | [] => rfl
 | [x] => rfl
 | x :: y :: r => rfl
theorem Axo {p : Nat → Bool} {xs : List V} (h : xs.all (V.okH p) = true) : (Cv xs).okH p = true := by
 match xs, h with
 | [], _ => rfl
 | [x], h => simpa [Cv, S.okH] using h
 | x :: y :: r, h => simpa [Cv, S.okH] using h
def U3 (rn : List (Nat × Nat)) (h : Nat) : Nat := match Ik rn h with
 | some k => k
 | none => 0
theorem A01 {β : Type} : ∀ {l : List (Nat × β)} {k : Nat} {b : β}, (k, b) ∈ l → (A0 k l).isSome = true
 | [], _, _, h => by cases h
 | (k1, b1) :: r, k, b, h => by
  simp only [A0]
  cases hb : Nat.beq k1 k with
  | true => rfl
  | false =>
   rcases List.mem_cons.1 h with h | h
   · obtain ⟨rfl, rfl⟩ := Prod.mk.inj h
     simp at hb
   · exact A01 h
theorem Aeu (hT : Aq P T) {f : Nat} {fn : Func} {c : Code} {K : Ac} {nt : Nat} {ts rs : List PK} {x : HP ts} {e : Exit} {s : St3} {Y : HR rs (Af 1000 ts)}
  (hf : P.funcs[f]? = some fn) (hname : (fn.name == "runtime.NumGoroutine") = false) (hb : fn.body = some c) (hN : fn.ntmps = K.N) (hmv : K.mv = []) (hargs : (Bo 1000 ts x).length ≤ K.N)
  (he : e = .normal ∨ e = .ret) (hd : Code.Den P K c ((⟨Ed 0 (Bo 1000 ts x), Ca 1000 ts x⟩ : St3).st nt) e (s.st nt)) (h : Am4 T ts rs fn.results.toList s = some (true, Y)) :
  Iq.Den P ⟨f, ts, rs⟩ nt x Y := by
 unfold Am4 at h
 split at h
 case h_2 => cases h
 rename_i g ks hks
 split at h
 case h_2 => cases h
 rename_i y q z hy hz
 cases hc : (Dx (q ++ Qq (Af 1000 ts)) && Bt (Ca 0 rs y ++ bxO (Af 1000 ts) z) (q ++ Qq (Af 1000 ts)) && (q.all (fun p => Nat.blt p.2 1000) && (Af 1000 ts).all (fun p => Nat.blt p.1 2000)) && (rs.flatMap PK.backs).all (fun j => (A0 j (Ca 0 rs y)).isNone && (Af 1000 ts).any fun p => Nat.beq p.1 j)) with
 | false => rw [hc] at h; cases h
 | true =>
 rw [hc] at h
 simp only [cond, Option.some.injEq, Prod.mk.injEq] at h
 obtain ⟨rfl, rfl⟩ := h
 simp only [Bool.and_eq_true] at hc
 obtain ⟨⟨⟨c1, c2⟩, c3, c5⟩, c4⟩ := hc
 generalize hrn : q ++ Qq (Af 1000 ts) = rn at *
 obtain ⟨m1, m2⟩ := Axe (rs := rs) (Af 1000 ts) y z
 have hB : B4 ⟨f, ts, rs⟩ (Alu (Af 1000 ts) y z) = Ca 0 rs y ++ bxO (Af 1000 ts) z := by
  unfold B4
  rw [m1, m2]
 generalize hBd : Ca 0 rs y ++ bxO (Af 1000 ts) z = B at *
 have qrn : ∀ p ∈ q, p ∈ rn := fun p hp => by rw [← hrn]; exact List.mem_append.2 (.inl hp)
 have irn : ∀ p ∈ Qq (Af 1000 ts), p ∈ rn := fun p hp => by rw [← hrn]; exact List.mem_append.2 (.inr hp)
 have fwdm : ∀ k h, (k, h) ∈ rn → I0 rn k = h ∧ U3 rn h = k ∧ A0 k rn = some h := fun k h hm => by
  obtain ⟨e1, e2⟩ := Lu c1 hm
  exact ⟨by unfold I0; rw [e1], by unfold U3; rw [e2], e1⟩
 have outS : ∀ k, (A0 k (Bp B)).isSome = (A0 k rn).isSome := fun k => by
  unfold Bp
  rw [Aj, Option.isSome_map, Eg c2 k]
 have okP : ∀ k h, (k, h) ∈ rn → ((A0 (U3 rn h) (Bp B)).isSome && Nat.beq (I0 rn (U3 rn h)) h) = true := fun k h hm => by
  obtain ⟨e1, e2, e3⟩ := fwdm k h hm
  rw [e2, outS k, e3, e1]
  simp
 have hL' : ∀ k b, (k, b) ∈ B → A5 B k = b.len := fun k b hb => by
  have := V9 c2 c1 hb
  unfold A5
  rw [this]
 have hlf : A5 (Cc s.boxes ks) = A5 s.boxes := Dy ks s.boxes
 have hout := Aeb hz
 have hIdm : ∀ j, j ∈ rs.flatMap PK.backs → (j, j) ∈ Qq (Af 1000 ts) := fun j hj => by
  have h4 := List.all_eq_true.1 c4 j hj
  simp only [Bool.and_eq_true] at h4
  obtain ⟨p, hp, hpj⟩ := List.any_eq_true.1 h4.2
  obtain rfl := Nat.eq_of_beq_eq_true hpj
  exact List.mem_map.2 ⟨p, hp, rfl⟩
 have lenB : ∀ k h b, (k, b) ∈ B → (k, h) ∈ rn → ∀ b', A0 h (Cc s.boxes ks) = some b' → b'.len = b.len → A5 B k = A5 s.boxes h := fun k h b hb _ b' hb' hl => by
  rw [hL' k b hb, ← hl, ← hlf]
  unfold A5
  rw [hb']
 have hInB : Fq (Cc s.boxes ks) (bxO (Af 1000 ts) z) (Qq (Af 1000 ts)) := hout
 have hbk : ∀ j ∈ rs.flatMap PK.backs, U3 rn j = j ∧ ((A0 (U3 rn j) (Bp B)).isSome && Nat.beq (I0 rn (U3 rn j)) j) = true ∧ A5 B j = A5 s.boxes j := fun j hj => by
  have hm := irn _ (hIdm j hj)
  refine ⟨(fwdm j j hm).2.1, okP j j hm, ?_⟩
  have hS : (A0 j B).isSome = true := by rw [Eg c2 j, (fwdm j j hm).2.2]; rfl
  obtain ⟨b, hb⟩ := Option.isSome_iff_exists.1 hS
  have hmem := C7 hb
  have hmem' := hmem
  rw [← hBd] at hmem'
  rcases List.mem_append.1 hmem' with hm1 | hm1
  · have h4 := List.all_eq_true.1 c4 j hj
    simp only [Bool.and_eq_true, Option.isNone_iff_eq_none] at h4
    have := A01 hm1
    rw [h4.1] at this; cases this
  · obtain ⟨h', b', i1, i2, i3, _, _⟩ := hInB j b hm1
    obtain ⟨p, hp, hpe⟩ := List.mem_map.1 i1
    obtain ⟨rfl, rfl⟩ := Prod.mk.inj hpe
    exact lenB _ _ b hmem hm b' i2 i3
 obtain ⟨ds, xs, obs, a1, a2, a3, a4, a5, a6, a7⟩ := Ae4 (nt := nt) (ρ := U3 rn) (L' := A5 B) (p := fun h => (A0 (U3 rn h) (Bp B)).isSome && Nat.beq (I0 rn (U3 rn h)) h) hy hlf
  (fun r hr => ⟨(fwdm r.1 r.2 (qrn _ hr)).2.1, okP r.1 r.2 (qrn _ hr)⟩) hbk (fun k' b hb => hL' k' b (by rw [← hBd]; exact List.mem_append.2 (.inl hb))) hks rfl
 have hIn : Fq (Cc s.boxes ks) B rn := by rw [← hBd, ← hrn]; exact a5.app hout
 have hr : (Gf (Bo 0 rs y)).s (A5 B) = (Cv xs).ren (U3 rn) := by
  rw [B59 a6, Axn, a3]
 have hst : (⟨Ed 0 (Bo 1000 ts x), Ca 1000 ts x⟩ : St3).st nt = { slots := params 0 ((Bo 1000 ts x).map (SV.v (A5 (Ca 1000 ts x)))), boxes := Bp (Ca 1000 ts x), nt := nt } := by
  simp only [St3.st]
  rw [V4 _ _ _ (B4n _ ts 1000 x)]
  rfl
 rw [hst] at hd
 have hfin := Axz hT (bs' := Bp B) hf hname hb hN hmv (by rw [List.length_map]; exact hargs) he hd a1 a2 (A48 a7) (I0 rn) (U3 rn)
  (fun k b hb => ?_) (fun k k' hk hk' e => ?_) (Axo a4) (fun k b hb => ?_)
 · unfold Iq.Den
   rw [m1, hB, hr]
   exact hfin
 · unfold Bp at hb
   rw [Aj] at hb
   obtain ⟨b3, hb3, rfl⟩ := Option.map_eq_some_iff.1 hb
   obtain ⟨h', b', i1, i2, i3, i4, i5⟩ := hIn k b3 (C7 hb3)
   obtain ⟨e1, _, _⟩ := fwdm k h' i1
   refine ⟨?_, (i5 _).1, (i5 _).2, ?_⟩
   · show A0 (I0 rn k) (Bn (Ae (B3.box (A5 s.boxes)) s.boxes) ks) = _
     rw [I1, Aj, e1, i2]
     exact congrArg some (i4 _ _)
   · rw [e1]
     rw [← hrn] at i1
     rcases List.mem_append.1 i1 with i1 | i1
     · exact .inl (by simpa [Nat.blt_eq] using List.all_eq_true.1 c3 _ i1)
     · obtain ⟨p, hp5, hpe⟩ := List.mem_map.1 i1
       obtain ⟨rfl, rfl⟩ := Prod.mk.inj hpe
       exact .inr ⟨rfl, by simpa [Nat.blt_eq] using List.all_eq_true.1 c5 _ hp5⟩
 · rw [outS k] at hk
   rw [outS k'] at hk'
   obtain ⟨h1, e1⟩ := Option.isSome_iff_exists.1 hk
   obtain ⟨h2, e2⟩ := Option.isSome_iff_exists.1 hk'
   obtain ⟨f1, f2, _⟩ := fwdm k h1 (D9 e1)
   obtain ⟨f3, f4, _⟩ := fwdm k' h2 (D9 e2)
   rw [f1, f3] at e
   rw [← f2, ← f4, e]
 · unfold Bp at hb
   rw [Aj] at hb
   obtain ⟨b3, hb3, _⟩ := Option.map_eq_some_iff.1 hb
   obtain ⟨d, hd'⟩ := Azt (C7 hb3)
   have hm := irn (k, k) (List.mem_map.2 ⟨_, hd', rfl⟩)
   obtain ⟨e1, _, e3⟩ := fwdm k k hm
   exact ⟨e1, by rw [outS k, e3]; rfl, by simpa [Nat.blt_eq] using List.all_eq_true.1 c5 _ hd'⟩
theorem B5k (hT : Aq P T) (hfol : P.follows .mixedOrders = true) {f : Nat} {fn : Func} {c : Code} {K : Ac} {ts : List PK} {forms : List (List PK)} {m : HP ts → Option (HF (Af 1000 ts) forms)} (D : D3 (HF (Af 1000 ts) forms))
  (hf : P.funcs[f]? = some fn) (hname : (fn.name == "runtime.NumGoroutine") = false) (hb : fn.body = some c) (hN : fn.ntmps = K.N) (hmv : K.mv = []) (hargs : ts.length ≤ K.N) (hD : D3.OK P T K D c)
  (h : ∀ x, Bf P T K D c ⟨Ed 0 (Bo 1000 ts x), Ca 1000 ts x⟩ (Axx T ts forms fn.results.toList) = m x) : (⟨f, ts, forms, m⟩ : Ent3).Sound P := by
 intro nt x z hm
 have hm : m x = some z := hm
 rw [← h] at hm
 obtain ⟨e, s', h1, h2⟩ := N4 hT hfol (nt := nt) _ _ _ _ hD hm
 have hlen : (Bo 1000 ts x).length ≤ K.N := by
  have : ∀ (ps : List PK) (k : Nat) (x : HP ps), (Bo k ps x).length = ps.length := by
   intro ps
   induction ps with
   | nil => intro k x; rfl
   | cons p r ih =>
    intro k x
    cases r with
    | nil => rfl
    | cons d r => simp only [Bo, List.length_cons]; rw [ih]; rfl
  rw [this]; exact hargs
 have key : ∀ (fs : List (List PK)) (z : HF (Af 1000 ts) fs), e = .normal ∨ e = .ret → A7u T ts fn.results.toList s' fs = some z → Aa7 (Af 1000 ts) fs z fun rs y => Iq.Den P ⟨f, ts, rs⟩ nt x y := by
  intro fs
  induction fs with
  | nil => intro z _ _; trivial
  | cons rs r ih =>
   intro z he hz
   cases r with
   | nil =>
    simp only [A7u] at hz
    split at hz
    · rename_i g y hy
      cases g with
      | false => cases hz
      | true =>
       obtain rfl := Option.some.inj hz
       exact Aeu hT hf hname hb hN hmv hlen he h1 hy
    · cases hz
   | cons r q =>
    simp only [A7u] at hz
    split at hz
    · rename_i g y hy
      cases g with
      | false => cases hz
      | true =>
       obtain rfl := Option.some.inj hz
       exact Aeu hT hf hname hb hN hmv hlen he h1 hy
    · split at hz
      · rename_i w hw
        obtain rfl := Option.some.inj hz
        exact ih w he hw
      · cases hz
 cases e with
 | normal => exact key forms z (.inl rfl) h2
 | ret => exact key forms z (.inr rfl) h2
 | _ => cases h2
end Go.Ev

/- DERIVED. A range over what slices.Backward hands back, over shapes. -/
namespace Go.Ev
open Go
variable {P : Program} {T : Ty} {α : Type}
def Adh (p0 p1 i : Nat) (z : Int) (s : St3) : St3 := { s with slots := As p1 (.d (.int .i64) z) (As p0 (.d (.int .i64) (i : Int)) s.slots) }
def Zh (wr : Nat → Bool) (p0 p1 : Nat) (s : St3) : St3 := { s with slots := s.slots.filter fun p => !(wr p.1 || (Nat.beq p.1 p0 || Nat.beq p.1 p1)) }
theorem Apf {p0 p1 i : Nat} {z : Int} {s : St3} {nt : Nat} : (Adh p0 p1 i z s).st nt = Ng p0 p1 i z (s.st nt) := by
 simp only [Adh, St3.st, Ng, ← Eh]
 rfl
theorem A08 {β γ : Type} (f : β → γ) (q : Nat → Bool) : ∀ l : List (Nat × β), Ae f (l.filter fun p => q p.1) = (Ae f l).filter fun p => q p.1
 | [] => rfl
 | (j, y) :: r => by
  have ih := A08 f q r
  simp only [Ae] at ih
  simp only [Ae, List.map_cons, List.filter_cons]
  cases q j with
  | true => simp [ih]
  | false => simp [ih]
theorem Ahe {wr : Nat → Bool} {p0 p1 : Nat} {s : St3} {nt : Nat} : (Zh wr p0 p1 s).st nt = O8 wr p0 p1 (s.st nt) := by
 simp only [Zh, St3.st, O8]
 rw [A08 (q := fun k => !(wr k || (Nat.beq k p0 || Nat.beq k p1)))]
def Al4 (H : Tm) (outs : List (Exit × Tm)) (wr : Nat → Bool) (p0 p1 : Nat) (f : H.den → Option α) (ks : KS α outs) (x : Exit) (s : St3) : Option α :=
 match x with
 | .normal => match H.dec (Zh wr p0 p1 s) with
  | some v => f v
  | none => none
 | .ret => Kh outs ks .ret (Zh wr p0 p1 s)
 | .exit id => Kh outs ks (.exit id) (Zh wr p0 p1 s)
 | _ => none
def Apx (P : Program) (T : Ty) (K : Ac) (D : D3 α) (H : Tm) (outs : List (Exit × Tm)) (p0 p1 : Nat) (asg body : Code) (i : Nat) (z : Int) (v : H.den) (f : H.den → Option α) (ks : KS α outs) : Option α :=
 Bf P T K D asg (Adh p0 p1 i z (H.enc v)) fun x sA => match x with
  | .normal => Bf P T K D body sA (Al4 H outs (fun t => asg.wr t || body.wr t) p0 p1 f ks)
  | _ => none
def Ls {V Ks : Type} (zsOf : V → List Int) (B : Nat → Int → V → (V → Option α) → Ks → Option α) (zs : List Int) : Nat → V → (V → Option α) → Ks → Option α
 | 0, v, d, _ => d v
 | i + 1, v, d, ks => B i (zs.getD i 0) v (fun v' => gd (decide (zsOf v' = zs)) (Ls zsOf B zs i v' d ks)) ks
def Lr {V Ks : Type} (zsOf : V → List Int) (B : Nat → Int → V → (V → Option α) → Ks → Option α) (Dn : V → Ks → Option α) (v : V) (ks : Ks) : Option α :=
 gd (decide ((zsOf v).length ≤ 4611686018427387904)) (Ls zsOf B (zsOf v) (zsOf v).length v (fun v' => Dn v' ks) ks)
theorem Ak3 {g : Bool} {x : Option α} {r : α} (h : gd g x = some r) : g = true ∧ x = some r := by cases g with | true => exact ⟨rfl, h⟩ | false => cases h
theorem Tm.dec_weak {X : Tm} {s : St3} {w : X.den} {nt : Nat} (h : X.dec s = some w) : Xl (s.st nt) ((X.enc w).st nt) := fun _ _ _ _ hs => Tm.dec_ok h hs
theorem Ae7 (hT : Aq P T) (hfol : P.follows .mixedOrders = true) {K : Ac} {D : D3 α} {g p0 p1 fB : Nat} {asg body : Code} {H : Tm} {outs : List (Exit × Tm)} (zsOf : H.den → List Int)
  (B : Nat → Int → H.den → (H.den → Option α) → KS α outs → Option α) (Dn : H.den → KS α outs → Option α) (hBk : Ahw P fB) (hrA : asg.rf = false) (hrB : body.rf = false) (hp0 : Nat.blt p0 K.N = true) (hp1 : Nat.blt p1 K.N = true)
  (hDa : D3.OK P T K D asg) (hDb : D3.OK P T K D body) (hz : ∀ v, A0 g (H.enc v).slots = some (.d (.clo fB (.ref (.sl (.int .i64)))) (zsOf v)))
  (hB : ∀ i z v f ks, Apx P T K D H outs p0 p1 asg body i z v f ks = B i z v f ks) (hDn : ∀ v ks, Kh outs ks .normal (H.enc v) = Dn v ks) :
  (⟨H, outs, Lr zsOf B Dn⟩ : LO α).Sound P K (.rangeFunc (.tmp g) #[p0, p1] asg body) := by
 intro nt v k r h
 obtain ⟨hlen, h⟩ := Ak3 h
 simp only [decide_eq_true_eq] at hlen
 obtain ⟨Z, hZ⟩ : ∃ Z, Z = zsOf v := ⟨_, rfl⟩
 rw [← hZ] at h hlen
 have clo : ∀ v', zsOf v' = Z → A0 g ((H.enc v').st nt).slots = some (A9t fB Z) := fun v' e => by
  simp only [St3.st, Aj, hz v', Option.map_some, e]
  rfl
 have key : ∀ (i : Nat) (v : H.den), zsOf v = Z → Ls zsOf B Z i v (fun v' => Dn v' (Of k outs)) (Of k outs) = some r →
   ∃ x s1 X w, Ep P K g p0 p1 fB Z asg body i ((H.enc v).st nt) x (St3.st s1 nt) ∧ Tm.dec X s1 = some w ∧ k x (X.enc w) = some r := by
  intro i
  induction i with
  | zero =>
   intro v hv h
   simp only [Ls] at h
   rw [← hDn] at h
   obtain ⟨X, w, h1, h2⟩ := Qn h
   exact ⟨.normal, H.enc v, X, w, .done (clo v hv), h1, h2⟩
  | succ i ih =>
   intro v hv h
   simp only [Ls] at h
   rw [← hB] at h
   unfold Apx at h
   obtain ⟨x, sA, a1, a2⟩ := N4 hT hfol (nt := nt) _ _ _ _ hDa h
   rw [Apf] at a1
   cases x with
   | normal =>
    simp only at a2
    obtain ⟨y, s1, b1, b2⟩ := N4 hT hfol (nt := nt) _ _ _ _ hDb a2
    have out : (y = .ret ∨ ∃ id, y = .exit id) → Kh outs (Of k outs) y (Zh (fun t => asg.wr t || body.wr t) p0 p1 s1) = some r →
      ∃ x s1 X w, Ep P K g p0 p1 fB Z asg body (i + 1) ((H.enc v).st nt) x (St3.st s1 nt) ∧ Tm.dec X s1 = some w ∧ k x (X.enc w) = some r := by
     intro hy hp
     obtain ⟨X, w, h1, h2⟩ := Qn hp
     refine ⟨y, _, X, w, ?_, h1, h2⟩
     rw [Ahe]
     exact .stop (clo v hv) hy a1 b1
    cases y with
    | normal =>
     simp only [Al4] at b2
     split at b2
     · rename_i v' hv'
       obtain ⟨e1, e2⟩ := Ak3 b2
       obtain ⟨x, s2, X, w, c1, c2, c3⟩ := ih v' (by simpa using e1) e2
       exact ⟨x, s2, X, w, .round (clo v hv) a1 b1 (by rw [← Ahe]; exact Tm.dec_weak hv') c1, c2, c3⟩
     · cases b2
    | ret => exact out (.inl rfl) b2
    | exit id => exact out (.inr ⟨id, rfl⟩) b2
    | goto l => cases b2
    | panic c => cases b2
    | outgrown => cases b2
   | _ => cases a2
 obtain ⟨x, s1, X, w, c1, c2, c3⟩ := key Z.length v hZ.symm h
 have := Den.range hBk hlen hrA hrB (by simpa [Nat.blt_eq] using hp0) (by simpa [Nat.blt_eq] using hp1) c1
 exact ⟨x, X.enc w, Den.weak this (Tm.dec_weak c2), c3⟩
end Go.Ev
