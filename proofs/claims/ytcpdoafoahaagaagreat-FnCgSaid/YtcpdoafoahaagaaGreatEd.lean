/- DERIVED. The evaluator over shapes of data: calls, trees, all paths. -/
import Derived.Test.YtcpdoafoahaagaaGreatEc

set_option linter.all false
set_option linter.unusedVariables false
set_option linter.unusedSimpArgs false

/- DERIVED. What is settled, and results, over shapes; templates of states. -/
namespace Go.Ev
open Go
variable {P : Program} {T : Ty}
theorem Ac1 {bs : List (Nat × B3)} {t : Sh} {v : SV} {g : Bool} {x : t.den} {ks : List Nat} (ht : t.one = true) (h : Ez bs t v = some (g, x, ks)) (hg : g = true) :
  v.cellB = true ∧ (∃ ob, O4 (A0 · (Ae (B3.box (A5 bs)) bs)) (v.c (A5 bs)) (.i (hd1 (t.cells x))) = some (ob, ks) ∧ ∀ p ∈ ob, p) ∧ ∀ k ∈ ks, k < 1000 ∧ (A0 k bs).isSome = true := by
 unfold Ez at h
 split at h
 · rename_i hh
   split at h
   · rename_i t0
     split at h
     · rename_i e sh fz xs hl
       cases hk : Nat.blt hh 1000 with
       | false => rw [hk] at h; cases h
       | true =>
        rw [hk] at h
        simp only [cond, Option.map_eq_some_iff, Prod.mk.injEq] at h
        obtain ⟨y, hy, rfl, rfl, rfl⟩ := h
        obtain ⟨rfl, rfl⟩ := D7 hy
        have hle : A5 bs hh = xs.length := by simp [A5, hl, B3.len]
        refine ⟨rfl, ⟨[0 + A5 bs hh ≤ (xs.map fun y => (sh.cells y).map C.i).length, ((xs.map fun y => (sh.cells y).map C.i).drop 0).take (A5 bs hh) = (xs.map sh.cells).map (·.map .i)], ?_, ?_⟩, ?_⟩
        · simp only [O4, SV.c, Bi, hl, Option.map_some, B3.box, Sh.cells, hd1, Nat.beq_refl, Bool.not_false, Bool.and_true, Bool.and_self, cond]
        · simp only [List.mem_cons, List.not_mem_nil, or_false, forall_eq_or_imp, forall_eq]
          refine ⟨by simp [hle], ?_⟩
          rw [List.drop_zero, hle, List.take_of_length_le (by simp), List.map_map]
          rfl
        · intro k hk'
          simp only [List.mem_singleton] at hk'
          subst hk'
          exact ⟨by simpa [Nat.blt_eq] using hk, by rw [hl]; rfl⟩
     · cases h
   · cases h
 · rename_i hh off len
   split at h
   · rename_i t0
     split at h
     · rename_i e sh fz xs hl
       cases hk : Nat.blt hh 1000 with
       | false => rw [hk] at h; cases h
       | true =>
        rw [hk] at h
        simp only [cond, Option.map_eq_some_iff, Prod.mk.injEq] at h
        obtain ⟨y, hy, rfl, rfl, rfl⟩ := h
        obtain ⟨rfl, rfl⟩ := D7 hy
        simp only [decide_eq_true_eq] at hg
        refine ⟨rfl, ⟨[off + len ≤ (xs.map fun y => (sh.cells y).map C.i).length, ((xs.map fun y => (sh.cells y).map C.i).drop off).take len = (((xs.drop off).take len).map sh.cells).map (·.map .i)], ?_, ?_⟩, ?_⟩
        · simp only [O4, SV.c, Bi, hl, Option.map_some, B3.box, Sh.cells, hd1, Nat.beq_refl, Bool.not_false, Bool.and_true, Bool.and_self, cond]
        · simp only [List.mem_cons, List.not_mem_nil, or_false, forall_eq_or_imp, forall_eq]
          refine ⟨by simpa using hg, ?_⟩
          rw [List.map_map, List.map_take, List.map_drop]
          rfl
        · intro k hk'
          simp only [List.mem_singleton] at hk'
          subst hk'
          exact ⟨by simpa [Nat.blt_eq] using hk, by rw [hl]; rfl⟩
     · cases h
   · cases h
 · rename_i cs
   split at h
   · rename_i t0
     cases hd : cs.all SV.isD with
     | false => rw [hd] at h; cases h
     | true =>
      rw [hd] at h
      simp only [cond, Option.map_eq_some_iff, Prod.mk.injEq] at h
      obtain ⟨y, hy, rfl, rfl, rfl⟩ := h
      obtain ⟨_, _, h3, _⟩ := Cm hy
      refine ⟨hd, ⟨[C.i (.ref 0 (cs.map SV.i0)) = C.i (.ref 0 (t0.cells y))], rfl, by simp [h3 hd]⟩, by simp⟩
   · cases h
 · rename_i h1 h2 h3
   rw [ht] at h
   simp only [cond, Option.map_eq_some_iff, Prod.mk.injEq] at h
   obtain ⟨y, hy, rfl, rfl, rfl⟩ := h
   obtain ⟨q1, ob, q2, q3⟩ := Qb (L := A5 bs) ht hy
   refine ⟨No q1, ⟨ob, ?_, q3⟩, by simp⟩
   have hI : C1 (v.c (A5 bs)) = true := L5 (A7q q1)
   unfold O4
   split
   · rename_i he _
     rw [he] at hI; cases hI
   · rw [q2]; rfl
def Nf (bs : List (Nat × B3)) (cs : List SV) (ds : List I) (ks : List Nat) : Prop :=
 (∃ ob, E8 (A0 · (Ae (B3.box (A5 bs)) bs)) (cs.map (SV.c (A5 bs))) (ds.map .i) = some (ob, ks) ∧ ∀ p ∈ ob, p) ∧ ∀ k ∈ ks, k < 1000 ∧ (A0 k bs).isSome = true
theorem Nf.app {bs : List (Nat × B3)} : ∀ {cs cs' : List SV} {ds ds' : List I} {ks ks' : List Nat}, Nf bs cs ds ks → Nf bs cs' ds' ks' → Nf bs (cs ++ cs') (ds ++ ds') (ks ++ ks')
 | [], cs', [], ds', ks, ks', h, h' => by
  obtain ⟨⟨ob, h, _⟩, _⟩ := h
  simp only [List.map_nil, E8, Option.some.injEq, Prod.mk.injEq] at h
  obtain ⟨_, rfl⟩ := h
  exact h'
 | [], cs', d :: ds, ds', _, _, h, _ => by obtain ⟨⟨ob, h, _⟩, _⟩ := h; simp [E8] at h
 | c :: cs, cs', [], ds', _, _, h, _ => by obtain ⟨⟨ob, h, _⟩, _⟩ := h; simp [E8] at h
 | c :: cs, cs', d :: ds, ds', ks, ks', h, h' => by
  obtain ⟨⟨ob, h, ho⟩, hk⟩ := h
  simp only [List.map_cons, E8] at h
  split at h
  · rename_i p k q l h1 h2
    simp only [Option.some.injEq, Prod.mk.injEq] at h
    obtain ⟨rfl, rfl⟩ := h
    obtain ⟨⟨ob2, h3, ho2⟩, hk2⟩ := Nf.app (cs := cs) (ds := ds) (ks := l) ⟨⟨q, h2, fun x hx => ho x (List.mem_append.2 (.inr hx))⟩, fun k hk' => hk k (List.mem_append.2 (.inr hk'))⟩ h'
    refine ⟨⟨p ++ ob2, ?_, fun x hx => ?_⟩, fun j hj => ?_⟩
    · simp only [List.cons_append, List.map_cons, E8, h1, h3, List.append_assoc]
    · rcases List.mem_append.1 hx with hx | hx
      · exact ho x (List.mem_append.2 (.inl hx))
      · exact ho2 x hx
    · rw [List.append_assoc] at hj
      rcases List.mem_append.1 hj with hj | hj
      · exact hk j (List.mem_append.2 (.inl hj))
      · exact hk2 j hj
  · cases h
theorem B1u {bs : List (Nat × B3)} : ∀ (t : Sh) (cs : List SV) (g : Bool) (x : t.den) (ks : List Nat) (r : List SV), t.impB bs cs = some (g, x, ks, r) → g = true → ∃ pre, cs = pre ++ r ∧ Nf bs pre (t.cells x) ks ∧ pre.all SV.cellB = true := by
 have cell : ∀ (t : Sh) (c : SV) (r q : List SV) (g : Bool) (x : t.den) (ks : List Nat), t.one = true → (Ez bs t c).map (fun p => (p.1, p.2.1, p.2.2, r)) = some (g, x, ks, q) → g = true → ∃ pre, c :: r = pre ++ q ∧ Nf bs pre (t.cells x) ks ∧ pre.all SV.cellB = true := by
  intro t c r q g x ks ht h hg
  simp only [Option.map_eq_some_iff, Prod.mk.injEq] at h
  obtain ⟨⟨g', x', k'⟩, h1, rfl, rfl, rfl, rfl⟩ := h
  obtain ⟨hc, ⟨ob, h2, h3⟩, h4⟩ := Ac1 ht h1 hg
  refine ⟨[c], rfl, ⟨⟨ob ++ [], ?_, by simpa using h3⟩, h4⟩, by simp [hc]⟩
  rw [Q8 t x' ht]
  simp only [List.map_cons, List.map_nil, E8, h2, List.append_nil]
 intro t
 induction t with
 | pair a b iha ihb =>
  intro cs g x ks r h hg
  simp only [Sh.impB] at h
  split at h
  · rename_i g1 y k1 q h1
    split at h
    · rename_i g2 z k2 q' h2
      simp only [Option.some.injEq, Prod.mk.injEq] at h
      obtain ⟨rfl, rfl, rfl, rfl⟩ := h
      simp only [Bool.and_eq_true] at hg
      obtain ⟨p1, e1, c1, i1⟩ := iha _ _ _ _ _ h1 hg.1
      obtain ⟨p2, e2, c2, i2⟩ := ihb _ _ _ _ _ h2 hg.2
      exact ⟨p1 ++ p2, by rw [e1, e2, List.append_assoc], c1.app c2, by simp [i1, i2]⟩
    · cases h
  · cases h
 | st t ih => intro cs g x ks r h hg; exact ih _ _ _ _ _ h hg
 | unit =>
  intro cs g x ks r h _
  simp only [Sh.impB, Option.some.injEq, Prod.mk.injEq] at h
  obtain ⟨_, _, rfl, rfl⟩ := h
  exact ⟨[], rfl, ⟨⟨[], rfl, by simp⟩, by simp⟩, rfl⟩
 | int k => intro cs g x ks r h hg; cases cs with | nil => simp [Sh.impB] at h | cons c cs => exact cell _ _ _ _ _ _ _ rfl h hg
 | bool => intro cs g x ks r h hg; cases cs with | nil => simp [Sh.impB] at h | cons c cs => exact cell _ _ _ _ _ _ _ rfl h hg
 | str => intro cs g x ks r h hg; cases cs with | nil => simp [Sh.impB] at h | cons c cs => exact cell _ _ _ _ _ _ _ rfl h hg
 | nil => intro cs g x ks r h hg; cases cs with | nil => simp [Sh.impB] at h | cons c cs => exact cell _ _ _ _ _ _ _ rfl h hg
 | fn f => intro cs g x ks r h hg; cases cs with | nil => simp [Sh.impB] at h | cons c cs => exact cell _ _ _ _ _ _ _ rfl h hg
 | sl t _ => intro cs g x ks r h hg; cases cs with | nil => simp [Sh.impB] at h | cons c cs => exact cell _ _ _ _ _ _ _ rfl h hg
 | ref t _ => intro cs g x ks r h hg; cases cs with | nil => simp [Sh.impB] at h | cons c cs => exact cell _ _ _ _ _ _ _ rfl h hg
 | clo f c _ => intro cs g x ks r h hg; cases cs with | nil => simp [Sh.impB] at h | cons v cs => exact cell _ _ _ _ _ _ _ rfl h hg
theorem F9 {L : Nat → Nat} {v : SV} (h : v.cellB = true) : v.s L = .v (.one (v.c L)) ∧ v.v L = .one (v.c L) := by cases v <;> first | exact ⟨rfl, rfl⟩ | cases h
theorem O3 {bs : List (Nat × B3)} {t : Sh} {v : SV} {g : Bool} {x : t.den} {ks : List Nat} (h : Xh bs t v = some (g, x, ks)) (hg : g = true) :
  v.s (A5 bs) = .v (v.v (A5 bs)) ∧ (∃ ob, Ih (A0 · (Ae (B3.box (A5 bs)) bs)) (v.v (A5 bs)) (t.v x) = some (ob, ks) ∧ ∀ p ∈ ob, p) ∧ ∀ k ∈ ks, k < 1000 ∧ (A0 k bs).isSome = true := by
 unfold Xh at h
 cases ht : t.one with
 | true =>
  rw [ht] at h
  obtain ⟨hc, ⟨ob, h1, h2⟩, h3⟩ := Ac1 ht h hg
  obtain ⟨e1, e2⟩ := F9 (L := A5 bs) hc
  refine ⟨by rw [e1, e2], ⟨ob, ?_, h2⟩, h3⟩
  simp only [e2, Sh.v, ht, cond, Ih, h1]
 | false =>
  rw [ht] at h
  simp only [cond] at h
  split at h
  · rename_i cs
    split at h
    · rename_i g1 y k1 hi
      simp only [Option.some.injEq, Prod.mk.injEq] at h
      obtain ⟨rfl, rfl, rfl⟩ := h
      obtain ⟨pre, e, ⟨⟨ob, h1, h2⟩, h3⟩, _⟩ := B1u _ _ _ _ _ _ hi hg
      rw [List.append_nil] at e
      subst e
      refine ⟨rfl, ⟨ob, ?_, h2⟩, h3⟩
      simp only [SV.v, Sh.v, ht, cond, Ih, h1]
    · cases h
  · cases h
theorem A48 {bs : List (Nat × B3)} {L : Nat → Nat} {ks : List Nat} (h : ∀ k ∈ ks, k < 1000 ∧ (A0 k bs).isSome = true) : H3 (Ae (B3.box L) bs) ks = true := by
 unfold H3
 refine List.all_eq_true.2 fun k hk => ?_
 obtain ⟨h1, h2⟩ := h k hk
 rw [Aj, Option.isSome_map, h2]
 simpa [Nat.blt_eq] using h1
theorem Qj {s s' : St3} {nt : Nat} {t : Nat} {sh : Sh} {g : Bool} (h : Kx s t sh = some (g, s')) (hg : g = true) :
  ∃ (x' : V) (ob : List Prop), Uu (s.st nt) t x' = some (s'.st nt, ob) ∧ ∀ p ∈ ob, p := by
 unfold Kx at h
 split at h
 · rename_i v hv
   split at h
   · rename_i g1 x ks hc
     simp only [Option.some.injEq, Prod.mk.injEq] at h
     obtain ⟨rfl, rfl⟩ := h
     obtain ⟨h1, ⟨ob, h2, h3⟩, h4⟩ := O3 hc hg
     refine ⟨sh.v x, ob, ?_, h3⟩
     have hl : A0 t (s.st nt).slots = some (.v (v.v (A5 s.boxes))) := by
      simp only [St3.st, Aj, hv, Option.map_some, h1]
     have h2' : Ih (A0 · (s.st nt).boxes) (v.v (A5 s.boxes)) (sh.v x) = some (ob, ks) := h2
     have hz : H3 (s.st nt).boxes ks = true := A48 h4
     simp only [Uu, hl, h2', hz, cond, Option.some.injEq, Prod.mk.injEq, and_true]
     simp only [St3.st]
     congr 1
     · rw [Dy, ← (Hn (L := A5 s.boxes) sh x).2, Eh]
     · rw [Dy]; exact I1 _ _ _
   · cases h
 · cases h
inductive TS where
 | d (t : Sh)
 | ag (t : Sh)
 | k (v : SV)
 | hs (h : Nat)
@[reducible] def TS.den : TS → Type
 | .d t => t.den
 | .ag t => t.den
 | .k _ => Unit
 | .hs _ => Nat × Nat
def TS.enc : (t : TS) → t.den → SV
 | .d t, x => .d t x
 | .ag t, x => .agg (t.exp x)
 | .k v, _ => v
 | .hs h, x => .hs h x.1 x.2
def SV.same : SV → SV → Bool
 | .hw h, .hw h' => Nat.beq h h'
 | .hp h r c, .hp h' r' c' => Nat.beq h h' && Nat.beq r r' && Nat.beq c c'
 | .dead, _ => true
 | .d t _, .d t' _ => (match t with
  | .nil => true
  | .fn _ => true
  | _ => false) && t.eqb t'
 | _, _ => false
def TS.dec : (t : TS) → SV → Option t.den
 | .d t, v => match v with
  | .rf cs => match t with
   | .ref t0 => bif cs.all SV.isD then t0.all false cs else none
   | _ => none
  | v => bif t.one then v.as true t else none
 | .ag t, v => match v with
  | .agg cs => t.all true cs
  | _ => none
 | .k c, v => bif c.same v then some () else none
 | .hs h, v => match v with
  | .hs h' o l => bif Nat.beq h h' then some (o, l) else none
  | _ => none
inductive TB where
 | arr (e : TypeId) (t : Sh) (fz : Bool)
 | var (e : TypeId) (hf fz : Bool) (cs : List TS)
 | tree (e : TypeId) (t : Sh) (fz : Bool)
@[reducible] def DL : List TS → Type
 | [] => Unit
 | t :: r => t.den × DL r
def If : (l : List TS) → DL l → List SV
 | [], _ => []
 | t :: r, x => t.enc x.1 :: If r x.2
def A9r : (l : List TS) → List SV → Option (DL l)
 | [], [] => some ()
 | t :: r, v :: vs => match t.dec v, A9r r vs with
  | some x, some xs => some (x, xs)
  | _, _ => none
 | _, _ => none
@[reducible] def TB.den : TB → Type
 | .arr _ t _ => List t.den
 | .var _ _ _ cs => DL cs
 | .tree _ t _ => List t.den
def TB.enc : (b : TB) → b.den → B3
 | .arr e t fz, xs => .arr e t fz xs
 | .var e hf fz cs, xs => .var e hf fz (If cs xs)
 | .tree e t fz, xs => .tree e t fz xs
def TB.dec : (b : TB) → B3 → Option b.den
 | .arr e t fz, b => match b with
  | .arr e' t' fz' xs => bif Nat.beq e e' && (fz == fz') then (Sh.sl t').to (.sl t) xs else none
  | .rep e' fz' n cs => bif Nat.beq e e' && (fz == fz') then (t.all true cs).map fun x => List.replicate n x else none
  | _ => none
 | .var e hf fz cs, b => match b with
  | .var e' hf' fz' vs => bif Nat.beq e e' && (hf == hf') && (fz == fz') && vs.all SV.cellB then (match A9r cs vs with
   | some x => bif (If cs x).all SV.cellB && (!hf || (If cs x).all SV.imm) then some x else none
   | none => none) else none
  | _ => none
 | .tree e t fz, b => match b with
  | .tree e' t' fz' xs => bif Nat.beq e e' && (fz == fz') then (Sh.sl t').to (.sl t) xs else none
  | _ => none
@[reducible] def DK (β : Type) (den : β → Type) : List (Nat × β) → Type
 | [] => Unit
 | (_, t) :: r => den t × DK β den r
def Agu : (l : List (Nat × TS)) → DK TS TS.den l → List (Nat × SV)
 | [], _ => []
 | (k, t) :: r, x => (k, t.enc x.1) :: Agu r x.2
def A9q : (l : List (Nat × TS)) → List (Nat × SV) → Option (DK TS TS.den l)
 | [], [] => some ()
 | (k, t) :: r, (j, v) :: vs => bif Nat.beq k j then (match t.dec v, A9q r vs with
  | some x, some xs => some (x, xs)
  | _, _ => none) else none
 | _, _ => none
def Td : (l : List (Nat × TB)) → DK TB TB.den l → List (Nat × B3)
 | [], _ => []
 | (k, t) :: r, x => (k, t.enc x.1) :: Td r x.2
def A9s : (l : List (Nat × TB)) → List (Nat × B3) → Option (DK TB TB.den l)
 | [], [] => some ()
 | (k, t) :: r, (j, v) :: vs => bif Nat.beq k j then (match t.dec v, A9s r vs with
  | some x, some xs => some (x, xs)
  | _, _ => none) else none
 | _, _ => none
structure Tm where
 slots : List (Nat × TS)
 boxes : List (Nat × TB) := []
 drop : List Nat := []
 fz : List (Nat × Sh) := []
@[reducible] def Tm.den (X : Tm) : Type := DK TS TS.den X.slots × DK TB TB.den X.boxes
def Tm.enc (X : Tm) (x : X.den) : St3 := ⟨Agu X.slots x.1, Td X.boxes x.2⟩
def Qp : List (Nat × TS) → List (Nat × SV) → List (Nat × SV)
 | X, sl => sl.filter fun p => X.any fun q => Nat.beq q.1 p.1
def Ade : List Nat → St3 → Option St3
 | [], s => some s
 | h :: r, s => bif Nat.blt h 1000 && s.clean h then Ade r { s with boxes := Ig h s.boxes } else none
def Iv : List (Nat × Sh) → St3 → Option St3
 | [], s => some s
 | (t, sh) :: r, s => match A0 t s.slots with
  | some (.d _ _) => Iv r s
  | _ => match Kx s t sh with
   | some (g, s1) => bif g then Iv r s1 else none
   | none => none
def Tm.dec1 (X : Tm) (s : St3) : Option X.den :=
 match Ade X.drop { s with slots := Qp X.slots s.slots } with
 | some s2 => match A9q X.slots s2.slots, A9s X.boxes s2.boxes with
  | some x, some y => some (x, y)
  | _, _ => none
 | none => none
def Tm.dec (X : Tm) (s : St3) : Option X.den :=
 match Iv X.fz s with
 | some s1 => X.dec1 s1
 | none => none
end Go.Ev

/- DERIVED. Calls that are handed boxes or hand out boxes, over shapes. -/
namespace Go.Ev
open Go
variable {P : Program} {T : Ty}
inductive CK where
 | im (t : Sh)
 | own (e : TypeId) (t : Sh)
 | ptr (e : TypeId) (t : Sh)
 | back (k : Nat)
 | win (e : TypeId) (t : Sh)
 | tree (e : TypeId) (t : Sh)
 | emp (t : Sh)
@[reducible] def CK.den : CK → Type
 | .im t => t.den
 | .own _ t => List t.den
 | .ptr _ t => t.den
 | .back _ => Unit
 | .win _ t => List t.den × Nat × Nat
 | .tree _ t => List t.den
 | .emp _ => Unit
@[reducible] def DC : List CK → Type
 | [] => Unit
 | [c] => c.den
 | c :: d :: r => c.den × DC (d :: r)
inductive PK where
 | im (t : Sh)
 | one (c : CK)
 | mix (cs : List CK)
@[reducible] def PK.den : PK → Type
 | .im t => t.den
 | .one c => c.den
 | .mix cs => DC cs
@[reducible] def HP : List PK → Type
 | [] => Unit
 | [p] => p.den
 | p :: q :: r => p.den × HP (q :: r)
def CK.sv (k : Nat) : (c : CK) → c.den → SV
 | .im t, x => .d t x
 | .own _ _, _ => .hw k
 | .ptr _ _, _ => .hp k 0 0
 | .back j, _ => .hw j
 | .win _ _, x => .hs k x.2.1 x.2.2
 | .tree _ _, _ => .hw k
 | .emp t, _ => .d (.sl t) []
def CK.bx (k : Nat) : (c : CK) → c.den → List (Nat × B3)
 | .own e t, xs => [(k, .arr e t false xs)]
 | .ptr e t, x => [(k, .var e true false (t.exp x))]
 | .win e t, x => [(k, .arr e t false x.1)]
 | .tree e t, xs => [(k, .tree e t false xs)]
 | _, _ => []
def Uq (k : Nat) : (cs : List CK) → DC cs → List SV
 | [], _ => []
 | [c], x => [c.sv k x]
 | c :: d :: r, x => c.sv k x.1 :: Uq (k + 1) (d :: r) x.2
def Kc (k : Nat) : (cs : List CK) → DC cs → List (Nat × B3)
 | [], _ => []
 | [c], x => c.bx k x
 | c :: d :: r, x => c.bx k x.1 ++ Kc (k + 1) (d :: r) x.2
def PK.n : PK → Nat
 | .mix cs => cs.length
 | _ => 1
def PK.isIm : PK → Bool
 | .im _ => true
 | _ => false
def PK.sv (k : Nat) : (p : PK) → p.den → SV
 | .im t, x => t.sv x
 | .one c, x => c.sv k x
 | .mix cs, x => .agg (Uq k cs x)
def PK.bx (k : Nat) : (p : PK) → p.den → List (Nat × B3)
 | .im _, _ => []
 | .one c, x => c.bx k x
 | .mix cs, x => Kc k cs x
def Bo (k : Nat) : (ps : List PK) → HP ps → List SV
 | [], _ => []
 | [p], x => [p.sv k x]
 | p :: q :: r, x => p.sv k x.1 :: Bo (k + p.n) (q :: r) x.2
def Ca (k : Nat) : (ps : List PK) → HP ps → List (Nat × B3)
 | [], _ => []
 | [p], x => p.bx k x
 | p :: q :: r, x => p.bx k x.1 ++ Ca (k + p.n) (q :: r) x.2
def CK.owns (k : Nat) : CK → List (Nat × CK)
 | .own e t => [(k, .own e t)]
 | .ptr e t => [(k, .ptr e t)]
 | .win e t => [(k, .own e t)]
 | .tree e t => [(k, .tree e t)]
 | _ => []
def Alr (k : Nat) : List CK → List (Nat × CK)
 | [] => []
 | c :: r => c.owns k ++ Alr (k + 1) r
def PK.owns (k : Nat) : PK → List (Nat × CK)
 | .im _ => []
 | .one c => c.owns k
 | .mix cs => Alr k cs
def Af (k : Nat) : List PK → List (Nat × CK)
 | [] => []
 | p :: r => p.owns k ++ Af (k + p.n) r
@[reducible] def DO : List (Nat × CK) → Type
 | [] => Unit
 | [p] => p.2.den
 | p :: q :: r => p.2.den × DO (q :: r)
def bxO : (os : List (Nat × CK)) → DO os → List (Nat × B3)
 | [], _ => []
 | [p], x => p.2.bx p.1 x
 | p :: q :: r, x => p.2.bx p.1 x.1 ++ bxO (q :: r) x.2
@[reducible] def HR (rs : List PK) : List (Nat × CK) → Type
 | [] => HP rs
 | p :: r => HP rs × DO (p :: r)
def Kg {rs : List PK} : {os : List (Nat × CK)} → HR rs os → HP rs
 | [], y => y
 | _ :: _, y => y.1
def B0g {rs : List PK} : {os : List (Nat × CK)} → HR rs os → DO os
 | [], _ => ()
 | _ :: _, y => y.2
structure Iq where
 f : Nat
 ts : List PK
 rs : List PK
def J2 (E : Iq) (x : HP E.ts) : List (Nat × B3) := Ca 1000 E.ts x
def B4 (E : Iq) (y : HR E.rs (Af 1000 E.ts)) : List (Nat × B3) := Ca 0 E.rs (Kg y) ++ bxO (Af 1000 E.ts) (B0g y)
def Bp (bs : List (Nat × B3)) : List (Nat × Box) := Ae (B3.box (A5 bs)) bs
def Iq.Den (P : Program) (E : Iq) (nt : Nat) (x : HP E.ts) (y : HR E.rs (Af 1000 E.ts)) : Prop :=
 Ip P E.f nt [] (Bp (J2 E x)) ((Bo 1000 E.ts x).map (SV.v (A5 (J2 E x)))) ((Gf (Bo 0 E.rs (Kg y))).s (A5 (B4 E y))) nt (Bp (B4 E y))
@[reducible] def HF (os : List (Nat × CK)) : List (List PK) → Type
 | [] => Unit
 | [rs] => HR rs os
 | rs :: r :: q => HR rs os ⊕ HF os (r :: q)
def Ba8 {A B α : Type} (z : A ⊕ B) (f : A → Option α) (g : B → Option α) : Option α := match z with
 | .inl a => f a
 | .inr b => g b
def Ii {α : Type} (os : List (Nat × CK)) : (fs : List (List PK)) → HF os fs → ((rs : List PK) → HR rs os → Option α) → Option α
 | [], _, _ => none
 | [rs], y, k => k rs y
 | rs :: r :: q, z, k => Ba8 z (fun y => k rs y) (fun z => Ii os (r :: q) z k)
def Aa7 (os : List (Nat × CK)) : (fs : List (List PK)) → HF os fs → ((rs : List PK) → HR rs os → Prop) → Prop
 | [], _, _ => True
 | [rs], y, k => k rs y
 | rs :: _ :: _, .inl y, k => k rs y
 | _ :: r :: q, .inr z, k => Aa7 os (r :: q) z k
theorem Kr {α : Type} {os : List (Nat × CK)} {p : (rs : List PK) → HR rs os → Prop} : ∀ {fs : List (List PK)} {z : HF os fs} {k : (rs : List PK) → HR rs os → Option α} {r : α}, Ii os fs z k = some r → Aa7 os fs z p → ∃ rs y, k rs y = some r ∧ p rs y
 | [], _, _, _, h, _ => by cases h
 | [rs], y, k, r, h, hp => ⟨rs, y, h, hp⟩
 | rs :: _ :: _, .inl y, k, r, h, hp => ⟨rs, y, h, hp⟩
 | _ :: r :: q, .inr z, k, _, h, hp => Kr (fs := r :: q) h hp
structure Ent3 where
 f : Nat
 ts : List PK
 forms : List (List PK)
 m : HP ts → Option (HF (Af 1000 ts) forms)
def Ent3.Sound (P : Program) (E : Ent3) : Prop := ∀ (nt : Nat) (x : HP E.ts) (z : HF (Af 1000 E.ts) E.forms), E.m x = some z → Aa7 (Af 1000 E.ts) E.forms z fun rs y => Iq.Den P ⟨E.f, E.ts, rs⟩ nt x y
def I0 (rn : List (Nat × Nat)) (k : Nat) : Nat := match A0 k rn with
 | some h => h
 | none => 0
def Ik : List (Nat × Nat) → Nat → Option Nat
 | [], _ => none
 | (k, h') :: r, h => bif Nat.beq h' h then some k else Ik r h
def Dx : List (Nat × Nat) → Bool
 | [] => true
 | (k, h) :: r => r.all (fun p => !Nat.beq p.1 k && !Nat.beq p.2 h) && Dx r
def Bt {β : Type} : List (Nat × β) → List (Nat × Nat) → Bool
 | [], [] => true
 | (k, _) :: B, (k', _) :: R => Nat.beq k k' && Bt B R
 | _, _ => false
def Vg : List (Nat × B3) → List (Nat × Nat) → List (Nat × B3) → List (Nat × B3)
 | (_, b) :: B, (_, h) :: R, bs => As h b (Vg B R bs)
 | _, _, bs => bs
theorem Ahc {a b : Nat} (h : Nat.beq a b = false) : a ≠ b := fun e => by subst e; simp at h
theorem A4w {a b : Nat} (h : a ≠ b) : Nat.beq a b = false := by cases hb : Nat.beq a b with | false => rfl | true => exact absurd (Nat.eq_of_beq_eq_true hb) h
theorem Jo {k h : Nat} {r : List (Nat × Nat)} (hg : Dx ((k, h) :: r) = true) : (∀ p ∈ r, p.1 ≠ k ∧ p.2 ≠ h) ∧ Dx r = true := by
 simp only [Dx, Bool.and_eq_true, List.all_eq_true, Bool.not_eq_true'] at hg
 exact ⟨fun p hp => ⟨Ahc (hg.1 p hp).1, Ahc (hg.1 p hp).2⟩, hg.2⟩
theorem D9 {β : Type} : ∀ {rn : List (Nat × β)} {k : Nat} {h : β}, A0 k rn = some h → (k, h) ∈ rn
 | [], _, _, e => by cases e
 | (k', h') :: r, k, h, e => by
  simp only [A0] at e
  cases hb : Nat.beq k' k with
  | true => rw [hb] at e; obtain rfl := Option.some.inj e; rw [Nat.eq_of_beq_eq_true hb]; exact List.mem_cons_self
  | false => rw [hb] at e; exact List.mem_cons_of_mem _ (D9 e)
theorem Zf : ∀ {rn : List (Nat × Nat)} {k h : Nat}, Ik rn h = some k → (k, h) ∈ rn
 | [], _, _, e => by cases e
 | (k', h') :: r, k, h, e => by
  simp only [Ik] at e
  cases hb : Nat.beq h' h with
  | true => rw [hb] at e; obtain rfl := Option.some.inj e; rw [Nat.eq_of_beq_eq_true hb]; exact List.mem_cons_self
  | false => rw [hb] at e; exact List.mem_cons_of_mem _ (Zf e)
theorem Lu : ∀ {rn : List (Nat × Nat)} {k h : Nat}, Dx rn = true → (k, h) ∈ rn → A0 k rn = some h ∧ Ik rn h = some k
 | [], _, _, _, e => by cases e
 | (k', h') :: r, k, h, hg, e => by
  obtain ⟨h1, h2⟩ := Jo hg
  simp only [A0, Ik]
  rcases List.mem_cons.1 e with e | e
  · obtain ⟨rfl, rfl⟩ := Prod.mk.inj e
    simp only [Nat.beq_refl, cond]
    exact ⟨trivial, trivial⟩
  · obtain ⟨e1, e2⟩ := Lu h2 e
    rw [A4w (h1 _ e).1.symm, A4w (h1 _ e).2.symm]
    exact ⟨e1, e2⟩
theorem Eg {β : Type} : ∀ {B : List (Nat × β)} {R : List (Nat × Nat)}, Bt B R = true → ∀ k, (A0 k B).isSome = (A0 k R).isSome
 | [], [], _, _ => rfl
 | (k1, b) :: B, (k2, h) :: R, e, k => by
  simp only [Bt, Bool.and_eq_true] at e
  obtain rfl := Nat.eq_of_beq_eq_true e.1
  simp only [A0]
  cases Nat.beq k1 k with
  | true => rfl
  | false => exact Eg e.2 k
 | [], _ :: _, e, _ => by simp [Bt] at e
 | _ :: _, [], e, _ => by simp [Bt] at e
theorem V9 {β : Type} : ∀ {B : List (Nat × β)} {R : List (Nat × Nat)} {k : Nat} {b : β}, Bt B R = true → Dx R = true → (k, b) ∈ B → A0 k B = some b
 | [], _, _, _, _, _, e => by cases e
 | (k1, b1) :: B, (k2, h) :: R, k, b, hs, hg, e => by
  simp only [Bt, Bool.and_eq_true] at hs
  obtain rfl := Nat.eq_of_beq_eq_true hs.1
  obtain ⟨h1, h2⟩ := Jo hg
  simp only [A0]
  rcases List.mem_cons.1 e with e | e
  · obtain ⟨rfl, rfl⟩ := Prod.mk.inj e
    simp only [Nat.beq_refl, cond]
  · have := V9 hs.2 h2 e
    have hk : (A0 k R).isSome = true := by rw [← Eg hs.2 k, this]; rfl
    obtain ⟨h', hh⟩ := Option.isSome_iff_exists.1 hk
    rw [A4w (h1 _ (D9 hh)).1.symm]
    exact this
 | _ :: _, [], _, _, hs, _, _ => by simp [Bt] at hs
theorem A04 : ∀ {B : List (Nat × B3)} {R : List (Nat × Nat)} {bs : List (Nat × B3)}, Bt B R = true → Dx R = true → ∀ h, A0 h (Vg B R bs) = match Ik R h with | some k => A0 k B | none => A0 h bs
 | [], [], _, _, _, h => rfl
 | (k1, b) :: B, (k2, h2) :: R, bs, hs, hg, h => by
  simp only [Bt, Bool.and_eq_true] at hs
  obtain rfl := Nat.eq_of_beq_eq_true hs.1
  obtain ⟨g1, g2⟩ := Jo hg
  simp only [Vg, Ik]
  cases hb : Nat.beq h2 h with
  | true =>
   obtain rfl := Nat.eq_of_beq_eq_true hb
   simp only [cond, Ap, A0, Nat.beq_refl]
  | false =>
   simp only [cond]
   rw [Ao _ _ (Ahc hb).symm, A04 hs.2 g2 h]
   cases hw : Ik R h with
   | none => rfl
   | some k =>
    simp only [A0]
    rw [A4w (g1 _ (Zf hw)).1.symm]
    rfl
 | [], _ :: _, _, e, _, _ => by simp [Bt] at e
 | _ :: _, [], _, e, _, _ => by simp [Bt] at e
def Qa (bs : List (Nat × B3)) (k : Nat) : (c : CK) → SV → Option (c.den × List (Nat × Nat))
 | .im t, v => bif t.one then (v.as true t).map fun x => (x, []) else none
 | .own e t, .hw h => match A0 h bs with
  | some (.arr e' sh false xs) => bif Nat.beq e e' then ((Sh.sl sh).to (.sl t) xs).map fun x => (x, [(k, h)]) else none
  | _ => none
 | .ptr e t, .hp h 0 0 => match A0 h bs with
  | some (.var e' true false cs) => bif Nat.beq e e' && cs.all SV.isD then (t.all false cs).map fun x => (x, [(k, h)]) else none
  | _ => none
 | .tree e t, .hw h => match A0 h bs with
  | some (.tree e' sh false xs) => bif Nat.beq e e' then ((Sh.sl sh).to (.sl t) xs).map fun x => (x, [(k, h)]) else none
  | _ => none
 | .win e t, .hs h off len => match A0 h bs with
  | some (.arr e' sh false xs) => bif Nat.beq e e' then ((Sh.sl sh).to (.sl t) xs).map fun x => ((x, off, len), [(k, h)]) else none
  | _ => none
 | _, _ => none
def Fn (bs : List (Nat × B3)) (k : Nat) : (cs : List CK) → List SV → Option (DC cs × List (Nat × Nat))
 | [], [] => some ((), [])
 | [c], [v] => Qa bs k c v
 | c :: d :: r, v :: vs => match Qa bs k c v, Fn bs (k + 1) (d :: r) vs with
  | some (x, q), some (y, q') => some ((x, y), q ++ q')
  | _, _ => none
 | _, _ => none
def A9x (bs : List (Nat × B3)) (k : Nat) : (p : PK) → SV → Option (Bool × p.den × List Nat × List (Nat × Nat))
 | .im t, v => (A4f bs t v).map fun q => (q.1, q.2.1, q.2.2, [])
 | .one c, v => (Qa bs k c v).map fun q => (true, q.1, [], q.2)
 | .mix cs, .agg vs => (Fn bs k cs vs).map fun q => (true, q.1, [], q.2)
 | _, _ => none
def Ku (bs : List (Nat × B3)) (k : Nat) : (ps : List PK) → List SV → Option (Bool × HP ps × List Nat × List (Nat × Nat))
 | [], [] => some (true, (), [], [])
 | [p], [v] => A9x bs k p v
 | p :: q :: r, v :: vs => match A9x bs k p v, Ku bs (k + p.n) (q :: r) vs with
  | some (g, x, l, n), some (g', y, l', n') => some (g && g', (x, y), l ++ l', n ++ n')
  | _, _ => none
 | _, _ => none
def Fq (bs B : List (Nat × B3)) (q : List (Nat × Nat)) : Prop :=
 ∀ k b, (k, b) ∈ B → ∃ h b', (k, h) ∈ q ∧ A0 h bs = some b' ∧ b'.len = b.len ∧ (∀ L L', b'.box L = b.box L') ∧ ∀ L, (b.box L).fz = false ∧ (b.box L).hf = true
theorem Fq.app {bs B B' : List (Nat × B3)} {q q' : List (Nat × Nat)} (h : Fq bs B q) (h' : Fq bs B' q') : Fq bs (B ++ B') (q ++ q') := by
 intro k b hb
 rcases List.mem_append.1 hb with hb | hb
 · obtain ⟨x, y, h1, h2⟩ := h k b hb; exact ⟨x, y, List.mem_append.2 (.inl h1), h2⟩
 · obtain ⟨x, y, h1, h2⟩ := h' k b hb; exact ⟨x, y, List.mem_append.2 (.inr h1), h2⟩
theorem Tq {bs : List (Nat × B3)} {hd : Nat → Nat → Bool} {L : Nat → Nat} {k : Nat} {c : CK} {v : SV} {x : c.den} {q : List (Nat × Nat)} (h : Qa bs k c v = some (x, q))
  (hq : ∀ p ∈ q, hd p.1 p.2 = true) (hL : ∀ k' b, (k', b) ∈ c.bx k x → L k' = b.len) :
  v.cellB = true ∧ (∃ ob, Ok hd (A0 · (Ae (B3.box (A5 bs)) bs)) (v.c (A5 bs)) ((c.sv k x).c L) = some (ob, []) ∧ ∀ p ∈ ob, p) ∧ (c.sv k x).cellB = true ∧ Fq bs (c.bx k x) q := by
 unfold Qa at h
 split at h
 · rename_i t
   cases ht : t.one with
   | false => rw [ht] at h; cases h
   | true =>
    rw [ht] at h
    simp only [cond, Option.map_eq_some_iff, Prod.mk.injEq] at h
    obtain ⟨y, hy, rfl, rfl⟩ := h
    obtain ⟨q1, ob, q2, q3⟩ := Qb (L := A5 bs) ht hy
    refine ⟨No q1, ⟨ob, ?_, q3⟩, ht, fun k b hb => by cases hb⟩
    have hc := B0o (L := A5 bs) q1
    rw [hc] at q2 ⊢
    simp only [CK.sv, SV.c, Ok, G9, V.noH, C1, Bool.and_self, cond, A0p, q2, Option.map_some]
 · rename_i e t hh
   split at h
   · rename_i e' sh xs hl
     cases he : Nat.beq e e' with
     | false => rw [he] at h; cases h
     | true =>
      rw [he] at h
      simp only [cond, Option.map_eq_some_iff, Prod.mk.injEq] at h
      obtain ⟨y, hy, rfl, rfl⟩ := h
      obtain ⟨rfl, rfl⟩ := D7 hy
      obtain rfl := Nat.eq_of_beq_eq_true he
      have hle : A5 bs hh = xs.length := by simp [A5, hl, B3.len]
      have hk : L k = xs.length := hL k (.arr e sh false xs) (by simp [CK.bx])
      refine ⟨rfl, ⟨[0 = 0, A5 bs hh = L k], ?_, by simp [hle, hk]⟩, rfl, fun k' b hb => ?_⟩
      · simp only [CK.sv, SV.c, Ok, hq (k, hh) (by simp), cond]
      · simp only [CK.bx, List.mem_singleton, Prod.mk.injEq] at hb
        obtain ⟨rfl, rfl⟩ := hb
        exact ⟨hh, _, by simp, hl, rfl, fun _ _ => rfl, fun _ => ⟨rfl, rfl⟩⟩
   · cases h
 · rename_i e t hh
   split at h
   · rename_i e' cs hl
     cases he : (Nat.beq e e' && cs.all SV.isD) with
     | false => rw [he] at h; cases h
     | true =>
      rw [he] at h
      simp only [cond, Option.map_eq_some_iff, Prod.mk.injEq] at h
      obtain ⟨y, hy, rfl, rfl⟩ := h
      simp only [Bool.and_eq_true] at he
      obtain rfl := Nat.eq_of_beq_eq_true he.1
      obtain ⟨a1, _, _, a4⟩ := Cm hy
      refine ⟨rfl, ⟨[0 = 0, 0 = 0], ?_, by simp⟩, rfl, fun k' b hb => ?_⟩
      · simp only [CK.sv, SV.c, Ok, hq (k, hh) (by simp), cond]
      · simp only [CK.bx, List.mem_singleton, Prod.mk.injEq] at hb
        obtain ⟨rfl, rfl⟩ := hb
        refine ⟨hh, _, by simp, hl, rfl, fun L1 L2 => ?_, fun _ => ⟨rfl, rfl⟩⟩
        simp only [B3.box, a1, Kp, A9o, a4]
   · cases h
 · rename_i e t hh
   split at h
   · rename_i e' sh xs hl
     cases he : Nat.beq e e' with
     | false => rw [he] at h; cases h
     | true =>
      rw [he] at h
      simp only [cond, Option.map_eq_some_iff, Prod.mk.injEq] at h
      obtain ⟨y, hy, rfl, rfl⟩ := h
      obtain ⟨rfl, rfl⟩ := D7 hy
      obtain rfl := Nat.eq_of_beq_eq_true he
      have hle : A5 bs hh = xs.length := by simp [A5, hl, B3.len]
      have hk : L k = xs.length := hL k (.tree e sh false xs) (by simp [CK.bx])
      refine ⟨rfl, ⟨[0 = 0, A5 bs hh = L k], ?_, by simp [hle, hk]⟩, rfl, fun k' b hb => ?_⟩
      · simp only [CK.sv, SV.c, Ok, hq (k, hh) (by simp), cond]
      · simp only [CK.bx, List.mem_singleton, Prod.mk.injEq] at hb
        obtain ⟨rfl, rfl⟩ := hb
        exact ⟨hh, _, by simp, hl, rfl, fun _ _ => rfl, fun _ => ⟨rfl, rfl⟩⟩
   · cases h
 · rename_i e t hh off len
   split at h
   · rename_i e' sh xs hl
     cases he : Nat.beq e e' with
     | false => rw [he] at h; cases h
     | true =>
      rw [he] at h
      simp only [cond, Option.map_eq_some_iff, Prod.mk.injEq] at h
      obtain ⟨y, hy, rfl, rfl⟩ := h
      obtain ⟨rfl, rfl⟩ := D7 hy
      obtain rfl := Nat.eq_of_beq_eq_true he
      refine ⟨rfl, ⟨[off = off, len = len], ?_, by simp⟩, rfl, fun k' b hb => ?_⟩
      · simp only [CK.sv, SV.c, Ok, hq (k, hh) (by simp), cond]
      · simp only [CK.bx, List.mem_singleton, Prod.mk.injEq] at hb
        obtain ⟨rfl, rfl⟩ := hb
        exact ⟨hh, _, by simp, hl, rfl, fun _ _ => rfl, fun _ => ⟨rfl, rfl⟩⟩
   · cases h
 · cases h
theorem A0e {bs : List (Nat × B3)} {hd : Nat → Nat → Bool} {L : Nat → Nat} : ∀ {cs : List CK} {k : Nat} {vs : List SV} {x : DC cs} {q : List (Nat × Nat)}, Fn bs k cs vs = some (x, q) →
  (∀ p ∈ q, hd p.1 p.2 = true) → (∀ k' b, (k', b) ∈ Kc k cs x → L k' = b.len) →
  (∃ ob, Kv hd (A0 · (Ae (B3.box (A5 bs)) bs)) (vs.map (SV.c (A5 bs))) ((Uq k cs x).map (SV.c L)) = some (ob, []) ∧ ∀ p ∈ ob, p) ∧ Fq bs (Kc k cs x) q
 | [], k, [], x, q, h, _, _ => ⟨⟨[], rfl, by simp⟩, fun k b hb => by cases hb⟩
 | [], k, _ :: _, _, _, h, _, _ => by simp [Fn] at h
 | [c], k, [], _, _, h, _, _ => by simp [Fn] at h
 | [c], k, [v], x, q, h, hq, hL => by
  obtain ⟨_, ⟨ob, h1, h2⟩, _, h3⟩ := Tq (hd := hd) (L := L) (x := x) h hq hL
  refine ⟨⟨ob ++ [], ?_, by simpa using h2⟩, h3⟩
  simp only [Uq, List.map_cons, List.map_nil, Kv, h1, List.append_nil]
 | [c], k, v :: w :: r, _, _, h, _, _ => by simp [Fn] at h
 | c :: d :: r, k, [], _, _, h, _, _ => by simp [Fn] at h
 | c :: d :: r, k, v :: vs, x, q, h, hq, hL => by
  simp only [Fn] at h
  split at h
  · rename_i x1 q1 y1 q2 h1 h2
    simp only [Option.some.injEq, Prod.mk.injEq] at h
    obtain ⟨rfl, rfl⟩ := h
    obtain ⟨_, ⟨ob, a1, a2⟩, _, a3⟩ := Tq (hd := hd) (L := L) h1 (fun p hp => hq p (List.mem_append.2 (.inl hp))) (fun k' b hb => hL k' b (by simp only [Kc]; exact List.mem_append.2 (.inl hb)))
    obtain ⟨⟨ob', b1, b2⟩, b3⟩ := A0e (hd := hd) (L := L) h2 (fun p hp => hq p (List.mem_append.2 (.inr hp))) (fun k' b hb => hL k' b (by simp only [Kc]; exact List.mem_append.2 (.inr hb)))
    refine ⟨⟨ob ++ ob', ?_, fun p hp => (List.mem_append.1 hp).elim (a2 p) (b2 p)⟩, a3.app b3⟩
    simp only [Uq, List.map_cons, Kv, a1, b1, List.append_nil]
  · cases h
theorem Al5 {bs : List (Nat × B3)} {hd : Nat → Nat → Bool} {L : Nat → Nat} {k : Nat} {p : PK} {v : SV} {g : Bool} {x : p.den} {bor : List Nat} {q : List (Nat × Nat)} (h : A9x bs k p v = some (g, x, bor, q)) (hg : g = true)
  (hq : ∀ p ∈ q, hd p.1 p.2 = true) (hL : ∀ k' b, (k', b) ∈ p.bx k x → L k' = b.len) :
  (∃ ob, A4e hd (A0 · (Ae (B3.box (A5 bs)) bs)) p.isIm (v.s (A5 bs)) ((p.sv k x).v L) = some (ob, bor) ∧ ∀ p ∈ ob, p) ∧ (∀ k ∈ bor, ∃ b, A0 k (Ae (B3.box (A5 bs)) bs) = some b ∧ b.fz = false) ∧ Fq bs (p.bx k x) q ∧ v.alive = true := by
 cases p with
 | im t =>
  simp only [A9x, Option.map_eq_some_iff, Prod.mk.injEq] at h
  obtain ⟨⟨g', y, b⟩, h1, rfl, rfl, rfl, rfl⟩ := h
  obtain ⟨ob, a1, a2, a3⟩ := A9y h1 hg
  refine ⟨⟨ob, ?_, a2⟩, a3, (fun k b hb => by cases hb), Tw h1⟩
  simp only [A4e, PK.isIm, cond, PK.sv, (Hn t y).1]
  exact a1
 | one c =>
  simp only [A9x, Option.map_eq_some_iff, Prod.mk.injEq] at h
  obtain ⟨⟨y, b⟩, h1, rfl, rfl, rfl, rfl⟩ := h
  obtain ⟨c1, ⟨ob, a1, a2⟩, c2, a3⟩ := Tq (hd := hd) (L := L) h1 hq hL
  refine ⟨⟨ob, ?_, a2⟩, by simp, a3, B9 fun e => by subst e; cases c1⟩
  simp only [A4e, PK.isIm, cond, PK.sv, (F9 c1).1, (F9 c2).2]
  exact a1
 | mix cs =>
  cases v with
  | agg vs =>
   simp only [A9x] at h
   simp only [Option.map_eq_some_iff, Prod.mk.injEq] at h
   obtain ⟨⟨y, b⟩, h1, rfl, rfl, rfl, rfl⟩ := h
   obtain ⟨⟨ob, a1, a2⟩, a3⟩ := A0e (hd := hd) (L := L) h1 hq hL
   refine ⟨⟨ob, ?_, a2⟩, by simp, a3, rfl⟩
   simp only [A4e, PK.isIm, cond, PK.sv, SV.s, SV.v]
   exact a1
  | _ => cases h
theorem Ahf {bs : List (Nat × B3)} {hd : Nat → Nat → Bool} {L : Nat → Nat} : ∀ {ps : List PK} {k : Nat} {vs : List SV} {g : Bool} {x : HP ps} {bor : List Nat} {q : List (Nat × Nat)}, Ku bs k ps vs = some (g, x, bor, q) → g = true →
  (∀ p ∈ q, hd p.1 p.2 = true) → (∀ k' b, (k', b) ∈ Ca k ps x → L k' = b.len) →
  (∃ ob, H5 hd (A0 · (Ae (B3.box (A5 bs)) bs)) (ps.map PK.isIm) (vs.map (SV.s (A5 bs))) ((Bo k ps x).map (SV.v L)) = some (ob, bor) ∧ ∀ p ∈ ob, p) ∧ (∀ k ∈ bor, ∃ b, A0 k (Ae (B3.box (A5 bs)) bs) = some b ∧ b.fz = false) ∧ Fq bs (Ca k ps x) q ∧ ∀ v ∈ vs, v.alive = true
 | [], k, [], g, x, bor, q, h, _, _, _ => by
  simp only [Ku, Option.some.injEq, Prod.mk.injEq] at h
  obtain ⟨_, _, rfl, rfl⟩ := h
  exact ⟨⟨[], rfl, by simp⟩, by simp, (fun k b hb => by cases hb), by simp⟩
 | [], k, _ :: _, _, _, _, _, h, _, _, _ => by simp [Ku] at h
 | [p], k, [], _, _, _, _, h, _, _, _ => by simp [Ku] at h
 | [p], k, [v], g, x, bor, q, h, hg, hq, hL => by
  obtain ⟨⟨ob, h1, h2⟩, h3, h4, h5⟩ := Al5 (hd := hd) (L := L) (x := x) h hg hq hL
  refine ⟨⟨ob ++ [], ?_, by simpa using h2⟩, h3, h4, by simpa using h5⟩
  simp only [Bo, List.map_cons, List.map_nil, H5, h1, List.append_nil]
 | [p], k, v :: w :: r, _, _, _, _, h, _, _, _ => by simp [Ku] at h
 | p :: p2 :: r, k, [], _, _, _, _, h, _, _, _ => by simp [Ku] at h
 | p :: p2 :: r, k, v :: vs, g, x, bor, q, h, hg, hq, hL => by
  simp only [Ku] at h
  split at h
  · rename_i g1 x1 l1 q1 g2 y1 l2 q2 h1 h2
    simp only [Option.some.injEq, Prod.mk.injEq] at h
    obtain ⟨rfl, rfl, rfl, rfl⟩ := h
    simp only [Bool.and_eq_true] at hg
    obtain ⟨⟨ob, a1, a2⟩, a3, a4, a5⟩ := Al5 (hd := hd) (L := L) h1 hg.1 (fun p hp => hq p (List.mem_append.2 (.inl hp))) (fun k' b hb => hL k' b (by simp only [Ca]; exact List.mem_append.2 (.inl hb)))
    obtain ⟨⟨ob', b1, b2⟩, b3, b4, b5⟩ := Ahf (hd := hd) (L := L) h2 hg.2 (fun p hp => hq p (List.mem_append.2 (.inr hp))) (fun k' b hb => hL k' b (by simp only [Ca]; exact List.mem_append.2 (.inr hb)))
    refine ⟨⟨ob ++ ob', ?_, fun p hp => (List.mem_append.1 hp).elim (a2 p) (b2 p)⟩, fun j hj => (List.mem_append.1 hj).elim (a3 j) (b3 j), a4.app b4, by simpa using ⟨a5, b5⟩⟩
    simp only [List.map_cons] at b1
    simp only [Bo, List.map_cons, H5, a1, b1]
  · cases h
end Go.Ev

/- DERIVED. A state that a template takes may be read as the template's. -/
namespace Go.Ev
open Go
variable {P : Program} {T : Ty}
def Ga (x x' : S) : Prop := ∀ (w : World) (E : Env) (v : Value), Rs w E v x → Rs w E v x'
def Em (c c' : C) : Prop := ∀ (w : World) (E : Env) (v : Value), Rc w E v c → Rc w E v c'
structure Apc (b b' : Box) : Prop where
 e : b'.e = b.e
 sz : b'.sz = b.sz
 fz : b'.fz = b.fz
 tr : b'.tr = b.tr
 trr : b'.tr = true → b'.rows = b.rows
 len : b'.rows.length = b.rows.length
 rows : ∀ (i : Nat) (r' : List C), b'.rows[i]? = some r' → ∃ r, b.rows[i]? = some r ∧ r'.length = r.length ∧ ∀ (j : Nat) (c' : C), r'[j]? = some c' → ∃ c, r[j]? = some c ∧ Em c c'
 hf : b'.hf = true → ∀ (i : Nat) (r : List C) (j : Nat) (c : C), b'.rows[i]? = some r → r[j]? = some c → ∃ x, c = .i x
theorem By.sub {w : World} {E : Env} {b b' : Box} {g cap : Nat} (h : By w E b g cap) (hb : Apc b b') : By w E b' g cap := by
 obtain ⟨arr, a1, a2, a3, a4, a5, a6, a7, a8, a9⟩ := h
 refine ⟨arr, by rw [hb.e]; exact a1, by rw [hb.sz]; exact a2, by rw [hb.len]; exact a3, a4, fun i r hi => ?_, fun i r j c hi hj => ?_, fun hf i r j c hi hj => hb.hf hf i r j c hi hj, fun hf => a8 (by rw [← hb.fz]; exact hf), a9⟩
 · obtain ⟨r0, h1, h2, _⟩ := hb.rows i r hi
   rw [h2, hb.sz]; exact a5 i r0 h1
 · obtain ⟨r0, h1, _, h3⟩ := hb.rows i r hi
   obtain ⟨c0, h4, h5⟩ := h3 j c hj
   obtain ⟨v, h6, h7⟩ := a6 i r0 j c0 h1 h4
   exact ⟨v, by rw [hb.sz]; exact h6, h5 _ _ _ h7⟩
theorem A6.sub {Γ : Ctx} {w : World} {E : Env} {s s' : St} {tmps : Array Value} (hs : A6 Γ w E s tmps) (hnt : s'.nt = s.nt)
  (h1 : ∀ t x', A0 t s'.slots = some x' → ∃ x, A0 t s.slots = some x ∧ Ga x x')
  (h2 : ∀ h b', A0 h s'.boxes = some b' → ∃ b, A0 h s.boxes = some b ∧ Apc b b')
  (h3 : ∀ h b, A0 h s.boxes = some b → (A0 h s'.boxes).isSome = true) : A6 Γ w E s' tmps where
 fr := hs.fr
 held := hs.held
 tow := hs.tow
 wf := by rw [hnt]; exact hs.wf
 old := hs.old
 nt := by rw [hnt]; exact hs.nt
 tag := hs.tag
 new := hs.new
 boxes := fun h b' hb' => by
  obtain ⟨b, hb, hsub⟩ := h2 h b' hb'
  obtain ⟨g, cap, hβ, hat, hω, hS⟩ := hs.boxes h b hb
  refine ⟨g, cap, by rw [hsub.sz]; exact hβ, by rw [hsub.tr]; exact hat.sub hsub, hω, fun e => ?_⟩
  have h5 := hS (by rw [← hsub.tr]; exact e)
  unfold Sep at h5 ⊢
  rw [hsub.trr e, hsub.sz]; exact h5
 inj := fun h h' b b' g g' z z' hb hb' hz hz' hne => by
  obtain ⟨b0, hb0, _⟩ := h2 h b hb
  obtain ⟨b1, hb1, _⟩ := h2 h' b' hb'
  exact hs.inj h h' b0 b1 g g' z z' hb0 hb1 hz hz' hne
 own := fun h b' g z hb' hz => by
  obtain ⟨b, hb, hsub⟩ := h2 h b' hb'
  rw [hsub.fz]
  exact hs.own h b g z hb hz
 slots := fun t x' hx' => by
  obtain ⟨x, hx, hsub⟩ := h1 t x' hx'
  exact hsub _ _ _ (hs.slots t x hx)
 tsize := hs.tsize
 dom := fun h x hx => by
  obtain ⟨b, hb⟩ := Option.isSome_iff_exists.1 (hs.dom h x hx)
  exact h3 h b hb
 stay := hs.stay
 fzn := fun h b' g z hb' hz hf => by
  obtain ⟨b, hb, hsub⟩ := h2 h b' hb'
  exact hs.fzn h b g z hb hz (by rw [← hsub.fz]; exact hf)
theorem Em.refl (c : C) : Em c c := fun _ _ _ h => h
theorem Ga.refl (x : S) : Ga x x := fun _ _ _ h => h
theorem Ga.dead (x : S) : Ga x .dead := fun _ _ _ _ => .dead
theorem Ads {c c' : C} (h : ∃ ob, Qg c c' = some ob ∧ ∀ p ∈ ob, p) : Em c c' := by
 obtain ⟨ob, h1, h2⟩ := h
 exact fun w E v hv => Ke hv h1 h2
def Ahn (cs cs' : List C) : Prop := cs'.length = cs.length ∧ ∀ (j : Nat) (c' : C), cs'[j]? = some c' → ∃ c, cs[j]? = some c ∧ Em c c'
theorem Aaa : ∀ (cs cs' : List C) (ob : List Prop), Dp cs cs' = some ob → (∀ p ∈ ob, p) → Ahn cs cs'
 | [], [], _, _, _ => ⟨rfl, fun j c hj => by simp at hj⟩
 | [], _ :: _, _, h, _ => by simp [Dp] at h
 | _ :: _, [], _, h, _ => by simp [Dp] at h
 | c :: cs, c' :: cs', ob, h, ho => by
  simp only [Dp] at h
  split at h
  · rename_i p q h1 h2
    obtain rfl := Option.some.inj h
    obtain ⟨i1, i2⟩ := Aaa cs cs' q h2 (fun x hx => ho x (List.mem_append.2 (.inr hx)))
    refine ⟨by simp [i1], fun j d hj => ?_⟩
    cases j with
    | zero =>
     simp at hj; subst hj
     exact ⟨c, rfl, Ads ⟨p, h1, fun x hx => ho x (List.mem_append.2 (.inl hx))⟩⟩
    | succ j => exact i2 j d (by simpa using hj)
  · cases h
theorem Fe.subL {L : Nat → Nat} {cs : List SV} {ds : List I} (h : Fe L cs ds) : Ahn (cs.map (SV.c L)) (ds.map .i) := by
 obtain ⟨ob, h1, h2⟩ := h
 exact Aaa _ _ _ h1 h2
theorem Ahn.agg {cs cs' : List C} (h : Ahn cs cs') : Ga (.v (.agg cs)) (.v (.agg cs')) := by
 intro w E v hv
 cases hv with
 | v hv =>
  cases hv with
  | agg hv =>
   refine .v (.agg ⟨by rw [h.1]; exact hv.1, fun j v c hv' hc => ?_⟩)
   obtain ⟨c0, h1, h2⟩ := h.2 j c hc
   exact h2 _ _ _ (hv.2 j v c0 hv' h1)
theorem Em.one {c c' : C} (h : Em c c') : Ga (.v (.one c)) (.v (.one c')) := by
 intro w E v hv
 cases hv with
 | v hv => cases hv with | one hv => exact .v (.one (h _ _ _ hv))
theorem Akz {L : Nat → Nat} {t : TS} {v : SV} {x : t.den} (h : t.dec v = some x) : Ga (v.s L) ((t.enc x).s L) ∧ (v.cellB = true → (t.enc x).cellB = true → Em (v.c L) ((t.enc x).c L)) := by
 cases t with
 | d t =>
  simp only [TS.dec] at h
  split at h
  · rename_i cs
    split at h
    · rename_i t0
      cases hd : cs.all SV.isD with
      | false => rw [hd] at h; cases h
      | true =>
       rw [hd] at h
       simp only [cond] at h
       obtain ⟨_, _, h3, _⟩ := Cm h
       have e : (SV.rf cs).c L = (SV.d (.ref t0) x).c L := by
        simp only [SV.c, h3 hd, Sh.cells, hd1]
       have hc : Em ((SV.rf cs).c L) ((TS.enc (.d (.ref t0)) x).c L) := by
        show Em _ ((SV.d (.ref t0) x).c L)
        rw [← e]; exact Em.refl _
       exact ⟨hc.one, fun _ _ => hc⟩
    · cases h
  · rename_i hnr
    cases ht : t.one with
    | false => rw [ht] at h; cases h
    | true =>
     rw [ht] at h
     obtain ⟨q1, q2⟩ := Qb (L := L) ht h
     have hc : Em (v.c L) ((TS.enc (.d t) x).c L) := Ads q2
     have e : v.s L = .v (.one (v.c L)) := by cases v <;> first | rfl | cases q1
     refine ⟨?_, fun _ _ => hc⟩
     rw [e]
     exact hc.one
 | ag t =>
  simp only [TS.dec] at h
  split at h
  · rename_i cs
    obtain ⟨h1, h2⟩ := A4h (L := L) h
    refine ⟨?_, fun hc => by cases hc⟩
    show Ga (.v (.agg (cs.map (SV.c L)))) (.v (.agg ((t.exp x).map (SV.c L))))
    rw [Kp]
    exact h1.subL.agg
  · cases h
 | k c =>
  simp only [TS.dec] at h
  cases hs : c.same v with
  | false => rw [hs] at h; cases h
  | true =>
   show Ga (v.s L) (c.s L) ∧ (v.cellB = true → c.cellB = true → Em (v.c L) (c.c L))
   unfold SV.same at hs
   split at hs
   · obtain rfl := Nat.eq_of_beq_eq_true hs; exact ⟨Ga.refl _, fun _ _ => Em.refl _⟩
   · simp only [Bool.and_eq_true] at hs
     obtain rfl := Nat.eq_of_beq_eq_true hs.1.1
     obtain rfl := Nat.eq_of_beq_eq_true hs.1.2
     obtain rfl := Nat.eq_of_beq_eq_true hs.2
     exact ⟨Ga.refl _, fun _ _ => Em.refl _⟩
   · exact ⟨Ga.dead _, fun _ h => by cases h⟩
   · rename_i t x' t' y
     simp only [Bool.and_eq_true] at hs
     obtain rfl := Sh.eqb_eq hs.2
     have : SV.d t x' = SV.d t y := by
      split at hs
      · rfl
      · rfl
      · exact absurd hs.1 (by simp)
     rw [this]
     exact ⟨Ga.refl _, fun _ _ => Em.refl _⟩
   · cases hs
 | hs h' =>
  simp only [TS.dec] at h
  split at h
  · rename_i k o l
    cases hk : Nat.beq h' k with
    | false => rw [hk] at h; cases h
    | true =>
     rw [hk] at h
     obtain rfl := Nat.eq_of_beq_eq_true hk
     simp only [cond, Option.some.injEq] at h
     subst h
     exact ⟨Ga.refl _, fun _ _ => Em.refl _⟩
  · cases h
theorem Agz : ∀ {l : List (Nat × TS)} {sl : List (Nat × SV)} {x : DK TS TS.den l}, A9q l sl = some x → ∀ (L : Nat → Nat) (k : Nat) (y : S), A0 k (Ae (SV.s L) (Agu l x)) = some y → ∃ z, A0 k (Ae (SV.s L) sl) = some z ∧ Ga z y
 | [], [], _, _, _, k, y, h => by simp [Agu, Ae, A0] at h
 | [], _ :: _, _, h, _, _, _, _ => by simp [A9q] at h
 | _ :: _, [], _, h, _, _, _, _ => by simp [A9q] at h
 | (k, t) :: r, (j, v) :: vs, x, h, L, i, y, hy => by
  simp only [A9q] at h
  cases hk : Nat.beq k j with
  | false => rw [hk] at h; cases h
  | true =>
   rw [hk] at h
   obtain rfl := Nat.eq_of_beq_eq_true hk
   simp only [cond] at h
   split at h
   · rename_i a as h1 h2
     obtain rfl := Option.some.inj h
     simp only [Agu, Ae, List.map_cons, A0] at hy ⊢
     cases hb : Nat.beq k i with
     | true =>
      rw [hb] at hy
      simp only [cond, Option.some.injEq] at hy
      subst hy
      exact ⟨_, rfl, (Akz h1).1⟩
     | false =>
      rw [hb] at hy
      exact Agz h2 L i y hy
   · cases h
theorem Ah0 {L : Nat → Nat} : ∀ {l : List TS} {vs : List SV} {x : DL l}, A9r l vs = some x → vs.all SV.cellB = true → (If l x).all SV.cellB = true → Ahn (vs.map (SV.c L)) ((If l x).map (SV.c L))
 | [], [], _, _, _, _ => ⟨rfl, fun j c h => by simp [If] at h⟩
 | [], _ :: _, _, h, _, _ => by simp [A9r] at h
 | _ :: _, [], _, h, _, _ => by simp [A9r] at h
 | t :: r, v :: vs, x, h, hc, hc' => by
  simp only [A9r] at h
  split at h
  · rename_i a as h1 h2
    obtain rfl := Option.some.inj h
    simp only [List.all_cons, Bool.and_eq_true, If] at hc hc'
    obtain ⟨i1, i2⟩ := Ah0 (L := L) h2 hc.2 hc'.2
    refine ⟨by simpa [If] using i1, fun j c hj => ?_⟩
    cases j with
    | zero =>
     simp [If] at hj; subst hj
     exact ⟨_, rfl, (Akz h1).2 hc.1 hc'.1⟩
    | succ j => exact i2 j c (by simpa [If] using hj)
  · cases h
theorem Ap6 {L : Nat → Nat} {t : TB} {b : B3} {x : t.den} (h : t.dec b = some x) : Apc (b.box L) ((t.enc x).box L) ∧ (t.enc x).len = b.len := by
 cases t with
 | tree e t fz =>
  simp only [TB.dec] at h
  split at h
  · rename_i e' t' fz' xs
    cases hc : (Nat.beq e e' && (fz == fz')) with
    | false => rw [hc] at h; cases h
    | true =>
     rw [hc] at h
     simp only [Bool.and_eq_true] at hc
     obtain rfl := Nat.eq_of_beq_eq_true hc.1
     obtain rfl := eq_of_beq hc.2
     obtain ⟨rfl, rfl⟩ := D7 h
     refine ⟨⟨rfl, rfl, rfl, rfl, fun _ => rfl, rfl, fun i r hi => ⟨r, hi, rfl, fun j c hj => ⟨c, hj, Em.refl c⟩⟩, fun _ i r j c hi hj => ?_⟩, rfl⟩
     simp only [TB.enc, B3.box, List.getElem?_map] at hi
     obtain ⟨x, _, rfl⟩ := Option.map_eq_some_iff.1 hi
     rw [List.getElem?_map] at hj
     obtain ⟨y, _, rfl⟩ := Option.map_eq_some_iff.1 hj
     exact ⟨y, rfl⟩
  · cases h
 | arr e t fz =>
  simp only [TB.dec] at h
  split at h
  · rename_i e' t' fz' xs
    cases hc : (Nat.beq e e' && (fz == fz')) with
    | false => rw [hc] at h; cases h
    | true =>
     rw [hc] at h
     simp only [Bool.and_eq_true] at hc
     obtain rfl := Nat.eq_of_beq_eq_true hc.1
     obtain rfl := eq_of_beq hc.2
     obtain ⟨rfl, rfl⟩ := D7 h
     refine ⟨⟨rfl, rfl, rfl, rfl, fun _ => rfl, rfl, fun i r hi => ⟨r, hi, rfl, fun j c hj => ⟨c, hj, Em.refl c⟩⟩, fun _ i r j c hi hj => ?_⟩, rfl⟩
     simp only [TB.enc, B3.box, List.getElem?_map] at hi
     obtain ⟨y, _, rfl⟩ := Option.map_eq_some_iff.1 hi
     rw [List.getElem?_map] at hj
     obtain ⟨z, _, rfl⟩ := Option.map_eq_some_iff.1 hj
     exact ⟨z, rfl⟩
  · rename_i e' fz' n cs
    cases hc : (Nat.beq e e' && (fz == fz')) with
    | false => rw [hc] at h; cases h
    | true =>
     rw [hc] at h
     simp only [cond, Option.map_eq_some_iff] at h
     obtain ⟨y, hy, rfl⟩ := h
     simp only [Bool.and_eq_true] at hc
     obtain rfl := Nat.eq_of_beq_eq_true hc.1
     obtain rfl := eq_of_beq hc.2
     obtain ⟨h1, h2⟩ := A4h (L := L) hy
     have hL := h1.subL
     have hz : cs.length = t.size := by have := hL.1; simp [Sh.cells_len] at this; omega
     refine ⟨⟨rfl, by simp [TB.enc, B3.box, hz], rfl, rfl, fun e => (by cases e), by simp [TB.enc, B3.box], fun i r hi => ?_, fun _ i r j c hi hj => ?_⟩, by simp [TB.enc, B3.len]⟩
     · simp only [TB.enc, B3.box, List.map_replicate, List.getElem?_replicate] at hi
       split at hi
       · rename_i hlt
         obtain rfl := Option.some.inj hi
         exact ⟨cs.map (SV.c L), by simp [B3.box, List.getElem?_replicate, hlt], hL.1, hL.2⟩
       · cases hi
     · simp only [TB.enc, B3.box, List.map_replicate, List.getElem?_replicate] at hi
       split at hi
       · obtain rfl := Option.some.inj hi
         rw [List.getElem?_map] at hj
         obtain ⟨z, _, rfl⟩ := Option.map_eq_some_iff.1 hj
         exact ⟨z, rfl⟩
       · cases hi
  · cases h
 | var e hf fz cs =>
  simp only [TB.dec] at h
  split at h
  · rename_i e' hf' fz' vs
    cases hc : (Nat.beq e e' && (hf == hf') && (fz == fz') && vs.all SV.cellB) with
    | false => rw [hc] at h; cases h
    | true =>
     rw [hc] at h
     simp only [cond] at h
     simp only [Bool.and_eq_true] at hc
     obtain rfl := Nat.eq_of_beq_eq_true hc.1.1.1
     obtain rfl := eq_of_beq hc.1.1.2
     obtain rfl := eq_of_beq hc.1.2
     split at h
     · rename_i y hy
       cases he : ((If cs y).all SV.cellB && (!hf || (If cs y).all SV.imm)) with
       | false => rw [he] at h; cases h
       | true =>
        rw [he] at h
        obtain rfl := Option.some.inj h
        simp only [Bool.and_eq_true, Bool.or_eq_true, Bool.not_eq_true'] at he
        have hL := Ah0 (L := L) hy hc.2 he.1
        refine ⟨⟨rfl, by have := hL.1; simpa [TB.enc, B3.box] using this, rfl, rfl, fun e => (by cases e), rfl, fun i r hi => ?_, fun hf' i r j c hi hj => ?_⟩, rfl⟩
        · cases i with
          | zero =>
           simp [TB.enc, B3.box] at hi; subst hi
           exact ⟨vs.map (SV.c L), rfl, hL.1, hL.2⟩
          | succ i => simp [TB.enc, B3.box] at hi
        · have hf'' : hf = true := hf'
          have hi' : (If cs y).all SV.imm = true := by
           rcases he.2 with h0 | h0
           · rw [hf''] at h0; cases h0
           · exact h0
          cases i with
          | zero =>
           simp [TB.enc, B3.box] at hi; subst hi
           rw [List.getElem?_map] at hj
           obtain ⟨z, hz, rfl⟩ := Option.map_eq_some_iff.1 hj
           have := L5 (L := L) (List.all_eq_true.1 hi' z (List.mem_of_getElem? hz))
           cases hzc : z.c L with
           | i q => exact ⟨q, rfl⟩
           | hs => rw [hzc] at this; cases this
           | hp => rw [hzc] at this; cases this
          | succ i => simp [TB.enc, B3.box] at hi
     · cases h
  · cases h
theorem Ah1 {L : Nat → Nat} : ∀ {l : List (Nat × TB)} {bs : List (Nat × B3)} {x : DK TB TB.den l}, A9s l bs = some x →
  (∀ k b', A0 k (Ae (B3.box L) (Td l x)) = some b' → ∃ b, A0 k (Ae (B3.box L) bs) = some b ∧ Apc b b') ∧ (∀ k b, A0 k (Ae (B3.box L) bs) = some b → (A0 k (Ae (B3.box L) (Td l x))).isSome = true) ∧ A5 (Td l x) = A5 bs
 | [], [], _, _ => ⟨fun k b h => by simp [Td, Ae, A0] at h, fun k b h => by simp [Ae, A0] at h, rfl⟩
 | [], _ :: _, _, h => by simp [A9s] at h
 | _ :: _, [], _, h => by simp [A9s] at h
 | (k, t) :: r, (j, v) :: vs, x, h => by
  simp only [A9s] at h
  cases hk : Nat.beq k j with
  | false => rw [hk] at h; cases h
  | true =>
   rw [hk] at h
   obtain rfl := Nat.eq_of_beq_eq_true hk
   simp only [cond] at h
   split at h
   · rename_i a as h1 h2
     obtain rfl := Option.some.inj h
     obtain ⟨i1, i2, i3⟩ := Ah1 (L := L) h2
     obtain ⟨b1, b2⟩ := Ap6 (L := L) h1
     refine ⟨fun i b hb => ?_, fun i b hb => ?_, ?_⟩
     · simp only [Td, Ae, List.map_cons, A0] at hb ⊢
       cases hc : Nat.beq k i with
       | true => rw [hc] at hb; simp only [cond, Option.some.injEq] at hb; subst hb; exact ⟨_, rfl, b1⟩
       | false => rw [hc] at hb; exact i1 i b hb
     · simp only [Td, Ae, List.map_cons, A0] at hb ⊢
       cases hc : Nat.beq k i with
       | true => rfl
       | false => rw [hc] at hb; exact i2 i b hb
     · funext i
       have e := congrFun i3 i
       simp only [A5, Td, A0] at e ⊢
       cases hc : Nat.beq k i with
       | true => exact b2
       | false => exact e
   · cases h
theorem Vf {X : List (Nat × TS)} : ∀ {sl : List (Nat × SV)} {k : Nat} {x : SV}, A0 k (Qp X sl) = some x → A0 k sl = some x
 | [], k, x, h => by cases h
 | (j, y) :: r, k, x, h => by
  simp only [Qp, List.filter_cons] at h
  have gone : (X.any fun q => Nat.beq q.1 j) = false → ∀ q : List (Nat × SV), A0 j (q.filter fun p => X.any fun z => Nat.beq z.1 p.1) = none := by
   intro hc q
   induction q with
   | nil => rfl
   | cons p' r' ih' =>
    simp only [List.filter_cons]
    split
    · rename_i hc'
      simp only [A0]
      cases hb' : Nat.beq p'.1 j with
      | true => have := Nat.eq_of_beq_eq_true hb'; rw [this, hc] at hc'; cases hc'
      | false => exact ih'
    · exact ih'
  simp only [A0]
  cases hb : Nat.beq j k with
  | true =>
   have := Nat.eq_of_beq_eq_true hb
   subst this
   cases hc : (X.any fun q => Nat.beq q.1 j) with
   | true =>
    rw [if_pos hc] at h
    simp only [A0, hb, cond] at h
    exact h
   | false =>
    rw [if_neg (by rw [hc]; exact Bool.false_ne_true), gone hc] at h
    cases h
  | false =>
   simp only [cond]
   split at h
   · simp only [A0, hb, cond] at h
     exact Vf h
   · exact Vf h
theorem Agy {α β : Type} (f : α → β) (h : Nat) : ∀ l : List (Nat × α), Ig h (Ae f l) = Ae f (Ig h l)
 | [] => rfl
 | (j, x) :: r => by
  have ih := Agy f h r
  show (bif Nat.beq j h then Ig h (Ae f r) else (j, f x) :: Ig h (Ae f r)) = Ae f (bif Nat.beq j h then Ig h r else (j, x) :: Ig h r)
  cases Nat.beq j h with
  | true => exact ih
  | false =>
   show (j, f x) :: Ig h (Ae f r) = (j, f x) :: Ae f (Ig h r)
   rw [ih]
theorem Agx {nt : Nat} : ∀ (l : List Nat) {s s' : St3}, Ade l s = some s' → Jh l (s.st nt) = some (s'.st nt)
 | [], s, s', h => by obtain rfl := Option.some.inj h; rfl
 | k :: r, s, s', h => by
  simp only [Ade] at h
  cases hc : (Nat.blt k 1000 && s.clean k) with
  | false => rw [hc] at h; cases h
  | true =>
   rw [hc] at h
   simp only [cond] at h
   simp only [Bool.and_eq_true] at hc
   have hcl := hc.2
   unfold St3.clean at hcl
   simp only [Bool.and_eq_true, List.all_eq_true] at hcl
   have ih := Agx (nt := nt) r h
   have hd : (s.st nt).delBox k = some (({ s with boxes := Ig k s.boxes } : St3).st nt) := by
    unfold St.delBox
    have h1 : (s.st nt).slots.all (fun p => !p.2.men k) = true := by
     simp only [St3.st, Ae, List.all_map, List.all_eq_true, Function.comp, B0j]
     exact hcl.1
    have h2 : N6 k (s.st nt).boxes = true := by
     simp only [N6, St3.st, Ae, List.all_map, List.all_eq_true, Function.comp, Bool.or_eq_true, Bool.not_eq_true']
     intro p hp
     exact .inr (B4a (by simpa using hcl.2 p hp))
    rw [hc.1, h1, h2]
    have hL : ∀ j, j ≠ k → A5 s.boxes j = A5 (Ig k s.boxes) j := fun j hj => by
     unfold A5; rw [Gd hj]
    simp only [Bool.and_self, cond, Option.some.injEq, St3.st]
    congr 1
    · exact Ki fun p hp => A7d hL (by simpa using hcl.1 p hp)
    · rw [← Agy]
      congr 1
      exact Ki fun p hp => Xj hL (by simpa using hcl.2 p hp)
   simp only [Jh, hd]
   exact ih
theorem Tm.dec1_ok {X : Tm} {s : St3} {x : X.den} (h : X.dec1 s = some x) {nt : Nat} {Γ : Ctx} {w : World} {E : Env} {tmps : Array Value} (hs : A6 Γ w E (s.st nt) tmps) : ∃ E', A6 Γ w E' ((X.enc x).st nt) tmps := by
 unfold Tm.dec1 at h
 split at h
 · rename_i s2 hd
   split at h
   · rename_i a b h1 h2
     obtain rfl := Option.some.inj h
     have hs1 : A6 Γ w E (({ s with slots := Qp X.slots s.slots } : St3).st nt) tmps := hs.less fun t y hy => by
      simp only [St3.st, Aj] at hy ⊢
      obtain ⟨z, hz, rfl⟩ := Option.map_eq_some_iff.1 hy
      rw [Vf hz]; rfl
     obtain ⟨E', hs2⟩ := Q5 _ hs1 (Agx _ hd)
     obtain ⟨b1, b2, b3⟩ := Ah1 (L := A5 s2.boxes) h2
     refine ⟨E', hs2.sub rfl (fun t y hy => ?_) (fun k b' hb => ?_) (fun k b hb => ?_)⟩
     · simp only [Tm.enc, St3.st] at hy
       rw [b3] at hy
       exact Agz h1 _ t y hy
     · simp only [Tm.enc, St3.st] at hb
       rw [b3] at hb
       exact b1 k b' hb
     · simp only [Tm.enc, St3.st]
       rw [b3]
       exact b2 k b hb
   · cases h
 · cases h
theorem Qi {nt : Nat} {Γ : Ctx} {w : World} {tmps : Array Value} : ∀ {l : List (Nat × Sh)} {s s' : St3} {E : Env}, Iv l s = some s' → A6 Γ w E (s.st nt) tmps → ∃ E', A6 Γ w E' (s'.st nt) tmps
 | [], s, s', E, h, hs => by
  simp only [Iv, Option.some.injEq] at h
  subst h
  exact ⟨E, hs⟩
 | (t, sh) :: r, s, s', E, h, hs => by
  have go : ∀ {q}, Kx s t sh = some q → (bif q.1 then Iv r q.2 else none) = some s' → ∃ E', A6 Γ w E' (s'.st nt) tmps := by
   rintro ⟨g, s1⟩ h1 h2
   cases g with
   | false => cases h2
   | true =>
    obtain ⟨x', ob, q1, q2⟩ := Qj (nt := nt) h1 rfl
    obtain ⟨E1, hs1⟩ := D4 [(t, x')] (s' := s1.st nt) (obs := ob ++ []) hs (by simp only [Dv, q1]) (fun p hp => by simp only [List.append_nil] at hp; exact q2 p hp)
    exact Qi (l := r) h2 hs1
  simp only [Iv] at h
  split at h
  · exact Qi (l := r) h hs
  · split at h
    · rename_i hq; exact go hq h
    · cases h
theorem Tm.dec_ok {X : Tm} {s : St3} {x : X.den} (h : X.dec s = some x) {nt : Nat} {Γ : Ctx} {w : World} {E : Env} {tmps : Array Value} (hs : A6 Γ w E (s.st nt) tmps) : ∃ E', A6 Γ w E' ((X.enc x).st nt) tmps := by
 unfold Tm.dec at h
 split at h
 · rename_i s1 h1
   obtain ⟨E1, hs1⟩ := Qi h1 hs
   exact Tm.dec1_ok h hs1
 · cases h
end Go.Ev

/- DERIVED. A call that is handed boxes or hands out boxes, decided. -/
namespace Go.Ev
open Go
variable {P : Program} {T : Ty}
def SV.renC (σ : Nat → Nat) : SV → SV
 | .hw h => .hw (σ h)
 | .hs h o l => .hs (σ h) o l
 | .hp h r c => .hp (σ h) r c
 | x => x
def SV.renV (σ : Nat → Nat) : SV → SV
 | .agg cs => .agg (cs.map (SV.renC σ))
 | x => x.renC σ
def SV.ren3 (σ : Nat → Nat) : SV → SV
 | .tup cs => .tup (cs.map (SV.renV σ))
 | x => x.renV σ
def SV.okC (p : Nat → Bool) : SV → Bool
 | .hw h => p h
 | .hs h _ _ => p h
 | .hp h _ _ => p h
 | _ => true
def SV.okV (p : Nat → Bool) : SV → Bool
 | .agg cs => cs.all (SV.okC p)
 | x => x.okC p
def SV.ok3 (p : Nat → Bool) : SV → Bool
 | .tup cs => cs.all (SV.okV p)
 | x => x.okV p
def SV.clC : SV → Bool
 | .d (.sl _) [] => true
 | .d t _ => t.closed
 | .rf _ => false
 | .dead => false
 | _ => true
def SV.clV : SV → Bool
 | .agg cs => cs.all SV.clC
 | x => x.clC
def SV.cl3 : SV → Bool
 | .tup cs => cs.all SV.clV
 | x => x.clV
def B3.cl : B3 → Bool
 | .arr _ t _ _ => t.closed
 | .rep _ _ _ cs => cs.all SV.clC
 | .var _ _ _ cs => cs.all SV.clC
 | .tree _ t _ _ => t.flat
 | .hole _ _ _ _ _ _ _ => false
def B3.plain : B3 → Bool
 | .arr _ _ _ _ => true
 | .var _ hf _ cs => hf && cs.all SV.isD
 | .tree _ _ _ _ => true
 | _ => false
section
variable {L L' : Nat → Nat} {σ : Nat → Nat} {p : Nat → Bool}
theorem Apy (hL : ∀ k, p k = true → L (σ k) = L' k) {x : SV} (ho : x.okC p = true) : (x.renC σ).c L = (x.c L').ren σ := by
 cases x <;> first | rfl | skip
 simp only [SV.renC, SV.c, C.ren]
 rw [hL _ ho]
theorem Ae5 (hL : ∀ k, p k = true → L (σ k) = L' k) {x : SV} (ho : x.okV p = true) : (x.renV σ).v L = (x.v L').ren σ := by
 cases x with
 | agg cs =>
  simp only [SV.renV, SV.v, V.ren, List.map_map]
  congr 1
  exact List.map_congr_left fun y hy => Apy hL (List.all_eq_true.1 ho y hy)
 | hw h => exact congrArg V.one (Apy (x := .hw h) hL ho)
 | _ => rfl
theorem B4x (hL : ∀ k, p k = true → L (σ k) = L' k) {x : SV} (ho : x.ok3 p = true) : (x.ren3 σ).s L = (x.s L').ren σ := by
 cases x with
 | tup cs =>
  simp only [SV.ren3, SV.s, S.ren, List.map_map]
  congr 1
  exact List.map_congr_left fun y hy => Ae5 hL (List.all_eq_true.1 ho y hy)
 | hw h => exact congrArg S.v (Ae5 (x := .hw h) hL ho)
 | agg cs => exact congrArg S.v (Ae5 (x := .agg cs) hL ho)
 | _ => rfl
theorem B8u {x : SV} (ho : x.okC p = true) : (x.c L).okH p = true := by cases x <;> first | rfl | exact ho
theorem B0h {x : SV} (ho : x.okV p = true) : (x.v L).okH p = true := by
 cases x with
 | agg cs =>
  simp only [SV.v, V.okH, List.all_map, List.all_eq_true, Function.comp]
  exact fun y hy => B8u (List.all_eq_true.1 ho y hy)
 | hw h => exact ho
 | hs h o l => exact ho
 | hp h r c => exact ho
 | _ => rfl
theorem B8v {x : SV} (ho : x.ok3 p = true) : (x.s L).okH p = true := by
 cases x with
 | tup cs =>
  simp only [SV.s, S.okH, List.all_map, List.all_eq_true, Function.comp]
  exact fun y hy => B0h (List.all_eq_true.1 ho y hy)
 | agg cs => exact B0h (x := .agg cs) ho
 | hw h => exact ho
 | hs h o l => exact ho
 | hp h r c => exact ho
 | _ => rfl
theorem hd1_closed {l : List I} (h : ∀ c ∈ l, IClosed c) : IClosed (hd1 l) := by
 cases l with
 | nil => exact .lit _
 | cons c r => exact h c (by simp)
theorem Jt {x : SV} (h : x.clC = true) : (x.c L).allI IClosed := by
 cases x with
 | d t y =>
  cases t with
  | sl t =>
   cases y with
   | nil => exact .nil _ _ _
   | cons a b => exact hd1_closed (N5 (.sl t) (a :: b) h)
  | _ => exact hd1_closed (N5 _ y h)
 | rf => cases h
 | dead => cases h
 | hw => trivial
 | hs => trivial
 | hp => trivial
 | _ => exact .lit _
theorem Tn {x : SV} (h : x.clV = true) : (x.v L).allI IClosed := by
 cases x with
 | agg cs =>
  simp only [SV.v, V.allI, List.getElem?_map]
  intro j c hc
  obtain ⟨y, hy, rfl⟩ := Option.map_eq_some_iff.1 hc
  exact Jt (E9 h hy)
 | d t y => exact Jt (L := L) (x := .d t y) h
 | rf cs => exact Jt (L := L) (x := .rf cs) h
 | hw k => exact Jt (L := L) (x := .hw k) h
 | hs k o l => exact Jt (L := L) (x := .hs k o l) h
 | hp k o l => exact Jt (L := L) (x := .hp k o l) h
 | tup cs => exact Jt (L := L) (x := .tup cs) h
 | dead => exact Jt (L := L) (x := .dead) h
theorem Ba7 {x : SV} (h : x.cl3 = true) : (x.s L).allI IClosed := by
 cases x with
 | tup cs =>
  simp only [SV.s, S.allI, List.getElem?_map]
  intro j c hc
  obtain ⟨y, hy, rfl⟩ := Option.map_eq_some_iff.1 hc
  exact Tn (E9 h hy)
 | dead => trivial
 | d t y => exact Tn (L := L) (x := .d t y) h
 | rf cs => exact Tn (L := L) (x := .rf cs) h
 | hw k => exact Tn (L := L) (x := .hw k) h
 | hs k o l => exact Tn (L := L) (x := .hs k o l) h
 | hp k o l => exact Tn (L := L) (x := .hp k o l) h
 | agg cs => exact Tn (L := L) (x := .agg cs) h
theorem B8b {b : B3} (h : b.cl = true) : ∀ (i : Nat) (q : List C) (j : Nat) (c : C), (b.box L).rows[i]? = some q → q[j]? = some c → c.allI fun y => IClosed y ∨ ((b.box L).tr = true ∧ Zm y) := by
 intro i q j c hq hc
 cases b with
 | hole => cases h
 | tree e t fz xs =>
  simp only [B3.box, List.getElem?_map] at hq
  obtain ⟨y, hy, rfl⟩ := Option.map_eq_some_iff.1 hq
  rw [List.getElem?_map] at hc
  obtain ⟨z, hz, rfl⟩ := Option.map_eq_some_iff.1 hc
  exact .inr ⟨rfl, B5l t y h z (List.mem_of_getElem? hz)⟩
 | arr e t fz xs =>
  simp only [B3.box, List.getElem?_map] at hq
  obtain ⟨y, hy, rfl⟩ := Option.map_eq_some_iff.1 hq
  rw [List.getElem?_map] at hc
  obtain ⟨z, hz, rfl⟩ := Option.map_eq_some_iff.1 hc
  exact .inl (N5 t y h z (List.mem_of_getElem? hz))
 | rep e fz n cs =>
  simp only [B3.box, List.getElem?_replicate] at hq
  split at hq
  · obtain rfl := Option.some.inj hq
    rw [List.getElem?_map] at hc
    obtain ⟨z, hz, rfl⟩ := Option.map_eq_some_iff.1 hc
    exact C.allI_mono (fun _ h => .inl h) (Jt (E9 h hz))
  · cases hq
 | var e hf fz cs =>
  simp only [B3.box] at hq
  cases i with
  | zero =>
   obtain rfl := Option.some.inj hq
   rw [List.getElem?_map] at hc
   obtain ⟨z, hz, rfl⟩ := Option.map_eq_some_iff.1 hc
   exact C.allI_mono (fun _ h => .inl h) (Jt (E9 h hz))
  | succ i => simp at hq
theorem Aah {b : B3} (h : b.plain = true) : b.box L = b.box L' ∧ (b.box L).hf = true := by
 cases b with
 | hole => cases h
 | tree => exact ⟨rfl, rfl⟩
 | arr => exact ⟨rfl, rfl⟩
 | rep => cases h
 | var e hf fz cs =>
  simp only [B3.plain, Bool.and_eq_true] at h
  exact ⟨by simp only [B3.box]; rw [Aqv h.2], h.1⟩
end
theorem Tt {L L' : Nat → Nat} {x : SV} (hL : ∀ k, x.menC k = true → L k = L' k) : x.c L = x.c L' := by
 cases x <;> first | rfl | skip
 rename_i k
 simp only [SV.c]
 rw [hL k (by simp [SV.menC])]
theorem A0o {L L' : Nat → Nat} {x : SV} (hL : ∀ k, x.menV k = true → L k = L' k) : x.v L = x.v L' := by
 cases x with
 | agg cs =>
  simp only [SV.v]
  congr 1
  exact List.map_congr_left fun y hy => Tt fun k hk => hL k (List.any_eq_true.2 ⟨y, hy, hk⟩)
 | hw k => exact congrArg V.one (Tt (x := .hw k) hL)
 | _ => rfl
theorem Ax4 {L L' : Nat → Nat} {x : SV} (hL : ∀ k, x.men k = true → L k = L' k) : x.s L = x.s L' := by
 cases x with
 | tup cs =>
  simp only [SV.s]
  congr 1
  exact List.map_congr_left fun y hy => A0o fun k hk => hL k (List.any_eq_true.2 ⟨y, hy, hk⟩)
 | hw k => exact congrArg S.v (A0o (x := .hw k) hL)
 | agg cs => exact congrArg S.v (A0o (x := .agg cs) hL)
 | _ => rfl
theorem Ap7 {L L' : Nat → Nat} {b : B3} (hL : ∀ k, b.men k = true → L k = L' k) : b.box L = b.box L' := by
 cases b with
 | hole e t fz xs row col k => simp only [B3.box]; rw [hL k (by simp [B3.men])]
 | tree => rfl
 | arr => rfl
 | rep e fz n cs =>
  simp only [B3.box]
  rw [List.map_congr_left fun y hy => Tt fun k hk => hL k (List.any_eq_true.2 ⟨y, hy, hk⟩)]
 | var e hf fz cs =>
  simp only [B3.box]
  rw [List.map_congr_left fun y hy => Tt fun k hk => hL k (List.any_eq_true.2 ⟨y, hy, hk⟩)]
def CK.backs : CK → List Nat
 | .back j => [j]
 | _ => []
def PK.backs : PK → List Nat
 | .im _ => []
 | .one c => c.backs
 | .mix cs => cs.flatMap CK.backs
def Ij (f0 : Nat) (ts : List PK) (o : Oper) (s : St3) : Option (Bool × HP ts × List Nat × List (Nat × Nat)) :=
 match o.op with
 | .call c => match c.callee with
  | .value f => match Ze (s.val f) with
   | some (fid, caps) => bif Nat.beq fid f0 then Ku s.boxes 1000 ts (c.args.toList.map s.val ++ caps) else none
   | none => none
  | _ => none
 | _ => none
def Y1 (rs : List PK) : List Nat := (Af 0 rs).map (·.1)
def Hr (E : Iq) (hb : Nat) (q : List (Nat × Nat)) : List (Nat × Nat) := (Y1 E.rs).map (fun k => (k, hb + k)) ++ q
def Cl (E : Iq) (rn : List (Nat × Nat)) : List Nat := (E.rs.flatMap PK.backs).map (I0 rn)
def Fa (B bs : List (Nat × B3)) (kill : List Nat) : List (Nat × Nat) → Bool
 | [] => true
 | p :: r => bif kill.any (Nat.beq p.2) then Fa B bs kill r else Nat.beq (A5 B p.1) (A5 bs p.2) && Fa B bs kill r
def Fl (E : Iq) (hb : Nat) (s : St3) (x : HP E.ts) (bor : List Nat) (q : List (Nat × Nat)) (y : HR E.rs (Af 1000 E.ts)) : Bool :=
 Dx (Hr E hb q) && Bt (B4 E y) (Hr E hb q) && Bt (J2 E x) q && (J2 E x).all (fun p => Nat.ble 1000 p.1) && (B4 E y).all (fun p => p.2.plain) &&
 (Y1 E.rs).all (fun k => Nat.blt (hb + k) 1000 && (A0 (hb + k) s.boxes).isNone && s.clean (hb + k)) && q.all (fun p => !bor.any (Nat.beq p.2)) &&
 (bor.isEmpty || ((Gf (Bo 0 E.rs (Kg y))).cl3 && (B4 E y).all (fun p => p.2.cl))) && (Gf (Bo 0 E.rs (Kg y))).ok3 (fun k => (A0 k (B4 E y)).isSome) &&
 (Cl E (Hr E hb q)).all (fun h => s.boxes.all (fun p => !p.2.men h))
def Ba (E : Iq) (hb : Nat) (s : St3) (q : List (Nat × Nat)) (y : HR E.rs (Af 1000 E.ts)) : SV × St3 :=
 ((Gf (Bo 0 E.rs (Kg y))).ren3 (I0 (Hr E hb q)),
  ⟨Ae (fun x => bif (Cl E (Hr E hb q)).any (fun h => x.men h) then .dead else x) s.slots, Vg (B4 E y) (Hr E hb q) s.boxes⟩)
theorem Vk : ∀ {a b : List (Nat × Nat)}, Dx (a ++ b) = true → Dx b = true
 | [], _, h => h
 | (k, h') :: r, b, h => Vk (Jo h).2
theorem Vd {B bs : List (Nat × B3)} {kill : List Nat} : ∀ {q : List (Nat × Nat)}, Fa B bs kill q = true → ∀ p ∈ q, kill.any (Nat.beq p.2) = true ∨ A5 B p.1 = A5 bs p.2
 | [], _, p, hp => by cases hp
 | a :: r, h, p, hp => by
  simp only [Fa] at h
  cases hk : kill.any (Nat.beq a.2) with
  | true =>
   rw [hk] at h
   rcases List.mem_cons.1 hp with rfl | hp
   · exact .inl hk
   · exact Vd h p hp
  | false =>
   rw [hk] at h
   simp only [cond, Bool.and_eq_true] at h
   rcases List.mem_cons.1 hp with rfl | hp
   · exact .inr (Nat.eq_of_beq_eq_true h.1)
   · exact Vd h.2 p hp
theorem C7 {β : Type} {k : Nat} {b : β} {l : List (Nat × β)} (h : A0 k l = some b) : (k, b) ∈ l := D9 h
theorem Ac3 {E : Iq} {hb : Nat} {o : Oper} {s s' : St3} {nt : Nat} {x : HP E.ts} {bor : List Nat} {q : List (Nat × Nat)} {y : HR E.rs (Af 1000 E.ts)} {K : Ac}
  (h : Ij E.f E.ts o s = some (true, x, bor, q)) (hc : Fl E hb s x bor q y = true) (hg : Fa (B4 E y) s.boxes (Cl E (Hr E hb q)) q = true) (hF : E.Den P nt x y)
  (hp : (Ba E hb s q y).2.put3 K o.dst (Ba E hb s q y).1 = some s') :
  ∃ D obs, D6 P T K o D (s.st nt) = some (s'.st nt, obs) ∧ ∀ p ∈ obs, p := by
 obtain ⟨dst, op, type, pos, aft, guard⟩ := o
 unfold Ij at h
 simp only at h
 split at h
 case h_2 => cases h
 rename_i c
 split at h
 case h_2 => cases h
 rename_i f hf
 split at h
 case h_2 => cases h
 rename_i fid caps hcal
 cases hcf : Nat.beq fid E.f with
 | false => rw [hcf] at h; cases h
 | true =>
 rw [hcf] at h
 simp only [cond] at h
 obtain rfl := Nat.eq_of_beq_eq_true hcf
 generalize hrn : Hr E hb q = rn at *
 unfold Fl at hc
 rw [hrn] at hc
 simp only [Bool.and_eq_true] at hc
 obtain ⟨⟨⟨⟨⟨⟨⟨⟨⟨c1, c2⟩, c3⟩, c4⟩, c5⟩, c6⟩, c7⟩, c8⟩, c9⟩, c10⟩ := hc
 have hrn' : rn = (Y1 E.rs).map (fun k => (k, hb + k)) ++ q := hrn.symm
 have c1q : Dx q = true := Vk (by rw [← hrn']; exact c1)
 have qrn : ∀ p ∈ q, p ∈ rn := fun p hp => by rw [hrn']; exact List.mem_append.2 (.inr hp)
 have fwdm : ∀ k h, (k, h) ∈ rn → I0 rn k = h ∧ Ik rn h = some k ∧ A0 k rn = some h := fun k h hm => by
  obtain ⟨e1, e2⟩ := Lu c1 hm
  exact ⟨by unfold I0; rw [e1], e2, e1⟩
 have outS : ∀ k, (A0 k (Bp (B4 E y))).isSome = (A0 k rn).isSome := fun k => by
  unfold Bp
  rw [Aj, Option.isSome_map, Eg c2 k]
 have inS : ∀ k, (A0 k (Bp (J2 E x))).isSome = (A0 k q).isSome := fun k => by
  unfold Bp
  rw [Aj, Option.isSome_map, Eg c3 k]
 obtain ⟨⟨ob, a1, a2⟩, a3, a4, a5⟩ := Ahf (hd := fun k h => q.any fun p => Nat.beq p.1 k && Nat.beq p.2 h) (L := A5 (J2 E x)) h rfl
  (fun p hp => List.any_eq_true.2 ⟨p, hp, by simp⟩) (fun k b hb => by
   have := V9 c3 c1q hb
   simp only [A5]
   show (match A0 k (J2 E x) with | some b => b.len | none => 0) = b.len
   rw [this])
 obtain ⟨cs, k1, k2⟩ := A6x (L := A5 s.boxes) hcal
 have hfa : (s.val f).alive = true := B9 fun e => by rw [e] at hcal; cases hcal
 have hfv := Bj (nt := nt) rfl hfa
 have hmap : c.args.toList.map (s.st nt).val ++ cs.map (fun x => S.v (V.one (C.i x))) = (c.args.toList.map s.val ++ caps).map (SV.s (A5 s.boxes)) := by
  rw [List.map_append, k2, List.map_map]
  congr 1
  exact List.map_congr_left fun z hz => Bj rfl (a5 _ (List.mem_append.2 (.inl (List.mem_map.2 ⟨z, hz, rfl⟩))))
 have blook : ∀ h, A0 h (Ba E hb s q y).2.boxes = match Ik rn h with | some k => A0 k (B4 E y) | none => A0 h s.boxes := fun h => by
  have := A04 (bs := s.boxes) c2 c1 h
  rw [← hrn] at this ⊢
  exact this
 have lenk : ∀ k h, (k, h) ∈ rn → A5 (Ba E hb s q y).2.boxes h = A5 (B4 E y) k := fun k h hm => by
  unfold A5
  rw [blook h, (fwdm k h hm).2.1]
 have lenS : ∀ h, s.clean h = true ∨ (∀ k, Ik rn h = some k → (k, h) ∈ q ∧ (Cl E rn).any (Nat.beq h) = false) → s.clean h = true ∨ A5 (Ba E hb s q y).2.boxes h = A5 s.boxes h := by
  intro h hh
  rcases hh with hh | hh
  · exact .inl hh
  · cases hw : Ik rn h with
    | none =>
     right
     unfold A5
     rw [blook h, hw]
    | some k =>
     obtain ⟨h1, h2⟩ := hh k hw
     right
     rw [lenk k h (qrn _ h1)]
     rcases Vd hg _ h1 with h3 | h3
     · rw [h3] at h2; cases h2
     · exact h3
 have newC : ∀ k h, (k, h) ∈ rn → (k, h) ∈ q ∨ (h < 1000 ∧ A0 h s.boxes = none ∧ s.clean h = true) := fun k h hm => by
  rw [hrn'] at hm
  rcases List.mem_append.1 hm with hm | hm
  · obtain ⟨k', hk', e⟩ := List.mem_map.1 hm
    obtain ⟨rfl, rfl⟩ := Prod.mk.inj e
    have := List.all_eq_true.1 c6 k' hk'
    simp only [Bool.and_eq_true] at this
    exact .inr ⟨by simpa [Nat.blt_eq] using this.1.1, by simpa using this.1.2, this.2⟩
  · exact .inl hm
 have lenM : ∀ h, (Cl E rn).any (Nat.beq h) = false → s.clean h = true ∨ A5 (Ba E hb s q y).2.boxes h = A5 s.boxes h := fun h hk => by
  cases hw : Ik rn h with
  | none => exact lenS h (.inr fun k e => by rw [hw] at e; cases e)
  | some k =>
   rcases newC k h (Zf hw) with h1 | h1
   · exact lenS h (.inr fun k' e => by rw [hw] at e; obtain rfl := Option.some.inj e; exact ⟨h1, hk⟩)
   · exact .inl h1.2.2
 have cleanS : ∀ {t : Nat} {z : SV} {h : Nat}, A0 t s.slots = some z → s.clean h = true → z.men h = false := fun {t z h} hz hcl => by
  unfold St3.clean at hcl
  simp only [Bool.and_eq_true, List.all_eq_true, Bool.not_eq_true'] at hcl
  exact hcl.1 _ (C7 hz)
 have N6 : ∀ {t : Nat} {z : B3} {h : Nat}, A0 t s.boxes = some z → s.clean h = true → z.men h = false := fun {t z h} hz hcl => by
  unfold St3.clean at hcl
  simp only [Bool.and_eq_true, List.all_eq_true, Bool.not_eq_true'] at hcl
  exact hcl.2 _ (C7 hz)
 have hval : (Ba E hb s q y).1.s (A5 (Ba E hb s q y).2.boxes) = ((Gf (Bo 0 E.rs (Kg y))).s (A5 (B4 E y))).ren (I0 rn) := by
  have : (Ba E hb s q y).1 = (Gf (Bo 0 E.rs (Kg y))).ren3 (I0 rn) := by rw [← hrn]; rfl
  rw [this]
  refine B4x (p := fun k => (A0 k (B4 E y)).isSome) (fun k hk => ?_) c9
  rw [Eg c2 k] at hk
  obtain ⟨h', hh'⟩ := Option.isSome_iff_exists.1 hk
  have hm' := D9 hh'
  rw [(fwdm k h' hm').1, lenk k h' hm']
 have hput := Oz (nt := nt) hp
 rw [hval] at hput
 let cb : CallB := ⟨E.ts.map PK.isIm, (Bo 1000 E.ts x).map (SV.v (A5 (J2 E x))), (Gf (Bo 0 E.rs (Kg y))).s (A5 (B4 E y)), Bp (J2 E x), Bp (B4 E y), I0 rn, Ik rn, fun k h => q.any fun p => Nat.beq p.1 k && Nat.beq p.2 h, (Ba E hb s q y).2.st nt⟩
 have hok : cb.OK P E.f (s.st nt) bor := by
  refine ⟨hF, fun k h hq => ?_, fun k hk => ?_, fun h k hk => ?_, fun k b hb => ?_, fun k b hb => ?_, ?_, ?_, a3, fun h => ?_, fun t z hz => ?_⟩
  · obtain ⟨p, hp1, hp2⟩ := List.any_eq_true.1 hq
    simp only [Bool.and_eq_true] at hp2
    have e1 := Nat.eq_of_beq_eq_true hp2.1
    have e2 := Nat.eq_of_beq_eq_true hp2.2
    have hm' : (k, h) ∈ q := by rw [← e1, ← e2]; exact hp1
    refine ⟨(fwdm k h (qrn _ hm')).1, ?_⟩
    show (A0 k (Bp (J2 E x))).isSome = true
    rw [inS k, (Lu c1q hm').1]; rfl
  · have hk : (A0 k (Bp (B4 E y))).isSome = true := hk
    rw [outS k] at hk
    obtain ⟨h', hh'⟩ := Option.isSome_iff_exists.1 hk
    obtain ⟨e1, e2, _⟩ := fwdm k h' (D9 hh')
    show Ik rn (I0 rn k) = some k
    rw [e1, e2]
  · have hk : Ik rn h = some k := hk
    obtain ⟨e1, e2, e3⟩ := fwdm k h (Zf hk)
    refine ⟨e1, ?_⟩
    show (A0 k (Bp (B4 E y))).isSome = true
    rw [outS k, e3]; rfl
  · have hb : A0 k (Bp (J2 E x)) = some b := hb
    unfold Bp at hb
    rw [Aj] at hb
    obtain ⟨b3, hb3, rfl⟩ := Option.map_eq_some_iff.1 hb
    have hmem := C7 hb3
    obtain ⟨h', b', i1, i2, i3, i4, i5⟩ := a4 k b3 hmem
    obtain ⟨e1, e2, e3⟩ := fwdm k h' (qrn _ i1)
    have hk := List.all_eq_true.1 c4 _ hmem
    have hnb := List.all_eq_true.1 c7 _ i1
    refine ⟨by simpa using hk, ?_, (i5 _).1, (i5 _).2, ?_, ?_⟩
    · show A0 (I0 rn k) (Ae (B3.box (A5 s.boxes)) s.boxes) = _
      rw [e1, Aj, i2]
      exact congrArg some (i4 _ _)
    · show I0 rn k ∉ bor
      rw [e1]
      intro hmb
      have : (bor.any (Nat.beq h')) = true := List.any_eq_true.2 ⟨h', hmb, by simp⟩
      simp only [this, Bool.not_true] at hnb
      cases hnb
    · show (A0 k (Bp (B4 E y))).isSome = true
      rw [outS k, e3]; rfl
  · have hb : A0 k (Bp (B4 E y)) = some b := hb
    have hS : (A0 k (Bp (B4 E y))).isSome = true := by rw [hb]; rfl
    rw [outS k] at hS
    obtain ⟨h', hh'⟩ := Option.isSome_iff_exists.1 hS
    obtain ⟨e1, e2, e3⟩ := fwdm k h' (D9 hh')
    unfold Bp at hb
    rw [Aj] at hb
    obtain ⟨b3, hb3, rfl⟩ := Option.map_eq_some_iff.1 hb
    refine ⟨(Aah (L' := fun _ => 0) (List.all_eq_true.1 c5 _ (C7 hb3))).2, fun hn => ?_⟩
    have hn : A0 k (Bp (J2 E x)) = none := hn
    rcases newC k h' (D9 hh') with h1 | ⟨h1, h2, _⟩
    · have : (A0 k (Bp (J2 E x))).isSome = true := by rw [inS k, (Lu c1q h1).1]; rfl
      rw [hn] at this; cases this
    · show A0 (I0 rn k) (Ae _ s.boxes) = none ∧ I0 rn k < 1000
      rw [e1, Aj, h2]
      exact ⟨rfl, h1⟩
  · simp only [Bool.or_eq_true, List.isEmpty_iff, Bool.and_eq_true] at c8
    rcases c8 with c8 | ⟨c8, c8'⟩
    · exact .inl c8
    · refine .inr ⟨Ba7 c8, fun k b hb => ?_⟩
      have hb : A0 k (Bp (B4 E y)) = some b := hb
      unfold Bp at hb
      rw [Aj] at hb
      obtain ⟨b3, hb3, rfl⟩ := Option.map_eq_some_iff.1 hb
      exact B8b (List.all_eq_true.1 c8' _ (C7 hb3))
  · have : (fun k => (A0 k (Bp (B4 E y))).isSome) = fun k => (A0 k (B4 E y)).isSome := by
     funext k
     unfold Bp
     rw [Aj, Option.isSome_map]
    show S.okH (fun k => (A0 k (Bp (B4 E y))).isSome) _ = true
    rw [this]
    exact B8v c9
  · show A0 h (Ae (B3.box (A5 (Ba E hb s q y).2.boxes)) (Ba E hb s q y).2.boxes) = match Ik rn h with | some k => A0 k (Bp (B4 E y)) | none => A0 h (Ae (B3.box (A5 s.boxes)) s.boxes)
    rw [Aj, blook h]
    cases hw : Ik rn h with
    | some k =>
     simp only
     unfold Bp
     rw [Aj]
     cases hb : A0 k (B4 E y) with
     | none => rfl
     | some b3 => exact congrArg some (Aah (List.all_eq_true.1 c5 _ (C7 hb))).1
    | none =>
     simp only
     rw [Aj]
     cases hb : A0 h s.boxes with
     | none => rfl
     | some b3 =>
      refine congrArg some (Ap7 fun k hk => ?_)
      cases hki : (Cl E rn).any (Nat.beq k) with
      | true =>
       obtain ⟨k2, hk2, hk3⟩ := List.any_eq_true.1 hki
       obtain rfl := Nat.eq_of_beq_eq_true hk3
       have := List.all_eq_true.1 (List.all_eq_true.1 c10 _ hk2) _ (C7 hb)
       simp only [hk, Bool.not_true] at this
       cases this
      | false =>
       rcases lenM k hki with h1 | h1
       · rw [N6 hb h1] at hk; cases hk
       · exact h1
  · have hz : A0 t (Ae (SV.s (A5 (Ba E hb s q y).2.boxes)) (Ae (fun x => bif (Cl E (Hr E hb q)).any (fun h => x.men h) then .dead else x) s.slots)) = some z := hz
    rw [hrn, Aj, Aj, Option.map_map] at hz
    obtain ⟨z0, hz0, rfl⟩ := Option.map_eq_some_iff.1 hz
    simp only [Function.comp]
    cases hki : (Cl E rn).any (fun h => z0.men h) with
    | true => exact .inl rfl
    | false =>
     right
     show A0 t (Ae (SV.s (A5 s.boxes)) s.slots) = _
     rw [Aj, hz0]
     refine congrArg some (Ax4 fun k hk => ?_)
     cases hki' : (Cl E rn).any (Nat.beq k) with
     | true =>
      obtain ⟨k2, hk2, hk3⟩ := List.any_eq_true.1 hki'
      obtain rfl := Nat.eq_of_beq_eq_true hk3
      have := List.any_eq_false.1 hki _ hk2
      rw [hk] at this; exact absurd rfl this
     | false =>
      rcases lenM k hki' with h1 | h1
      · rw [cleanS hz0 h1] at hk; cases hk
      · exact h1.symm
 refine ⟨{ callB := some cb }, cb.OK P E.f (s.st nt) bor :: ob, ?_, fun p hp => ?_⟩
 · have a1' : H5 cb.hd (s.st nt).box cb.ims (c.args.toList.map (s.st nt).val ++ cs.map fun x => S.v (V.one (C.i x))) cb.args = some (ob, bor) := by
    rw [hmap]; exact a1
   simp only [D6, Ad2, hf, hfv, k1, a1']
   have : cb.s'.putD K dst (cb.r.ren cb.σ) = some (s'.st nt) := hput
   rw [this]
   rfl
 · rcases List.mem_cons.1 hp with rfl | hp
   · exact hok
   · exact a2 p hp
def onB {α : Type} (K : Ac) (E : Iq) (hb : Nat) (o : Oper) (s : St3) (x : HP E.ts) (bor : List Nat) (q : List (Nat × Nat)) (y : HR E.rs (Af 1000 E.ts)) (k : St3 → Option α) : Option α :=
 bif Fl E hb s x bor q y then bif Fa (B4 E y) s.boxes (Cl E (Hr E hb q)) q then (match (Ba E hb s q y).2.put3 K o.dst (Ba E hb s q y).1 with
  | some s' => k s'
  | none => none) else none else none
def Or {α : Type} (K : Ac) (E : Ent3) (hb : Nat) (o : Oper) (s : St3) (k : St3 → Option α) : Option α :=
 match Ij E.f E.ts o s with
 | some (g, x, bor, q) => bif g then (match E.m x with
  | some z => Ii (Af 1000 E.ts) E.forms z fun rs y => onB K ⟨E.f, E.ts, rs⟩ hb o s x bor q y k
  | none => none) else none
 | none => none
theorem Us {α : Type} {K : Ac} {E : Ent3} {hb : Nat} {o : Oper} {s : St3} {nt : Nat} {k : St3 → Option α} {r : α} (h : Or K E hb o s k = some r) (hE : E.Sound P) :
  ∃ s' D obs, D6 P T K o D (s.st nt) = some (s'.st nt, obs) ∧ (∀ p ∈ obs, p) ∧ k s' = some r := by
 unfold Or at h
 split at h
 · rename_i g x bor q hc
   cases g with
   | false => cases h
   | true =>
    simp only [cond] at h
    split at h
    · rename_i z hm
      obtain ⟨rs, y, h1, h2⟩ := Kr h (hE nt x z hm)
      unfold onB at h1
      cases hck : Fl ⟨E.f, E.ts, rs⟩ hb s x bor q y with
      | false => rw [hck] at h1; cases h1
      | true =>
       rw [hck] at h1
       simp only [cond] at h1
       cases hl : Fa (B4 ⟨E.f, E.ts, rs⟩ y) s.boxes (Cl ⟨E.f, E.ts, rs⟩ (Hr ⟨E.f, E.ts, rs⟩ hb q)) q with
       | false => rw [hl] at h1; cases h1
       | true =>
        rw [hl] at h1
        simp only at h1
        split at h1
        · rename_i s' hp
          obtain ⟨D, obs, q1, q2⟩ := Ac3 (T := T) (E := ⟨E.f, E.ts, rs⟩) hc hck hl h2 hp
          exact ⟨s', D, obs, q1, q2, h1⟩
        · cases h1
    · cases h
 · cases h
end Go.Ev

/- DERIVED. In place of EvTr EvTs EvTt EvTu EwTr EwTu, where no trees are wanted. -/
namespace Go.Ev
open Go
variable {P : Program} {T : Ty}
theorem Dj.weak {K : Ac} {o : Oper} {s s1 s2 : St} (h : Dj P K o s s1) (hw : Xl s1 s2) : Dj P K o s s2 :=
 fun Γ w E a ro n X hK hX hx hs next Q hn => h Γ w E a ro n X hK hX hx hs next Q fun a' w' hx' ⟨E', hs'⟩ => hn a' w' hx' (hw Γ w' E' a'.tmps hs')
def A4m (_ : Ty) (_ : Oper) (_ : St3) : Option (Bool × St3) := none
theorem Acb (_ : Aq P T) {K : Ac} {o : Oper} {s s' : St3} {nt : Nat} {g : Bool} (h : A4m T o s = some (g, s')) (_ : g = true) : Dj P K o (s.st nt) (s'.st nt) := by cases h
def Adn (_ : Ty) (_ : Ac) (_ : Oper) (_ : St3) : Option (Bool × St3) := none
theorem Ahz (_ : Aq P T) {K : Ac} {o : Oper} {s s' : St3} {nt : Nat} {g : Bool} (h : Adn T K o s = some (g, s')) (_ : g = true) : Dj P K o (s.st nt) (s'.st nt) := by cases h
def Adm (_ : Sh) (_ : Nat) (_ : St3) : Option St3 := none
theorem Ahy {sh : Sh} {k : Nat} {s s' : St3} {nt : Nat} (h : Adm sh k s = some s') : Xl (s.st nt) (s'.st nt) := by cases h
def B8c {α : Type} (_ : Ty) (_ : Ac) (_ : Nat) (_ : Oper) (_ : St3) (_ : St3 → Option α) : Option α := none
theorem B4b (_ : Aq P T) {α : Type} {K : Ac} {kk : Nat} {o : Oper} {s : St3} {nt : Nat} {k : St3 → Option α} {r : α} (h : B8c T K kk o s k = some r) :
  ∃ s' : St3, Dj P K o (s.st nt) (s'.st nt) ∧ k s' = some r := by cases h
def B0a (_ : Nat) (_ : St3) : Option (Bool × St3) := none
theorem Ax3 {kk : Nat} {s s' : St3} {g : Bool} {nt : Nat} (h : B0a kk s = some (g, s')) (_ : g = true) : Xl (s.st nt) (s'.st nt) := by cases h
end Go.Ev

/- DERIVED. Code over shapes: all paths, in one expression. -/
namespace Go.Ev
open Go
variable {P : Program} {T : Ty}
structure OA where
 ent : Option Ent := none
 sh : Option Sh := none
 fz : List (Nat × Sh) := []
 entB : Option Ent3 := none
 hb : Nat := 0
 tr : Option Sh := none
 alt : List Ent3 := []
 bor : Option Nat := none
 shut : Option Nat := none
def OA.two (a : OA) : Bool := (a.ent.isSome && a.entB.isSome) || !a.alt.isEmpty || (a.bor.isSome || a.shut.isSome)
theorem OA.two_false {a : OA} (h : a.two = false) : (a.ent.isSome && a.entB.isSome) = false ∧ a.alt = [] ∧ a.bor = none ∧ a.shut = none := by
 unfold OA.two at h
 simp only [Bool.or_eq_false_iff, Bool.not_eq_false'] at h
 exact ⟨h.1.1, List.isEmpty_iff.1 h.1.2, by simpa using h.2.1, by simpa using h.2.2⟩
structure RA where
 m : Nat := 0
 fz : List (Nat × Sh) := []
 ops : List (Nat × OA) := []
@[reducible] def KS (α : Type) : List (Exit × Tm) → Type
 | [] => Unit
 | (_, X) :: r => (X.den → Option α) × KS α r
def Of {α : Type} (k : Exit → St3 → Option α) : (l : List (Exit × Tm)) → KS α l
 | [] => ()
 | (x, X) :: r => (fun w => k x (X.enc w), Of k r)
def Exit.eqb : Exit → Exit → Bool
 | .normal, .normal => true
 | .ret, .ret => true
 | .exit i, .exit j => Nat.beq i j
 | _, _ => false
theorem Exit.eqb_eq {a b : Exit} (h : Exit.eqb a b = true) : a = b := by
 unfold Exit.eqb at h
 split at h
 · rfl
 · rfl
 · rw [Nat.eq_of_beq_eq_true h]
 · cases h
def Kh {α : Type} : (l : List (Exit × Tm)) → KS α l → Exit → St3 → Option α
 | [], _, _, _ => none
 | (x, X) :: r, ks, y, s => bif Exit.eqb x y then (match X.dec s with
  | some w => ks.1 w
  | none => none) else Kh r ks.2 y s
structure LO (α : Type) where
 H : Tm
 outs : List (Exit × Tm)
 run : H.den → KS α outs → Option α
structure D3 (α : Type) where
 reg : List (Nat × RA) := []
 join : List (Nat × Tm) := []
 loop : List (Nat × LO α) := []
 any : List (Nat × Tm) := []
def Bz : Code → Nat
 | .region id _ _ => id
 | .seq c d => match Bz c with
  | 0 => Bz d
  | n + 1 => n + 1
 | .cond _ c d => match Bz c with
  | 0 => Bz d
  | n + 1 => n + 1
 | .block _ c => Bz c
 | .loop c => Bz c
 | .rangeFunc _ _ a b => match Bz a with
  | 0 => Bz b
  | n + 1 => n + 1
 | _ => 0
def Zq {α : Type} (k : Nat) (x : α) : List (Nat × α) → List (Nat × α)
 | [] => []
 | (j, y) :: r => bif Nat.beq j k then (j, x) :: r else (j, y) :: Zq k x r
def H6 {α : Type} : List (Nat × Sh) → St3 → (St3 → Option α) → Option α
 | [], s, k => k s
 | (t, sh) :: r, s, k => match Kx s t sh with
  | some (g, s1) => bif g then H6 r s1 k else none
  | none => none
def ob {α β : Type} (x : Option β) (k : β → Option α) : Option α := match x with
 | some r => k r
 | none => none
def gd {α : Type} (g : Bool) (x : Option α) : Option α := bif g then x else none
abbrev W (x : Int) : Int := IntKind.i64.wrap x
def Zg (T : Ty) (K : Ac) (A : OA) (o : Oper) (s : St3) : Option (Bool × St3) :=
 match Js T A.sh o s with
 | some r => match s.eff3 K o.dst r.eff with
  | some s1 => match s1.put3 K o.dst r.val with
   | some s' => match A.tr with
    | none => some (r.g, s')
    | some sh => match o.dst with
     | some d => (Adm sh d s').map fun s2 => (r.g, s2)
     | none => none
   | none => none
  | none => none
 | none => match A4m T o s with
  | some q => some q
  | none => Adn T K o s
def Ahk : List Ent3 → Oper → St3 → Option Ent3
 | [], _, _ => none
 | E :: r, o, s => match Ij E.f E.ts o s with
  | some _ => some E
  | none => Ahk r o s
theorem Ahj : ∀ {l : List Ent3} {o : Oper} {s : St3} {E : Ent3}, Ahk l o s = some E → E ∈ l
 | [], _, _, _, h => by cases h
 | F :: r, o, s, E, h => by
  simp only [Ahk] at h
  split at h
  · cases h; exact List.mem_cons_self
  · exact List.mem_cons_of_mem _ (Ahj h)
def Ot {α : Type} (T : Ty) (K : Ac) (A : OA) (o : Oper) (s : St3) (k : St3 → Option α) : Option α :=
 match Ahk A.alt o s with
 | some E => Or K E A.hb o s k
 | none => match A.ent with
 | some E => match O6 E o s with
  | some (g, x) => bif g then ob (E.m x) (fun r => match s.put3 K o.dst (C2 E.rs r) with
    | some s' => k s'
    | none => none) else none
  | none => match A.entB with
   | some F => Or K F A.hb o s k
   | none => none
 | none => match A.entB with
 | some E => Or K E A.hb o s k
 | none => match Zg T K A o s with
  | some (g, s') => bif g then k s' else none
  | none => none
def Qh {α : Type} (T : Ty) (K : Ac) (A : OA) (o : Oper) (s : St3) (k : St3 → Option α) : Option α :=
 match A.bor with
 | some kk => B8c T K kk o s k
 | none => match A.shut with
  | none => Ot T K A o s k
  | some kk => Ot T K A o s fun s1 => match B0a kk s1 with
   | some (g, s2) => bif g then k s2 else none
   | none => none
def Ad3 {α : Type} (K : Ac) (o : Oper) (s : St3) (k : St3 → Option α) : Option α :=
 match s.put3 K o.dst (.tup []) with
 | some s' => k s'
 | none => none
def Vj {α : Type} (ops : List Oper) (o : Oper) (s : St3) (f g : St3 → Option α) : Option α :=
 match o.guard with
 | none => f s
 | some (j, want) => match ops[j]? with
  | some p => match p.dst with
   | some t => match A0 t s.slots with
    | some (.d .bool b) => bif b then
      (bif want then f { s with slots := Zq t (.d .bool true) s.slots } else g { s with slots := Zq t (.d .bool true) s.slots }) else
      (bif want then g { s with slots := Zq t (.d .bool false) s.slots } else f { s with slots := Zq t (.d .bool false) s.slots })
    | some (.tup []) => g s
    | _ => none
   | none => none
  | none => none
def Hw {α : Type} (T : Ty) (K : Ac) (ops : List Oper) (A : List (Nat × OA)) : List (Nat × Oper) → St3 → (St3 → Option α) → Option α
 | [], s, k => k s
 | (i, o) :: r, s, k => H6 ((A0 i A).getD {}).fz s fun s0 => Vj ops o s0 (fun s1 => Qh T K ((A0 i A).getD {}) o s1 fun s2 => Hw T K ops A r s2 k) (fun s1 => Ad3 K o s1 fun s2 => Hw T K ops A r s2 k)
def OA.quiet (T : Ty) (A : OA) (o : Oper) (s : St3) : Bool :=
 A.fz.isEmpty && A.tr.isNone && A.alt.isEmpty && (A.bor.isNone && A.shut.isNone) && (match A.entB with | some _ => false | none => true) && (match o.dst with | some _ => true | none => false) && (match A.ent with
 | some _ => true
 | none => match Js T A.sh o s with
  | some r => match r.eff with
   | .none => true
   | _ => false
  | none => false)
def Ae8 {α : Type} (T : Ty) (K : Ac) (ops : List Oper) (A : List (Nat × OA)) : List (Nat × Oper) → St3 → (St3 → Option α) → Option α
 | [], s, k => k s
 | (i, o) :: r, s, k => Vj ops o s
   (fun s1 => bif OA.quiet T ((A0 i A).getD {}) o s1 then Qh T K ((A0 i A).getD {}) o s1 (fun s2 => Ae8 T K ops A r s2 k) else none)
   (fun s1 => bif o.dst.isSome then Ad3 K o s1 (fun s2 => Ae8 T K ops A r s2 k) else none)
def Ax9 {α : Type} (P : Program) (T : Ty) (K : Ac) (A : RA) (ops : Array Oper) (draw : Bool) (s : St3) (k : St3 → Option α) : Option α :=
 bif draw then
  bif Dd ops A.m then H6 A.fz s fun s0 => Ae8 T K ops.toList A.ops ((Ab ops.toList).take A.m) s0 fun s1 => Hw T K ops.toList A.ops ((Ab ops.toList).drop A.m) s1 k else none
 else Hw T K ops.toList A.ops (Ab ops.toList) s k
def Bf {α : Type} (P : Program) (T : Ty) (K : Ac) (D : D3 α) : Code → St3 → (Exit → St3 → Option α) → Option α
 | .skip, s, k => k .normal s
 | .region id ops draw, s, k => match A0 id D.any with
  | some X => bif draw then (match X.dec s with
   | some w => Hw T K ops.toList ((A0 id D.reg).getD {}).ops (Ab ops.toList) (X.enc w) (k .normal)
   | none => none) else none
  | none => Ax9 P T K ((A0 id D.reg).getD {}) ops draw s (k .normal)
 | .seq c d, s, k => match A0 (Bz d) D.join with
  | none => Bf P T K D c s fun x s1 => match x with
   | .normal => Bf P T K D d s1 k
   | x => k x s1
  | some X => (fun (J : X.den → Option α) => Bf P T K D c s fun x s1 => match x with
   | .normal => match X.dec s1 with
    | some w => J w
    | none => none
   | x => k x s1) fun w => Bf P T K D d (X.enc w) k
 | .cond (.tmp t) c d, s, k => match A0 t s.slots with
  | some (.d .bool b) => bif b then Bf P T K D c { s with slots := Zq t (.d .bool true) s.slots } k else Bf P T K D d { s with slots := Zq t (.d .bool false) s.slots } k
  | _ => none
 | .block id c, s, k => Bf P T K D c s fun x s1 => match x with
  | .exit j => bif Nat.beq j id then k .normal s1 else k (.exit j) s1
  | x => k x s1
 | .loop c, s, k => match A0 (Bz c) D.loop with
  | some L => match L.H.dec s with
   | some v => L.run v (Of k L.outs)
   | none => none
  | none => none
 | .rangeFunc _ _ a b, s, k => match A0 (match Bz a with | 0 => Bz b | n + 1 => n + 1) D.loop with
  | some L => match L.H.dec s with
   | some v => L.run v (Of k L.outs)
   | none => none
  | none => none
 | .exit id, s, k => k (.exit id) s
 | .ret, s, k => k .ret s
 | _, _, _ => none
def A4 {α : Type} {V Ks : Type} (B : V → (V → Option α) → Ks → Option α) : Nat → V → Ks → Option α
 | 0, _, _ => none
 | n + 1, v, ks => B v (fun v' => A4 B n v' ks) ks
def A6z {α : Type} (H : Tm) (outs : List (Exit × Tm)) (f : H.den → Option α) (ks : KS α outs) (x : Exit) (s : St3) : Option α :=
 match x with
 | .normal => match H.dec s with
  | some v => f v
  | none => none
 | x => Kh outs ks x s
def A7i (T : Ty) (s : St3) : ResultVar → Option SV
 | .tmp t => A0 t s.slots
 | .cell a t => match s.val (.tmp a) with
  | .hp h row col => match A0 h s.boxes with
   | some (.var _ _ _ _) => match Xz T t (.hp h row col) s.boxes with
    | some r => some r.val
    | none => none
   | _ => none
  | _ => none
def V5 (T : Ty) (s : St3) (rv : ResultVar) (t : Sh) : Option (Bool × t.den × List Nat) :=
 match A7i T s rv with
 | some v => Xh s.boxes t v
 | none => none
def Hs (T : Ty) (s : St3) : (ts : List Sh) → List ResultVar → Option (Bool × HL ts)
 | [], [] => some (true, ())
 | [t], [rv] => match V5 T s rv t with
  | some (g, x, _) => some (g, x)
  | none => none
 | t :: u :: r, rv :: rvs => match V5 T s rv t, Hs T s (u :: r) rvs with
  | some (g, x, _), some (g', xs) => some (g && g', (x, xs))
  | _, _ => none
 | _, _ => none
def Axy (T : Ty) (rs : List Sh) (rvs : List ResultVar) (x : Exit) (s : St3) : Option (HL rs) :=
 match x with
 | .exit _ => none
 | .normal => match Hs T s rs rvs with
  | some (g, y) => bif g then some y else none
  | none => none
 | .ret => match Hs T s rs rvs with
  | some (g, y) => bif g then some y else none
  | none => none
 | _ => none
def Ed (i : Nat) : List SV → List (Nat × SV)
 | [] => []
 | x :: r => (i, x) :: Ed (i + 1) r
def Xb (ts : List Sh) (x : HL ts) : St3 := ⟨Ed 0 (Dt ts x), []⟩
end Go.Ev

/- DERIVED. Code over shapes is what the code does. -/
namespace Go.Ev
open Go
variable {P : Program} {T : Ty} {α : Type}
theorem Aph {f : SV → S} {t : Nat} {x y : SV} (hxy : f x = f y) : ∀ {l : List (Nat × SV)}, A0 t l = some y → Ae f (Zq t x l) = Ae f l
 | [], h => by cases h
 | (j, z) :: r, h => by
  simp only [A0] at h
  simp only [Zq]
  cases hb : Nat.beq j t with
  | true =>
   rw [hb] at h
   simp only [cond, Option.some.injEq] at h
   subst h
   simp [Ae, hxy]
  | false =>
   rw [hb] at h
   have := Aph hxy h
   simp only [Ae] at this
   simp [Ae, this]
theorem Oa {nt : Nat} : ∀ {l : List (Nat × Sh)} {s : St3} {k : St3 → Option α} {r : α}, H6 l s k = some r → ∃ s' fz ob, Dv fz (s.st nt) = some (s'.st nt, ob) ∧ (∀ p ∈ ob, p) ∧ k s' = some r ∧ (l = [] → fz = [] ∧ s' = s)
 | [], s, k, r, h => ⟨s, [], [], rfl, by simp, h, fun _ => ⟨rfl, rfl⟩⟩
 | (t, sh) :: l, s, k, r, h => by
  simp only [H6] at h
  split at h
  · rename_i g s1 hs
    cases g with
    | false => cases h
    | true =>
     obtain ⟨x', ob, h1, h2⟩ := Qj (nt := nt) hs rfl
     obtain ⟨s2, fz, ob2, h3, h4, h5, _⟩ := Oa (nt := nt) (l := l) h
     refine ⟨s2, (t, x') :: fz, ob ++ ob2, by simp only [Dv, h1, h3], fun p hp => ?_, h5, fun e => by cases e⟩
     rcases List.mem_append.1 hp with hp | hp
     · exact h2 p hp
     · exact h4 p hp
  · cases h
theorem Alm {o : Oper} {s : St3} {nt : Nat} {A : Option Sh} {r : R3} (h : Js T A o s = some r) (hg : r.g = true) (he : r.eff = .none) :
  ∃ D obs, (∀ p ∈ obs, p) ∧ quiet P T o D (s.st nt) = some (r.val.s (A5 s.boxes), obs) := by
 obtain ⟨hnt, q, h1, h2, h3⟩ := Ah3 (nt := nt) h hg
 unfold Hl at h3
 rw [he] at h3
 refine ⟨{ cells := hnt }, q.ob ++ [], by simpa using h2, ?_⟩
 unfold quiet
 simp only [h1, h3.1, Option.getD_none, h3.2]
theorem Ax0 {K : Ac} {o : Oper} {D : F2} {s : St} (fz : List (Nat × V)) : D6 P T K o { D with fz := fz } s = D6 P T K o D s := rfl
def OA.S (P : Program) (a : OA) : Prop := (∀ E, a.ent = some E → E.Sound P) ∧ (∀ E, a.entB = some E → E.Sound P) ∧ ∀ E, E ∈ a.alt → E.Sound P
theorem Ahd (hT : Aq P T) {K : Ac} {A : OA} {o : Oper} {s s' : St3} {nt : Nat} {g : Bool} (h : Zg T K A o s = some (g, s')) (hg : g = true) :
  ∃ D obs, D6 P T K o D (s.st nt) = some (s'.st nt, obs) ∧ ∀ p ∈ obs, p := by
 unfold Zg at h
 split at h
 · rename_i q hq
   split at h
   · rename_i s1 he
     split at h
     · rename_i s2 hp
       have key : q.g = true → ∃ D obs, D6 P T K o D (s.st nt) = some (s2.st nt, obs) ∧ ∀ p ∈ obs, p := fun hg => by
        obtain ⟨hnt, r1, h1, h2, h3⟩ := Ah3 (nt := nt) hq hg
        obtain ⟨h4, h5⟩ := B47 (nt := nt) he h3
        have h6 := Oz (nt := nt) hp
        rw [← h5] at h6
        refine ⟨{ cells := hnt }, r1.ob ++ [] ++ [], ?_, by simpa using h2⟩
        unfold D6
        simp only [h1, h4, Option.getD_none, h6, Option.map_some]
       split at h
       · simp only [Option.some.injEq, Prod.mk.injEq] at h
         obtain ⟨rfl, rfl⟩ := h
         exact key hg
       · split at h
         · simp only [Option.map_eq_some_iff, Prod.mk.injEq] at h
           obtain ⟨s3, h3, rfl, rfl⟩ := h
           obtain ⟨D, obs, k1, k2⟩ := key hg
           exact ⟨{ own := some (s3.st nt) }, _, rfl, fun p hp => by
            rw [List.mem_singleton.1 hp]
            exact (F5 hT k1 k2).weak (Ahy h3)⟩
         · cases h
     · cases h
   · cases h
 · split at h
   · rename_i q hq
     obtain rfl := Option.some.inj h
     exact ⟨{ own := some (s'.st nt) }, _, rfl, fun p hp => by rw [List.mem_singleton.1 hp]; exact Acb hT hq hg⟩
   · exact ⟨{ own := some (s'.st nt) }, _, rfl, fun p hp => by rw [List.mem_singleton.1 hp]; exact Ahz hT h hg⟩
theorem Aad (hT : Aq P T) {K : Ac} {A : OA} {o : Oper} {s : St3} {nt : Nat} {k : St3 → Option α} {r : α} (h : Ot T K A o s k = some r) (hE : A.S P) :
  ∃ s' D obs, D6 P T K o D (s.st nt) = some (s'.st nt, obs) ∧ (∀ p ∈ obs, p) ∧ k s' = some r := by
 unfold Ot at h
 split at h
 · rename_i E hal
   exact Us h (hE.2.2 E (Ahj hal))
 split at h
 · rename_i E hent
   split at h
   · rename_i g x hc
     cases g with
     | false => cases h
     | true =>
      simp only [cond, ob] at h
      split at h
      · rename_i y hm
        split at h
        · rename_i s' hp
          obtain ⟨obs, h1, h2⟩ := A49 (T := T) (nt := nt) hc hm (hE.1 E hent)
          have := Oz (nt := nt) hp
          rw [A7f] at this
          obtain ⟨D', obs', h3, h4⟩ := Qk h2 this
          exact ⟨s', D', obs', h3, h4 h1, h⟩
        · cases h
      · cases h
   · split at h
     · rename_i F hF
       exact Us h (hE.2.1 F hF)
     · cases h
 split at h
 · rename_i E hent
   exact Us h (hE.2.1 E hent)
 · split at h
   · rename_i g s' hq
     cases g with
     | false => cases h
     | true =>
      obtain ⟨D, obs, h1, h2⟩ := Ahd (nt := nt) hT hq rfl
      exact ⟨s', D, obs, h1, h2, h⟩
   · cases h
theorem Awz (hT : Aq P T) {K : Ac} {A : OA} {o : Oper} {s : St3} {nt : Nat} {k : St3 → Option α} {r : α} (h : Qh T K A o s k = some r) (hE : A.S P) :
  ∃ s' D obs, D6 P T K o D (s.st nt) = some (s'.st nt, obs) ∧ (∀ p ∈ obs, p) ∧ k s' = some r := by
 unfold Qh at h
 split at h
 · obtain ⟨s', h1, h2⟩ := B4b (nt := nt) hT h
   exact ⟨s', { own := some (s'.st nt) }, _, rfl, fun p hp => by rw [List.mem_singleton.1 hp]; exact h1, h2⟩
 · split at h
   · exact Aad hT h hE
   · obtain ⟨s1, D, obs, h1, h2, h3⟩ := Aad (nt := nt) hT h hE
     split at h3
     · rename_i g s2 hs
       cases g with
       | false => cases h3
       | true => exact ⟨s2, { own := some (s2.st nt) }, _, rfl, fun p hp => by rw [List.mem_singleton.1 hp]; exact (F5 hT h1 h2).weak (Ax3 hs rfl), h3⟩
     · cases h3
theorem Aq1 {K : Ac} {A : OA} {o : Oper} {s : St3} {nt : Nat} {k : St3 → Option α} {r : α} (h : Qh T K A o s k = some r) (hq : A.quiet T o s = true) (hE : A.S P) :
  ∃ t s' D x obs, o.dst = some t ∧ Nat.blt t K.N = true ∧ quiet P T o D (s.st nt) = some (x, obs) ∧ (∀ p ∈ obs, p) ∧ k s' = some r ∧ s'.st nt = { s.st nt with slots := As t x (s.st nt).slots } := by
 unfold OA.quiet at hq
 simp only [Bool.and_eq_true] at hq
 obtain ⟨⟨⟨⟨⟨⟨_, hqt⟩, hqa⟩, hqb, hqc⟩, hq0⟩, hq1⟩, hq2⟩ := hq
 have putI : ∀ {s s' : St3} {y : SV}, s.put3 K o.dst y = some s' → ∃ t, o.dst = some t ∧ Nat.blt t K.N = true ∧ s'.st nt = { s.st nt with slots := As t (y.s (A5 s.boxes)) (s.st nt).slots } := by
  intro s s' y hp
  unfold St3.put3 at hp
  cases hd : o.dst with
  | none => rw [hd] at hq1; cases hq1
  | some t =>
   rw [hd] at hp
   simp only at hp
   cases hb : Nat.blt t K.N with
   | false => rw [hb] at hp; cases hp
   | true =>
    rw [hb] at hp
    obtain rfl := Option.some.inj hp
    exact ⟨t, rfl, hb, by simp only [St3.st, Eh]⟩
 unfold Qh at h
 rw [show A.bor = none by simpa using hqb, show A.shut = none by simpa using hqc] at h
 simp only at h
 unfold Ot at h
 split at h
 · rename_i E hal
   rw [List.isEmpty_iff.1 hqa] at hal; cases hal
 split at h
 · rename_i E hent
   split at h
   · rename_i g x hc
     cases g with
     | false => cases h
     | true =>
      simp only [cond, ob] at h
      split at h
      · rename_i y hm
        split at h
        · rename_i s' hp
          obtain ⟨obs, h1, h2⟩ := A49 (T := T) (nt := nt) hc hm (hE.1 E hent)
          obtain ⟨t, p1, p2, p3⟩ := putI hp
          rw [A7f] at p3
          exact ⟨t, s', _, _, obs, p1, p2, h2, h1, h, p3⟩
        · cases h
      · cases h
   · split at h
     · rename_i F hF
       rw [hF] at hq0; cases hq0
     · cases h
 split at h
 · rename_i E hB
   rw [hB] at hq0; cases hq0
 · rename_i hent _ _
   rw [hent] at hq2
   simp only at hq2
   cases hcq : Js T A.sh o s with
   | none => rw [hcq] at hq2; cases hq2
   | some q =>
    rw [hcq] at hq2
    simp only at hq2
    have he : q.eff = .none := by
     cases e : q.eff <;> first | rfl | (rw [e] at hq2; cases hq2)
    have htr : A.tr = none := by
     cases e : A.tr with
     | none => rfl
     | some _ => rw [e] at hqt; cases hqt
    unfold Zg at h
    rw [hcq] at h
    simp only [he, St3.eff3, htr] at h
    split at h
    · rename_i g s' hb
      split at hb
      · rename_i s2 hp
        simp only [Option.some.injEq, Prod.mk.injEq] at hb
        obtain ⟨hg, rfl⟩ := hb
        cases g with
        | false => cases h
        | true =>
         simp only [cond] at h
         obtain ⟨D, obs, h1, h2⟩ := Alm (P := P) (nt := nt) hcq hg he
         obtain ⟨t, p1, p2, p3⟩ := putI hp
         exact ⟨t, _, D, _, obs, p1, p2, h2, h1, h, p3⟩
      · cases hb
    · cases h
theorem Aaf {s : St3} {nt t : Nat} {b : Bool} (h : A0 t s.slots = some (.d .bool b)) : A0 t (s.st nt).slots = some (.v (.one (.i (.lit (.bool b))))) := by
 simp only [St3.st, Aj, h]; rfl
theorem Iu {s : St3} {nt t : Nat} {b : Bool} (h : A0 t s.slots = some (.d .bool b)) : (({ s with slots := Zq t (.d .bool b) s.slots } : St3).st nt) = s.st nt := by
 simp only [St3.st]
 rw [Aph rfl h]
theorem Aap {ops : List Oper} {o : Oper} {s : St3} {nt : Nat} {f g : St3 → Option α} {r : α} (h : Vj ops o s f g = some r) :
  ∃ s0, s0.st nt = s.st nt ∧ ((Gg (s.st nt) ops o = some true ∧ f s0 = some r) ∨ (Gg (s.st nt) ops o = some false ∧ g s0 = some r)) := by
 unfold Vj at h
 unfold Gg
 split at h
 · rename_i hg
   rw [hg]
   exact ⟨s, rfl, .inl ⟨by first | rfl | trivial, h⟩⟩
 · rename_i j want hg
   rw [hg]
   simp only
   split at h
   · rename_i p hp
     simp only [hp]
     split at h
     · rename_i t ht
       simp only [ht]
       split at h
       · rename_i b hl
         simp only [Aaf (nt := nt) hl]
         cases b <;> cases want <;> simp only [cond] at h
         · exact ⟨_, Iu hl, .inl ⟨by first | rfl | trivial, h⟩⟩
         · exact ⟨_, Iu hl, .inr ⟨by first | rfl | trivial, h⟩⟩
         · exact ⟨_, Iu hl, .inr ⟨by first | rfl | trivial, h⟩⟩
         · exact ⟨_, Iu hl, .inl ⟨by first | rfl | trivial, h⟩⟩
       · rename_i hl
         have : A0 t (s.st nt).slots = some (.tup []) := by
          simp only [St3.st, Aj, hl]; rfl
         simp only [this]
         exact ⟨s, rfl, .inr ⟨by first | rfl | trivial, h⟩⟩
       · cases h
     · cases h
   · cases h
theorem Adx {K : Ac} {o : Oper} {s : St3} {nt : Nat} {k : St3 → Option α} {r : α} (h : Ad3 K o s k = some r) : ∃ s', (s.st nt).putD K o.dst (.tup []) = some (s'.st nt) ∧ k s' = some r := by
 unfold Ad3 at h
 split at h
 · rename_i s' hp
   exact ⟨s', Oz (nt := nt) hp, h⟩
 · cases h
theorem Hq {K : Ac} {ops : List Oper} {Ds Ds' : List (Nat × F2)} : ∀ (l : List (Nat × Oper)) (s : St), (∀ p ∈ l, A0 p.1 Ds = A0 p.1 Ds') → Cg P T K ops Ds l s = Cg P T K ops Ds' l s
 | [], _, _ => rfl
 | (i, o) :: r, s, h => by
  have h0 := h (i, o) (by simp)
  have ih := fun s => Hq (K := K) (ops := ops) r s fun p hp => h p (by simp [hp])
  simp only [Cg]
  rw [show A0 i Ds = A0 i Ds' from h0]
  simp only [ih]
theorem Hp {K : Ac} {ops : List Oper} {Ds Ds' : List (Nat × F2)} : ∀ (l : List (Nat × Oper)) (xs : List (Nat × Nat × S)) (s : St), (∀ p ∈ l, A0 p.1 Ds = A0 p.1 Ds') → Fh P T K ops Ds l xs s = Fh P T K ops Ds' l xs s
 | [], _, _, _ => rfl
 | (i, o) :: r, xs, s, h => by
  have h0 := h (i, o) (by simp)
  have ih := fun xs s => Hp (K := K) (ops := ops) r xs s fun p hp => h p (by simp [hp])
  simp only [Fh]
  rw [show A0 i Ds = A0 i Ds' from h0]
  simp only [ih]
theorem B5 {β : Type} {i j : Nat} {x : β} {l : List (Nat × β)} (h : i ≠ j) : A0 j ((i, x) :: l) = A0 j l := by
 simp only [A0]
 have : Nat.beq i j = false := by cases e : Nat.beq i j with | false => rfl | true => exact absurd (Nat.eq_of_beq_eq_true e) h
 rw [this]; rfl
theorem Be {β : Type} {i : Nat} {x : β} {l : List (Nat × β)} : A0 i ((i, x) :: l) = some x := by
 simp only [A0, Nat.beq_refl]; rfl
theorem Xv (hT : Aq P T) {K : Ac} {ops : List Oper} {A : List (Nat × OA)} {nt : Nat} (hE : ∀ i a, A0 i A = some a → a.S P) : ∀ (l : List (Nat × Oper)) (s : St3) (k : St3 → Option α) (r : α), (l.map (·.1)).Nodup → Hw T K ops A l s k = some r →
  ∃ s' Ds obs, k s' = some r ∧ Cg P T K ops Ds l (s.st nt) = some (s'.st nt, obs) ∧ ∀ p ∈ obs, p
 | [], s, k, r, _, h => ⟨s, [], [], h, rfl, by simp⟩
 | (i, o) :: l, s, k, r, hn, h => by
  simp only [List.map_cons, List.nodup_cons] at hn
  simp only [Hw] at h
  obtain ⟨s0, fz, ob0, h1, h2, h3, _⟩ := Oa (nt := nt) h
  obtain ⟨s00, e1, hg⟩ := Aap (nt := nt) h3
  have hEi : ((A0 i A).getD {}).S P := by
   cases hl : A0 i A with
   | none => exact ⟨(fun E h => by cases h), (fun E h => by cases h), (fun E h => by cases h)⟩
   | some a => exact hE i a hl
  rcases hg with ⟨g1, g2⟩ | ⟨g1, g2⟩
  · obtain ⟨s1, D, ob1, h4, h5, h6⟩ := Awz (P := P) (nt := nt) hT g2 hEi
    obtain ⟨s', Ds, ob2, h7, h8, h9⟩ := Xv hT hE l s1 k r hn.2 h6
    refine ⟨s', (i, { D with fz := fz }) :: Ds, ob0 ++ (ob1 ++ ob2), h7, ?_, fun p hp => ?_⟩
    · simp only [Cg, Be, Option.getD_some, h1]
      rw [e1] at h4
      simp only [Xs, g1, Ax0, h4]
      rw [Hq (Ds' := Ds) l _ fun p hp => B5 fun e => hn.1 (by rw [e]; exact List.mem_map.2 ⟨p, hp, rfl⟩), h8]
    · rcases List.mem_append.1 hp with hp | hp
      · exact h2 p hp
      · rcases List.mem_append.1 hp with hp | hp
        · exact h5 p hp
        · exact h9 p hp
  · obtain ⟨s1, h4, h6⟩ := Adx (nt := nt) g2
    obtain ⟨s', Ds, ob2, h7, h8, h9⟩ := Xv hT hE l s1 k r hn.2 h6
    refine ⟨s', (i, { fz := fz }) :: Ds, ob0 ++ ([] ++ ob2), h7, ?_, fun p hp => ?_⟩
    · simp only [Cg, Be, Option.getD_some, h1]
      rw [e1] at h4
      simp only [Xs, g1, h4, Option.map_some]
      rw [Hq (Ds' := Ds) l _ fun p hp => B5 fun e => hn.1 (by rw [e]; exact List.mem_map.2 ⟨p, hp, rfl⟩), h8]
    · rcases List.mem_append.1 hp with hp | hp
      · exact h2 p hp
      · exact h9 p (by simpa using hp)
theorem Aaj {β : Type} {i : Nat} {d : β} {Ds : List (Nat × β)} {ks : List Nat} (h : ∀ j, (A0 j Ds).isSome = true ↔ j ∈ ks) : ∀ j, (A0 j ((i, d) :: Ds)).isSome = true ↔ j ∈ i :: ks := by
 intro j
 by_cases e : i = j
 · subst e
   rw [Be]
   simp
 · rw [B5 e, h j]
   simp [Ne.symm e]
theorem U5 {β : Type} {j : Nat} : ∀ {a b : List (Nat × β)}, (A0 j a).isSome = true → A0 j (a ++ b) = A0 j a
 | [], _, h => by cases h
 | (i, x) :: r, b, h => by
  by_cases e : i = j
  · subst e
    rw [List.cons_append, Be, Be]
  · rw [B5 e] at h
    rw [List.cons_append, B5 e, B5 e, U5 h]
theorem U6 {β : Type} {j : Nat} : ∀ {a b : List (Nat × β)}, A0 j a = none → A0 j (a ++ b) = A0 j b
 | [], _, _ => rfl
 | (i, x) :: r, b, h => by
  by_cases e : i = j
  · subst e
    rw [Be] at h
    cases h
  · rw [B5 e] at h
    rw [List.cons_append, B5 e, U6 h]
theorem A7j {K : Ac} {ops : List Oper} {A : List (Nat × OA)} {nt : Nat} (hE : ∀ i a, A0 i A = some a → a.S P) : ∀ (l : List (Nat × Oper)) (s : St3) (k : St3 → Option α) (r : α), (l.map (·.1)).Nodup → Ae8 T K ops A l s k = some r →
  ∃ s' Ds obs, k s' = some r ∧ (∀ xs, ∃ ys, Fh P T K ops Ds l xs (s.st nt) = some (ys, s'.st nt, obs)) ∧ (∀ p ∈ obs, p) ∧ ∀ j, (A0 j Ds).isSome = true ↔ j ∈ l.map (·.1)
 | [], s, k, r, _, h => ⟨s, [], [], h, fun xs => ⟨xs, rfl⟩, by simp, fun j => by simp [A0]⟩
 | (i, o) :: l, s, k, r, hn, h => by
  simp only [List.map_cons, List.nodup_cons] at hn
  simp only [Ae8] at h
  have hEi : ((A0 i A).getD {}).S P := by
   cases hl : A0 i A with
   | none => exact ⟨(fun E h => by cases h), (fun E h => by cases h), (fun E h => by cases h)⟩
   | some a => exact hE i a hl
  obtain ⟨s00, e1, hg⟩ := Aap (nt := nt) h
  rcases hg with ⟨g1, g2⟩ | ⟨g1, g2⟩
  · cases hq : OA.quiet T ((A0 i A).getD {}) o s00 with
    | false => rw [hq] at g2; cases g2
    | true =>
     rw [hq] at g2
     simp only [cond] at g2
     obtain ⟨t, s1, D, x, ob1, d1, d2, d3, d4, d5, d6⟩ := Aq1 (P := P) (nt := nt) g2 hq hEi
     obtain ⟨s', Ds, ob2, h7, h8, h9, h10⟩ := A7j hE l s1 k r hn.2 d5
     refine ⟨s', (i, D) :: Ds, ob1 ++ ob2, h7, fun xs => ?_, fun p hp => ?_, Aaj h10⟩
     · obtain ⟨ys, h8⟩ := h8 ((i, t, x) :: xs)
       refine ⟨ys, ?_⟩
       rw [e1] at d3 d6
       simp only [Fh, d1, Be, Option.getD_some, Ql, g1, d3, d2, cond]
       rw [← d6, Hp (Ds' := Ds) l _ _ fun p hp => B5 fun e => hn.1 (by rw [e]; exact List.mem_map.2 ⟨p, hp, rfl⟩), h8]
     · rcases List.mem_append.1 hp with hp | hp
       · exact d4 p hp
       · exact h9 p hp
  · cases hd : o.dst with
    | none => rw [hd] at g2; cases g2
    | some t =>
     rw [hd] at g2
     simp only [Option.isSome_some, cond] at g2
     obtain ⟨s1, h4, h6⟩ := Adx (nt := nt) g2
     rw [hd] at h4
     simp only [St.putD] at h4
     cases hb : Nat.blt t K.N with
     | false => rw [hb] at h4; cases h4
     | true =>
      rw [hb] at h4
      simp only [cond, Option.some.injEq] at h4
      obtain ⟨s', Ds, ob2, h7, h8, h9, h10⟩ := A7j hE l s1 k r hn.2 h6
      refine ⟨s', (i, {}) :: Ds, [] ++ ob2, h7, fun xs => ?_, fun p hp => h9 p (by simpa using hp), Aaj h10⟩
      obtain ⟨ys, h8⟩ := h8 ((i, t, .tup []) :: xs)
      refine ⟨ys, ?_⟩
      rw [e1] at h4
      simp only [Fh, hd, Be, Option.getD_some, Ql, g1, hb, cond]
      rw [h4, Hp (Ds' := Ds) l _ _ fun p hp => B5 fun e => hn.1 (by rw [e]; exact List.mem_map.2 ⟨p, hp, rfl⟩), h8]
theorem Er (l : List Oper) : ((Ab l).map (·.1)).Nodup := by
 have : (Ab l).map (·.1) = List.range l.length := by
  apply List.ext_getElem?
  intro j
  simp only [Ab, List.map_map, List.getElem?_map, List.getElem?_zipIdx]
  by_cases hj : j < l.length
  · simp [hj]
  · simp [hj]
 rw [this]
 exact List.nodup_range
theorem B1k (hT : Aq P T) (hfol : P.follows .mixedOrders = true) {K : Ac} {A : RA} {id : Nat} {ops : Array Oper} {draw : Bool} {s : St3} {nt : Nat} {k : St3 → Option α} {r : α}
  (hE : ∀ i a, A0 i A.ops = some a → a.S P) (h : Ax9 P T K A ops draw s k = some r) :
  ∃ s', Code.Den P K (.region id ops draw) (s.st nt) .normal (s'.st nt) ∧ k s' = some r := by
 unfold Ax9 at h
 cases draw with
 | true =>
  simp only [cond] at h
  cases hok : Dd ops A.m with
  | false => rw [hok] at h; cases h
  | true =>
   rw [hok] at h
   obtain ⟨s0, fz, ob0, h1, h2, h3, _⟩ := Oa (nt := nt) h
   obtain ⟨s1, Ds1, ob1, h4, h5, h6, h6'⟩ := A7j (P := P) (nt := nt) hE _ s0 _ _ ((Er ops.toList).sublist ((List.take_sublist _ _).map _)) h3
   obtain ⟨s2, Ds2, ob2, h7, h8, h9⟩ := Xv (P := P) (nt := nt) hT hE _ s1 _ _ ((Er ops.toList).sublist ((List.drop_sublist _ _).map _)) h4
   refine ⟨s2, ?_, h7⟩
   have hnd := Er ops.toList
   have e1 : ∀ p ∈ (Ab ops.toList).take A.m, A0 p.1 (Ds1 ++ Ds2) = A0 p.1 Ds1 := fun p hp => by
    have := (h6' p.1).2 (List.mem_map.2 ⟨p, hp, rfl⟩)
    exact U5 this
   have e2 : ∀ p ∈ (Ab ops.toList).drop A.m, A0 p.1 (Ds1 ++ Ds2) = A0 p.1 Ds2 := fun p hp => by
    refine U6 ?_
    cases hl : A0 p.1 Ds1 with
    | none => rfl
    | some d =>
     exfalso
     have hm := (h6' p.1).1 (by rw [hl]; rfl)
     have hd : p.1 ∈ ((Ab ops.toList).drop A.m).map (·.1) := List.mem_map.2 ⟨p, hp, rfl⟩
     rw [← List.take_append_drop A.m (Ab ops.toList), List.map_append, List.nodup_append] at hnd
     exact hnd.2.2 _ hm _ hd rfl
   obtain ⟨ys, h5⟩ := h5 []
   have : V0 P T K ops A.m (Ds1 ++ Ds2) fz (s.st nt) = some (s2.st nt, (P.follows .mixedOrders = true) :: (ob0 ++ (ob1 ++ ob2))) := by
    unfold V0
    rw [hok]
    simp only [cond, h1]
    rw [Hp _ _ _ e1, h5]
    simp only
    rw [Hq _ _ e2, h8]
   refine Ae2 hT this fun p hp => ?_
   rcases List.mem_cons.1 hp with rfl | hp
   · exact hfol
   · rcases List.mem_append.1 hp with hp | hp
     · exact h2 p hp
     · rcases List.mem_append.1 hp with hp | hp
       · exact h6 p hp
       · exact h9 p hp
 | false =>
  simp only [cond] at h
  obtain ⟨s2, Ds2, ob2, h7, h8, h9⟩ := Xv (P := P) (nt := nt) hT hE _ s _ _ (Er ops.toList) h
  refine ⟨s2, ?_, h7⟩
  have : Jw P T K ops { ds := Ds2, drop := [] } (s.st nt) = some ((s2.st nt).forget [], ob2) := by
   unfold Jw
   simp only [h8]
  have := Ae6 (id := id) hT this h9
  have e : (s2.st nt).forget [] = s2.st nt := by
   have : Add [] (s2.st nt).slots = (s2.st nt).slots := List.filter_eq_self.2 fun _ _ => rfl
   unfold St.forget
   rw [this]
  rw [e] at this
  exact this
end Go.Ev
