/- DERIVED. The evaluator over shapes of data: calls, trees, all paths. -/
import Derived.Test.YtcpdoafoahaagaaGreatEc

set_option linter.all false
set_option linter.unusedVariables false
set_option linter.unusedSimpArgs false

/- DERIVED. What is settled, and results, over shapes; templates of states. -/
namespace Go.Ev
open Go
variable {P : Program} {T : Ty}
theorem A7n {bs : List (Nat × B3)} {t : Sh} {v : SV} {g : Bool} {x : t.den} {ks : List Nat} (ht : t.one = true) (h : Eh bs t v = some (g, x, ks)) (hg : g = true) :
  v.cellB = true ∧ (∃ ob, Mf (A0 · (Af (B3.box (A2 bs)) bs)) (v.c (A2 bs)) (.i (hd1 (t.cells x))) = some (ob, ks) ∧ ∀ p ∈ ob, p) ∧ ∀ k ∈ ks, k < 1000 ∧ (A0 k bs).isSome = true := by
 unfold Eh at h
 split at h
 · rename_i hh
   split at h
   · rename_i t0
     split at h
     · rename_i e sh fz xs hl
       cases hk : Nat.blt hh 1000 with
       | false => rw [hk] at h; cases h
       | true =>
        rw [hk] at h
        simp only [cond, Option.map_eq_some_iff, Prod.mk.injEq] at h
        obtain ⟨y, hy, rfl, rfl, rfl⟩ := h
        obtain ⟨rfl, rfl⟩ := Cx hy
        have hle : A2 bs hh = xs.length := by simp [A2, hl, B3.len]
        refine ⟨rfl, ⟨[0 + A2 bs hh ≤ (xs.map fun y => (sh.cells y).map C.i).length, ((xs.map fun y => (sh.cells y).map C.i).drop 0).take (A2 bs hh) = (xs.map sh.cells).map (·.map .i)], ?_, ?_⟩, ?_⟩
        · simp only [Mf, SV.c, B7, hl, Option.map_some, B3.box, Sh.cells, hd1, Nat.beq_refl, Bool.not_false, Bool.and_true, Bool.and_self, cond]
        · simp only [List.mem_cons, List.not_mem_nil, or_false, forall_eq_or_imp, forall_eq]
          refine ⟨by simp [hle], ?_⟩
          rw [List.drop_zero, hle, List.take_of_length_le (by simp), List.map_map]
          rfl
        · intro k hk'
          simp only [List.mem_singleton] at hk'
          subst hk'
          exact ⟨by simpa [Nat.blt_eq] using hk, by rw [hl]; rfl⟩
     · cases h
   · cases h
 · rename_i hh off len
   split at h
   · rename_i t0
     split at h
     · rename_i e sh fz xs hl
       cases hk : Nat.blt hh 1000 with
       | false => rw [hk] at h; cases h
       | true =>
        rw [hk] at h
        simp only [cond, Option.map_eq_some_iff, Prod.mk.injEq] at h
        obtain ⟨y, hy, rfl, rfl, rfl⟩ := h
        obtain ⟨rfl, rfl⟩ := Cx hy
        simp only [decide_eq_true_eq] at hg
        refine ⟨rfl, ⟨[off + len ≤ (xs.map fun y => (sh.cells y).map C.i).length, ((xs.map fun y => (sh.cells y).map C.i).drop off).take len = (((xs.drop off).take len).map sh.cells).map (·.map .i)], ?_, ?_⟩, ?_⟩
        · simp only [Mf, SV.c, B7, hl, Option.map_some, B3.box, Sh.cells, hd1, Nat.beq_refl, Bool.not_false, Bool.and_true, Bool.and_self, cond]
        · simp only [List.mem_cons, List.not_mem_nil, or_false, forall_eq_or_imp, forall_eq]
          refine ⟨by simpa using hg, ?_⟩
          rw [List.map_map, List.map_take, List.map_drop]
          rfl
        · intro k hk'
          simp only [List.mem_singleton] at hk'
          subst hk'
          exact ⟨by simpa [Nat.blt_eq] using hk, by rw [hl]; rfl⟩
     · cases h
   · cases h
 · rename_i cs
   split at h
   · rename_i t0
     cases hd : cs.all SV.isD with
     | false => rw [hd] at h; cases h
     | true =>
      rw [hd] at h
      simp only [cond, Option.map_eq_some_iff, Prod.mk.injEq] at h
      obtain ⟨y, hy, rfl, rfl, rfl⟩ := h
      obtain ⟨_, _, h3, _⟩ := Bw hy
      refine ⟨hd, ⟨[C.i (.ref 0 (cs.map SV.i0)) = C.i (.ref 0 (t0.cells y))], rfl, by simp [h3 hd]⟩, by simp⟩
   · cases h
 · rename_i h1 h2 h3
   rw [ht] at h
   simp only [cond, Option.map_eq_some_iff, Prod.mk.injEq] at h
   obtain ⟨y, hy, rfl, rfl, rfl⟩ := h
   obtain ⟨q1, ob, q2, q3⟩ := O9 (L := A2 bs) ht hy
   refine ⟨Lx q1, ⟨ob, ?_, q3⟩, by simp⟩
   have hI : Bf (v.c (A2 bs)) = true := Jt (A3c q1)
   unfold Mf
   split
   · rename_i he _
     rw [he] at hI; cases hI
   · rw [q2]; rfl
def Ln (bs : List (Nat × B3)) (cs : List SV) (ds : List I) (ks : List Nat) : Prop :=
 (∃ ob, Du (A0 · (Af (B3.box (A2 bs)) bs)) (cs.map (SV.c (A2 bs))) (ds.map .i) = some (ob, ks) ∧ ∀ p ∈ ob, p) ∧ ∀ k ∈ ks, k < 1000 ∧ (A0 k bs).isSome = true
theorem Ln.app {bs : List (Nat × B3)} : ∀ {cs cs' : List SV} {ds ds' : List I} {ks ks' : List Nat}, Ln bs cs ds ks → Ln bs cs' ds' ks' → Ln bs (cs ++ cs') (ds ++ ds') (ks ++ ks')
 | [], cs', [], ds', ks, ks', h, h' => by
  obtain ⟨⟨ob, h, _⟩, _⟩ := h
  simp only [List.map_nil, Du, Option.some.injEq, Prod.mk.injEq] at h
  obtain ⟨_, rfl⟩ := h
  exact h'
 | [], cs', d :: ds, ds', _, _, h, _ => by obtain ⟨⟨ob, h, _⟩, _⟩ := h; simp [Du] at h
 | c :: cs, cs', [], ds', _, _, h, _ => by obtain ⟨⟨ob, h, _⟩, _⟩ := h; simp [Du] at h
 | c :: cs, cs', d :: ds, ds', ks, ks', h, h' => by
  obtain ⟨⟨ob, h, ho⟩, hk⟩ := h
  simp only [List.map_cons, Du] at h
  split at h
  · rename_i p k q l h1 h2
    simp only [Option.some.injEq, Prod.mk.injEq] at h
    obtain ⟨rfl, rfl⟩ := h
    obtain ⟨⟨ob2, h3, ho2⟩, hk2⟩ := Ln.app (cs := cs) (ds := ds) (ks := l) ⟨⟨q, h2, fun x hx => ho x (List.mem_append.2 (.inr hx))⟩, fun k hk' => hk k (List.mem_append.2 (.inr hk'))⟩ h'
    refine ⟨⟨p ++ ob2, ?_, fun x hx => ?_⟩, fun j hj => ?_⟩
    · simp only [List.cons_append, List.map_cons, Du, h1, h3, List.append_assoc]
    · rcases List.mem_append.1 hx with hx | hx
      · exact ho x (List.mem_append.2 (.inl hx))
      · exact ho2 x hx
    · rw [List.append_assoc] at hj
      rcases List.mem_append.1 hj with hj | hj
      · exact hk j (List.mem_append.2 (.inl hj))
      · exact hk2 j hj
  · cases h
theorem Auv {bs : List (Nat × B3)} : ∀ (t : Sh) (cs : List SV) (g : Bool) (x : t.den) (ks : List Nat) (r : List SV), t.impB bs cs = some (g, x, ks, r) → g = true → ∃ pre, cs = pre ++ r ∧ Ln bs pre (t.cells x) ks ∧ pre.all SV.cellB = true := by
 have cell : ∀ (t : Sh) (c : SV) (r q : List SV) (g : Bool) (x : t.den) (ks : List Nat), t.one = true → (Eh bs t c).map (fun p => (p.1, p.2.1, p.2.2, r)) = some (g, x, ks, q) → g = true → ∃ pre, c :: r = pre ++ q ∧ Ln bs pre (t.cells x) ks ∧ pre.all SV.cellB = true := by
  intro t c r q g x ks ht h hg
  simp only [Option.map_eq_some_iff, Prod.mk.injEq] at h
  obtain ⟨⟨g', x', k'⟩, h1, rfl, rfl, rfl, rfl⟩ := h
  obtain ⟨hc, ⟨ob, h2, h3⟩, h4⟩ := A7n ht h1 hg
  refine ⟨[c], rfl, ⟨⟨ob ++ [], ?_, by simpa using h3⟩, h4⟩, by simp [hc]⟩
  rw [O5 t x' ht]
  simp only [List.map_cons, List.map_nil, Du, h2, List.append_nil]
 intro t
 induction t with
 | pair a b iha ihb =>
  intro cs g x ks r h hg
  simp only [Sh.impB] at h
  split at h
  · rename_i g1 y k1 q h1
    split at h
    · rename_i g2 z k2 q' h2
      simp only [Option.some.injEq, Prod.mk.injEq] at h
      obtain ⟨rfl, rfl, rfl, rfl⟩ := h
      simp only [Bool.and_eq_true] at hg
      obtain ⟨p1, e1, c1, i1⟩ := iha _ _ _ _ _ h1 hg.1
      obtain ⟨p2, e2, c2, i2⟩ := ihb _ _ _ _ _ h2 hg.2
      exact ⟨p1 ++ p2, by rw [e1, e2, List.append_assoc], c1.app c2, by simp [i1, i2]⟩
    · cases h
  · cases h
 | st t ih => intro cs g x ks r h hg; exact ih _ _ _ _ _ h hg
 | unit =>
  intro cs g x ks r h _
  simp only [Sh.impB, Option.some.injEq, Prod.mk.injEq] at h
  obtain ⟨_, _, rfl, rfl⟩ := h
  exact ⟨[], rfl, ⟨⟨[], rfl, by simp⟩, by simp⟩, rfl⟩
 | int k => intro cs g x ks r h hg; cases cs with | nil => simp [Sh.impB] at h | cons c cs => exact cell _ _ _ _ _ _ _ rfl h hg
 | bool => intro cs g x ks r h hg; cases cs with | nil => simp [Sh.impB] at h | cons c cs => exact cell _ _ _ _ _ _ _ rfl h hg
 | str => intro cs g x ks r h hg; cases cs with | nil => simp [Sh.impB] at h | cons c cs => exact cell _ _ _ _ _ _ _ rfl h hg
 | nil => intro cs g x ks r h hg; cases cs with | nil => simp [Sh.impB] at h | cons c cs => exact cell _ _ _ _ _ _ _ rfl h hg
 | fn f => intro cs g x ks r h hg; cases cs with | nil => simp [Sh.impB] at h | cons c cs => exact cell _ _ _ _ _ _ _ rfl h hg
 | sl t _ => intro cs g x ks r h hg; cases cs with | nil => simp [Sh.impB] at h | cons c cs => exact cell _ _ _ _ _ _ _ rfl h hg
 | ref t _ => intro cs g x ks r h hg; cases cs with | nil => simp [Sh.impB] at h | cons c cs => exact cell _ _ _ _ _ _ _ rfl h hg
 | clo f c _ => intro cs g x ks r h hg; cases cs with | nil => simp [Sh.impB] at h | cons v cs => exact cell _ _ _ _ _ _ _ rfl h hg
theorem Em {L : Nat → Nat} {v : SV} (h : v.cellB = true) : v.s L = .v (.one (v.c L)) ∧ v.v L = .one (v.c L) := by cases v <;> first | exact ⟨rfl, rfl⟩ | cases h
theorem Me {bs : List (Nat × B3)} {t : Sh} {v : SV} {g : Bool} {x : t.den} {ks : List Nat} (h : Tz bs t v = some (g, x, ks)) (hg : g = true) :
  v.s (A2 bs) = .v (v.v (A2 bs)) ∧ (∃ ob, H8 (A0 · (Af (B3.box (A2 bs)) bs)) (v.v (A2 bs)) (t.v x) = some (ob, ks) ∧ ∀ p ∈ ob, p) ∧ ∀ k ∈ ks, k < 1000 ∧ (A0 k bs).isSome = true := by
 unfold Tz at h
 cases ht : t.one with
 | true =>
  rw [ht] at h
  obtain ⟨hc, ⟨ob, h1, h2⟩, h3⟩ := A7n ht h hg
  obtain ⟨e1, e2⟩ := Em (L := A2 bs) hc
  refine ⟨by rw [e1, e2], ⟨ob, ?_, h2⟩, h3⟩
  simp only [e2, Sh.v, ht, cond, H8, h1]
 | false =>
  rw [ht] at h
  simp only [cond] at h
  split at h
  · rename_i cs
    split at h
    · rename_i g1 y k1 hi
      simp only [Option.some.injEq, Prod.mk.injEq] at h
      obtain ⟨rfl, rfl, rfl⟩ := h
      obtain ⟨pre, e, ⟨⟨ob, h1, h2⟩, h3⟩, _⟩ := Auv _ _ _ _ _ _ hi hg
      rw [List.append_nil] at e
      subst e
      refine ⟨rfl, ⟨ob, ?_, h2⟩, h3⟩
      simp only [SV.v, Sh.v, ht, cond, H8, h1]
    · cases h
  · cases h
theorem A0a {bs : List (Nat × B3)} {L : Nat → Nat} {ks : List Nat} (h : ∀ k ∈ ks, k < 1000 ∧ (A0 k bs).isSome = true) : G6 (Af (B3.box L) bs) ks = true := by
 unfold G6
 refine List.all_eq_true.2 fun k hk => ?_
 obtain ⟨h1, h2⟩ := h k hk
 rw [Ac, Option.isSome_map, h2]
 simpa [Nat.blt_eq] using h1
theorem Og {s s' : St3} {nt : Nat} {t : Nat} {sh : Sh} {g : Bool} (h : Jp s t sh = some (g, s')) (hg : g = true) :
  ∃ (x' : V) (ob : List Prop), Rn (s.st nt) t x' = some (s'.st nt, ob) ∧ ∀ p ∈ ob, p := by
 unfold Jp at h
 split at h
 · rename_i v hv
   split at h
   · rename_i g1 x ks hc
     simp only [Option.some.injEq, Prod.mk.injEq] at h
     obtain ⟨rfl, rfl⟩ := h
     obtain ⟨h1, ⟨ob, h2, h3⟩, h4⟩ := Me hc hg
     refine ⟨sh.v x, ob, ?_, h3⟩
     have hl : A0 t (s.st nt).slots = some (.v (v.v (A2 s.boxes))) := by
      simp only [St3.st, Ac, hv, Option.map_some, h1]
     have h2' : H8 (A0 · (s.st nt).boxes) (v.v (A2 s.boxes)) (sh.v x) = some (ob, ks) := h2
     have hz : G6 (s.st nt).boxes ks = true := A0a h4
     simp only [Rn, hl, h2', hz, cond, Option.some.injEq, Prod.mk.injEq, and_true]
     simp only [St3.st]
     congr 1
     · rw [Dq, ← (Gj (L := A2 s.boxes) sh x).2, Cd]
     · rw [Dq]; exact Gw _ _ _
   · cases h
 · cases h
inductive TS where
 | d (t : Sh)
 | ag (t : Sh)
 | k (v : SV)
 | hs (h : Nat)
@[reducible] def TS.den : TS → Type
 | .d t => t.den
 | .ag t => t.den
 | .k _ => Unit
 | .hs _ => Nat × Nat
def TS.enc : (t : TS) → t.den → SV
 | .d t, x => .d t x
 | .ag t, x => .agg (t.exp x)
 | .k v, _ => v
 | .hs h, x => .hs h x.1 x.2
def SV.same : SV → SV → Bool
 | .hw h, .hw h' => Nat.beq h h'
 | .hp h r c, .hp h' r' c' => Nat.beq h h' && Nat.beq r r' && Nat.beq c c'
 | .dead, _ => true
 | .d t _, .d t' _ => (match t with
  | .nil => true
  | .fn _ => true
  | _ => false) && t.eqb t'
 | _, _ => false
def TS.dec : (t : TS) → SV → Option t.den
 | .d t, v => match v with
  | .rf cs => match t with
   | .ref t0 => bif cs.all SV.isD then t0.all false cs else none
   | _ => none
  | v => bif t.one then v.as true t else none
 | .ag t, v => match v with
  | .agg cs => t.all true cs
  | _ => none
 | .k c, v => bif c.same v then some () else none
 | .hs h, v => match v with
  | .hs h' o l => bif Nat.beq h h' then some (o, l) else none
  | _ => none
inductive TB where
 | arr (e : TypeId) (t : Sh) (fz : Bool)
 | var (e : TypeId) (hf fz : Bool) (cs : List TS)
 | tree (e : TypeId) (t : Sh) (fz : Bool)
@[reducible] def DL : List TS → Type
 | [] => Unit
 | t :: r => t.den × DL r
def H6 : (l : List TS) → DL l → List SV
 | [], _ => []
 | t :: r, x => t.enc x.1 :: H6 r x.2
def A53 : (l : List TS) → List SV → Option (DL l)
 | [], [] => some ()
 | t :: r, v :: vs => match t.dec v, A53 r vs with
  | some x, some xs => some (x, xs)
  | _, _ => none
 | _, _ => none
@[reducible] def TB.den : TB → Type
 | .arr _ t _ => List t.den
 | .var _ _ _ cs => DL cs
 | .tree _ t _ => List t.den
def TB.enc : (b : TB) → b.den → B3
 | .arr e t fz, xs => .arr e t fz xs
 | .var e hf fz cs, xs => .var e hf fz (H6 cs xs)
 | .tree e t fz, xs => .tree e t fz xs
def TB.dec : (b : TB) → B3 → Option b.den
 | .arr e t fz, b => match b with
  | .arr e' t' fz' xs => bif Nat.beq e e' && (fz == fz') then (Sh.sl t').to (.sl t) xs else none
  | .rep e' fz' n cs => bif Nat.beq e e' && (fz == fz') then (t.all true cs).map fun x => List.replicate n x else none
  | _ => none
 | .var e hf fz cs, b => match b with
  | .var e' hf' fz' vs => bif Nat.beq e e' && (hf == hf') && (fz == fz') && vs.all SV.cellB then (match A53 cs vs with
   | some x => bif (H6 cs x).all SV.cellB && (!hf || (H6 cs x).all SV.imm) then some x else none
   | none => none) else none
  | _ => none
 | .tree e t fz, b => match b with
  | .tree e' t' fz' xs => bif Nat.beq e e' && (fz == fz') then (Sh.sl t').to (.sl t) xs else none
  | _ => none
@[reducible] def DK (β : Type) (den : β → Type) : List (Nat × β) → Type
 | [] => Unit
 | (_, t) :: r => den t × DK β den r
def Acb : (l : List (Nat × TS)) → DK TS TS.den l → List (Nat × SV)
 | [], _ => []
 | (k, t) :: r, x => (k, t.enc x.1) :: Acb r x.2
def A52 : (l : List (Nat × TS)) → List (Nat × SV) → Option (DK TS TS.den l)
 | [], [] => some ()
 | (k, t) :: r, (j, v) :: vs => bif Nat.beq k j then (match t.dec v, A52 r vs with
  | some x, some xs => some (x, xs)
  | _, _ => none) else none
 | _, _ => none
def Qi : (l : List (Nat × TB)) → DK TB TB.den l → List (Nat × B3)
 | [], _ => []
 | (k, t) :: r, x => (k, t.enc x.1) :: Qi r x.2
def A54 : (l : List (Nat × TB)) → List (Nat × B3) → Option (DK TB TB.den l)
 | [], [] => some ()
 | (k, t) :: r, (j, v) :: vs => bif Nat.beq k j then (match t.dec v, A54 r vs with
  | some x, some xs => some (x, xs)
  | _, _ => none) else none
 | _, _ => none
structure Tm where
 slots : List (Nat × TS)
 boxes : List (Nat × TB) := []
 drop : List Nat := []
 fz : List (Nat × Sh) := []
@[reducible] def Tm.den (X : Tm) : Type := DK TS TS.den X.slots × DK TB TB.den X.boxes
def Tm.enc (X : Tm) (x : X.den) : St3 := ⟨Acb X.slots x.1, Qi X.boxes x.2⟩
def Oq : List (Nat × TS) → List (Nat × SV) → List (Nat × SV)
 | X, sl => sl.filter fun p => X.any fun q => Nat.beq q.1 p.1
def A8m : List Nat → St3 → Option St3
 | [], s => some s
 | h :: r, s => bif Nat.blt h 1000 && s.clean h then A8m r { s with boxes := Cc h s.boxes } else none
def Hk : List (Nat × Sh) → St3 → Option St3
 | [], s => some s
 | (t, sh) :: r, s => match A0 t s.slots with
  | some (.d _ _) => Hk r s
  | _ => match Jp s t sh with
   | some (g, s1) => bif g then Hk r s1 else none
   | none => none
def Tm.dec1 (X : Tm) (s : St3) : Option X.den :=
 match A8m X.drop { s with slots := Oq X.slots s.slots } with
 | some s2 => match A52 X.slots s2.slots, A54 X.boxes s2.boxes with
  | some x, some y => some (x, y)
  | _, _ => none
 | none => none
def Tm.dec (X : Tm) (s : St3) : Option X.den :=
 match Hk X.fz s with
 | some s1 => X.dec1 s1
 | none => none
end Go.Ev

/- DERIVED. Calls that are handed boxes or hand out boxes, over shapes. -/
namespace Go.Ev
open Go
variable {P : Program} {T : Ty}
inductive CK where
 | im (t : Sh)
 | own (e : TypeId) (t : Sh)
 | ptr (e : TypeId) (t : Sh)
 | back (k : Nat)
 | win (e : TypeId) (t : Sh)
 | tree (e : TypeId) (t : Sh)
 | emp (t : Sh)
@[reducible] def CK.den : CK → Type
 | .im t => t.den
 | .own _ t => List t.den
 | .ptr _ t => t.den
 | .back _ => Unit
 | .win _ t => List t.den × Nat × Nat
 | .tree _ t => List t.den
 | .emp _ => Unit
@[reducible] def DC : List CK → Type
 | [] => Unit
 | [c] => c.den
 | c :: d :: r => c.den × DC (d :: r)
inductive PK where
 | im (t : Sh)
 | one (c : CK)
 | mix (cs : List CK)
@[reducible] def PK.den : PK → Type
 | .im t => t.den
 | .one c => c.den
 | .mix cs => DC cs
@[reducible] def HP : List PK → Type
 | [] => Unit
 | [p] => p.den
 | p :: q :: r => p.den × HP (q :: r)
def CK.sv (k : Nat) : (c : CK) → c.den → SV
 | .im t, x => .d t x
 | .own _ _, _ => .hw k
 | .ptr _ _, _ => .hp k 0 0
 | .back j, _ => .hw j
 | .win _ _, x => .hs k x.2.1 x.2.2
 | .tree _ _, _ => .hw k
 | .emp t, _ => .d (.sl t) []
def CK.bx (k : Nat) : (c : CK) → c.den → List (Nat × B3)
 | .own e t, xs => [(k, .arr e t false xs)]
 | .ptr e t, x => [(k, .var e true false (t.exp x))]
 | .win e t, x => [(k, .arr e t false x.1)]
 | .tree e t, xs => [(k, .tree e t false xs)]
 | _, _ => []
def Rj (k : Nat) : (cs : List CK) → DC cs → List SV
 | [], _ => []
 | [c], x => [c.sv k x]
 | c :: d :: r, x => c.sv k x.1 :: Rj (k + 1) (d :: r) x.2
def J7 (k : Nat) : (cs : List CK) → DC cs → List (Nat × B3)
 | [], _ => []
 | [c], x => c.bx k x
 | c :: d :: r, x => c.bx k x.1 ++ J7 (k + 1) (d :: r) x.2
def PK.n : PK → Nat
 | .mix cs => cs.length
 | _ => 1
def PK.isIm : PK → Bool
 | .im _ => true
 | _ => false
def PK.sv (k : Nat) : (p : PK) → p.den → SV
 | .im t, x => t.sv x
 | .one c, x => c.sv k x
 | .mix cs, x => .agg (Rj k cs x)
def PK.bx (k : Nat) : (p : PK) → p.den → List (Nat × B3)
 | .im _, _ => []
 | .one c, x => c.bx k x
 | .mix cs, x => J7 k cs x
def Ba (k : Nat) : (ps : List PK) → HP ps → List SV
 | [], _ => []
 | [p], x => [p.sv k x]
 | p :: q :: r, x => p.sv k x.1 :: Ba (k + p.n) (q :: r) x.2
def C8 (k : Nat) : (ps : List PK) → HP ps → List (Nat × B3)
 | [], _ => []
 | [p], x => p.bx k x
 | p :: q :: r, x => p.bx k x.1 ++ C8 (k + p.n) (q :: r) x.2
def CK.owns (k : Nat) : CK → List (Nat × CK)
 | .own e t => [(k, .own e t)]
 | .ptr e t => [(k, .ptr e t)]
 | .win e t => [(k, .own e t)]
 | .tree e t => [(k, .tree e t)]
 | _ => []
def Ah2 (k : Nat) : List CK → List (Nat × CK)
 | [] => []
 | c :: r => c.owns k ++ Ah2 (k + 1) r
def PK.owns (k : Nat) : PK → List (Nat × CK)
 | .im _ => []
 | .one c => c.owns k
 | .mix cs => Ah2 k cs
def Ai (k : Nat) : List PK → List (Nat × CK)
 | [] => []
 | p :: r => p.owns k ++ Ai (k + p.n) r
@[reducible] def DO : List (Nat × CK) → Type
 | [] => Unit
 | [p] => p.2.den
 | p :: q :: r => p.2.den × DO (q :: r)
def bxO : (os : List (Nat × CK)) → DO os → List (Nat × B3)
 | [], _ => []
 | [p], x => p.2.bx p.1 x
 | p :: q :: r, x => p.2.bx p.1 x.1 ++ bxO (q :: r) x.2
@[reducible] def HR (rs : List PK) : List (Nat × CK) → Type
 | [] => HP rs
 | p :: r => HP rs × DO (p :: r)
def Jb {rs : List PK} : {os : List (Nat × CK)} → HR rs os → HP rs
 | [], y => y
 | _ :: _, y => y.1
def Atn {rs : List PK} : {os : List (Nat × CK)} → HR rs os → DO os
 | [], _ => ()
 | _ :: _, y => y.2
structure Hg where
 f : Nat
 ts : List PK
 rs : List PK
def Hu (E : Hg) (x : HP E.ts) : List (Nat × B3) := C8 1000 E.ts x
def Am (E : Hg) (y : HR E.rs (Ai 1000 E.ts)) : List (Nat × B3) := C8 0 E.rs (Jb y) ++ bxO (Ai 1000 E.ts) (Atn y)
def Bb (bs : List (Nat × B3)) : List (Nat × Box) := Af (B3.box (A2 bs)) bs
def Hg.Den (P : Program) (E : Hg) (nt : Nat) (x : HP E.ts) (y : HR E.rs (Ai 1000 E.ts)) : Prop :=
 Hf P E.f nt [] (Bb (Hu E x)) ((Ba 1000 E.ts x).map (SV.v (A2 (Hu E x)))) ((Ft (Ba 0 E.rs (Jb y))).s (A2 (Am E y))) nt (Bb (Am E y))
@[reducible] def HF (os : List (Nat × CK)) : List (List PK) → Type
 | [] => Unit
 | [rs] => HR rs os
 | rs :: r :: q => HR rs os ⊕ HF os (r :: q)
def Cq {A B α : Type} (z : A ⊕ B) (f : A → Option α) (g : B → Option α) : Option α := match z with
 | .inl a => f a
 | .inr b => g b
def Ha {α : Type} (os : List (Nat × CK)) : (fs : List (List PK)) → HF os fs → ((rs : List PK) → HR rs os → Option α) → Option α
 | [], _, _ => none
 | [rs], y, k => k rs y
 | rs :: r :: q, z, k => Cq z (fun y => k rs y) (fun z => Ha os (r :: q) z k)
def A5e (os : List (Nat × CK)) : (fs : List (List PK)) → HF os fs → ((rs : List PK) → HR rs os → Prop) → Prop
 | [], _, _ => True
 | [rs], y, k => k rs y
 | rs :: _ :: _, .inl y, k => k rs y
 | _ :: r :: q, .inr z, k => A5e os (r :: q) z k
theorem Jk {α : Type} {os : List (Nat × CK)} {p : (rs : List PK) → HR rs os → Prop} : ∀ {fs : List (List PK)} {z : HF os fs} {k : (rs : List PK) → HR rs os → Option α} {r : α}, Ha os fs z k = some r → A5e os fs z p → ∃ rs y, k rs y = some r ∧ p rs y
 | [], _, _, _, h, _ => by cases h
 | [rs], y, k, r, h, hp => ⟨rs, y, h, hp⟩
 | rs :: _ :: _, .inl y, k, r, h, hp => ⟨rs, y, h, hp⟩
 | _ :: r :: q, .inr z, k, _, h, hp => Jk (fs := r :: q) h hp
structure Ent3 where
 f : Nat
 ts : List PK
 forms : List (List PK)
 m : HP ts → Option (HF (Ai 1000 ts) forms)
def Ent3.Sound (P : Program) (E : Ent3) : Prop := ∀ (nt : Nat) (x : HP E.ts) (z : HF (Ai 1000 E.ts) E.forms), E.m x = some z → A5e (Ai 1000 E.ts) E.forms z fun rs y => Hg.Den P ⟨E.f, E.ts, rs⟩ nt x y
def Gv (rn : List (Nat × Nat)) (k : Nat) : Nat := match A0 k rn with
 | some h => h
 | none => 0
def Hc : List (Nat × Nat) → Nat → Option Nat
 | [], _ => none
 | (k, h') :: r, h => bif Nat.beq h' h then some k else Hc r h
def Dp : List (Nat × Nat) → Bool
 | [] => true
 | (k, h) :: r => r.all (fun p => !Nat.beq p.1 k && !Nat.beq p.2 h) && Dp r
def Be {β : Type} : List (Nat × β) → List (Nat × Nat) → Bool
 | [], [] => true
 | (k, _) :: B, (k', _) :: R => Nat.beq k k' && Be B R
 | _, _ => false
def Sd : List (Nat × B3) → List (Nat × Nat) → List (Nat × B3) → List (Nat × B3)
 | (_, b) :: B, (_, h) :: R, bs => Ae h b (Sd B R bs)
 | _, _, bs => bs
theorem O8 {a b : Nat} (h : Nat.beq a b = false) : a ≠ b := fun e => by subst e; simp at h
theorem Fq {a b : Nat} (h : a ≠ b) : Nat.beq a b = false := by cases hb : Nat.beq a b with | false => rfl | true => exact absurd (Nat.eq_of_beq_eq_true hb) h
theorem Id {k h : Nat} {r : List (Nat × Nat)} (hg : Dp ((k, h) :: r) = true) : (∀ p ∈ r, p.1 ≠ k ∧ p.2 ≠ h) ∧ Dp r = true := by
 simp only [Dp, Bool.and_eq_true, List.all_eq_true, Bool.not_eq_true'] at hg
 exact ⟨fun p hp => ⟨O8 (hg.1 p hp).1, O8 (hg.1 p hp).2⟩, hg.2⟩
theorem Bt {β : Type} : ∀ {rn : List (Nat × β)} {k : Nat} {h : β}, A0 k rn = some h → (k, h) ∈ rn
 | [], _, _, e => by cases e
 | (k', h') :: r, k, h, e => by
  simp only [A0] at e
  cases hb : Nat.beq k' k with
  | true => rw [hb] at e; obtain rfl := Option.some.inj e; rw [Nat.eq_of_beq_eq_true hb]; exact List.mem_cons_self
  | false => rw [hb] at e; exact List.mem_cons_of_mem _ (Bt e)
theorem Vt : ∀ {rn : List (Nat × Nat)} {k h : Nat}, Hc rn h = some k → (k, h) ∈ rn
 | [], _, _, e => by cases e
 | (k', h') :: r, k, h, e => by
  simp only [Hc] at e
  cases hb : Nat.beq h' h with
  | true => rw [hb] at e; obtain rfl := Option.some.inj e; rw [Nat.eq_of_beq_eq_true hb]; exact List.mem_cons_self
  | false => rw [hb] at e; exact List.mem_cons_of_mem _ (Vt e)
theorem Kj : ∀ {rn : List (Nat × Nat)} {k h : Nat}, Dp rn = true → (k, h) ∈ rn → A0 k rn = some h ∧ Hc rn h = some k
 | [], _, _, _, e => by cases e
 | (k', h') :: r, k, h, hg, e => by
  obtain ⟨h1, h2⟩ := Id hg
  simp only [A0, Hc]
  rcases List.mem_cons.1 e with e | e
  · obtain ⟨rfl, rfl⟩ := Prod.mk.inj e
    simp only [Nat.beq_refl, cond]
    exact ⟨trivial, trivial⟩
  · obtain ⟨e1, e2⟩ := Kj h2 e
    rw [Fq (h1 _ e).1.symm, Fq (h1 _ e).2.symm]
    exact ⟨e1, e2⟩
theorem E6 {β : Type} : ∀ {B : List (Nat × β)} {R : List (Nat × Nat)}, Be B R = true → ∀ k, (A0 k B).isSome = (A0 k R).isSome
 | [], [], _, _ => rfl
 | (k1, b) :: B, (k2, h) :: R, e, k => by
  simp only [Be, Bool.and_eq_true] at e
  obtain rfl := Nat.eq_of_beq_eq_true e.1
  simp only [A0]
  cases Nat.beq k1 k with
  | true => rfl
  | false => exact E6 e.2 k
 | [], _ :: _, e, _ => by simp [Be] at e
 | _ :: _, [], e, _ => by simp [Be] at e
theorem S5 {β : Type} : ∀ {B : List (Nat × β)} {R : List (Nat × Nat)} {k : Nat} {b : β}, Be B R = true → Dp R = true → (k, b) ∈ B → A0 k B = some b
 | [], _, _, _, _, _, e => by cases e
 | (k1, b1) :: B, (k2, h) :: R, k, b, hs, hg, e => by
  simp only [Be, Bool.and_eq_true] at hs
  obtain rfl := Nat.eq_of_beq_eq_true hs.1
  obtain ⟨h1, h2⟩ := Id hg
  simp only [A0]
  rcases List.mem_cons.1 e with e | e
  · obtain ⟨rfl, rfl⟩ := Prod.mk.inj e
    simp only [Nat.beq_refl, cond]
  · have := S5 hs.2 h2 e
    have hk : (A0 k R).isSome = true := by rw [← E6 hs.2 k, this]; rfl
    obtain ⟨h', hh⟩ := Option.isSome_iff_exists.1 hk
    rw [Fq (h1 _ (Bt hh)).1.symm]
    exact this
 | _ :: _, [], _, _, hs, _, _ => by simp [Be] at hs
theorem Wj : ∀ {B : List (Nat × B3)} {R : List (Nat × Nat)} {bs : List (Nat × B3)}, Be B R = true → Dp R = true → ∀ h, A0 h (Sd B R bs) = match Hc R h with | some k => A0 k B | none => A0 h bs
 | [], [], _, _, _, h => rfl
 | (k1, b) :: B, (k2, h2) :: R, bs, hs, hg, h => by
  simp only [Be, Bool.and_eq_true] at hs
  obtain rfl := Nat.eq_of_beq_eq_true hs.1
  obtain ⟨g1, g2⟩ := Id hg
  simp only [Sd, Hc]
  cases hb : Nat.beq h2 h with
  | true =>
   obtain rfl := Nat.eq_of_beq_eq_true hb
   simp only [cond, A7, A0, Nat.beq_refl]
  | false =>
   simp only [cond]
   rw [A8 _ _ (O8 hb).symm, Wj hs.2 g2 h]
   cases hw : Hc R h with
   | none => rfl
   | some k =>
    simp only [A0]
    rw [Fq (g1 _ (Vt hw)).1.symm]
    rfl
 | [], _ :: _, _, e, _, _ => by simp [Be] at e
 | _ :: _, [], _, e, _, _ => by simp [Be] at e
def O7 (bs : List (Nat × B3)) (k : Nat) : (c : CK) → SV → Option (c.den × List (Nat × Nat))
 | .im t, v => bif t.one then (v.as true t).map fun x => (x, []) else none
 | .own e t, .hw h => match A0 h bs with
  | some (.arr e' sh false xs) => bif Nat.beq e e' then ((Sh.sl sh).to (.sl t) xs).map fun x => (x, [(k, h)]) else none
  | _ => none
 | .ptr e t, .hp h 0 0 => match A0 h bs with
  | some (.var e' true false cs) => bif Nat.beq e e' && cs.all SV.isD then (t.all false cs).map fun x => (x, [(k, h)]) else none
  | _ => none
 | .tree e t, .hw h => match A0 h bs with
  | some (.tree e' sh false xs) => bif Nat.beq e e' then ((Sh.sl sh).to (.sl t) xs).map fun x => (x, [(k, h)]) else none
  | _ => none
 | .win e t, .hs h off len => match A0 h bs with
  | some (.arr e' sh false xs) => bif Nat.beq e e' then ((Sh.sl sh).to (.sl t) xs).map fun x => ((x, off, len), [(k, h)]) else none
  | _ => none
 | _, _ => none
def F5 (bs : List (Nat × B3)) (k : Nat) : (cs : List CK) → List SV → Option (DC cs × List (Nat × Nat))
 | [], [] => some ((), [])
 | [c], [v] => O7 bs k c v
 | c :: d :: r, v :: vs => match O7 bs k c v, F5 bs (k + 1) (d :: r) vs with
  | some (x, q), some (y, q') => some ((x, y), q ++ q')
  | _, _ => none
 | _, _ => none
def A56 (bs : List (Nat × B3)) (k : Nat) : (p : PK) → SV → Option (Bool × p.den × List Nat × List (Nat × Nat))
 | .im t, v => (A0g bs t v).map fun q => (q.1, q.2.1, q.2.2, [])
 | .one c, v => (O7 bs k c v).map fun q => (true, q.1, [], q.2)
 | .mix cs, .agg vs => (F5 bs k cs vs).map fun q => (true, q.1, [], q.2)
 | _, _ => none
def Jm (bs : List (Nat × B3)) (k : Nat) : (ps : List PK) → List SV → Option (Bool × HP ps × List Nat × List (Nat × Nat))
 | [], [] => some (true, (), [], [])
 | [p], [v] => A56 bs k p v
 | p :: q :: r, v :: vs => match A56 bs k p v, Jm bs (k + p.n) (q :: r) vs with
  | some (g, x, l, n), some (g', y, l', n') => some (g && g', (x, y), l ++ l', n ++ n')
  | _, _ => none
 | _, _ => none
def Fa (bs B : List (Nat × B3)) (q : List (Nat × Nat)) : Prop :=
 ∀ k b, (k, b) ∈ B → ∃ h b', (k, h) ∈ q ∧ A0 h bs = some b' ∧ b'.len = b.len ∧ (∀ L L', b'.box L = b.box L') ∧ ∀ L, (b.box L).fz = false ∧ (b.box L).hf = true
theorem Fa.app {bs B B' : List (Nat × B3)} {q q' : List (Nat × Nat)} (h : Fa bs B q) (h' : Fa bs B' q') : Fa bs (B ++ B') (q ++ q') := by
 intro k b hb
 rcases List.mem_append.1 hb with hb | hb
 · obtain ⟨x, y, h1, h2⟩ := h k b hb; exact ⟨x, y, List.mem_append.2 (.inl h1), h2⟩
 · obtain ⟨x, y, h1, h2⟩ := h' k b hb; exact ⟨x, y, List.mem_append.2 (.inr h1), h2⟩
theorem Qr {bs : List (Nat × B3)} {hd : Nat → Nat → Bool} {L : Nat → Nat} {k : Nat} {c : CK} {v : SV} {x : c.den} {q : List (Nat × Nat)} (h : O7 bs k c v = some (x, q))
  (hq : ∀ p ∈ q, hd p.1 p.2 = true) (hL : ∀ k' b, (k', b) ∈ c.bx k x → L k' = b.len) :
  v.cellB = true ∧ (∃ ob, Mu hd (A0 · (Af (B3.box (A2 bs)) bs)) (v.c (A2 bs)) ((c.sv k x).c L) = some (ob, []) ∧ ∀ p ∈ ob, p) ∧ (c.sv k x).cellB = true ∧ Fa bs (c.bx k x) q := by
 unfold O7 at h
 split at h
 · rename_i t
   cases ht : t.one with
   | false => rw [ht] at h; cases h
   | true =>
    rw [ht] at h
    simp only [cond, Option.map_eq_some_iff, Prod.mk.injEq] at h
    obtain ⟨y, hy, rfl, rfl⟩ := h
    obtain ⟨q1, ob, q2, q3⟩ := O9 (L := A2 bs) ht hy
    refine ⟨Lx q1, ⟨ob, ?_, q3⟩, ht, fun k b hb => by cases hb⟩
    have hc := Atv (L := A2 bs) q1
    rw [hc] at q2 ⊢
    simp only [CK.sv, SV.c, Mu, Fl, V.noH, Bf, Bool.and_self, cond, X4, q2, Option.map_some]
 · rename_i e t hh
   split at h
   · rename_i e' sh xs hl
     cases he : Nat.beq e e' with
     | false => rw [he] at h; cases h
     | true =>
      rw [he] at h
      simp only [cond, Option.map_eq_some_iff, Prod.mk.injEq] at h
      obtain ⟨y, hy, rfl, rfl⟩ := h
      obtain ⟨rfl, rfl⟩ := Cx hy
      obtain rfl := Nat.eq_of_beq_eq_true he
      have hle : A2 bs hh = xs.length := by simp [A2, hl, B3.len]
      have hk : L k = xs.length := hL k (.arr e sh false xs) (by simp [CK.bx])
      refine ⟨rfl, ⟨[0 = 0, A2 bs hh = L k], ?_, by simp [hle, hk]⟩, rfl, fun k' b hb => ?_⟩
      · simp only [CK.sv, SV.c, Mu, hq (k, hh) (by simp), cond]
      · simp only [CK.bx, List.mem_singleton, Prod.mk.injEq] at hb
        obtain ⟨rfl, rfl⟩ := hb
        exact ⟨hh, _, by simp, hl, rfl, fun _ _ => rfl, fun _ => ⟨rfl, rfl⟩⟩
   · cases h
 · rename_i e t hh
   split at h
   · rename_i e' cs hl
     cases he : (Nat.beq e e' && cs.all SV.isD) with
     | false => rw [he] at h; cases h
     | true =>
      rw [he] at h
      simp only [cond, Option.map_eq_some_iff, Prod.mk.injEq] at h
      obtain ⟨y, hy, rfl, rfl⟩ := h
      simp only [Bool.and_eq_true] at he
      obtain rfl := Nat.eq_of_beq_eq_true he.1
      obtain ⟨a1, _, _, a4⟩ := Bw hy
      refine ⟨rfl, ⟨[0 = 0, 0 = 0], ?_, by simp⟩, rfl, fun k' b hb => ?_⟩
      · simp only [CK.sv, SV.c, Mu, hq (k, hh) (by simp), cond]
      · simp only [CK.bx, List.mem_singleton, Prod.mk.injEq] at hb
        obtain ⟨rfl, rfl⟩ := hb
        refine ⟨hh, _, by simp, hl, rfl, fun L1 L2 => ?_, fun _ => ⟨rfl, rfl⟩⟩
        simp only [B3.box, a1, H5, A50, a4]
   · cases h
 · rename_i e t hh
   split at h
   · rename_i e' sh xs hl
     cases he : Nat.beq e e' with
     | false => rw [he] at h; cases h
     | true =>
      rw [he] at h
      simp only [cond, Option.map_eq_some_iff, Prod.mk.injEq] at h
      obtain ⟨y, hy, rfl, rfl⟩ := h
      obtain ⟨rfl, rfl⟩ := Cx hy
      obtain rfl := Nat.eq_of_beq_eq_true he
      have hle : A2 bs hh = xs.length := by simp [A2, hl, B3.len]
      have hk : L k = xs.length := hL k (.tree e sh false xs) (by simp [CK.bx])
      refine ⟨rfl, ⟨[0 = 0, A2 bs hh = L k], ?_, by simp [hle, hk]⟩, rfl, fun k' b hb => ?_⟩
      · simp only [CK.sv, SV.c, Mu, hq (k, hh) (by simp), cond]
      · simp only [CK.bx, List.mem_singleton, Prod.mk.injEq] at hb
        obtain ⟨rfl, rfl⟩ := hb
        exact ⟨hh, _, by simp, hl, rfl, fun _ _ => rfl, fun _ => ⟨rfl, rfl⟩⟩
   · cases h
 · rename_i e t hh off len
   split at h
   · rename_i e' sh xs hl
     cases he : Nat.beq e e' with
     | false => rw [he] at h; cases h
     | true =>
      rw [he] at h
      simp only [cond, Option.map_eq_some_iff, Prod.mk.injEq] at h
      obtain ⟨y, hy, rfl, rfl⟩ := h
      obtain ⟨rfl, rfl⟩ := Cx hy
      obtain rfl := Nat.eq_of_beq_eq_true he
      refine ⟨rfl, ⟨[off = off, len = len], ?_, by simp⟩, rfl, fun k' b hb => ?_⟩
      · simp only [CK.sv, SV.c, Mu, hq (k, hh) (by simp), cond]
      · simp only [CK.bx, List.mem_singleton, Prod.mk.injEq] at hb
        obtain ⟨rfl, rfl⟩ := hb
        exact ⟨hh, _, by simp, hl, rfl, fun _ _ => rfl, fun _ => ⟨rfl, rfl⟩⟩
   · cases h
 · cases h
theorem Ws {bs : List (Nat × B3)} {hd : Nat → Nat → Bool} {L : Nat → Nat} : ∀ {cs : List CK} {k : Nat} {vs : List SV} {x : DC cs} {q : List (Nat × Nat)}, F5 bs k cs vs = some (x, q) →
  (∀ p ∈ q, hd p.1 p.2 = true) → (∀ k' b, (k', b) ∈ J7 k cs x → L k' = b.len) →
  (∃ ob, Jn hd (A0 · (Af (B3.box (A2 bs)) bs)) (vs.map (SV.c (A2 bs))) ((Rj k cs x).map (SV.c L)) = some (ob, []) ∧ ∀ p ∈ ob, p) ∧ Fa bs (J7 k cs x) q
 | [], k, [], x, q, h, _, _ => ⟨⟨[], rfl, by simp⟩, fun k b hb => by cases hb⟩
 | [], k, _ :: _, _, _, h, _, _ => by simp [F5] at h
 | [c], k, [], _, _, h, _, _ => by simp [F5] at h
 | [c], k, [v], x, q, h, hq, hL => by
  obtain ⟨_, ⟨ob, h1, h2⟩, _, h3⟩ := Qr (hd := hd) (L := L) (x := x) h hq hL
  refine ⟨⟨ob ++ [], ?_, by simpa using h2⟩, h3⟩
  simp only [Rj, List.map_cons, List.map_nil, Jn, h1, List.append_nil]
 | [c], k, v :: w :: r, _, _, h, _, _ => by simp [F5] at h
 | c :: d :: r, k, [], _, _, h, _, _ => by simp [F5] at h
 | c :: d :: r, k, v :: vs, x, q, h, hq, hL => by
  simp only [F5] at h
  split at h
  · rename_i x1 q1 y1 q2 h1 h2
    simp only [Option.some.injEq, Prod.mk.injEq] at h
    obtain ⟨rfl, rfl⟩ := h
    obtain ⟨_, ⟨ob, a1, a2⟩, _, a3⟩ := Qr (hd := hd) (L := L) h1 (fun p hp => hq p (List.mem_append.2 (.inl hp))) (fun k' b hb => hL k' b (by simp only [J7]; exact List.mem_append.2 (.inl hb)))
    obtain ⟨⟨ob', b1, b2⟩, b3⟩ := Ws (hd := hd) (L := L) h2 (fun p hp => hq p (List.mem_append.2 (.inr hp))) (fun k' b hb => hL k' b (by simp only [J7]; exact List.mem_append.2 (.inr hb)))
    refine ⟨⟨ob ++ ob', ?_, fun p hp => (List.mem_append.1 hp).elim (a2 p) (b2 p)⟩, a3.app b3⟩
    simp only [Rj, List.map_cons, Jn, a1, b1, List.append_nil]
  · cases h
theorem Agj {bs : List (Nat × B3)} {hd : Nat → Nat → Bool} {L : Nat → Nat} {k : Nat} {p : PK} {v : SV} {g : Bool} {x : p.den} {bor : List Nat} {q : List (Nat × Nat)} (h : A56 bs k p v = some (g, x, bor, q)) (hg : g = true)
  (hq : ∀ p ∈ q, hd p.1 p.2 = true) (hL : ∀ k' b, (k', b) ∈ p.bx k x → L k' = b.len) :
  (∃ ob, A0f hd (A0 · (Af (B3.box (A2 bs)) bs)) p.isIm (v.s (A2 bs)) ((p.sv k x).v L) = some (ob, bor) ∧ ∀ p ∈ ob, p) ∧ (∀ k ∈ bor, ∃ b, A0 k (Af (B3.box (A2 bs)) bs) = some b ∧ b.fz = false) ∧ Fa bs (p.bx k x) q ∧ v.alive = true := by
 cases p with
 | im t =>
  simp only [A56, Option.map_eq_some_iff, Prod.mk.injEq] at h
  obtain ⟨⟨g', y, b⟩, h1, rfl, rfl, rfl, rfl⟩ := h
  obtain ⟨ob, a1, a2, a3⟩ := A57 h1 hg
  refine ⟨⟨ob, ?_, a2⟩, a3, (fun k b hb => by cases hb), Qx h1⟩
  simp only [A0f, PK.isIm, cond, PK.sv, (Gj t y).1]
  exact a1
 | one c =>
  simp only [A56, Option.map_eq_some_iff, Prod.mk.injEq] at h
  obtain ⟨⟨y, b⟩, h1, rfl, rfl, rfl, rfl⟩ := h
  obtain ⟨c1, ⟨ob, a1, a2⟩, c2, a3⟩ := Qr (hd := hd) (L := L) h1 hq hL
  refine ⟨⟨ob, ?_, a2⟩, by simp, a3, Ar fun e => by subst e; cases c1⟩
  simp only [A0f, PK.isIm, cond, PK.sv, (Em c1).1, (Em c2).2]
  exact a1
 | mix cs =>
  cases v with
  | agg vs =>
   simp only [A56] at h
   simp only [Option.map_eq_some_iff, Prod.mk.injEq] at h
   obtain ⟨⟨y, b⟩, h1, rfl, rfl, rfl, rfl⟩ := h
   obtain ⟨⟨ob, a1, a2⟩, a3⟩ := Ws (hd := hd) (L := L) h1 hq hL
   refine ⟨⟨ob, ?_, a2⟩, by simp, a3, rfl⟩
   simp only [A0f, PK.isIm, cond, PK.sv, SV.s, SV.v]
   exact a1
  | _ => cases h
theorem Acr {bs : List (Nat × B3)} {hd : Nat → Nat → Bool} {L : Nat → Nat} : ∀ {ps : List PK} {k : Nat} {vs : List SV} {g : Bool} {x : HP ps} {bor : List Nat} {q : List (Nat × Nat)}, Jm bs k ps vs = some (g, x, bor, q) → g = true →
  (∀ p ∈ q, hd p.1 p.2 = true) → (∀ k' b, (k', b) ∈ C8 k ps x → L k' = b.len) →
  (∃ ob, G8 hd (A0 · (Af (B3.box (A2 bs)) bs)) (ps.map PK.isIm) (vs.map (SV.s (A2 bs))) ((Ba k ps x).map (SV.v L)) = some (ob, bor) ∧ ∀ p ∈ ob, p) ∧ (∀ k ∈ bor, ∃ b, A0 k (Af (B3.box (A2 bs)) bs) = some b ∧ b.fz = false) ∧ Fa bs (C8 k ps x) q ∧ ∀ v ∈ vs, v.alive = true
 | [], k, [], g, x, bor, q, h, _, _, _ => by
  simp only [Jm, Option.some.injEq, Prod.mk.injEq] at h
  obtain ⟨_, _, rfl, rfl⟩ := h
  exact ⟨⟨[], rfl, by simp⟩, by simp, (fun k b hb => by cases hb), by simp⟩
 | [], k, _ :: _, _, _, _, _, h, _, _, _ => by simp [Jm] at h
 | [p], k, [], _, _, _, _, h, _, _, _ => by simp [Jm] at h
 | [p], k, [v], g, x, bor, q, h, hg, hq, hL => by
  obtain ⟨⟨ob, h1, h2⟩, h3, h4, h5⟩ := Agj (hd := hd) (L := L) (x := x) h hg hq hL
  refine ⟨⟨ob ++ [], ?_, by simpa using h2⟩, h3, h4, by simpa using h5⟩
  simp only [Ba, List.map_cons, List.map_nil, G8, h1, List.append_nil]
 | [p], k, v :: w :: r, _, _, _, _, h, _, _, _ => by simp [Jm] at h
 | p :: p2 :: r, k, [], _, _, _, _, h, _, _, _ => by simp [Jm] at h
 | p :: p2 :: r, k, v :: vs, g, x, bor, q, h, hg, hq, hL => by
  simp only [Jm] at h
  split at h
  · rename_i g1 x1 l1 q1 g2 y1 l2 q2 h1 h2
    simp only [Option.some.injEq, Prod.mk.injEq] at h
    obtain ⟨rfl, rfl, rfl, rfl⟩ := h
    simp only [Bool.and_eq_true] at hg
    obtain ⟨⟨ob, a1, a2⟩, a3, a4, a5⟩ := Agj (hd := hd) (L := L) h1 hg.1 (fun p hp => hq p (List.mem_append.2 (.inl hp))) (fun k' b hb => hL k' b (by simp only [C8]; exact List.mem_append.2 (.inl hb)))
    obtain ⟨⟨ob', b1, b2⟩, b3, b4, b5⟩ := Acr (hd := hd) (L := L) h2 hg.2 (fun p hp => hq p (List.mem_append.2 (.inr hp))) (fun k' b hb => hL k' b (by simp only [C8]; exact List.mem_append.2 (.inr hb)))
    refine ⟨⟨ob ++ ob', ?_, fun p hp => (List.mem_append.1 hp).elim (a2 p) (b2 p)⟩, fun j hj => (List.mem_append.1 hj).elim (a3 j) (b3 j), a4.app b4, by simpa using ⟨a5, b5⟩⟩
    simp only [List.map_cons] at b1
    simp only [Ba, List.map_cons, G8, a1, b1]
  · cases h
end Go.Ev

/- DERIVED. A state that a template takes may be read as the template's. -/
namespace Go.Ev
open Go
variable {P : Program} {T : Ty}
def Fm (x x' : S) : Prop := ∀ (w : World) (E : Env) (v : Value), Rs w E v x → Rs w E v x'
def Dw (c c' : C) : Prop := ∀ (w : World) (E : Env) (v : Value), Rc w E v c → Rc w E v c'
structure Acy (b b' : Box) : Prop where
 e : b'.e = b.e
 sz : b'.sz = b.sz
 fz : b'.fz = b.fz
 tr : b'.tr = b.tr
 trr : b'.tr = true → b'.rows = b.rows
 len : b'.rows.length = b.rows.length
 rows : ∀ (i : Nat) (r' : List C), b'.rows[i]? = some r' → ∃ r, b.rows[i]? = some r ∧ r'.length = r.length ∧ ∀ (j : Nat) (c' : C), r'[j]? = some c' → ∃ c, r[j]? = some c ∧ Dw c c'
 hf : b'.hf = true → ∀ (i : Nat) (r : List C) (j : Nat) (c : C), b'.rows[i]? = some r → r[j]? = some c → ∃ x, c = .i x
theorem Bk.sub {w : World} {E : Env} {b b' : Box} {g cap : Nat} (h : Bk w E b g cap) (hb : Acy b b') : Bk w E b' g cap := by
 obtain ⟨arr, a1, a2, a3, a4, a5, a6, a7, a8, a9⟩ := h
 refine ⟨arr, by rw [hb.e]; exact a1, by rw [hb.sz]; exact a2, by rw [hb.len]; exact a3, a4, fun i r hi => ?_, fun i r j c hi hj => ?_, fun hf i r j c hi hj => hb.hf hf i r j c hi hj, fun hf => a8 (by rw [← hb.fz]; exact hf), a9⟩
 · obtain ⟨r0, h1, h2, _⟩ := hb.rows i r hi
   rw [h2, hb.sz]; exact a5 i r0 h1
 · obtain ⟨r0, h1, _, h3⟩ := hb.rows i r hi
   obtain ⟨c0, h4, h5⟩ := h3 j c hj
   obtain ⟨v, h6, h7⟩ := a6 i r0 j c0 h1 h4
   exact ⟨v, by rw [hb.sz]; exact h6, h5 _ _ _ h7⟩
theorem A6.sub {Γ : Ctx} {w : World} {E : Env} {s s' : St} {tmps : Array Value} (hs : A6 Γ w E s tmps) (hnt : s'.nt = s.nt)
  (h1 : ∀ t x', A0 t s'.slots = some x' → ∃ x, A0 t s.slots = some x ∧ Fm x x')
  (h2 : ∀ h b', A0 h s'.boxes = some b' → ∃ b, A0 h s.boxes = some b ∧ Acy b b')
  (h3 : ∀ h b, A0 h s.boxes = some b → (A0 h s'.boxes).isSome = true) : A6 Γ w E s' tmps where
 fr := hs.fr
 held := hs.held
 tow := hs.tow
 wf := by rw [hnt]; exact hs.wf
 old := hs.old
 nt := by rw [hnt]; exact hs.nt
 tag := hs.tag
 new := hs.new
 boxes := fun h b' hb' => by
  obtain ⟨b, hb, hsub⟩ := h2 h b' hb'
  obtain ⟨g, cap, hβ, hat, hω, hS⟩ := hs.boxes h b hb
  refine ⟨g, cap, by rw [hsub.sz]; exact hβ, by rw [hsub.tr]; exact hat.sub hsub, hω, fun e => ?_⟩
  have h5 := hS (by rw [← hsub.tr]; exact e)
  unfold Sep at h5 ⊢
  rw [hsub.trr e, hsub.sz]; exact h5
 inj := fun h h' b b' g g' z z' hb hb' hz hz' hne => by
  obtain ⟨b0, hb0, _⟩ := h2 h b hb
  obtain ⟨b1, hb1, _⟩ := h2 h' b' hb'
  exact hs.inj h h' b0 b1 g g' z z' hb0 hb1 hz hz' hne
 own := fun h b' g z hb' hz => by
  obtain ⟨b, hb, hsub⟩ := h2 h b' hb'
  rw [hsub.fz]
  exact hs.own h b g z hb hz
 slots := fun t x' hx' => by
  obtain ⟨x, hx, hsub⟩ := h1 t x' hx'
  exact hsub _ _ _ (hs.slots t x hx)
 tsize := hs.tsize
 dom := fun h x hx => by
  obtain ⟨b, hb⟩ := Option.isSome_iff_exists.1 (hs.dom h x hx)
  exact h3 h b hb
 stay := hs.stay
 fzn := fun h b' g z hb' hz hf => by
  obtain ⟨b, hb, hsub⟩ := h2 h b' hb'
  exact hs.fzn h b g z hb hz (by rw [← hsub.fz]; exact hf)
theorem Dw.refl (c : C) : Dw c c := fun _ _ _ h => h
theorem Fm.refl (x : S) : Fm x x := fun _ _ _ h => h
theorem Fm.dead (x : S) : Fm x .dead := fun _ _ _ _ => .dead
theorem A8x {c c' : C} (h : ∃ ob, Od c c' = some ob ∧ ∀ p ∈ ob, p) : Dw c c' := by
 obtain ⟨ob, h1, h2⟩ := h
 exact fun w E v hv => J9 hv h1 h2
def Acx (cs cs' : List C) : Prop := cs'.length = cs.length ∧ ∀ (j : Nat) (c' : C), cs'[j]? = some c' → ∃ c, cs[j]? = some c ∧ Dw c c'
theorem A5h : ∀ (cs cs' : List C) (ob : List Prop), Dh cs cs' = some ob → (∀ p ∈ ob, p) → Acx cs cs'
 | [], [], _, _, _ => ⟨rfl, fun j c hj => by simp at hj⟩
 | [], _ :: _, _, h, _ => by simp [Dh] at h
 | _ :: _, [], _, h, _ => by simp [Dh] at h
 | c :: cs, c' :: cs', ob, h, ho => by
  simp only [Dh] at h
  split at h
  · rename_i p q h1 h2
    obtain rfl := Option.some.inj h
    obtain ⟨i1, i2⟩ := A5h cs cs' q h2 (fun x hx => ho x (List.mem_append.2 (.inr hx)))
    refine ⟨by simp [i1], fun j d hj => ?_⟩
    cases j with
    | zero =>
     simp at hj; subst hj
     exact ⟨c, rfl, A8x ⟨p, h1, fun x hx => ho x (List.mem_append.2 (.inl hx))⟩⟩
    | succ j => exact i2 j d (by simpa using hj)
  · cases h
theorem Et.subL {L : Nat → Nat} {cs : List SV} {ds : List I} (h : Et L cs ds) : Acx (cs.map (SV.c L)) (ds.map .i) := by
 obtain ⟨ob, h1, h2⟩ := h
 exact A5h _ _ _ h1 h2
theorem Acx.agg {cs cs' : List C} (h : Acx cs cs') : Fm (.v (.agg cs)) (.v (.agg cs')) := by
 intro w E v hv
 cases hv with
 | v hv =>
  cases hv with
  | agg hv =>
   refine .v (.agg ⟨by rw [h.1]; exact hv.1, fun j v c hv' hc => ?_⟩)
   obtain ⟨c0, h1, h2⟩ := h.2 j c hc
   exact h2 _ _ _ (hv.2 j v c0 hv' h1)
theorem Dw.one {c c' : C} (h : Dw c c') : Fm (.v (.one c)) (.v (.one c')) := by
 intro w E v hv
 cases hv with
 | v hv => cases hv with | one hv => exact .v (.one (h _ _ _ hv))
theorem Agd {L : Nat → Nat} {t : TS} {v : SV} {x : t.den} (h : t.dec v = some x) : Fm (v.s L) ((t.enc x).s L) ∧ (v.cellB = true → (t.enc x).cellB = true → Dw (v.c L) ((t.enc x).c L)) := by
 cases t with
 | d t =>
  simp only [TS.dec] at h
  split at h
  · rename_i cs
    split at h
    · rename_i t0
      cases hd : cs.all SV.isD with
      | false => rw [hd] at h; cases h
      | true =>
       rw [hd] at h
       simp only [cond] at h
       obtain ⟨_, _, h3, _⟩ := Bw h
       have e : (SV.rf cs).c L = (SV.d (.ref t0) x).c L := by
        simp only [SV.c, h3 hd, Sh.cells, hd1]
       have hc : Dw ((SV.rf cs).c L) ((TS.enc (.d (.ref t0)) x).c L) := by
        show Dw _ ((SV.d (.ref t0) x).c L)
        rw [← e]; exact Dw.refl _
       exact ⟨hc.one, fun _ _ => hc⟩
    · cases h
  · rename_i hnr
    cases ht : t.one with
    | false => rw [ht] at h; cases h
    | true =>
     rw [ht] at h
     obtain ⟨q1, q2⟩ := O9 (L := L) ht h
     have hc : Dw (v.c L) ((TS.enc (.d t) x).c L) := A8x q2
     have e : v.s L = .v (.one (v.c L)) := by cases v <;> first | rfl | cases q1
     refine ⟨?_, fun _ _ => hc⟩
     rw [e]
     exact hc.one
 | ag t =>
  simp only [TS.dec] at h
  split at h
  · rename_i cs
    obtain ⟨h1, h2⟩ := A0j (L := L) h
    refine ⟨?_, fun hc => by cases hc⟩
    show Fm (.v (.agg (cs.map (SV.c L)))) (.v (.agg ((t.exp x).map (SV.c L))))
    rw [H5]
    exact h1.subL.agg
  · cases h
 | k c =>
  simp only [TS.dec] at h
  cases hs : c.same v with
  | false => rw [hs] at h; cases h
  | true =>
   show Fm (v.s L) (c.s L) ∧ (v.cellB = true → c.cellB = true → Dw (v.c L) (c.c L))
   unfold SV.same at hs
   split at hs
   · obtain rfl := Nat.eq_of_beq_eq_true hs; exact ⟨Fm.refl _, fun _ _ => Dw.refl _⟩
   · simp only [Bool.and_eq_true] at hs
     obtain rfl := Nat.eq_of_beq_eq_true hs.1.1
     obtain rfl := Nat.eq_of_beq_eq_true hs.1.2
     obtain rfl := Nat.eq_of_beq_eq_true hs.2
     exact ⟨Fm.refl _, fun _ _ => Dw.refl _⟩
   · exact ⟨Fm.dead _, fun _ h => by cases h⟩
   · rename_i t x' t' y
     simp only [Bool.and_eq_true] at hs
     obtain rfl := Sh.eqb_eq hs.2
     have : SV.d t x' = SV.d t y := by
      split at hs
      · rfl
      · rfl
      · exact absurd hs.1 (by simp)
     rw [this]
     exact ⟨Fm.refl _, fun _ _ => Dw.refl _⟩
   · cases hs
 | hs h' =>
  simp only [TS.dec] at h
  split at h
  · rename_i k o l
    cases hk : Nat.beq h' k with
    | false => rw [hk] at h; cases h
    | true =>
     rw [hk] at h
     obtain rfl := Nat.eq_of_beq_eq_true hk
     simp only [cond, Option.some.injEq] at h
     subst h
     exact ⟨Fm.refl _, fun _ _ => Dw.refl _⟩
  · cases h
theorem Acg : ∀ {l : List (Nat × TS)} {sl : List (Nat × SV)} {x : DK TS TS.den l}, A52 l sl = some x → ∀ (L : Nat → Nat) (k : Nat) (y : S), A0 k (Af (SV.s L) (Acb l x)) = some y → ∃ z, A0 k (Af (SV.s L) sl) = some z ∧ Fm z y
 | [], [], _, _, _, k, y, h => by simp [Acb, Af, A0] at h
 | [], _ :: _, _, h, _, _, _, _ => by simp [A52] at h
 | _ :: _, [], _, h, _, _, _, _ => by simp [A52] at h
 | (k, t) :: r, (j, v) :: vs, x, h, L, i, y, hy => by
  simp only [A52] at h
  cases hk : Nat.beq k j with
  | false => rw [hk] at h; cases h
  | true =>
   rw [hk] at h
   obtain rfl := Nat.eq_of_beq_eq_true hk
   simp only [cond] at h
   split at h
   · rename_i a as h1 h2
     obtain rfl := Option.some.inj h
     simp only [Acb, Af, List.map_cons, A0] at hy ⊢
     cases hb : Nat.beq k i with
     | true =>
      rw [hb] at hy
      simp only [cond, Option.some.injEq] at hy
      subst hy
      exact ⟨_, rfl, (Agd h1).1⟩
     | false =>
      rw [hb] at hy
      exact Acg h2 L i y hy
   · cases h
theorem Ach {L : Nat → Nat} : ∀ {l : List TS} {vs : List SV} {x : DL l}, A53 l vs = some x → vs.all SV.cellB = true → (H6 l x).all SV.cellB = true → Acx (vs.map (SV.c L)) ((H6 l x).map (SV.c L))
 | [], [], _, _, _, _ => ⟨rfl, fun j c h => by simp [H6] at h⟩
 | [], _ :: _, _, h, _, _ => by simp [A53] at h
 | _ :: _, [], _, h, _, _ => by simp [A53] at h
 | t :: r, v :: vs, x, h, hc, hc' => by
  simp only [A53] at h
  split at h
  · rename_i a as h1 h2
    obtain rfl := Option.some.inj h
    simp only [List.all_cons, Bool.and_eq_true, H6] at hc hc'
    obtain ⟨i1, i2⟩ := Ach (L := L) h2 hc.2 hc'.2
    refine ⟨by simpa [H6] using i1, fun j c hj => ?_⟩
    cases j with
    | zero =>
     simp [H6] at hj; subst hj
     exact ⟨_, rfl, (Agd h1).2 hc.1 hc'.1⟩
    | succ j => exact i2 j c (by simpa [H6] using hj)
  · cases h
theorem A2n {L : Nat → Nat} {t : TB} {b : B3} {x : t.den} (h : t.dec b = some x) : Acy (b.box L) ((t.enc x).box L) ∧ (t.enc x).len = b.len := by
 cases t with
 | tree e t fz =>
  simp only [TB.dec] at h
  split at h
  · rename_i e' t' fz' xs
    cases hc : (Nat.beq e e' && (fz == fz')) with
    | false => rw [hc] at h; cases h
    | true =>
     rw [hc] at h
     simp only [Bool.and_eq_true] at hc
     obtain rfl := Nat.eq_of_beq_eq_true hc.1
     obtain rfl := eq_of_beq hc.2
     obtain ⟨rfl, rfl⟩ := Cx h
     refine ⟨⟨rfl, rfl, rfl, rfl, fun _ => rfl, rfl, fun i r hi => ⟨r, hi, rfl, fun j c hj => ⟨c, hj, Dw.refl c⟩⟩, fun _ i r j c hi hj => ?_⟩, rfl⟩
     simp only [TB.enc, B3.box, List.getElem?_map] at hi
     obtain ⟨x, _, rfl⟩ := Option.map_eq_some_iff.1 hi
     rw [List.getElem?_map] at hj
     obtain ⟨y, _, rfl⟩ := Option.map_eq_some_iff.1 hj
     exact ⟨y, rfl⟩
  · cases h
 | arr e t fz =>
  simp only [TB.dec] at h
  split at h
  · rename_i e' t' fz' xs
    cases hc : (Nat.beq e e' && (fz == fz')) with
    | false => rw [hc] at h; cases h
    | true =>
     rw [hc] at h
     simp only [Bool.and_eq_true] at hc
     obtain rfl := Nat.eq_of_beq_eq_true hc.1
     obtain rfl := eq_of_beq hc.2
     obtain ⟨rfl, rfl⟩ := Cx h
     refine ⟨⟨rfl, rfl, rfl, rfl, fun _ => rfl, rfl, fun i r hi => ⟨r, hi, rfl, fun j c hj => ⟨c, hj, Dw.refl c⟩⟩, fun _ i r j c hi hj => ?_⟩, rfl⟩
     simp only [TB.enc, B3.box, List.getElem?_map] at hi
     obtain ⟨y, _, rfl⟩ := Option.map_eq_some_iff.1 hi
     rw [List.getElem?_map] at hj
     obtain ⟨z, _, rfl⟩ := Option.map_eq_some_iff.1 hj
     exact ⟨z, rfl⟩
  · rename_i e' fz' n cs
    cases hc : (Nat.beq e e' && (fz == fz')) with
    | false => rw [hc] at h; cases h
    | true =>
     rw [hc] at h
     simp only [cond, Option.map_eq_some_iff] at h
     obtain ⟨y, hy, rfl⟩ := h
     simp only [Bool.and_eq_true] at hc
     obtain rfl := Nat.eq_of_beq_eq_true hc.1
     obtain rfl := eq_of_beq hc.2
     obtain ⟨h1, h2⟩ := A0j (L := L) hy
     have hL := h1.subL
     have hz : cs.length = t.size := by have := hL.1; simp [Sh.cells_len] at this; omega
     refine ⟨⟨rfl, by simp [TB.enc, B3.box, hz], rfl, rfl, fun e => (by cases e), by simp [TB.enc, B3.box], fun i r hi => ?_, fun _ i r j c hi hj => ?_⟩, by simp [TB.enc, B3.len]⟩
     · simp only [TB.enc, B3.box, List.map_replicate, List.getElem?_replicate] at hi
       split at hi
       · rename_i hlt
         obtain rfl := Option.some.inj hi
         exact ⟨cs.map (SV.c L), by simp [B3.box, List.getElem?_replicate, hlt], hL.1, hL.2⟩
       · cases hi
     · simp only [TB.enc, B3.box, List.map_replicate, List.getElem?_replicate] at hi
       split at hi
       · obtain rfl := Option.some.inj hi
         rw [List.getElem?_map] at hj
         obtain ⟨z, _, rfl⟩ := Option.map_eq_some_iff.1 hj
         exact ⟨z, rfl⟩
       · cases hi
  · cases h
 | var e hf fz cs =>
  simp only [TB.dec] at h
  split at h
  · rename_i e' hf' fz' vs
    cases hc : (Nat.beq e e' && (hf == hf') && (fz == fz') && vs.all SV.cellB) with
    | false => rw [hc] at h; cases h
    | true =>
     rw [hc] at h
     simp only [cond] at h
     simp only [Bool.and_eq_true] at hc
     obtain rfl := Nat.eq_of_beq_eq_true hc.1.1.1
     obtain rfl := eq_of_beq hc.1.1.2
     obtain rfl := eq_of_beq hc.1.2
     split at h
     · rename_i y hy
       cases he : ((H6 cs y).all SV.cellB && (!hf || (H6 cs y).all SV.imm)) with
       | false => rw [he] at h; cases h
       | true =>
        rw [he] at h
        obtain rfl := Option.some.inj h
        simp only [Bool.and_eq_true, Bool.or_eq_true, Bool.not_eq_true'] at he
        have hL := Ach (L := L) hy hc.2 he.1
        refine ⟨⟨rfl, by have := hL.1; simpa [TB.enc, B3.box] using this, rfl, rfl, fun e => (by cases e), rfl, fun i r hi => ?_, fun hf' i r j c hi hj => ?_⟩, rfl⟩
        · cases i with
          | zero =>
           simp [TB.enc, B3.box] at hi; subst hi
           exact ⟨vs.map (SV.c L), rfl, hL.1, hL.2⟩
          | succ i => simp [TB.enc, B3.box] at hi
        · have hf'' : hf = true := hf'
          have hi' : (H6 cs y).all SV.imm = true := by
           rcases he.2 with h0 | h0
           · rw [hf''] at h0; cases h0
           · exact h0
          cases i with
          | zero =>
           simp [TB.enc, B3.box] at hi; subst hi
           rw [List.getElem?_map] at hj
           obtain ⟨z, hz, rfl⟩ := Option.map_eq_some_iff.1 hj
           have := Jt (L := L) (List.all_eq_true.1 hi' z (List.mem_of_getElem? hz))
           cases hzc : z.c L with
           | i q => exact ⟨q, rfl⟩
           | hs => rw [hzc] at this; cases this
           | hp => rw [hzc] at this; cases this
          | succ i => simp [TB.enc, B3.box] at hi
     · cases h
  · cases h
theorem Aci {L : Nat → Nat} : ∀ {l : List (Nat × TB)} {bs : List (Nat × B3)} {x : DK TB TB.den l}, A54 l bs = some x →
  (∀ k b', A0 k (Af (B3.box L) (Qi l x)) = some b' → ∃ b, A0 k (Af (B3.box L) bs) = some b ∧ Acy b b') ∧ (∀ k b, A0 k (Af (B3.box L) bs) = some b → (A0 k (Af (B3.box L) (Qi l x))).isSome = true) ∧ A2 (Qi l x) = A2 bs
 | [], [], _, _ => ⟨fun k b h => by simp [Qi, Af, A0] at h, fun k b h => by simp [Af, A0] at h, rfl⟩
 | [], _ :: _, _, h => by simp [A54] at h
 | _ :: _, [], _, h => by simp [A54] at h
 | (k, t) :: r, (j, v) :: vs, x, h => by
  simp only [A54] at h
  cases hk : Nat.beq k j with
  | false => rw [hk] at h; cases h
  | true =>
   rw [hk] at h
   obtain rfl := Nat.eq_of_beq_eq_true hk
   simp only [cond] at h
   split at h
   · rename_i a as h1 h2
     obtain rfl := Option.some.inj h
     obtain ⟨i1, i2, i3⟩ := Aci (L := L) h2
     obtain ⟨b1, b2⟩ := A2n (L := L) h1
     refine ⟨fun i b hb => ?_, fun i b hb => ?_, ?_⟩
     · simp only [Qi, Af, List.map_cons, A0] at hb ⊢
       cases hc : Nat.beq k i with
       | true => rw [hc] at hb; simp only [cond, Option.some.injEq] at hb; subst hb; exact ⟨_, rfl, b1⟩
       | false => rw [hc] at hb; exact i1 i b hb
     · simp only [Qi, Af, List.map_cons, A0] at hb ⊢
       cases hc : Nat.beq k i with
       | true => rfl
       | false => rw [hc] at hb; exact i2 i b hb
     · funext i
       have e := congrFun i3 i
       simp only [A2, Qi, A0] at e ⊢
       cases hc : Nat.beq k i with
       | true => exact b2
       | false => exact e
   · cases h
theorem Sb {X : List (Nat × TS)} : ∀ {sl : List (Nat × SV)} {k : Nat} {x : SV}, A0 k (Oq X sl) = some x → A0 k sl = some x
 | [], k, x, h => by cases h
 | (j, y) :: r, k, x, h => by
  simp only [Oq, List.filter_cons] at h
  have gone : (X.any fun q => Nat.beq q.1 j) = false → ∀ q : List (Nat × SV), A0 j (q.filter fun p => X.any fun z => Nat.beq z.1 p.1) = none := by
   intro hc q
   induction q with
   | nil => rfl
   | cons p' r' ih' =>
    simp only [List.filter_cons]
    split
    · rename_i hc'
      simp only [A0]
      cases hb' : Nat.beq p'.1 j with
      | true => have := Nat.eq_of_beq_eq_true hb'; rw [this, hc] at hc'; cases hc'
      | false => exact ih'
    · exact ih'
  simp only [A0]
  cases hb : Nat.beq j k with
  | true =>
   have := Nat.eq_of_beq_eq_true hb
   subst this
   cases hc : (X.any fun q => Nat.beq q.1 j) with
   | true =>
    rw [if_pos hc] at h
    simp only [A0, hb, cond] at h
    exact h
   | false =>
    rw [if_neg (by rw [hc]; exact Bool.false_ne_true), gone hc] at h
    cases h
  | false =>
   simp only [cond]
   split at h
   · simp only [A0, hb, cond] at h
     exact Sb h
   · exact Sb h
theorem Acf {α β : Type} (f : α → β) (h : Nat) : ∀ l : List (Nat × α), Cc h (Af f l) = Af f (Cc h l)
 | [] => rfl
 | (j, x) :: r => by
  have ih := Acf f h r
  show (bif Nat.beq j h then Cc h (Af f r) else (j, f x) :: Cc h (Af f r)) = Af f (bif Nat.beq j h then Cc h r else (j, x) :: Cc h r)
  cases Nat.beq j h with
  | true => exact ih
  | false =>
   show (j, f x) :: Cc h (Af f r) = (j, f x) :: Af f (Cc h r)
   rw [ih]
theorem Ace {nt : Nat} : ∀ (l : List Nat) {s s' : St3}, A8m l s = some s' → I5 l (s.st nt) = some (s'.st nt)
 | [], s, s', h => by obtain rfl := Option.some.inj h; rfl
 | k :: r, s, s', h => by
  simp only [A8m] at h
  cases hc : (Nat.blt k 1000 && s.clean k) with
  | false => rw [hc] at h; cases h
  | true =>
   rw [hc] at h
   simp only [cond] at h
   simp only [Bool.and_eq_true] at hc
   have hcl := hc.2
   unfold St3.clean at hcl
   simp only [Bool.and_eq_true, List.all_eq_true] at hcl
   have ih := Ace (nt := nt) r h
   have hd : (s.st nt).delBox k = some (({ s with boxes := Cc k s.boxes } : St3).st nt) := by
    unfold St.delBox
    have h1 : (s.st nt).slots.all (fun p => !p.2.men k) = true := by
     simp only [St3.st, Af, List.all_map, List.all_eq_true, Function.comp, Ua]
     exact hcl.1
    have h2 : Lj k (s.st nt).boxes = true := by
     simp only [Lj, St3.st, Af, List.all_map, List.all_eq_true, Function.comp, Bool.or_eq_true, Bool.not_eq_true']
     intro p hp
     exact .inr (Agf (by simpa using hcl.2 p hp))
    rw [hc.1, h1, h2]
    have hL : ∀ j, j ≠ k → A2 s.boxes j = A2 (Cc k s.boxes) j := fun j hj => by
     unfold A2; rw [Ax hj]
    simp only [Bool.and_self, cond, Option.some.injEq, St3.st]
    congr 1
    · exact Jd fun p hp => U6 hL (by simpa using hcl.1 p hp)
    · rw [← Acf]
      congr 1
      exact Jd fun p hp => Iu hL (by simpa using hcl.2 p hp)
   simp only [I5, hd]
   exact ih
theorem Tm.dec1_ok {X : Tm} {s : St3} {x : X.den} (h : X.dec1 s = some x) {nt : Nat} {Γ : Ctx} {w : World} {E : Env} {tmps : Array Value} (hs : A6 Γ w E (s.st nt) tmps) : ∃ E', A6 Γ w E' ((X.enc x).st nt) tmps := by
 unfold Tm.dec1 at h
 split at h
 · rename_i s2 hd
   split at h
   · rename_i a b h1 h2
     obtain rfl := Option.some.inj h
     have hs1 : A6 Γ w E (({ s with slots := Oq X.slots s.slots } : St3).st nt) tmps := hs.less fun t y hy => by
      simp only [St3.st, Ac] at hy ⊢
      obtain ⟨z, hz, rfl⟩ := Option.map_eq_some_iff.1 hy
      rw [Sb hz]; rfl
     obtain ⟨E', hs2⟩ := O3 _ hs1 (Ace _ hd)
     obtain ⟨b1, b2, b3⟩ := Aci (L := A2 s2.boxes) h2
     refine ⟨E', hs2.sub rfl (fun t y hy => ?_) (fun k b' hb => ?_) (fun k b hb => ?_)⟩
     · simp only [Tm.enc, St3.st] at hy
       rw [b3] at hy
       exact Acg h1 _ t y hy
     · simp only [Tm.enc, St3.st] at hb
       rw [b3] at hb
       exact b1 k b' hb
     · simp only [Tm.enc, St3.st]
       rw [b3]
       exact b2 k b hb
   · cases h
 · cases h
theorem Of {nt : Nat} {Γ : Ctx} {w : World} {tmps : Array Value} : ∀ {l : List (Nat × Sh)} {s s' : St3} {E : Env}, Hk l s = some s' → A6 Γ w E (s.st nt) tmps → ∃ E', A6 Γ w E' (s'.st nt) tmps
 | [], s, s', E, h, hs => by
  simp only [Hk, Option.some.injEq] at h
  subst h
  exact ⟨E, hs⟩
 | (t, sh) :: r, s, s', E, h, hs => by
  have go : ∀ {q}, Jp s t sh = some q → (bif q.1 then Hk r q.2 else none) = some s' → ∃ E', A6 Γ w E' (s'.st nt) tmps := by
   rintro ⟨g, s1⟩ h1 h2
   cases g with
   | false => cases h2
   | true =>
    obtain ⟨x', ob, q1, q2⟩ := Og (nt := nt) h1 rfl
    obtain ⟨E1, hs1⟩ := Cu [(t, x')] (s' := s1.st nt) (obs := ob ++ []) hs (by simp only [Dm, q1]) (fun p hp => by simp only [List.append_nil] at hp; exact q2 p hp)
    exact Of (l := r) h2 hs1
  simp only [Hk] at h
  split at h
  · exact Of (l := r) h hs
  · split at h
    · rename_i hq; exact go hq h
    · cases h
theorem Tm.dec_ok {X : Tm} {s : St3} {x : X.den} (h : X.dec s = some x) {nt : Nat} {Γ : Ctx} {w : World} {E : Env} {tmps : Array Value} (hs : A6 Γ w E (s.st nt) tmps) : ∃ E', A6 Γ w E' ((X.enc x).st nt) tmps := by
 unfold Tm.dec at h
 split at h
 · rename_i s1 h1
   obtain ⟨E1, hs1⟩ := Of h1 hs
   exact Tm.dec1_ok h hs1
 · cases h
end Go.Ev

/- DERIVED. A call that is handed boxes or hands out boxes, decided. -/
namespace Go.Ev
open Go
variable {P : Program} {T : Ty}
def SV.renC (σ : Nat → Nat) : SV → SV
 | .hw h => .hw (σ h)
 | .hs h o l => .hs (σ h) o l
 | .hp h r c => .hp (σ h) r c
 | x => x
def SV.renV (σ : Nat → Nat) : SV → SV
 | .agg cs => .agg (cs.map (SV.renC σ))
 | x => x.renC σ
def SV.ren3 (σ : Nat → Nat) : SV → SV
 | .tup cs => .tup (cs.map (SV.renV σ))
 | x => x.renV σ
def SV.okC (p : Nat → Bool) : SV → Bool
 | .hw h => p h
 | .hs h _ _ => p h
 | .hp h _ _ => p h
 | _ => true
def SV.okV (p : Nat → Bool) : SV → Bool
 | .agg cs => cs.all (SV.okC p)
 | x => x.okC p
def SV.ok3 (p : Nat → Bool) : SV → Bool
 | .tup cs => cs.all (SV.okV p)
 | x => x.okV p
def SV.clC : SV → Bool
 | .d (.sl _) [] => true
 | .d t _ => t.closed
 | .rf _ => false
 | .dead => false
 | _ => true
def SV.clV : SV → Bool
 | .agg cs => cs.all SV.clC
 | x => x.clC
def SV.cl3 : SV → Bool
 | .tup cs => cs.all SV.clV
 | x => x.clV
def B3.cl : B3 → Bool
 | .arr _ t _ _ => t.closed
 | .rep _ _ _ cs => cs.all SV.clC
 | .var _ _ _ cs => cs.all SV.clC
 | .tree _ t _ _ => t.flat
 | .hole _ _ _ _ _ _ _ => false
def B3.plain : B3 → Bool
 | .arr _ _ _ _ => true
 | .var _ hf _ cs => hf && cs.all SV.isD
 | .tree _ _ _ _ => true
 | _ => false
section
variable {L L' : Nat → Nat} {σ : Nat → Nat} {p : Nat → Bool}
theorem Aki (hL : ∀ k, p k = true → L (σ k) = L' k) {x : SV} (ho : x.okC p = true) : (x.renC σ).c L = (x.c L').ren σ := by
 cases x <;> first | rfl | skip
 simp only [SV.renC, SV.c, C.ren]
 rw [hL _ ho]
theorem A99 (hL : ∀ k, p k = true → L (σ k) = L' k) {x : SV} (ho : x.okV p = true) : (x.renV σ).v L = (x.v L').ren σ := by
 cases x with
 | agg cs =>
  simp only [SV.renV, SV.v, V.ren, List.map_map]
  congr 1
  exact List.map_congr_left fun y hy => Aki hL (List.all_eq_true.1 ho y hy)
 | hw h => exact congrArg V.one (Aki (x := .hw h) hL ho)
 | _ => rfl
theorem Axr (hL : ∀ k, p k = true → L (σ k) = L' k) {x : SV} (ho : x.ok3 p = true) : (x.ren3 σ).s L = (x.s L').ren σ := by
 cases x with
 | tup cs =>
  simp only [SV.ren3, SV.s, S.ren, List.map_map]
  congr 1
  exact List.map_congr_left fun y hy => A99 hL (List.all_eq_true.1 ho y hy)
 | hw h => exact congrArg S.v (A99 (x := .hw h) hL ho)
 | agg cs => exact congrArg S.v (A99 (x := .agg cs) hL ho)
 | _ => rfl
theorem B1i {x : SV} (ho : x.okC p = true) : (x.c L).okH p = true := by cases x <;> first | rfl | exact ho
theorem Ato {x : SV} (ho : x.okV p = true) : (x.v L).okH p = true := by
 cases x with
 | agg cs =>
  simp only [SV.v, V.okH, List.all_map, List.all_eq_true, Function.comp]
  exact fun y hy => B1i (List.all_eq_true.1 ho y hy)
 | hw h => exact ho
 | hs h o l => exact ho
 | hp h r c => exact ho
 | _ => rfl
theorem B1j {x : SV} (ho : x.ok3 p = true) : (x.s L).okH p = true := by
 cases x with
 | tup cs =>
  simp only [SV.s, S.okH, List.all_map, List.all_eq_true, Function.comp]
  exact fun y hy => Ato (List.all_eq_true.1 ho y hy)
 | agg cs => exact Ato (x := .agg cs) ho
 | hw h => exact ho
 | hs h o l => exact ho
 | hp h r c => exact ho
 | _ => rfl
theorem hd1_closed {l : List I} (h : ∀ c ∈ l, IClosed c) : IClosed (hd1 l) := by
 cases l with
 | nil => exact .lit _
 | cons c r => exact h c (by simp)
theorem Ij {x : SV} (h : x.clC = true) : (x.c L).allI IClosed := by
 cases x with
 | d t y =>
  cases t with
  | sl t =>
   cases y with
   | nil => exact .nil _ _ _
   | cons a b => exact hd1_closed (Li (.sl t) (a :: b) h)
  | _ => exact hd1_closed (Li _ y h)
 | rf => cases h
 | dead => cases h
 | hw => trivial
 | hs => trivial
 | hp => trivial
 | _ => exact .lit _
theorem Qp {x : SV} (h : x.clV = true) : (x.v L).allI IClosed := by
 cases x with
 | agg cs =>
  simp only [SV.v, V.allI, List.getElem?_map]
  intro j c hc
  obtain ⟨y, hy, rfl⟩ := Option.map_eq_some_iff.1 hc
  exact Ij (Dv h hy)
 | d t y => exact Ij (L := L) (x := .d t y) h
 | rf cs => exact Ij (L := L) (x := .rf cs) h
 | hw k => exact Ij (L := L) (x := .hw k) h
 | hs k o l => exact Ij (L := L) (x := .hs k o l) h
 | hp k o l => exact Ij (L := L) (x := .hp k o l) h
 | tup cs => exact Ij (L := L) (x := .tup cs) h
 | dead => exact Ij (L := L) (x := .dead) h
theorem B2m {x : SV} (h : x.cl3 = true) : (x.s L).allI IClosed := by
 cases x with
 | tup cs =>
  simp only [SV.s, S.allI, List.getElem?_map]
  intro j c hc
  obtain ⟨y, hy, rfl⟩ := Option.map_eq_some_iff.1 hc
  exact Qp (Dv h hy)
 | dead => trivial
 | d t y => exact Qp (L := L) (x := .d t y) h
 | rf cs => exact Qp (L := L) (x := .rf cs) h
 | hw k => exact Qp (L := L) (x := .hw k) h
 | hs k o l => exact Qp (L := L) (x := .hs k o l) h
 | hp k o l => exact Qp (L := L) (x := .hp k o l) h
 | agg cs => exact Qp (L := L) (x := .agg cs) h
theorem B17 {b : B3} (h : b.cl = true) : ∀ (i : Nat) (q : List C) (j : Nat) (c : C), (b.box L).rows[i]? = some q → q[j]? = some c → c.allI fun y => IClosed y ∨ ((b.box L).tr = true ∧ Qz y) := by
 intro i q j c hq hc
 cases b with
 | hole => cases h
 | tree e t fz xs =>
  simp only [B3.box, List.getElem?_map] at hq
  obtain ⟨y, hy, rfl⟩ := Option.map_eq_some_iff.1 hq
  rw [List.getElem?_map] at hc
  obtain ⟨z, hz, rfl⟩ := Option.map_eq_some_iff.1 hc
  exact .inr ⟨rfl, Ald t y h z (List.mem_of_getElem? hz)⟩
 | arr e t fz xs =>
  simp only [B3.box, List.getElem?_map] at hq
  obtain ⟨y, hy, rfl⟩ := Option.map_eq_some_iff.1 hq
  rw [List.getElem?_map] at hc
  obtain ⟨z, hz, rfl⟩ := Option.map_eq_some_iff.1 hc
  exact .inl (Li t y h z (List.mem_of_getElem? hz))
 | rep e fz n cs =>
  simp only [B3.box, List.getElem?_replicate] at hq
  split at hq
  · obtain rfl := Option.some.inj hq
    rw [List.getElem?_map] at hc
    obtain ⟨z, hz, rfl⟩ := Option.map_eq_some_iff.1 hc
    exact C.allI_mono (fun _ h => .inl h) (Ij (Dv h hz))
  · cases hq
 | var e hf fz cs =>
  simp only [B3.box] at hq
  cases i with
  | zero =>
   obtain rfl := Option.some.inj hq
   rw [List.getElem?_map] at hc
   obtain ⟨z, hz, rfl⟩ := Option.map_eq_some_iff.1 hc
   exact C.allI_mono (fun _ h => .inl h) (Ij (Dv h hz))
  | succ i => simp at hq
theorem A5q {b : B3} (h : b.plain = true) : b.box L = b.box L' ∧ (b.box L).hf = true := by
 cases b with
 | hole => cases h
 | tree => exact ⟨rfl, rfl⟩
 | arr => exact ⟨rfl, rfl⟩
 | rep => cases h
 | var e hf fz cs =>
  simp only [B3.plain, Bool.and_eq_true] at h
  exact ⟨by simp only [B3.box]; rw [Alb h.2], h.1⟩
end
theorem Qu {L L' : Nat → Nat} {x : SV} (hL : ∀ k, x.menC k = true → L k = L' k) : x.c L = x.c L' := by
 cases x <;> first | rfl | skip
 rename_i k
 simp only [SV.c]
 rw [hL k (by simp [SV.menC])]
theorem X1 {L L' : Nat → Nat} {x : SV} (hL : ∀ k, x.menV k = true → L k = L' k) : x.v L = x.v L' := by
 cases x with
 | agg cs =>
  simp only [SV.v]
  congr 1
  exact List.map_congr_left fun y hy => Qu fun k hk => hL k (List.any_eq_true.2 ⟨y, hy, hk⟩)
 | hw k => exact congrArg V.one (Qu (x := .hw k) hL)
 | _ => rfl
theorem A94 {L L' : Nat → Nat} {x : SV} (hL : ∀ k, x.men k = true → L k = L' k) : x.s L = x.s L' := by
 cases x with
 | tup cs =>
  simp only [SV.s]
  congr 1
  exact List.map_congr_left fun y hy => X1 fun k hk => hL k (List.any_eq_true.2 ⟨y, hy, hk⟩)
 | hw k => exact congrArg S.v (X1 (x := .hw k) hL)
 | agg cs => exact congrArg S.v (X1 (x := .agg cs) hL)
 | _ => rfl
theorem A2o {L L' : Nat → Nat} {b : B3} (hL : ∀ k, b.men k = true → L k = L' k) : b.box L = b.box L' := by
 cases b with
 | hole e t fz xs row col k => simp only [B3.box]; rw [hL k (by simp [B3.men])]
 | tree => rfl
 | arr => rfl
 | rep e fz n cs =>
  simp only [B3.box]
  rw [List.map_congr_left fun y hy => Qu fun k hk => hL k (List.any_eq_true.2 ⟨y, hy, hk⟩)]
 | var e hf fz cs =>
  simp only [B3.box]
  rw [List.map_congr_left fun y hy => Qu fun k hk => hL k (List.any_eq_true.2 ⟨y, hy, hk⟩)]
def CK.backs : CK → List Nat
 | .back j => [j]
 | _ => []
def PK.backs : PK → List Nat
 | .im _ => []
 | .one c => c.backs
 | .mix cs => cs.flatMap CK.backs
def Hb (f0 : Nat) (ts : List PK) (o : Oper) (s : St3) : Option (Bool × HP ts × List Nat × List (Nat × Nat)) :=
 match o.op with
 | .call c => match c.callee with
  | .value f => match Vs (s.val f) with
   | some (fid, caps) => bif Nat.beq fid f0 then Jm s.boxes 1000 ts (c.args.toList.map s.val ++ caps) else none
   | none => none
  | _ => none
 | _ => none
def Ue (rs : List PK) : List Nat := (Ai 0 rs).map (·.1)
def Gm (E : Hg) (hb : Nat) (q : List (Nat × Nat)) : List (Nat × Nat) := (Ue E.rs).map (fun k => (k, hb + k)) ++ q
def Ci (E : Hg) (rn : List (Nat × Nat)) : List Nat := (E.rs.flatMap PK.backs).map (Gv rn)
def Ep (B bs : List (Nat × B3)) (kill : List Nat) : List (Nat × Nat) → Bool
 | [] => true
 | p :: r => bif kill.any (Nat.beq p.2) then Ep B bs kill r else Nat.beq (A2 B p.1) (A2 bs p.2) && Ep B bs kill r
def F3 (E : Hg) (hb : Nat) (s : St3) (x : HP E.ts) (bor : List Nat) (q : List (Nat × Nat)) (y : HR E.rs (Ai 1000 E.ts)) : Bool :=
 Dp (Gm E hb q) && Be (Am E y) (Gm E hb q) && Be (Hu E x) q && (Hu E x).all (fun p => Nat.ble 1000 p.1) && (Am E y).all (fun p => p.2.plain) &&
 (Ue E.rs).all (fun k => Nat.blt (hb + k) 1000 && (A0 (hb + k) s.boxes).isNone && s.clean (hb + k)) && q.all (fun p => !bor.any (Nat.beq p.2)) &&
 (bor.isEmpty || ((Ft (Ba 0 E.rs (Jb y))).cl3 && (Am E y).all (fun p => p.2.cl))) && (Ft (Ba 0 E.rs (Jb y))).ok3 (fun k => (A0 k (Am E y)).isSome) &&
 (Ci E (Gm E hb q)).all (fun h => s.boxes.all (fun p => !p.2.men h))
def As (E : Hg) (hb : Nat) (s : St3) (q : List (Nat × Nat)) (y : HR E.rs (Ai 1000 E.ts)) : SV × St3 :=
 ((Ft (Ba 0 E.rs (Jb y))).ren3 (Gv (Gm E hb q)),
  ⟨Af (fun x => bif (Ci E (Gm E hb q)).any (fun h => x.men h) then .dead else x) s.slots, Sd (Am E y) (Gm E hb q) s.boxes⟩)
theorem Sf : ∀ {a b : List (Nat × Nat)}, Dp (a ++ b) = true → Dp b = true
 | [], _, h => h
 | (k, h') :: r, b, h => Sf (Id h).2
theorem S9 {B bs : List (Nat × B3)} {kill : List Nat} : ∀ {q : List (Nat × Nat)}, Ep B bs kill q = true → ∀ p ∈ q, kill.any (Nat.beq p.2) = true ∨ A2 B p.1 = A2 bs p.2
 | [], _, p, hp => by cases hp
 | a :: r, h, p, hp => by
  simp only [Ep] at h
  cases hk : kill.any (Nat.beq a.2) with
  | true =>
   rw [hk] at h
   rcases List.mem_cons.1 hp with rfl | hp
   · exact .inl hk
   · exact S9 h p hp
  | false =>
   rw [hk] at h
   simp only [cond, Bool.and_eq_true] at h
   rcases List.mem_cons.1 hp with rfl | hp
   · exact .inr (Nat.eq_of_beq_eq_true h.1)
   · exact S9 h.2 p hp
theorem Bu {β : Type} {k : Nat} {b : β} {l : List (Nat × β)} (h : A0 k l = some b) : (k, b) ∈ l := Bt h
theorem A7r {E : Hg} {hb : Nat} {o : Oper} {s s' : St3} {nt : Nat} {x : HP E.ts} {bor : List Nat} {q : List (Nat × Nat)} {y : HR E.rs (Ai 1000 E.ts)} {K : Ag}
  (h : Hb E.f E.ts o s = some (true, x, bor, q)) (hc : F3 E hb s x bor q y = true) (hg : Ep (Am E y) s.boxes (Ci E (Gm E hb q)) q = true) (hF : E.Den P nt x y)
  (hp : (As E hb s q y).2.put3 K o.dst (As E hb s q y).1 = some s') :
  ∃ D obs, Bo P T K o D (s.st nt) = some (s'.st nt, obs) ∧ ∀ p ∈ obs, p := by
 obtain ⟨dst, op, type, pos, aft, guard⟩ := o
 unfold Hb at h
 simp only at h
 split at h
 case h_2 => cases h
 rename_i c
 split at h
 case h_2 => cases h
 rename_i f hf
 split at h
 case h_2 => cases h
 rename_i fid caps hcal
 cases hcf : Nat.beq fid E.f with
 | false => rw [hcf] at h; cases h
 | true =>
 rw [hcf] at h
 simp only [cond] at h
 obtain rfl := Nat.eq_of_beq_eq_true hcf
 generalize hrn : Gm E hb q = rn at *
 unfold F3 at hc
 rw [hrn] at hc
 simp only [Bool.and_eq_true] at hc
 obtain ⟨⟨⟨⟨⟨⟨⟨⟨⟨c1, c2⟩, c3⟩, c4⟩, c5⟩, c6⟩, c7⟩, c8⟩, c9⟩, c10⟩ := hc
 have hrn' : rn = (Ue E.rs).map (fun k => (k, hb + k)) ++ q := hrn.symm
 have c1q : Dp q = true := Sf (by rw [← hrn']; exact c1)
 have qrn : ∀ p ∈ q, p ∈ rn := fun p hp => by rw [hrn']; exact List.mem_append.2 (.inr hp)
 have fwdm : ∀ k h, (k, h) ∈ rn → Gv rn k = h ∧ Hc rn h = some k ∧ A0 k rn = some h := fun k h hm => by
  obtain ⟨e1, e2⟩ := Kj c1 hm
  exact ⟨by unfold Gv; rw [e1], e2, e1⟩
 have outS : ∀ k, (A0 k (Bb (Am E y))).isSome = (A0 k rn).isSome := fun k => by
  unfold Bb
  rw [Ac, Option.isSome_map, E6 c2 k]
 have inS : ∀ k, (A0 k (Bb (Hu E x))).isSome = (A0 k q).isSome := fun k => by
  unfold Bb
  rw [Ac, Option.isSome_map, E6 c3 k]
 obtain ⟨⟨ob, a1, a2⟩, a3, a4, a5⟩ := Acr (hd := fun k h => q.any fun p => Nat.beq p.1 k && Nat.beq p.2 h) (L := A2 (Hu E x)) h rfl
  (fun p hp => List.any_eq_true.2 ⟨p, hp, by simp⟩) (fun k b hb => by
   have := S5 c3 c1q hb
   simp only [A2]
   show (match A0 k (Hu E x) with | some b => b.len | none => 0) = b.len
   rw [this])
 obtain ⟨cs, k1, k2⟩ := A2l (L := A2 s.boxes) hcal
 have hfa : (s.val f).alive = true := Ar fun e => by rw [e] at hcal; cases hcal
 have hfv := Au (nt := nt) rfl hfa
 have hmap : c.args.toList.map (s.st nt).val ++ cs.map (fun x => S.v (V.one (C.i x))) = (c.args.toList.map s.val ++ caps).map (SV.s (A2 s.boxes)) := by
  rw [List.map_append, k2, List.map_map]
  congr 1
  exact List.map_congr_left fun z hz => Au rfl (a5 _ (List.mem_append.2 (.inl (List.mem_map.2 ⟨z, hz, rfl⟩))))
 have blook : ∀ h, A0 h (As E hb s q y).2.boxes = match Hc rn h with | some k => A0 k (Am E y) | none => A0 h s.boxes := fun h => by
  have := Wj (bs := s.boxes) c2 c1 h
  rw [← hrn] at this ⊢
  exact this
 have lenk : ∀ k h, (k, h) ∈ rn → A2 (As E hb s q y).2.boxes h = A2 (Am E y) k := fun k h hm => by
  unfold A2
  rw [blook h, (fwdm k h hm).2.1]
 have lenS : ∀ h, s.clean h = true ∨ (∀ k, Hc rn h = some k → (k, h) ∈ q ∧ (Ci E rn).any (Nat.beq h) = false) → s.clean h = true ∨ A2 (As E hb s q y).2.boxes h = A2 s.boxes h := by
  intro h hh
  rcases hh with hh | hh
  · exact .inl hh
  · cases hw : Hc rn h with
    | none =>
     right
     unfold A2
     rw [blook h, hw]
    | some k =>
     obtain ⟨h1, h2⟩ := hh k hw
     right
     rw [lenk k h (qrn _ h1)]
     rcases S9 hg _ h1 with h3 | h3
     · rw [h3] at h2; cases h2
     · exact h3
 have newC : ∀ k h, (k, h) ∈ rn → (k, h) ∈ q ∨ (h < 1000 ∧ A0 h s.boxes = none ∧ s.clean h = true) := fun k h hm => by
  rw [hrn'] at hm
  rcases List.mem_append.1 hm with hm | hm
  · obtain ⟨k', hk', e⟩ := List.mem_map.1 hm
    obtain ⟨rfl, rfl⟩ := Prod.mk.inj e
    have := List.all_eq_true.1 c6 k' hk'
    simp only [Bool.and_eq_true] at this
    exact .inr ⟨by simpa [Nat.blt_eq] using this.1.1, by simpa using this.1.2, this.2⟩
  · exact .inl hm
 have lenM : ∀ h, (Ci E rn).any (Nat.beq h) = false → s.clean h = true ∨ A2 (As E hb s q y).2.boxes h = A2 s.boxes h := fun h hk => by
  cases hw : Hc rn h with
  | none => exact lenS h (.inr fun k e => by rw [hw] at e; cases e)
  | some k =>
   rcases newC k h (Vt hw) with h1 | h1
   · exact lenS h (.inr fun k' e => by rw [hw] at e; obtain rfl := Option.some.inj e; exact ⟨h1, hk⟩)
   · exact .inl h1.2.2
 have cleanS : ∀ {t : Nat} {z : SV} {h : Nat}, A0 t s.slots = some z → s.clean h = true → z.men h = false := fun {t z h} hz hcl => by
  unfold St3.clean at hcl
  simp only [Bool.and_eq_true, List.all_eq_true, Bool.not_eq_true'] at hcl
  exact hcl.1 _ (Bu hz)
 have Lj : ∀ {t : Nat} {z : B3} {h : Nat}, A0 t s.boxes = some z → s.clean h = true → z.men h = false := fun {t z h} hz hcl => by
  unfold St3.clean at hcl
  simp only [Bool.and_eq_true, List.all_eq_true, Bool.not_eq_true'] at hcl
  exact hcl.2 _ (Bu hz)
 have hval : (As E hb s q y).1.s (A2 (As E hb s q y).2.boxes) = ((Ft (Ba 0 E.rs (Jb y))).s (A2 (Am E y))).ren (Gv rn) := by
  have : (As E hb s q y).1 = (Ft (Ba 0 E.rs (Jb y))).ren3 (Gv rn) := by rw [← hrn]; rfl
  rw [this]
  refine Axr (p := fun k => (A0 k (Am E y)).isSome) (fun k hk => ?_) c9
  rw [E6 c2 k] at hk
  obtain ⟨h', hh'⟩ := Option.isSome_iff_exists.1 hk
  have hm' := Bt hh'
  rw [(fwdm k h' hm').1, lenk k h' hm']
 have hput := N2 (nt := nt) hp
 rw [hval] at hput
 let cb : CallB := ⟨E.ts.map PK.isIm, (Ba 1000 E.ts x).map (SV.v (A2 (Hu E x))), (Ft (Ba 0 E.rs (Jb y))).s (A2 (Am E y)), Bb (Hu E x), Bb (Am E y), Gv rn, Hc rn, fun k h => q.any fun p => Nat.beq p.1 k && Nat.beq p.2 h, (As E hb s q y).2.st nt⟩
 have hok : cb.OK P E.f (s.st nt) bor := by
  refine ⟨hF, fun k h hq => ?_, fun k hk => ?_, fun h k hk => ?_, fun k b hb => ?_, fun k b hb => ?_, ?_, ?_, a3, fun h => ?_, fun t z hz => ?_⟩
  · obtain ⟨p, hp1, hp2⟩ := List.any_eq_true.1 hq
    simp only [Bool.and_eq_true] at hp2
    have e1 := Nat.eq_of_beq_eq_true hp2.1
    have e2 := Nat.eq_of_beq_eq_true hp2.2
    have hm' : (k, h) ∈ q := by rw [← e1, ← e2]; exact hp1
    refine ⟨(fwdm k h (qrn _ hm')).1, ?_⟩
    show (A0 k (Bb (Hu E x))).isSome = true
    rw [inS k, (Kj c1q hm').1]; rfl
  · have hk : (A0 k (Bb (Am E y))).isSome = true := hk
    rw [outS k] at hk
    obtain ⟨h', hh'⟩ := Option.isSome_iff_exists.1 hk
    obtain ⟨e1, e2, _⟩ := fwdm k h' (Bt hh')
    show Hc rn (Gv rn k) = some k
    rw [e1, e2]
  · have hk : Hc rn h = some k := hk
    obtain ⟨e1, e2, e3⟩ := fwdm k h (Vt hk)
    refine ⟨e1, ?_⟩
    show (A0 k (Bb (Am E y))).isSome = true
    rw [outS k, e3]; rfl
  · have hb : A0 k (Bb (Hu E x)) = some b := hb
    unfold Bb at hb
    rw [Ac] at hb
    obtain ⟨b3, hb3, rfl⟩ := Option.map_eq_some_iff.1 hb
    have hmem := Bu hb3
    obtain ⟨h', b', i1, i2, i3, i4, i5⟩ := a4 k b3 hmem
    obtain ⟨e1, e2, e3⟩ := fwdm k h' (qrn _ i1)
    have hk := List.all_eq_true.1 c4 _ hmem
    have hnb := List.all_eq_true.1 c7 _ i1
    refine ⟨by simpa using hk, ?_, (i5 _).1, (i5 _).2, ?_, ?_⟩
    · show A0 (Gv rn k) (Af (B3.box (A2 s.boxes)) s.boxes) = _
      rw [e1, Ac, i2]
      exact congrArg some (i4 _ _)
    · show Gv rn k ∉ bor
      rw [e1]
      intro hmb
      have : (bor.any (Nat.beq h')) = true := List.any_eq_true.2 ⟨h', hmb, by simp⟩
      simp only [this, Bool.not_true] at hnb
      cases hnb
    · show (A0 k (Bb (Am E y))).isSome = true
      rw [outS k, e3]; rfl
  · have hb : A0 k (Bb (Am E y)) = some b := hb
    have hS : (A0 k (Bb (Am E y))).isSome = true := by rw [hb]; rfl
    rw [outS k] at hS
    obtain ⟨h', hh'⟩ := Option.isSome_iff_exists.1 hS
    obtain ⟨e1, e2, e3⟩ := fwdm k h' (Bt hh')
    unfold Bb at hb
    rw [Ac] at hb
    obtain ⟨b3, hb3, rfl⟩ := Option.map_eq_some_iff.1 hb
    refine ⟨(A5q (L' := fun _ => 0) (List.all_eq_true.1 c5 _ (Bu hb3))).2, fun hn => ?_⟩
    have hn : A0 k (Bb (Hu E x)) = none := hn
    rcases newC k h' (Bt hh') with h1 | ⟨h1, h2, _⟩
    · have : (A0 k (Bb (Hu E x))).isSome = true := by rw [inS k, (Kj c1q h1).1]; rfl
      rw [hn] at this; cases this
    · show A0 (Gv rn k) (Af _ s.boxes) = none ∧ Gv rn k < 1000
      rw [e1, Ac, h2]
      exact ⟨rfl, h1⟩
  · simp only [Bool.or_eq_true, List.isEmpty_iff, Bool.and_eq_true] at c8
    rcases c8 with c8 | ⟨c8, c8'⟩
    · exact .inl c8
    · refine .inr ⟨B2m c8, fun k b hb => ?_⟩
      have hb : A0 k (Bb (Am E y)) = some b := hb
      unfold Bb at hb
      rw [Ac] at hb
      obtain ⟨b3, hb3, rfl⟩ := Option.map_eq_some_iff.1 hb
      exact B17 (List.all_eq_true.1 c8' _ (Bu hb3))
  · have : (fun k => (A0 k (Bb (Am E y))).isSome) = fun k => (A0 k (Am E y)).isSome := by
     funext k
     unfold Bb
     rw [Ac, Option.isSome_map]
    show S.okH (fun k => (A0 k (Bb (Am E y))).isSome) _ = true
    rw [this]
    exact B1j c9
  · show A0 h (Af (B3.box (A2 (As E hb s q y).2.boxes)) (As E hb s q y).2.boxes) = match Hc rn h with | some k => A0 k (Bb (Am E y)) | none => A0 h (Af (B3.box (A2 s.boxes)) s.boxes)
    rw [Ac, blook h]
    cases hw : Hc rn h with
    | some k =>
     simp only
     unfold Bb
     rw [Ac]
     cases hb : A0 k (Am E y) with
     | none => rfl
     | some b3 => exact congrArg some (A5q (List.all_eq_true.1 c5 _ (Bu hb))).1
    | none =>
     simp only
     rw [Ac]
     cases hb : A0 h s.boxes with
     | none => rfl
     | some b3 =>
      refine congrArg some (A2o fun k hk => ?_)
      cases hki : (Ci E rn).any (Nat.beq k) with
      | true =>
       obtain ⟨k2, hk2, hk3⟩ := List.any_eq_true.1 hki
       obtain rfl := Nat.eq_of_beq_eq_true hk3
       have := List.all_eq_true.1 (List.all_eq_true.1 c10 _ hk2) _ (Bu hb)
       simp only [hk, Bool.not_true] at this
       cases this
      | false =>
       rcases lenM k hki with h1 | h1
       · rw [Lj hb h1] at hk; cases hk
       · exact h1
  · have hz : A0 t (Af (SV.s (A2 (As E hb s q y).2.boxes)) (Af (fun x => bif (Ci E (Gm E hb q)).any (fun h => x.men h) then .dead else x) s.slots)) = some z := hz
    rw [hrn, Ac, Ac, Option.map_map] at hz
    obtain ⟨z0, hz0, rfl⟩ := Option.map_eq_some_iff.1 hz
    simp only [Function.comp]
    cases hki : (Ci E rn).any (fun h => z0.men h) with
    | true => exact .inl rfl
    | false =>
     right
     show A0 t (Af (SV.s (A2 s.boxes)) s.slots) = _
     rw [Ac, hz0]
     refine congrArg some (A94 fun k hk => ?_)
     cases hki' : (Ci E rn).any (Nat.beq k) with
     | true =>
      obtain ⟨k2, hk2, hk3⟩ := List.any_eq_true.1 hki'
      obtain rfl := Nat.eq_of_beq_eq_true hk3
      have := List.any_eq_false.1 hki _ hk2
      rw [hk] at this; exact absurd rfl this
     | false =>
      rcases lenM k hki' with h1 | h1
      · rw [cleanS hz0 h1] at hk; cases hk
      · exact h1.symm
 refine ⟨{ callB := some cb }, cb.OK P E.f (s.st nt) bor :: ob, ?_, fun p hp => ?_⟩
 · have a1' : G8 cb.hd (s.st nt).box cb.ims (c.args.toList.map (s.st nt).val ++ cs.map fun x => S.v (V.one (C.i x))) cb.args = some (ob, bor) := by
    rw [hmap]; exact a1
   simp only [Bo, A8c, hf, hfv, k1, a1']
   have : cb.s'.putD K dst (cb.r.ren cb.σ) = some (s'.st nt) := hput
   rw [this]
   rfl
 · rcases List.mem_cons.1 hp with rfl | hp
   · exact hok
   · exact a2 p hp
def onB {α : Type} (K : Ag) (E : Hg) (hb : Nat) (o : Oper) (s : St3) (x : HP E.ts) (bor : List Nat) (q : List (Nat × Nat)) (y : HR E.rs (Ai 1000 E.ts)) (k : St3 → Option α) : Option α :=
 bif F3 E hb s x bor q y then bif Ep (Am E y) s.boxes (Ci E (Gm E hb q)) q then (match (As E hb s q y).2.put3 K o.dst (As E hb s q y).1 with
  | some s' => k s'
  | none => none) else none else none
def N0 {α : Type} (K : Ag) (E : Ent3) (hb : Nat) (o : Oper) (s : St3) (k : St3 → Option α) : Option α :=
 match Hb E.f E.ts o s with
 | some (g, x, bor, q) => bif g then (match E.m x with
  | some z => Ha (Ai 1000 E.ts) E.forms z fun rs y => onB K ⟨E.f, E.ts, rs⟩ hb o s x bor q y k
  | none => none) else none
 | none => none
theorem Rl {α : Type} {K : Ag} {E : Ent3} {hb : Nat} {o : Oper} {s : St3} {nt : Nat} {k : St3 → Option α} {r : α} (h : N0 K E hb o s k = some r) (hE : E.Sound P) :
  ∃ s' D obs, Bo P T K o D (s.st nt) = some (s'.st nt, obs) ∧ (∀ p ∈ obs, p) ∧ k s' = some r := by
 unfold N0 at h
 split at h
 · rename_i g x bor q hc
   cases g with
   | false => cases h
   | true =>
    simp only [cond] at h
    split at h
    · rename_i z hm
      obtain ⟨rs, y, h1, h2⟩ := Jk h (hE nt x z hm)
      unfold onB at h1
      cases hck : F3 ⟨E.f, E.ts, rs⟩ hb s x bor q y with
      | false => rw [hck] at h1; cases h1
      | true =>
       rw [hck] at h1
       simp only [cond] at h1
       cases hl : Ep (Am ⟨E.f, E.ts, rs⟩ y) s.boxes (Ci ⟨E.f, E.ts, rs⟩ (Gm ⟨E.f, E.ts, rs⟩ hb q)) q with
       | false => rw [hl] at h1; cases h1
       | true =>
        rw [hl] at h1
        simp only at h1
        split at h1
        · rename_i s' hp
          obtain ⟨D, obs, q1, q2⟩ := A7r (T := T) (E := ⟨E.f, E.ts, rs⟩) hc hck hl h2 hp
          exact ⟨s', D, obs, q1, q2, h1⟩
        · cases h1
    · cases h
 · cases h
end Go.Ev

/- DERIVED. Trees over shapes: the function's own boxes stored into a tree, or appended to it. -/
namespace Go.Ev
open Go
variable {P : Program} {T : Ty}
def Agp (bs : List (Nat × B3)) (h : Nat) : SV → Option (Bool × SV × List Nat)
 | .hw k => match A0 k bs with
  | some (.arr e sh false ys) => bif Nat.blt k 1000 && !Nat.beq k h && sh.lits && (Nat.beq e Cj && Nat.beq sh.size 1) then some (true, .d (.sl sh) ys, [k]) else none
  | _ => none
 | .d (.sl sh) ys => some (ys.isEmpty, .d (.sl sh) ys, [])
 | .d t x => bif t.one && t.lits then some (true, .d t x, []) else none
 | _ => none
def Kd (bs : List (Nat × B3)) (h : Nat) : List SV → Option (Bool × List SV × List Nat)
 | [] => some (true, [], [])
 | c :: r => match Agp bs h c, Kd bs h r with
  | some (g, c', ks), some (g', r', ks') => some (g && g', c' :: r', ks ++ ks')
  | _, _ => none
def A31 (bs : List (Nat × B3)) (k : Nat) : I := match A0 k bs with
 | some (.arr _ sh _ ys) => .sl 0 false sh.size (ys.map sh.cells)
 | _ => .any
structure B19 (bs : List (Nat × B3)) (h k : Nat) : Prop where
 lt : k < 1000
 ne : k ≠ h
 at_ : ∃ e sh ys, A0 k bs = some (.arr e sh false ys) ∧ sh.lits = true ∧ e = Cj ∧ sh.size = 1
theorem Aqy {L : Nat → Nat} {bs : List (Nat × B3)} {h : Nat} {c c' : SV} {g : Bool} {ks : List Nat} (hc : Agp bs h c = some (g, c', ks)) (hg : g = true) :
  (c.c L).okT = true ∧ c.cellB = true ∧ c'.isD = true ∧ (c.c L).men h = false ∧ ((ks = [] ∧ (∀ k, c.menC k = false) ∧ c'.c L = c.c L ∧ ∃ y, c.c L = .i y) ∨ ∃ k, ks = [k] ∧ c = .hw k ∧ B19 bs h k ∧ c'.c L = .i (A31 bs k)) := by
 unfold Agp at hc
 split at hc
 · rename_i k
   split at hc
   · rename_i e sh ys hl
     cases hb : (Nat.blt k 1000 && !Nat.beq k h && sh.lits && (Nat.beq e Cj && Nat.beq sh.size 1)) with
     | false => rw [hb] at hc; cases hc
     | true =>
      rw [hb] at hc
      simp only [cond, Option.some.injEq, Prod.mk.injEq] at hc
      obtain ⟨_, rfl, rfl⟩ := hc
      simp only [Bool.and_eq_true, Bool.not_eq_true'] at hb
      have hne : k ≠ h := O8 hb.1.1.2
      refine ⟨rfl, rfl, rfl, Fq hne, .inr ⟨k, rfl, rfl, ⟨by have := hb.1.1.1; simpa [Nat.blt_eq] using this, hne, e, sh, ys, hl, hb.1.2, Nat.eq_of_beq_eq_true hb.2.1, Nat.eq_of_beq_eq_true hb.2.2⟩, ?_⟩⟩
      simp only [A31, hl, SV.c, Sh.cells, hd1]
   · cases hc
 · rename_i sh ys
   simp only [Option.some.injEq, Prod.mk.injEq] at hc
   obtain ⟨h1, rfl, rfl⟩ := hc
   have : ys = [] := by rw [← h1] at hg; simpa using hg
   subst this
   exact ⟨rfl, rfl, rfl, rfl, .inl ⟨rfl, fun _ => rfl, rfl, _, rfl⟩⟩
 · rename_i t x _
   cases hb : (t.one && t.lits) with
   | false => rw [hb] at hc; cases hc
   | true =>
    rw [hb] at hc
    simp only [cond, Option.some.injEq, Prod.mk.injEq] at hc
    obtain ⟨_, rfl, rfl⟩ := hc
    simp only [Bool.and_eq_true] at hb
    have : ∃ v, hd1 (t.cells x) = .lit v := by
     cases hx : t.cells x with
     | nil => have := t.cells_len x; rw [hx] at this; exact ⟨_, rfl⟩
     | cons y r => obtain ⟨v, hv⟩ := A0y t x hb.2 y (by rw [hx]; simp); exact ⟨v, hv⟩
    obtain ⟨v, hv⟩ := this
    refine ⟨by simp only [SV.c, hv]; rfl, hb.1, hb.1, rfl, .inl ⟨rfl, fun _ => rfl, rfl, _, rfl⟩⟩
 · cases hc
theorem Lq {L : Nat → Nat} {bs : List (Nat × B3)} {h : Nat} : ∀ {cs cs' : List SV} {g : Bool} {ks : List Nat}, Kd bs h cs = some (g, cs', ks) → g = true → ks.Nodup →
  (cs.map (SV.c L)).all C.okT = true ∧ cs.all SV.cellB = true ∧ (∀ c ∈ cs.map (SV.c L), c.men h = false) ∧ (∀ k ∈ ks, B19 bs h k ∧ ∃ col, cs[col]? = some (.hw k) ∧ ∀ (j : Nat) (c : SV), cs[j]? = some c → j ≠ col → c.menC k = false) ∧
  (∀ ks', (∀ k ∈ ks, k ∈ ks') → (cs.map (SV.c L)).map (Mv ks' (A31 bs)) = cs'.map (SV.c L)) ∧ (∀ k, k ∉ ks → ∀ c ∈ cs, c.menC k = false)
 | [], cs', g, ks, hc, _, _ => by
  simp only [Kd, Option.some.injEq, Prod.mk.injEq] at hc
  obtain ⟨_, rfl, rfl⟩ := hc
  exact ⟨rfl, rfl, fun c h => by simp at h, fun k h => by simp at h, fun _ _ => rfl, fun k _ c h => by simp at h⟩
 | c :: r, cs', g, ks, hc, hg, hn => by
  simp only [Kd] at hc
  split at hc
  · rename_i g1 c1 k1 g2 r2 k2 h1 h2
    simp only [Option.some.injEq, Prod.mk.injEq] at hc
    obtain ⟨rfl, rfl, rfl⟩ := hc
    simp only [Bool.and_eq_true] at hg
    obtain ⟨a1, a2, a3, a4, a5⟩ := Aqy (L := L) h1 hg.1
    obtain ⟨n1, n2, n3⟩ := List.nodup_append.1 hn
    obtain ⟨b1, b2, b3, b4, b5, b6⟩ := Lq (L := L) h2 hg.2 n2
    refine ⟨by simp only [List.map_cons, List.all_cons, a1, b1, Bool.and_self], by simp only [List.all_cons, a2, b2, Bool.and_self], fun x hx => ?_, fun k hk => ?_, fun ks' hks => ?_, fun k hk x hx => ?_⟩
    · rcases List.mem_cons.1 hx with rfl | hx
      · exact a4
      · exact b3 x hx
    · rcases List.mem_append.1 hk with hk1 | hk3
      · rcases a5 with ⟨rfl, _⟩ | ⟨k0, rfl, rfl, t0, _⟩
        · simp at hk1
        · obtain rfl : k = k0 := by simpa using hk1
          refine ⟨t0, 0, rfl, fun j x hj hne => ?_⟩
          cases j with
          | zero => exact absurd rfl hne
          | succ j =>
           have hj : r[j]? = some x := by simpa using hj
           exact b6 k (fun hk2 => n3 k (by simp) k hk2 rfl) x (List.mem_of_getElem? hj)
      · obtain ⟨t0, col, q1, q2⟩ := b4 k hk3
        refine ⟨t0, col + 1, by simpa using q1, fun j x hj hne => ?_⟩
        cases j with
        | zero =>
         obtain rfl : c = x := by simpa using hj
         rcases a5 with ⟨_, hm, _⟩ | ⟨k0, rfl, rfl, _, _⟩
         · exact hm k
         · exact Fq fun e => n3 k0 (by simp) k hk3 e
        | succ j => exact q2 j x (by simpa using hj) (by omega)
    · simp only [List.map_cons]
      rw [b5 ks' fun k hk => hks k (by simp [hk])]
      congr 1
      rcases a5 with ⟨_, _, e1, y, e2⟩ | ⟨k0, rfl, rfl, _, e1⟩
      · rw [e1, e2]; rfl
      · rw [e1]
        have : ks'.any (Nat.beq k0) = true := List.any_eq_true.2 ⟨k0, hks k0 (by simp), Nat.beq_refl k0⟩
        simp only [SV.c, Mv, this, cond]
    · rcases List.mem_cons.1 hx with rfl | hx
      · rcases a5 with ⟨_, hm, _⟩ | ⟨k0, rfl, rfl, _, _⟩
        · exact hm k
        · exact Fq fun e => hk (by simp [e])
      · exact b6 k (fun h => hk (by simp [h])) x hx
  · cases hc
def Ip : List Nat → Bool
 | [] => true
 | k :: r => !r.any (Nat.beq k) && Ip r
theorem Io : ∀ {l : List Nat}, Ip l = true → l.Nodup
 | [], _ => List.nodup_nil
 | k :: r, h => by
  simp only [Ip, Bool.and_eq_true, Bool.not_eq_true'] at h
  exact List.nodup_cons.2 ⟨fun hk => by have := List.any_eq_false.1 h.1 k hk; simp at this, Io h.2⟩
def Fs (ks : List Nat) (sl : List (Nat × SV)) : List (Nat × SV) := Af (fun x => bif ks.any (fun k => x.men k) then .dead else x) sl
def O4 (h : Nat) (skip ks : List Nat) (bs : List (Nat × B3)) : Bool := bs.all fun p => Nat.beq p.1 h || skip.any (Nat.beq p.1) || ks.all fun k => !p.2.men k
def Ob (T : Ty) (o : Oper) (s : St3) : Option (Bool × St3) :=
 match o.op, o.dst with
 | .store t a x, none => match T t, s.val a, s.val x with
  | some ti, .hp h row 0, .agg cs => match A0 h s.boxes with
   | some (.tree e sh false xs) => match Kd s.boxes h cs with
    | some (g, cs', ks) => match sh.all false cs' with
     | some y => bif Nat.beq ti.size sh.size && SV.fits3 ti (.agg cs) && Ip ks && O4 h [] (h :: ([] ++ ks)) s.boxes then
       some (g && decide (row < xs.length), { slots := Fs ks s.slots, boxes := Ae h (.tree e sh false (xs.set row y)) (Gb ks s.boxes) }) else none
     | none => none
    | none => none
   | _ => none
  | _, _, _ => none
 | _, _ => none
theorem Mi {L : Nat → Nat} {b : B3} {k : Nat} (hb : b.men k = false) : ∀ (i : Nat) (r : List C) (j : Nat) (c : C), (b.box L).rows[i]? = some r → r[j]? = some c → c.men k = false := by
 have lst : ∀ (cs : List SV), cs.any (SV.menC k) = false → ∀ (j : Nat) (c : C), (cs.map (SV.c L))[j]? = some c → c.men k = false := by
  intro cs h j c hj
  rw [List.getElem?_map] at hj
  obtain ⟨x, hx, rfl⟩ := Option.map_eq_some_iff.1 hj
  rw [N6]
  exact F7 h hx
 intro i r j c hi hj
 cases b with
 | hole e t fz xs row col k0 =>
  have hm : (B3.hole e t fz xs row col k0 |>.box L).men k = false := Agf hb
  simp only [Box.men] at hm
  have := List.any_eq_false.1 hm r (List.mem_of_getElem? hi)
  simp only [List.any_eq_true, not_exists, not_and, Bool.not_eq_true] at this
  exact this c (List.mem_of_getElem? hj)
 | arr e t fz xs =>
  simp only [B3.box, List.getElem?_map] at hi
  obtain ⟨x, _, rfl⟩ := Option.map_eq_some_iff.1 hi
  rw [List.getElem?_map] at hj
  obtain ⟨y, _, rfl⟩ := Option.map_eq_some_iff.1 hj
  rfl
 | tree e t fz xs =>
  simp only [B3.box, List.getElem?_map] at hi
  obtain ⟨x, _, rfl⟩ := Option.map_eq_some_iff.1 hi
  rw [List.getElem?_map] at hj
  obtain ⟨y, _, rfl⟩ := Option.map_eq_some_iff.1 hj
  rfl
 | rep e fz n cs =>
  simp only [B3.box, List.getElem?_replicate] at hi
  split at hi
  · obtain rfl := Option.some.inj hi
    exact lst cs hb j c hj
  · cases hi
 | var e hf fz cs =>
  simp only [B3.box] at hi
  cases i with
  | zero => obtain rfl := Option.some.inj hi; exact lst cs hb j c hj
  | succ i => simp at hi
theorem It {h : Nat} {skip ks : List Nat} {bs : List (Nat × B3)} (hc : O4 h skip ks bs = true) {j : Nat} {b : B3} (hj : A0 j bs = some b) (h1 : j ≠ h) (h2 : j ∉ skip) : ∀ k ∈ ks, b.men k = false := by
 intro k hk
 have := List.all_eq_true.1 hc _ (Bu hj)
 simp only [Bool.or_eq_true, List.all_eq_true, Bool.not_eq_true'] at this
 rcases this with (h3 | h3) | h3
 · exact absurd (Nat.eq_of_beq_eq_true h3) h1
 · obtain ⟨x, hx, he⟩ := List.any_eq_true.1 h3
   exact absurd (Nat.eq_of_beq_eq_true he ▸ hx) h2
 · exact h3 k hk
theorem W5 {s s' : St3} {nt : Nat} {S1 : St} {h row : Nat} {e : TypeId} {sh : Sh} {xs' : List sh.den} {y : sh.den} {cs cs' : List SV} {g0 : Bool} {ks dl : List Nat} {hf1 : Bool} {rows1 : List (List C)}
  (hn : S1.nt = nt) (hsl : ∀ t x, A0 t (s'.st nt).slots = some x → x = .dead ∨ A0 t S1.slots = some x) (hm : ∀ k ∈ dl ++ ks, ∀ t x, A0 t (s'.st nt).slots = some x → x.men k = false)
  (hb1 : A0 h S1.boxes = some ⟨e, sh.size, hf1, false, rows1, true⟩) (hrow : rows1[row]? = some (cs.map (SV.c (A2 s.boxes))))
  (hoth : ∀ (i : Nat) (q : List C) (j : Nat) (c : C), i ≠ row → rows1[i]? = some q → q[j]? = some c → ∃ y, c = .i y)
  (hj : ∀ j, j ≠ h → A0 j S1.boxes = (A0 j s.boxes).map (B3.box (A2 s.boxes)))
  (ht : Kd s.boxes h cs = some (g0, cs', ks)) (hg : g0 = true) (hnd : Ip ks = true) (hy : sh.all false cs' = some y)
  (hdl : ∀ k ∈ dl, k < 1000 ∧ k ≠ h ∧ k ∉ ks) (hd1 : dl.length ≤ 1) (hcl : O4 h dl (h :: (dl ++ ks)) s.boxes = true)
  (hs' : s'.boxes = Ae h (.tree e sh false xs') (Gb (dl ++ ks) s.boxes)) (hxs : rows1.set row ((sh.cells y).map .i) = xs'.map fun x => (sh.cells x).map .i)
  (hself : ∀ (i : Nat) (r : List C) (j : Nat) (c : C), rows1[i]? = some r → r[j]? = some c → ∀ k ∈ dl, c.men k = false) : Ce S1 (s'.st nt) := by
 obtain ⟨f1, f2, f3, f4, f5, f6⟩ := Lq (L := A2 s.boxes) ht hg (Io hnd)
 obtain ⟨y1, _, _, _⟩ := Bw hy
 let b1 : Box := ⟨e, sh.size, hf1, false, rows1, true⟩
 let S2 : St := { S1 with slots := (s'.st nt).slots }
 have w1 : Ce S1 S2 := Cv rfl hsl fun _ => rfl
 have w2 : Ce S2 { S2 with boxes := Gb dl S1.boxes } := by
  rcases dl with _ | ⟨k, _ | ⟨k2, r⟩⟩
  · exact Cv rfl (fun t x hx => .inr hx) fun _ => rfl
  · refine Aqs (s := S2) (hdl k (by simp)).1 (fun t x hx => hm k (by simp) t x hx) (fun j b hjk hb => ?_)
    by_cases e1 : j = h
    · subst e1
      rw [show A0 j S2.boxes = some b1 from hb1] at hb
      obtain rfl := Option.some.inj hb
      exact fun i r j' c hi hc => hself i r j' c hi hc k (by simp)
    · rw [show A0 j S2.boxes = _ from hj j e1] at hb
      obtain ⟨b3, hb3, rfl⟩ := Option.map_eq_some_iff.1 hb
      exact Mi (It hcl hb3 e1 (by simpa using hjk) k (by simp))
  · simp at hd1
 let S3 : St := { S2 with boxes := Gb dl S1.boxes }
 have hdl' : ∀ k ∈ dl, ∀ j, j ∈ ks → j ≠ k := fun k hk j hj e => (hdl k hk).2.2 (e ▸ hj)
 have l3 : ∀ j, A0 j S3.boxes = bif dl.any (Nat.beq j) then none else A0 j S1.boxes := fun j => D2 dl _ j
 have nodl : ∀ j, j ∉ dl → dl.any (Nat.beq j) = false := fun j hj => List.any_eq_false.2 fun x hx => by
  intro e; exact hj (Nat.eq_of_beq_eq_true e ▸ hx)
 have hdlh : h ∉ dl := fun hh => (hdl h hh).2.1 rfl
 have ok : Ak4 S3 h row b1 (cs.map (SV.c (A2 s.boxes))) ks (A31 s.boxes) := by
  refine ⟨by rw [l3, nodl h hdlh]; exact hb1, rfl, hrow, hoth, Io hnd, fun k hk => ?_, fun k hk => hm k (by simp [hk]), fun k hk i b' h1 h2 hl => ?_⟩
  · obtain ⟨⟨t1, t2, e', sh', ys, t3, t4, t5, t6⟩, col, q1, q2⟩ := f4 k hk
    have hkd : k ∉ dl := fun hh => hdl' k hh k hk rfl
    refine ⟨t2, t1, (B3.arr e' sh' false ys).box (A2 s.boxes), ys.map sh'.cells, col, A2 s.boxes k, by rw [l3, nodl k hkd]; show A0 k S1.boxes = _; rw [hj k t2, t3]; rfl, rfl, rfl, by rw [List.getElem?_map, q1]; rfl, by simp [A2, t3, B3.len, B3.box], by simp only [B3.box, List.map_map]; rfl, fun i q j z hi hz => ?_, by simp only [A31, t3, B3.box], (fun j c hjj hne => ?_), t5, t6⟩
    · rw [List.getElem?_map] at hi
      obtain ⟨u, _, rfl⟩ := Option.map_eq_some_iff.1 hi
      exact A0y sh' u t4 z (List.mem_of_getElem? hz)
    · rw [List.getElem?_map] at hjj
      obtain ⟨u, hu, rfl⟩ := Option.map_eq_some_iff.1 hjj
      rw [N6]
      exact q2 j u hu hne
  · rw [l3] at hl
    by_cases e1 : i ∈ dl
    · have : dl.any (Nat.beq i) = true := List.any_eq_true.2 ⟨i, e1, Nat.beq_refl i⟩
      rw [this] at hl; cases hl
    · rw [nodl i e1] at hl
      rw [show A0 i S1.boxes = _ from hj i h2] at hl
      obtain ⟨b3, hb3, rfl⟩ := Option.map_eq_some_iff.1 hl
      exact Mi (It hcl hb3 h2 e1 k (by simp [hk]))
 have w3 := Agl ks ok
 have er : (cs.map (SV.c (A2 s.boxes))).map (Mv ks (A31 s.boxes)) = (sh.cells y).map .i := by rw [f5 ks fun _ h => h, y1 (A2 s.boxes)]
 rw [er] at w3
 have hrow' : b1.rows.set row ((sh.cells y).map .i) = xs'.map fun x => (sh.cells x).map .i := hxs
 rw [hrow'] at w3
 refine w1.trans (w2.trans (w3.trans ((Auh (h := h) (b := ⟨e, sh.size, bif ks.isEmpty then hf1 else false, false, xs'.map fun x => (sh.cells x).map .i, true⟩) (A7 _ _ _) (fun i r j c hi hc => ?_)).trans (Cv hn.symm (fun t x hx => .inr hx) fun j => ?_))))
 · rw [List.getElem?_map] at hi
   obtain ⟨x, _, rfl⟩ := Option.map_eq_some_iff.1 hi
   rw [List.getElem?_map] at hc
   obtain ⟨z, _, rfl⟩ := Option.map_eq_some_iff.1 hc
   exact ⟨z, rfl⟩
 · show A0 j (Af (B3.box (A2 s'.boxes)) s'.boxes) = A0 j (Ae h _ (Ae h _ (Gb ks S3.boxes)))
   rw [Ac, hs']
   by_cases e1 : j = h
   · subst e1
     rw [A7, A7]
     rfl
   · rw [A8 _ _ e1, A8 _ _ e1, A8 _ _ e1, D2, D2, l3]
     rw [List.any_append]
     cases hd : dl.any (Nat.beq j) with
     | true => cases ks.any (Nat.beq j) <;> rfl
     | false =>
      cases hk : ks.any (Nat.beq j) with
      | true => rfl
      | false =>
       show (A0 j s.boxes).map _ = A0 j S1.boxes
       rw [hj j e1]
       cases hl : A0 j s.boxes with
       | none => rfl
       | some b3 =>
        simp only [Option.map_some]
        congr 1
        have hjd : j ∉ dl := fun hh => by
         have := List.any_eq_false.1 hd j hh
         simp at this
        refine A2o fun k hk2 => ?_
        have hkn : k ∉ dl ++ ks := fun hh => by rw [It hcl hl e1 hjd k (by simp only [List.mem_cons]; exact .inr hh)] at hk2; cases hk2
        have hka : (dl ++ ks).any (Nat.beq k) = false := List.any_eq_false.2 fun x hx e => hkn (Nat.eq_of_beq_eq_true e ▸ hx)
        by_cases e2 : k = h
        · subst e2
          rw [It hcl hl e1 hjd k (by simp)] at hk2; cases hk2
        · simp only [A2]
          rw [A8 _ _ e2, D2, hka]
          rfl
theorem Fg {L L' : Nat → Nat} {ks : List Nat} {sl : List (Nat × SV)} (hL : ∀ k, k ∉ ks → L' k = L k) {t : Nat} {x : S} (h : A0 t (Af (SV.s L') (Fs ks sl)) = some x) :
  x = .dead ∨ ∃ sv, A0 t sl = some sv ∧ x = sv.s L ∧ ∀ k ∈ ks, sv.men k = false := by
 rw [Ac] at h
 obtain ⟨z, hz, rfl⟩ := Option.map_eq_some_iff.1 h
 unfold Fs at hz
 rw [Ac] at hz
 obtain ⟨sv, hsv, rfl⟩ := Option.map_eq_some_iff.1 hz
 cases hc : ks.any (fun k => sv.men k) with
 | true => exact .inl rfl
 | false =>
  have hno : ∀ k ∈ ks, sv.men k = false := fun k hk => by
   have := List.any_eq_false.1 hc k hk
   simpa using this
  refine .inr ⟨sv, hsv, ?_, hno⟩
  simp only [cond]
  exact A94 fun k hk => hL k fun hh => by rw [hno k hh] at hk; cases hk
theorem Ags {r cs : List C} (h : r.length = cs.length) : Bn r 0 cs = cs := by
 unfold Bn
 rw [List.take_zero, List.nil_append, Nat.zero_add, List.drop_of_length_le (by omega), List.append_nil]
theorem A7z (hT : Ak P T) {K : Ag} {o : Oper} {s s' : St3} {nt : Nat} {g : Bool} (h : Ob T o s = some (g, s')) (hg : g = true) : Br P K o (s.st nt) (s'.st nt) := by
 unfold Ob at h
 split at h
 · rename_i t a x hop hdst
   split at h
   · rename_i ti hh row cs hti ha hx
     split at h
     · rename_i e sh xs hl
       split at h
       · rename_i g1 cs' ks ht
         split at h
         · rename_i y hy
           cases hc : (Nat.beq ti.size sh.size && SV.fits3 ti (.agg cs) && Ip ks && O4 hh [] (hh :: ([] ++ ks)) s.boxes) with
           | false => rw [hc] at h; cases h
           | true =>
            rw [hc] at h
            simp only [cond, Option.some.injEq, Prod.mk.injEq] at h
            obtain ⟨h1, rfl⟩ := h
            rw [hg] at h1
            simp only [Bool.and_eq_true, decide_eq_true_eq] at h1 hc
            obtain ⟨hg1, hrl⟩ := h1
            obtain ⟨⟨⟨c1, c2⟩, c3⟩, c4⟩ := hc
            have c1 := Nat.eq_of_beq_eq_true c1
            obtain ⟨f1, f2, f3, f4, f5, f6⟩ := Lq (L := A2 s.boxes) ht hg1 (Io c3)
            have hva : (s.st nt).val a = .v (.one (.hp hh row 0)) := Au ha rfl
            have hvx : (s.st nt).val x = .v (.agg (cs.map (SV.c (A2 s.boxes)))) := Au hx rfl
            let r0 : List C := (sh.cells (xs.getD row sh.dflt)).map .i
            have hr0 : ((B3.tree e sh false xs).box (A2 s.boxes)).rows[row]? = some r0 := by
             simp only [B3.box, List.getElem?_map, List.getElem?_eq_getElem hrl, Option.map_some, r0, List.getD_eq_getElem?_getD, Option.getD_some]
            have hbx : (s.st nt).box hh = some ((B3.tree e sh false xs).box (A2 s.boxes)) := by
             show A0 hh (Af (B3.box (A2 s.boxes)) s.boxes) = _
             rw [Ac, hl]; rfl
            have hfit : (V.agg (cs.map (SV.c (A2 s.boxes)))).fits ti = true := by
             have := Kn (L := A2 s.boxes) (ti := ti) (x := .agg cs)
             rw [c2] at this
             exact this
            have hcl : (cs.map (SV.c (A2 s.boxes))).length = sh.size := by
             have := A63 hfit
             simp only [V.cells] at this
             rw [this, c1]
            have hsp : Bn r0 0 (cs.map (SV.c (A2 s.boxes))) = cs.map (SV.c (A2 s.boxes)) := Ags (by rw [hcl]; simp [r0, Sh.cells_len])
            let b1 : Box := { (B3.tree e sh false xs).box (A2 s.boxes) with hf := ((B3.tree e sh false xs).box (A2 s.boxes)).hf && (cs.map (SV.c (A2 s.boxes))).all Bf, rows := ((B3.tree e sh false xs).box (A2 s.boxes)).rows.set row (cs.map (SV.c (A2 s.boxes))) }
            have hcore : C1 T (some r0) o (s.st nt) = some ⟨.dead, .set hh b1, [((B3.tree e sh false xs).box (A2 s.boxes)).rows[row]? = some r0]⟩ := by
             unfold C1
             rw [hop]
             simp only [Gf, hti, hva, hvx, hbx]
             have hcnd : (Nat.ble (0 + ti.size) ((B3.tree e sh false xs).box (A2 s.boxes)).sz && (V.agg (cs.map (SV.c (A2 s.boxes)))).fits ti && !((B3.tree e sh false xs).box (A2 s.boxes)).fz && (!((B3.tree e sh false xs).box (A2 s.boxes)).tr || (V.agg (cs.map (SV.c (A2 s.boxes)))).cells.all C.okT)) = true := by
              simp only [hfit, V.cells, f1, B3.box, Nat.zero_add, c1, Nat.ble_eq_true_of_le (Nat.le_refl _), Bool.and_self, Bool.not_false, Bool.or_true]
             rw [hcnd]
             simp only [cond, V.cells, hsp]
             rfl
            have hstep : Bo P T K o { cells := some r0 } (s.st nt) = some ({ s.st nt with boxes := Ae hh b1 (s.st nt).boxes }, [((B3.tree e sh false xs).box (A2 s.boxes)).rows[row]? = some r0] ++ [] ++ []) := by
             unfold Bo
             simp only [hcore, St.eff, St.putD, hdst, Option.map_some]
            refine (C3 hT hstep (fun p hp => by
             rcases List.mem_append.1 hp with hp | hp
             · rcases List.mem_append.1 hp with hp | hp
               · rw [List.mem_singleton.1 hp]; exact hr0
               · cases hp
             · cases hp)).weak ?_
            have hrow : row < ((B3.tree e sh false xs).box (A2 s.boxes)).rows.length := by simpa [B3.box] using hrl
            have hL : ∀ k, k ∉ ks → A2 (Ae hh (.tree e sh false (xs.set row y)) (Gb ks s.boxes)) k = A2 s.boxes k := by
             intro k hk
             unfold A2
             by_cases e1 : k = hh
             · subst e1
               rw [A7, hl]
               simp [B3.len]
             · rw [A8 _ _ e1, D2]
               have : ks.any (Nat.beq k) = false := List.any_eq_false.2 fun z hz e2 => hk (Nat.eq_of_beq_eq_true e2 ▸ hz)
               rw [this]; rfl
            refine W5 (dl := []) (h := hh) (row := row) (e := e) (sh := sh) (y := y) (cs := cs) (cs' := cs') (ks := ks) (hf1 := b1.hf) (rows1 := b1.rows) (xs' := xs.set row y) rfl (fun t z hz => ?_) (fun k hk t z hz => ?_) (A7 _ _ _) (by show (_ : List (List C))[row]? = _; exact List.getElem?_set_self hrow) (fun i q j c hi hq hc => ?_) (fun j hj => ?_) ht hg1 c3 hy (fun k hk => by simp at hk) (by simp) c4 rfl ?_ (fun _ _ _ _ _ _ k hk => by simp at hk)
            · rcases Fg hL hz with rfl | ⟨sv, h2, rfl, _⟩
              · exact .inl rfl
              · refine .inr ?_
                show A0 t (Af (SV.s (A2 s.boxes)) s.slots) = _
                rw [Ac, h2]; rfl
            · rcases Fg hL hz with rfl | ⟨sv, h2, rfl, h3⟩
              · rfl
              · rw [Ua]; exact h3 k (by simpa using hk)
            · have hq : (((B3.tree e sh false xs).box (A2 s.boxes)).rows.set row (cs.map (SV.c (A2 s.boxes))))[i]? = some q := hq
              rw [List.getElem?_set_ne (Ne.symm hi)] at hq
              simp only [B3.box, List.getElem?_map] at hq
              obtain ⟨u, _, rfl⟩ := Option.map_eq_some_iff.1 hq
              rw [List.getElem?_map] at hc
              obtain ⟨z, _, rfl⟩ := Option.map_eq_some_iff.1 hc
              exact ⟨z, rfl⟩
            · show A0 j (Ae hh b1 (Af (B3.box (A2 s.boxes)) s.boxes)) = _
              rw [A8 _ _ hj, Ac]
            · show (((B3.tree e sh false xs).box (A2 s.boxes)).rows.set row _).set row _ = _
              rw [List.set_set]
              simp only [B3.box, List.map_set]
         · cases h
       · cases h
     · cases h
   · cases h
 · cases h
def Axn : SV → Option Nat
 | .hs tb 0 1 => some tb
 | .hw tb => some tb
 | _ => none
def X3 (T : Ty) (K : Ag) (o : Oper) (s : St3) : Option (Bool × St3) :=
 match o.op, o.dst with
 | .call c, some kd => match c.callee, c.args.toList, c.argTypes.toList with
  | .builtin .append, [x, y], [t, t'] => match s.val x, Axn (s.val y), Ty.d T t with
   | .hw h, some tb, some (.slice e2) => match A0 h s.boxes, A0 tb s.boxes, T e2 with
    | some (.tree e sh false xs), some (.var _ _ _ cs), some ei => match Kd s.boxes h cs with
     | some (g, cs', ks) => match sh.all false cs' with
      | some z => bif Nat.beq t t' && Nat.beq e e2 && Nat.beq ei.size sh.size && Nat.ble 1 ei.size && Nat.ble 1 ei.bytes && Nat.blt h 1000 && Nat.blt tb 1000 && !Nat.beq tb h && !ks.any (Nat.beq tb) && Ip ks && Nat.beq cs.length sh.size && O4 h [tb] (h :: ([tb] ++ ks)) s.boxes && Nat.blt kd K.N then
        some (g && decide ((xs.length + 1) * ei.bytes ≤ 140737488355328), { slots := Ae kd (.hw h) (Fs (h :: ([tb] ++ ks)) s.slots), boxes := Ae h (.tree e sh false (xs ++ [z])) (Gb ([tb] ++ ks) s.boxes) }) else none
      | none => none
     | none => none
    | _, _, _ => none
   | _, _, _ => none
  | _, _, _ => none
 | _, _ => none
theorem A5y {b : Box} {h : Nat} (hb : ∀ (i : Nat) (r : List C) (j : Nat) (c : C), b.rows[i]? = some r → r[j]? = some c → c.men h = false) : b.kill h = b := by
 cases hf : b.hf with
 | true => exact Hq hf
 | false =>
  have e : b.kill h = { b with rows := b.rows.map fun r => r.map fun c => bif c.men h then .i .any else c } := by unfold Box.kill; rw [hf]; rfl
  have : (b.rows.map fun r => r.map fun c => bif c.men h then C.i .any else c) = b.rows := by
   refine (List.map_congr_left fun r hr => ?_).trans (List.map_id _)
   refine (List.map_congr_left fun c hc => ?_).trans (List.map_id _)
   obtain ⟨i, hi⟩ := List.mem_iff_getElem?.1 hr
   obtain ⟨j, hj⟩ := List.mem_iff_getElem?.1 hc
   rw [hb i r j c hi hj]; rfl
  rw [e, this]
theorem Att {α : Type} {a : Array α} {x y : α} (h : a.toList = [x, y]) : a = #[x, y] := Array.ext' h
theorem Ada (hT : Ak P T) {K : Ag} {o : Oper} {s s' : St3} {nt : Nat} {g : Bool} (h : X3 T K o s = some (g, s')) (hg : g = true) : Br P K o (s.st nt) (s'.st nt) := by
 unfold X3 at h
 split at h
 · rename_i c kd hop hdst
   split at h
   · rename_i x y t t' hcal hargs htys
     split at h
     · rename_i hh tb e2 hx hsrc hd
       split at h
       · rename_i e sh xs e' hf' fz' cs ei hl hlt hei
         split at h
         · rename_i g1 cs' ks ht
           split at h
           · rename_i z hy
             cases hc : (Nat.beq t t' && Nat.beq e e2 && Nat.beq ei.size sh.size && Nat.ble 1 ei.size && Nat.ble 1 ei.bytes && Nat.blt hh 1000 && Nat.blt tb 1000 && !Nat.beq tb hh && !ks.any (Nat.beq tb) && Ip ks && Nat.beq cs.length sh.size && O4 hh [tb] (hh :: ([tb] ++ ks)) s.boxes && Nat.blt kd K.N) with
             | false => rw [hc] at h; cases h
             | true =>
              rw [hc] at h
              simp only [cond, Option.some.injEq, Prod.mk.injEq] at h
              obtain ⟨h1, rfl⟩ := h
              rw [hg] at h1
              simp only [Bool.and_eq_true, decide_eq_true_eq, Bool.not_eq_true'] at h1 hc
              obtain ⟨hg1, hby⟩ := h1
              obtain ⟨⟨⟨⟨⟨⟨⟨⟨⟨⟨⟨⟨k1, k2⟩, k3⟩, k4⟩, k5⟩, k6⟩, k7⟩, k8⟩, k9⟩, k10⟩, k11⟩, k12⟩, k13⟩ := hc
              obtain rfl := Nat.eq_of_beq_eq_true k1
              obtain rfl := Nat.eq_of_beq_eq_true k2
              have k3 := Nat.eq_of_beq_eq_true k3
              have k4 := Nat.le_of_ble_eq_true k4
              have k5 := Nat.le_of_ble_eq_true k5
              have k6 : hh < 1000 := by simpa [Nat.blt_eq] using k6
              have k7 : tb < 1000 := by simpa [Nat.blt_eq] using k7
              have k8 : tb ≠ hh := O8 k8
              have k9 : tb ∉ ks := fun hk => by have := List.any_eq_false.1 k9 tb hk; simp at this
              have k11 := Nat.eq_of_beq_eq_true k11
              obtain ⟨f1, f2, f3, f4, f5, f6⟩ := Lq (L := A2 s.boxes) ht hg1 (Io k10)
              have hlh : A2 s.boxes hh = xs.length := by simp [A2, hl, B3.len]
              have hlt1 : A2 s.boxes tb = 1 := by simp [A2, hlt, B3.len]
              have hva : (s.st nt).val x = .v (.one (.hs hh 0 xs.length)) := by rw [Au hx rfl, ← hlh]; rfl
              have hvy : (s.st nt).val y = .v (.one (.hs tb 0 1)) := by
               unfold Axn at hsrc
               split at hsrc
               · rename_i hv
                 obtain rfl := Option.some.inj hsrc
                 exact Au hv rfl
               · rename_i hv
                 obtain rfl := Option.some.inj hsrc
                 rw [Au hv rfl, ← hlt1]; rfl
               · cases hsrc
              let b : Box := (B3.tree e sh false xs).box (A2 s.boxes)
              let row : List C := cs.map (SV.c (A2 s.boxes))
              let b1 : Box := { b with hf := row.all Bf, rows := b.rows ++ [row] }
              have hb : A0 hh (s.st nt).boxes = some b := by
               show A0 hh (Af (B3.box (A2 s.boxes)) s.boxes) = _
               rw [Ac, hl]; rfl
              have hbl : b.rows.length = xs.length := by simp [b, B3.box]
              let X : S := .v (.one (.hs hh 0 (xs.length + 1)))
              let S1 : St := { (s.st nt).app hh b1 with slots := Ae kd X ((s.st nt).app hh b1).slots }
              have hput : ((s.st nt).app hh b1).putD K o.dst X = some S1 := by
               rw [hdst]
               simp only [St.putD, k13, cond]
               rfl
              have hden : Br P K o (s.st nt) S1 := by
               refine Br.of hput fun Γ w E a hK hs => ?_
               have hvv := hs.val_sound x
               have hvu := hs.val_sound y
               rw [hva] at hvv
               rw [hvy] at hvu
               have hbt : A0 tb (s.st nt).boxes = some ((B3.var e' hf' fz' cs).box (A2 s.boxes)) := by
                show A0 tb (Af (B3.box (A2 s.boxes)) s.boxes) = _
                rw [Ac, hlt]; rfl
               obtain ⟨u', w', E', e1, e2, e3⟩ := Atd (P := P) (ty := o.type) hT hs hd hei k4 k5 hvv hb (by show sh.size = _; exact k3.symm) rfl rfl rfl rfl hbl.symm hvu hbt (by show cs.length = _; rw [k11, k3]) rfl (row := row) rfl f1 f3 hby (.inl k6)
               refine ⟨_, u', w', E', ?_, .inl rfl, e2, e3⟩
               obtain ⟨dst, op, type, pos, after, guard⟩ := o
               simp only at hop
               subst hop
               obtain ⟨callee, args, argTypes⟩ := c
               simp only at hcal hargs htys
               subst hcal
               obtain rfl := Att hargs
               obtain rfl := Att htys
               simp [execOp, resolve, invoke, builtin, e1]
              refine hden.weak ?_
              have hL : ∀ k, k ∉ hh :: ([tb] ++ ks) → A2 (Ae hh (.tree e sh false (xs ++ [z])) (Gb ([tb] ++ ks) s.boxes)) k = A2 s.boxes k := by
               intro k hk
               simp only [List.mem_cons, not_or] at hk
               unfold A2
               rw [A8 _ _ hk.1, D2]
               have : ([tb] ++ ks).any (Nat.beq k) = false := List.any_eq_false.2 fun q hq e2 => hk.2 (Nat.eq_of_beq_eq_true e2 ▸ hq)
               rw [this]; rfl
              have hLh : A2 (Ae hh (.tree e sh false (xs ++ [z])) (Gb ([tb] ++ ks) s.boxes)) hh = xs.length + 1 := by
               unfold A2
               rw [A7]
               simp [B3.len]
              have slot : ∀ t' q, A0 t' (Af (SV.s (A2 (Ae hh (.tree e sh false (xs ++ [z])) (Gb ([tb] ++ ks) s.boxes)))) (Ae kd (.hw hh) (Fs (hh :: ([tb] ++ ks)) s.slots))) = some q → (t' = kd ∧ q = X) ∨ (t' ≠ kd ∧ (q = .dead ∨ ∃ sv, A0 t' s.slots = some sv ∧ q = sv.s (A2 s.boxes) ∧ ∀ k ∈ hh :: ([tb] ++ ks), sv.men k = false)) := by
               intro t' q hq
               rw [← Cd] at hq
               by_cases e1 : t' = kd
               · subst e1
                 rw [A7] at hq
                 refine .inl ⟨rfl, ?_⟩
                 rw [← Option.some.inj hq]
                 show S.v (.one (.hs hh 0 _)) = _
                 rw [hLh]
               · rw [A8 _ _ e1] at hq
                 exact .inr ⟨e1, Fg hL hq⟩
              refine W5 (dl := [tb]) (h := hh) (row := xs.length) (e := e) (sh := sh) (y := z) (cs := cs) (cs' := cs') (ks := ks) (hf1 := row.all Bf) (rows1 := b.rows ++ [row]) (xs' := xs ++ [z]) rfl (fun t' q hq => ?_) (fun k hk t' q hq => ?_) (A7 _ _ _) (by rw [List.getElem?_append_right (by omega), hbl]; simp; rfl) (fun i q j c' hi hq hc' => ?_) (fun j hj => ?_) ht hg1 k10 hy (fun k hk => by obtain rfl := List.mem_singleton.1 hk; exact ⟨k7, k8, k9⟩) (by simp) k12 rfl ?_ (fun i r j c' hi hc' k hk => ?_)
              · rcases slot t' q hq with ⟨rfl, rfl⟩ | ⟨hne, rfl | ⟨sv, h2, rfl, h3⟩⟩
                · exact .inr (A7 _ _ _)
                · exact .inl rfl
                · refine .inr ?_
                  show A0 t' (Ae kd X (Lw hh (Af (SV.s (A2 s.boxes)) s.slots))) = _
                  rw [A8 _ _ hne]
                  unfold Lw
                  rw [X9 (fun x => bif S.men hh x then .dead else x), Ac, h2]
                  simp only [Option.map_some, Ua, h3 hh (by simp), cond]
              · rcases slot t' q hq with ⟨rfl, rfl⟩ | ⟨hne, rfl | ⟨sv, h2, rfl, h3⟩⟩
                · refine Fq fun e1 => ?_
                  rcases List.mem_append.1 hk with hk | hk
                  · obtain rfl := List.mem_singleton.1 hk; exact k8 e1.symm
                  · exact (f4 k hk).1.ne e1.symm
                · rfl
                · rw [Ua]; exact h3 k (by simp only [List.mem_cons]; exact .inr hk)
              · have hlt2 : i < b.rows.length := by
                 have := (List.getElem?_eq_some_iff.1 hq).1
                 simp at this
                 omega
                rw [List.getElem?_append_left hlt2] at hq
                simp only [b, B3.box, List.getElem?_map] at hq
                obtain ⟨u, _, rfl⟩ := Option.map_eq_some_iff.1 hq
                rw [List.getElem?_map] at hc'
                obtain ⟨u2, _, rfl⟩ := Option.map_eq_some_iff.1 hc'
                exact ⟨u2, rfl⟩
              · show A0 j (Ae hh b1 (killB hh (Af (B3.box (A2 s.boxes)) s.boxes))) = _
                rw [A8 _ _ hj, Cz, Ac]
                cases hb3 : A0 j s.boxes with
                | none => rfl
                | some b3 =>
                 simp only [Option.map_some]
                 congr 1
                 by_cases e1 : j = tb
                 · subst e1
                   rw [hlt] at hb3
                   obtain rfl := Option.some.inj hb3
                   refine A5y fun i r j' c' hi hc' => ?_
                   simp only [B3.box] at hi
                   cases i with
                   | zero =>
                    obtain rfl := Option.some.inj hi
                    exact f3 c' (List.mem_of_getElem? hc')
                   | succ i => simp at hi
                 · exact A5y (Mi (It k12 hb3 hj (by simpa using e1) hh (by simp)))
              · rw [← hbl]
                simp only [b, B3.box]
                rw [List.set_append_right _ _ (by simp)]
                simp
              · obtain rfl := List.mem_singleton.1 hk
                by_cases hlt2 : i < b.rows.length
                · rw [List.getElem?_append_left hlt2] at hi
                  simp only [b, B3.box, List.getElem?_map] at hi
                  obtain ⟨u, _, rfl⟩ := Option.map_eq_some_iff.1 hi
                  rw [List.getElem?_map] at hc'
                  obtain ⟨u2, _, rfl⟩ := Option.map_eq_some_iff.1 hc'
                  rfl
                · rw [List.getElem?_append_right (by omega)] at hi
                  have hi0 : i - b.rows.length = 0 := by have := (List.getElem?_eq_some_iff.1 hi).1; simp at this; omega
                  rw [hi0] at hi
                  simp at hi
                  subst hi
                  obtain ⟨u, hu, rfl⟩ := List.mem_map.1 (List.mem_of_getElem? hc')
                  rw [N6]
                  exact f6 k k9 u hu
           · cases h
         · cases h
       · cases h
     · cases h
   · cases h
 · cases h
def X2 (sh : Sh) (k : Nat) (s : St3) : Option St3 :=
 match A0 k s.boxes with
 | some (.rep e false n cs) => match sh.all true cs with
  | some x => bif (sh.cells x).all (fun c => (C.i c).okT) then some { s with boxes := Ae k (.tree e sh false (List.replicate n x)) s.boxes } else none
  | none => none
 | some (.arr e sh' false []) => bif Nat.beq sh.size sh'.size then some { s with boxes := Ae k (.tree e sh false []) s.boxes } else none
 | _ => none
theorem Ad9 {sh : Sh} {k : Nat} {s s' : St3} {nt : Nat} (h : X2 sh k s = some s') : Ce (s.st nt) (s'.st nt) := by
 have fin : ∀ {b : B3} {e : TypeId} {sh0 : Sh} {xs : List sh0.den}, A0 k s.boxes = some b → xs.length = b.len → Acy (b.box (A2 s.boxes)) ((B3.arr e sh0 false xs).box (A2 s.boxes)) →
   (∀ x ∈ xs, (sh0.cells x).all (fun c => (C.i c).okT) = true) → s' = { s with boxes := Ae k (.tree e sh0 false xs) s.boxes } → Ce (s.st nt) (s'.st nt) := by
  intro b e sh0 xs hl hlen hsub hok hs'
  subst hs'
  have hL : A2 (Ae k (.tree e sh0 false xs) s.boxes) = A2 s.boxes := by
   funext j
   unfold A2
   by_cases e1 : j = k
   · subst e1; rw [A7, hl]; exact hlen
   · rw [A8 _ _ e1]
  let ab : Box := (B3.arr e sh0 false xs).box (A2 s.boxes)
  have hb : A0 k (s.st nt).boxes = some (b.box (A2 s.boxes)) := by
   show A0 k (Af (B3.box (A2 s.boxes)) s.boxes) = _
   rw [Ac, hl]; rfl
  have w1 : Ce (s.st nt) { s.st nt with boxes := Ae k ab (s.st nt).boxes } := fun Γ w E tmps hs => by
   refine ⟨E, hs.sub rfl (fun t x hx => ⟨x, hx, fun _ _ _ h => h⟩) (fun j b' hj => ?_) (fun j b' hj => ?_)⟩
   · by_cases e1 : j = k
     · subst e1
       have hj : A0 j (Ae j ab (s.st nt).boxes) = some b' := hj
       rw [A7] at hj
       obtain rfl := Option.some.inj hj
       exact ⟨_, hb, hsub⟩
     · have hj : A0 j (Ae k ab (s.st nt).boxes) = some b' := hj
       rw [A8 _ _ e1] at hj
       exact ⟨b', hj, ⟨rfl, rfl, rfl, rfl, fun _ => rfl, rfl, fun i r hi => ⟨r, hi, rfl, fun j c hj => ⟨c, hj, Dw.refl c⟩⟩, fun hf i r j' c hi hc => by
        obtain ⟨g, cap, _, ⟨arr, _, _, _, _, _, _, hI, _⟩, _⟩ := hs.boxes j b' hj
        exact hI hf i r j' c hi hc⟩⟩
   · by_cases e1 : j = k
     · subst e1; show (A0 j (Ae j ab (s.st nt).boxes)).isSome = true; rw [A7]; rfl
     · show (A0 j (Ae k ab (s.st nt).boxes)).isSome = true; rw [A8 _ _ e1, hj]; rfl
  have w2 : Ce { s.st nt with boxes := Ae k ab (s.st nt).boxes } { s.st nt with boxes := Ae k { ab with tr := true } (Ae k ab (s.st nt).boxes) } := fun Γ w E tmps hs =>
   ⟨E, A7y hs (A7 _ _ _) rfl fun i r j c hi hc => by
    simp only [ab, B3.box, List.getElem?_map] at hi
    obtain ⟨x, hx, rfl⟩ := Option.map_eq_some_iff.1 hi
    rw [List.getElem?_map] at hc
    obtain ⟨y, hy, rfl⟩ := Option.map_eq_some_iff.1 hc
    exact List.all_eq_true.1 (hok x (List.mem_of_getElem? hx)) y (List.mem_of_getElem? hy)⟩
  refine w1.trans (w2.trans (Cv rfl (fun t x hx => .inr ?_) fun j => ?_))
  · have hx : A0 t (Af (SV.s (A2 (Ae k (.tree e sh0 false xs) s.boxes))) s.slots) = some x := hx
    rw [hL] at hx
    exact hx
  · show A0 j (Af (B3.box (A2 (Ae k (.tree e sh0 false xs) s.boxes))) (Ae k (.tree e sh0 false xs) s.boxes)) = A0 j (Ae k { ab with tr := true } (Ae k ab (Af (B3.box (A2 s.boxes)) s.boxes)))
    rw [hL, Ac]
    by_cases e1 : j = k
    · subst e1; rw [A7, A7]; rfl
    · rw [A8 _ _ e1, A8 _ _ e1, A8 _ _ e1, Ac]
 unfold X2 at h
 split at h
 · rename_i e n cs hl
   split at h
   · rename_i x hx
     cases hc : (sh.cells x).all (fun c => (C.i c).okT) with
     | false => rw [hc] at h; cases h
     | true =>
      rw [hc] at h
      have hs' := (Option.some.inj h).symm
      have hdec : (TB.arr e sh false).dec (.rep e false n cs) = some (List.replicate n x) := by
       simp only [TB.dec, Nat.beq_refl, BEq.rfl, Bool.and_self, cond, hx, Option.map_some]
      obtain ⟨q1, q2⟩ := A2n (L := A2 s.boxes) hdec
      refine fin (e := e) (sh0 := sh) (xs := List.replicate n x) hl (by simpa [TB.enc, B3.len] using q2) q1 (fun y hy => ?_) hs'
      rw [List.eq_of_mem_replicate hy]; exact hc
   · cases h
 · rename_i e sh' hl
   cases hc : Nat.beq sh.size sh'.size with
   | false => rw [hc] at h; cases h
   | true =>
    rw [hc] at h
    have hs' := (Option.some.inj h).symm
    exact fin (e := e) (sh0 := sh) (xs := []) hl rfl ⟨rfl, Nat.eq_of_beq_eq_true hc, rfl, rfl, (fun e => by cases e), rfl, (fun i r hi => by simp [B3.box] at hi), fun _ i r j c hi => by simp [B3.box] at hi⟩ (fun y hy => by cases hy) hs'
 · cases h
end Go.Ev

/- DERIVED. A slice of a tree is taken out to be written, and put back, over shapes. -/
namespace Go.Ev
open Go
variable {P : Program} {T : Ty}
theorem Br.pre {K : Ag} {o : Oper} {s s1 s2 : St} (hw : Ce s s1) (h : Br P K o s1 s2) : Br P K o s s2 := fun Γ w E a ro n X hN hX hx hs next Q k => by
 obtain ⟨E', hs'⟩ := hw Γ w E _ hs
 exact h Γ w E' a ro n X hN hX hx hs' next Q k
def At8 {α : Type} (T : Ty) (K : Ag) (kk : Nat) (o : Oper) (s : St3) (k : St3 → Option α) : Option α :=
 match o.op, o.dst with
 | .load t a, some d => match T t, s.val a with
  | some ti, .hp h row col => match A0 h s.boxes with
   | some (.tree e sh false xs) => match (sh.exp (xs.getD row sh.dflt))[col]? with
    | some (.d (.sl t') ys) => bif Nat.beq ti.size 1 && !D4 ti.d && Nat.ble (col + ti.size) sh.size && sh.flat && Nat.beq t'.size 1 && Nat.ble 2000 kk && (A0 kk s.boxes).isNone && s.clean kk && Nat.blt d K.N then
      (bif decide (row < xs.length) then (bif ys.isEmpty then k { s with slots := Ae d (.d (.sl t') []) s.slots } else
       k { slots := Ae d (.hw kk) s.slots, boxes := Ae kk (.arr Cj t' false ys) (Ae h (.hole e sh false xs row col kk) s.boxes) }) else none) else none
    | _ => none
   | _ => none
  | _, _ => none
 | _, _ => none
theorem Ale {y : I} (h : Qz y) : y.flatSl := by
 rcases h with ⟨v, rfl⟩ | ⟨nl, sz, rows, rfl, hl⟩
 · trivial
 · exact ⟨rfl, hl⟩
theorem Ez {sh : Sh} {xs : List sh.den} {row : Nat} (h : row < xs.length) : (xs.map fun x => (sh.cells x).map C.i)[row]? = some ((sh.cells (xs.getD row sh.dflt)).map .i) := by
 simp only [List.getElem?_map, List.getElem?_eq_getElem h, Option.map_some, List.getD_eq_getElem?_getD, Option.getD_some]
theorem Acl {sh : Sh} {x : sh.den} {col : Nat} {t' : Sh} {ys : List t'.den} (h : (sh.exp x)[col]? = some (.d (.sl t') ys)) : ((sh.cells x).map C.i)[col]? = some (.i (.sl 0 false t'.size (ys.map t'.cells))) := by
 rw [← H5 (fun _ => 0), List.getElem?_map, h]
 rfl
theorem Aqt {s : St3} {nt h row col kk : Nat} {e : TypeId} {sh : Sh} {xs : List sh.den} {t' : Sh} {ys : List t'.den}
  (hl : A0 h s.boxes = some (.tree e sh false xs)) (hc : (sh.exp (xs.getD row sh.dflt))[col]? = some (.d (.sl t') ys)) (hrow : row < xs.length) (hfl : sh.flat = true) (h1 : t'.size = 1)
  (hk : 2000 ≤ kk) (hkn : A0 kk s.boxes = none) (hcl : s.clean kk = true) (hne : ys ≠ []) :
  Ce (s.st nt) ((⟨s.slots, Ae kk (.arr Cj t' false ys) (Ae h (.hole e sh false xs row col kk) s.boxes)⟩ : St3).st nt) := by
 intro Γ w E tmps hs
 have hkh : h ≠ kk := fun e => by subst e; rw [hl] at hkn; cases hkn
 have hcell := Acl hc
 rw [h1] at hcell
 have hb : A0 h (s.st nt).boxes = some ((B3.tree e sh false xs).box (A2 s.boxes)) := by
  show A0 h (Af (B3.box (A2 s.boxes)) s.boxes) = _
  rw [Ac, hl]; rfl
 obtain ⟨E', hs'⟩ := A30 hs hb rfl rfl hk (by show A0 kk (Af _ s.boxes) = _; rw [Ac, hkn]; rfl) (Ez hrow) hcell (by simpa using hne) (fun i q j y hi hj => by
  simp only [B3.box, List.getElem?_map] at hi
  obtain ⟨x, _, rfl⟩ := Option.map_eq_some_iff.1 hi
  rw [List.getElem?_map] at hj
  obtain ⟨z, hz, hzy⟩ := Option.map_eq_some_iff.1 hj
  obtain rfl := C.i.inj hzy
  exact Ale (Ald sh x hfl z (List.mem_of_getElem? hz)))
 simp only [St3.clean, Bool.and_eq_true, List.all_eq_true, Bool.not_eq_true'] at hcl
 have hL : ∀ k, k ≠ kk → A2 s.boxes k = A2 (Ae kk (.arr Cj t' false ys) (Ae h (.hole e sh false xs row col kk) s.boxes)) k := by
  intro k hk
  unfold A2
  rw [A8 _ _ hk]
  by_cases e1 : k = h
  · subst e1; rw [A7, hl]; rfl
  · rw [A8 _ _ e1]
 refine Cv (s' := ((⟨s.slots, Ae kk (.arr Cj t' false ys) (Ae h (.hole e sh false xs row col kk) s.boxes)⟩ : St3).st nt)) (by rfl) (fun t x hx => .inr ?_) (fun k => ?_) Γ w E' tmps hs'
 · have hx : A0 t (Af (SV.s (A2 (Ae kk (.arr Cj t' false ys) (Ae h (.hole e sh false xs row col kk) s.boxes)))) s.slots) = some x := hx
   rw [Ac] at hx
   obtain ⟨z, hz, rfl⟩ := Option.map_eq_some_iff.1 hx
   show A0 t (Af (SV.s (A2 s.boxes)) s.slots) = _
   rw [Ac, hz]
   exact congrArg some (U6 hL (hcl.1 _ (Bt hz)))
 · show A0 k (Af (B3.box (A2 (Ae kk (.arr Cj t' false ys) (Ae h (.hole e sh false xs row col kk) s.boxes)))) (Ae kk (.arr Cj t' false ys) (Ae h (.hole e sh false xs row col kk) s.boxes))) = A0 k (Ae kk _ (Ae h _ (Af (B3.box (A2 s.boxes)) s.boxes)))
   rw [Ac]
   by_cases e1 : k = kk
   · subst e1
     rw [A7, A7]
     simp [B3.box, h1]
   · rw [A8 _ _ e1, A8 _ _ e1]
     by_cases e2 : k = h
     · subst e2
       rw [A7, A7]
       have hlk : A2 (Ae kk (.arr Cj t' false ys) (Ae k (.hole e sh false xs row col kk) s.boxes)) kk = ys.length := by
        unfold A2; rw [A7]; rfl
       simp only [Option.map_some, B3.box, hlk, Oh, List.getD_eq_getElem?_getD, Ez hrow, Option.getD_some, List.length_map]
     · rw [A8 _ _ e2, A8 _ _ e2, Ac]
       cases hz : A0 k s.boxes with
       | none => rfl
       | some b => exact congrArg some (Iu hL (hcl.2 _ (Bt hz))).symm
theorem Axf (hT : Ak P T) {α : Type} {K : Ag} {kk : Nat} {o : Oper} {s : St3} {nt : Nat} {k : St3 → Option α} {r : α} (h : At8 T K kk o s k = some r) :
  ∃ s' : St3, Br P K o (s.st nt) (s'.st nt) ∧ k s' = some r := by
 unfold At8 at h
 split at h
 · rename_i t a d hop hdst
   split at h
   · rename_i ti hh row col hti ha
     split at h
     · rename_i e sh xs hl
       split at h
       · rename_i t' ys hc
         cases hcd : (Nat.beq ti.size 1 && !D4 ti.d && Nat.ble (col + ti.size) sh.size && sh.flat && Nat.beq t'.size 1 && Nat.ble 2000 kk && (A0 kk s.boxes).isNone && s.clean kk && Nat.blt d K.N) with
         | false => rw [hcd] at h; cases h
         | true =>
          rw [hcd] at h
          simp only [cond] at h
          simp only [Bool.and_eq_true] at hcd
          obtain ⟨⟨⟨⟨⟨⟨⟨⟨c1, c2⟩, c3⟩, c4⟩, c5⟩, c6⟩, c7⟩, c8⟩, c9⟩ := hcd
          cases hrow : decide (row < xs.length) with
          | false => rw [hrow] at h; cases h
          | true =>
           rw [hrow] at h
           simp only at h
           have hrow := of_decide_eq_true hrow
           have hcell := Acl hc
           cases hem : ys.isEmpty with
           | true =>
            rw [hem] at h
            simp only at h
            obtain rfl := List.isEmpty_iff.1 hem
            refine ⟨_, ?_, h⟩
            have hva : (s.st nt).val a = .v (.one (.hp hh row col)) := Au ha rfl
            have hbx : (s.st nt).box hh = some ((B3.tree e sh false xs).box (A2 s.boxes)) := by
             show A0 hh (Af (B3.box (A2 s.boxes)) s.boxes) = _
             rw [Ac, hl]; rfl
            have hr0 : ((B3.tree e sh false xs).box (A2 s.boxes)).rows[row]? = some ((sh.cells (xs.getD row sh.dflt)).map .i) := Ez hrow
            have hcore : C1 T (some ((sh.cells (xs.getD row sh.dflt)).map .i)) o (s.st nt) = some ⟨.v (.one (.i (.sl 0 false t'.size []))), .none, [((B3.tree e sh false xs).box (A2 s.boxes)).rows[row]? = some ((sh.cells (xs.getD row sh.dflt)).map .i)]⟩ := by
             unfold C1
             rw [hop]
             have hcell : ((sh.cells (xs.getD row sh.dflt)).map C.i)[col]? = some (.i (.sl 0 false t'.size [])) := hcell
             have c3' : Nat.ble (col + ti.size) ((B3.tree e sh false xs).box (A2 s.boxes)).sz = true := c3
             have c4' : ((B3.tree e sh false xs).box (A2 s.boxes)).tr = true := rfl
             simp only [Ee, hti, hva, hbx, hcell, c1, c2, c3', c4', C.okT, Bool.and_self, Bool.not_true, Bool.and_false, cond]
            have hstep : Bo P T K o { cells := some ((sh.cells (xs.getD row sh.dflt)).map .i) } (s.st nt) = some ((⟨Ae d (.d (.sl t') []) s.slots, s.boxes⟩ : St3).st nt, [((B3.tree e sh false xs).box (A2 s.boxes)).rows[row]? = some ((sh.cells (xs.getD row sh.dflt)).map .i)] ++ [] ++ []) := by
             unfold Bo
             simp only [hcore, St.eff, St.putD, hdst, c9, cond, Option.map_some]
             simp only [St3.st, ← Cd]
             rfl
            exact C3 hT hstep (fun p hp => by
             rcases List.mem_append.1 hp with hp | hp
             · rcases List.mem_append.1 hp with hp | hp
               · rw [List.mem_singleton.1 hp]; exact hr0
               · cases hp
             · cases hp)
           | false =>
            rw [hem] at h
            simp only at h
            refine ⟨_, ?_, h⟩
            have hne : ys ≠ [] := fun e => by subst e; cases hem
            have c5 := Nat.eq_of_beq_eq_true c5
            have c7 : A0 kk s.boxes = none := by simpa using c7
            have hkh : hh ≠ kk := fun e => by subst e; rw [hl] at c7; cases c7
            refine (Br.pre (Aqt hl hc hrow c4 c5 (Nat.le_of_ble_eq_true c6) c7 c8 hne) ?_)
            let s1 : St3 := ⟨s.slots, Ae kk (.arr Cj t' false ys) (Ae hh (.hole e sh false xs row col kk) s.boxes)⟩
            have hva : (s1.st nt).val a = .v (.one (.hp hh row col)) := Au (s := s1) ha rfl
            have hl1 : A0 hh s1.boxes = some (.hole e sh false xs row col kk) := by
             show A0 hh (Ae kk _ (Ae hh _ s.boxes)) = _
             rw [A8 _ _ hkh, A7]
            have hbx : (s1.st nt).box hh = some ((B3.hole e sh false xs row col kk).box (A2 s1.boxes)) := by
             show A0 hh (Af (B3.box (A2 s1.boxes)) s1.boxes) = _
             rw [Ac, hl1]; rfl
            have hlk : A2 s1.boxes kk = ys.length := by unfold A2; show (match A0 kk (Ae kk _ _) with | some b => B3.len b | none => 0) = _; rw [A7]; rfl
            have hr0 : ((B3.hole e sh false xs row col kk).box (A2 s1.boxes)).rows[row]? = some (((sh.cells (xs.getD row sh.dflt)).map .i).set col (.hs kk 0 (A2 s1.boxes kk))) := by
             simp only [B3.box, Oh, List.getD_eq_getElem?_getD, Ez hrow, Option.getD_some]
             rw [List.getElem?_set_self (by simpa using hrow)]
            have hcl2 : (((sh.cells (xs.getD row sh.dflt)).map C.i).set col (.hs kk 0 (A2 s1.boxes kk)))[col]? = some (.hs kk 0 (A2 s1.boxes kk)) := List.getElem?_set_self (List.getElem?_eq_some_iff.1 hcell).1
            have hcore : C1 T (some (((sh.cells (xs.getD row sh.dflt)).map .i).set col (.hs kk 0 (A2 s1.boxes kk)))) o (s1.st nt) = some ⟨.v (.one (.hs kk 0 (A2 s1.boxes kk))), .none, [((B3.hole e sh false xs row col kk).box (A2 s1.boxes)).rows[row]? = some (((sh.cells (xs.getD row sh.dflt)).map .i).set col (.hs kk 0 (A2 s1.boxes kk)))]⟩ := by
             unfold C1
             rw [hop]
             have c3' : Nat.ble (col + ti.size) ((B3.hole e sh false xs row col kk).box (A2 s1.boxes)).sz = true := c3
             have c4' : ((B3.hole e sh false xs row col kk).box (A2 s1.boxes)).tr = true := rfl
             simp only [Ee, hti, hva, hbx, hcl2, c1, c2, c3', c4', C.okT, Bool.and_self, Bool.not_true, Bool.and_false, cond]
            have hstep : Bo P T K o { cells := some (((sh.cells (xs.getD row sh.dflt)).map .i).set col (.hs kk 0 (A2 s1.boxes kk))) } (s1.st nt) = some ((⟨Ae d (.hw kk) s1.slots, s1.boxes⟩ : St3).st nt, [((B3.hole e sh false xs row col kk).box (A2 s1.boxes)).rows[row]? = some (((sh.cells (xs.getD row sh.dflt)).map .i).set col (.hs kk 0 (A2 s1.boxes kk)))] ++ [] ++ []) := by
             unfold Bo
             simp only [hcore, St.eff, St.putD, hdst, c9, cond, Option.map_some]
             simp only [St3.st, ← Cd]
             rfl
            exact C3 hT hstep (fun p hp => by
             rcases List.mem_append.1 hp with hp | hp
             · rcases List.mem_append.1 hp with hp | hp
               · rw [List.mem_singleton.1 hp]; exact hr0
               · cases hp
             · cases hp)
       · cases h
     · cases h
   · cases h
 · cases h
def holeH (kk : Nat) : List (Nat × B3) → Option Nat
 | [] => none
 | (h, .hole _ _ _ _ _ _ k) :: r => bif Nat.beq k kk then some h else holeH kk r
 | _ :: r => holeH kk r
def Agt (kk : Nat) (s : St3) : Option (Bool × St3) := match holeH kk s.boxes with
 | none => some (true, s)
 | some h => match A0 h s.boxes with
  | some (.hole e sh false xs row col k0) => match A0 kk s.boxes with
   | some (.arr e' t' false ys) => match sh.all false ((sh.exp (xs.getD row sh.dflt)).set col (.d (.sl t') ys)) with
    | some z => bif Nat.beq k0 kk && Nat.beq e' Cj && t'.lits && Nat.beq t'.size 1 && Nat.ble 2000 kk && !Nat.beq h kk && Nat.blt col sh.size && s.boxes.all (fun p => Nat.beq p.1 h || Nat.beq p.1 kk || !p.2.men kk) then
      some (decide (row < xs.length), ⟨Fs [kk] s.slots, Ae h (.tree e sh false (xs.set row z)) (Cc kk s.boxes)⟩) else none
    | none => none
   | _ => none
  | _ => none
theorem Ar2 {kk : Nat} {s s' : St3} {g : Bool} {nt : Nat} (h : Agt kk s = some (g, s')) (hg : g = true) : Ce (s.st nt) (s'.st nt) := by
 unfold Agt at h
 split at h
 · simp only [Option.some.injEq, Prod.mk.injEq] at h
   obtain ⟨_, rfl⟩ := h
   exact fun Γ w E tmps hs => ⟨E, hs⟩
 · rename_i hh _
   split at h
   · rename_i e sh xs row col k0 hl
     split at h
     · rename_i e' t' ys hlk
       split at h
       · rename_i z hz
         cases hcd : (Nat.beq k0 kk && Nat.beq e' Cj && t'.lits && Nat.beq t'.size 1 && Nat.ble 2000 kk && !Nat.beq hh kk && Nat.blt col sh.size && s.boxes.all (fun p => Nat.beq p.1 hh || Nat.beq p.1 kk || !p.2.men kk)) with
         | false => rw [hcd] at h; cases h
         | true =>
          rw [hcd] at h
          simp only [cond, Option.some.injEq, Prod.mk.injEq] at h
          obtain ⟨h1, rfl⟩ := h
          rw [hg] at h1
          have hrow := of_decide_eq_true h1
          simp only [Bool.and_eq_true, Bool.not_eq_true'] at hcd
          obtain ⟨⟨⟨⟨⟨⟨⟨c1, c2⟩, c3⟩, c4⟩, c5⟩, c6⟩, c7⟩, c8⟩ := hcd
          obtain rfl := Nat.eq_of_beq_eq_true c1
          have c2 := Nat.eq_of_beq_eq_true c2
          have c4 := Nat.eq_of_beq_eq_true c4
          have c5 := Nat.le_of_ble_eq_true c5
          have hne : hh ≠ k0 := O8 c6
          have c7 : col < sh.size := by simpa [Nat.blt_eq] using c7
          have nomen : ∀ i b, i ≠ hh → i ≠ k0 → A0 i s.boxes = some b → b.men k0 = false := fun i b e1 e2 hb => by
           have := List.all_eq_true.1 c8 _ (Bt hb)
           simpa [Fq e1, Fq e2] using this
          intro Γ w E tmps hs
          have hlen0 : A2 s.boxes k0 = ys.length := by unfold A2; rw [hlk]; rfl
          obtain ⟨E1, hs1⟩ := Cv (s := s.st nt) (s' := ⟨Af (SV.s (A2 s.boxes)) (Fs [k0] s.slots), Af (B3.box (A2 s.boxes)) s.boxes, nt⟩) rfl (fun t x hx => by
           rcases Fg (L := A2 s.boxes) (fun _ _ => rfl) hx with rfl | ⟨sv, h2, rfl, _⟩
           · exact .inl rfl
           · exact .inr (by show A0 t (Af (SV.s (A2 s.boxes)) s.slots) = _; rw [Ac, h2]; rfl)) (fun _ => rfl) Γ w E tmps hs
          have hr0 : ((B3.hole e sh false xs row col k0).box (A2 s.boxes)).rows[row]? = some (((sh.cells (xs.getD row sh.dflt)).map C.i).set col (.hs k0 0 (A2 s.boxes k0))) := by
           simp only [B3.box, Oh, List.getD_eq_getElem?_getD, Ez hrow, Option.getD_some]
           rw [List.getElem?_set_self (by simpa using hrow)]
          have hcl : col < ((sh.cells (xs.getD row sh.dflt)).map C.i).length := by simpa [Sh.cells_len] using c7
          have oldC : ∀ (i : Nat) (q : List C) (j : Nat) (c : C), (xs.map fun x => (sh.cells x).map C.i)[i]? = some q → q[j]? = some c → ∃ y, c = .i y := by
           intro i q j c hi hj
           rw [List.getElem?_map] at hi
           obtain ⟨x, _, rfl⟩ := Option.map_eq_some_iff.1 hi
           rw [List.getElem?_map] at hj
           obtain ⟨y, _, rfl⟩ := Option.map_eq_some_iff.1 hj
           exact ⟨y, rfl⟩
          have rows2 : (Oh (xs.map fun x => (sh.cells x).map C.i) row col (.hs k0 0 (A2 s.boxes k0))).set row ((((sh.cells (xs.getD row sh.dflt)).map C.i).set col (.hs k0 0 (A2 s.boxes k0))).set col (.i (.sl 0 false t'.size (ys.map t'.cells)))) = (xs.set row z).map fun x => (sh.cells x).map C.i := by
           have a1 := (Bw hz).1 (A2 s.boxes)
           rw [List.map_set, H5] at a1
           unfold Oh
           rw [List.set_set, List.set_set, List.map_set, ← a1]
           rfl
          obtain ⟨E2, hs2⟩ := U2 hs1 (h := hh) (k := k0) (row := row) (col := col) (len := A2 s.boxes k0) (b := (B3.hole e sh false xs row col k0).box (A2 s.boxes)) (bk := (B3.arr e' t' false ys).box (A2 s.boxes))
           (r := ((sh.cells (xs.getD row sh.dflt)).map C.i).set col (.hs k0 0 (A2 s.boxes k0))) (ys := ys.map t'.cells) (hf' := true)
           (by show A0 hh (Af _ s.boxes) = _; rw [Ac, hl]; rfl) rfl hne (.inr c5) (by show A0 k0 (Af _ s.boxes) = _; rw [Ac, hlk]; rfl) rfl rfl hr0 (List.getElem?_set_self hcl)
           (by simp [B3.box, hlen0]) (by simp only [B3.box, List.map_map]; rfl) (fun i q j y hi hj => by
            rw [List.getElem?_map] at hi
            obtain ⟨u, _, rfl⟩ := Option.map_eq_some_iff.1 hi
            exact A0y t' u c3 y (List.mem_of_getElem? hj)) c2 c4
           (fun t x hx => by
            rcases Fg (L := A2 s.boxes) (fun _ _ => rfl) hx with rfl | ⟨sv, h2, rfl, h3⟩
            · rfl
            · rw [Ua]; exact h3 k0 (by simp))
           (fun i b' h1 h2 hb => by
            have hb : A0 i (Af (B3.box (A2 s.boxes)) s.boxes) = some b' := hb
            rw [Ac] at hb
            obtain ⟨b3, hb3, rfl⟩ := Option.map_eq_some_iff.1 hb
            exact Mi (nomen i b3 h2 h1 hb3))
           (fun i q j c hi hj hn => by
            simp only [B3.box, Oh, List.getD_eq_getElem?_getD, Ez hrow, Option.getD_some] at hi
            by_cases e1 : i = row
            · subst e1
              rw [List.getElem?_set_self (by simpa using hrow)] at hi
              obtain rfl := Option.some.inj hi
              by_cases e2 : j = col
              · exact absurd ⟨rfl, e2⟩ hn
              · rw [List.getElem?_set_ne (Ne.symm e2)] at hj
                obtain ⟨y, rfl⟩ := oldC i _ j c (Ez hrow) hj
                rfl
            · rw [List.getElem?_set_ne (Ne.symm e1)] at hi
              obtain ⟨y, rfl⟩ := oldC i q j c hi hj
              rfl)
           (fun _ i q j c hi hj => by
            have hi : ((Oh (xs.map fun x => (sh.cells x).map C.i) row col (.hs k0 0 (A2 s.boxes k0))).set row ((((sh.cells (xs.getD row sh.dflt)).map C.i).set col (.hs k0 0 (A2 s.boxes k0))).set col (.i (.sl 0 false t'.size (ys.map t'.cells)))))[i]? = some q := hi
            rw [rows2, List.getElem?_map] at hi
            obtain ⟨x, _, rfl⟩ := Option.map_eq_some_iff.1 hi
            rw [List.getElem?_map] at hj
            obtain ⟨y, _, rfl⟩ := Option.map_eq_some_iff.1 hj
            exact ⟨y, rfl⟩)
          have hL : ∀ k, k ≠ k0 → A2 s.boxes k = A2 (Ae hh (.tree e sh false (xs.set row z)) (Cc k0 s.boxes)) k := by
           intro k hk
           unfold A2
           by_cases e1 : k = hh
           · subst e1; rw [A7, hl]; simp [B3.len]
           · rw [A8 _ _ e1, Ax hk]
          refine Cv (s' := (⟨Fs [k0] s.slots, Ae hh (.tree e sh false (xs.set row z)) (Cc k0 s.boxes)⟩ : St3).st nt) (by rfl) (fun t x hx => ?_) (fun k => ?_) Γ w E2 tmps hs2
          · rcases Fg (L := A2 s.boxes) (L' := A2 (Ae hh (.tree e sh false (xs.set row z)) (Cc k0 s.boxes))) (fun k hk => (hL k (by simpa using hk)).symm) hx with rfl | ⟨sv, h2, rfl, h3⟩
            · exact .inl rfl
            · refine .inr ?_
              show A0 t (Af (SV.s (A2 s.boxes)) (Fs [k0] s.slots)) = _
              have h3 := h3 k0 (by simp)
              unfold Fs
              rw [Ac, Ac, h2]
              simp [h3]
          · show A0 k (Af (B3.box (A2 (Ae hh (.tree e sh false (xs.set row z)) (Cc k0 s.boxes)))) (Ae hh (.tree e sh false (xs.set row z)) (Cc k0 s.boxes))) = A0 k (Ae hh _ (Cc k0 (Af (B3.box (A2 s.boxes)) s.boxes)))
            rw [Ac]
            by_cases e1 : k = hh
            · subst e1
              rw [A7, A7]
              have rows2 : _ = _ := rows2
              simp only [Option.map_some, B3.box]
              rw [rows2]
            · rw [A8 _ _ e1, A8 _ _ e1]
              by_cases e2 : k = k0
              · subst e2; rw [Bj, Bj]; rfl
              · rw [Ax e2, Ax e2, Ac]
                cases hz : A0 k s.boxes with
                | none => rfl
                | some b => exact congrArg some (Iu hL (nomen k b e1 e2 hz)).symm
       · cases h
     · cases h
   · cases h
end Go.Ev

/- DERIVED. Code over shapes: all paths, in one expression. -/
namespace Go.Ev
open Go
variable {P : Program} {T : Ty}
structure OA where
 ent : Option Ent := none
 sh : Option Sh := none
 fz : List (Nat × Sh) := []
 entB : Option Ent3 := none
 hb : Nat := 0
 tr : Option Sh := none
 alt : List Ent3 := []
 bor : Option Nat := none
 shut : Option Nat := none
def OA.two (a : OA) : Bool := (a.ent.isSome && a.entB.isSome) || !a.alt.isEmpty || (a.bor.isSome || a.shut.isSome)
theorem OA.two_false {a : OA} (h : a.two = false) : (a.ent.isSome && a.entB.isSome) = false ∧ a.alt = [] ∧ a.bor = none ∧ a.shut = none := by
 unfold OA.two at h
 simp only [Bool.or_eq_false_iff, Bool.not_eq_false'] at h
 exact ⟨h.1.1, List.isEmpty_iff.1 h.1.2, by simpa using h.2.1, by simpa using h.2.2⟩
structure RA where
 m : Nat := 0
 fz : List (Nat × Sh) := []
 ops : List (Nat × OA) := []
@[reducible] def KS (α : Type) : List (Exit × Tm) → Type
 | [] => Unit
 | (_, X) :: r => (X.den → Option α) × KS α r
def Mq {α : Type} (k : Exit → St3 → Option α) : (l : List (Exit × Tm)) → KS α l
 | [] => ()
 | (x, X) :: r => (fun w => k x (X.enc w), Mq k r)
def Exit.eqb : Exit → Exit → Bool
 | .normal, .normal => true
 | .ret, .ret => true
 | .exit i, .exit j => Nat.beq i j
 | _, _ => false
theorem Exit.eqb_eq {a b : Exit} (h : Exit.eqb a b = true) : a = b := by
 unfold Exit.eqb at h
 split at h
 · rfl
 · rfl
 · rw [Nat.eq_of_beq_eq_true h]
 · cases h
def Jc {α : Type} : (l : List (Exit × Tm)) → KS α l → Exit → St3 → Option α
 | [], _, _, _ => none
 | (x, X) :: r, ks, y, s => bif Exit.eqb x y then (match X.dec s with
  | some w => ks.1 w
  | none => none) else Jc r ks.2 y s
structure LO (α : Type) where
 H : Tm
 outs : List (Exit × Tm)
 run : H.den → KS α outs → Option α
structure D3 (α : Type) where
 reg : List (Nat × RA) := []
 join : List (Nat × Tm) := []
 loop : List (Nat × LO α) := []
 any : List (Nat × Tm) := []
def Bm : Code → Nat
 | .region id _ _ => id
 | .seq c d => match Bm c with
  | 0 => Bm d
  | n + 1 => n + 1
 | .cond _ c d => match Bm c with
  | 0 => Bm d
  | n + 1 => n + 1
 | .block _ c => Bm c
 | .loop c => Bm c
 | .rangeFunc _ _ a b => match Bm a with
  | 0 => Bm b
  | n + 1 => n + 1
 | _ => 0
def W0 {α : Type} (k : Nat) (x : α) : List (Nat × α) → List (Nat × α)
 | [] => []
 | (j, y) :: r => bif Nat.beq j k then (j, x) :: r else (j, y) :: W0 k x r
def G9 {α : Type} : List (Nat × Sh) → St3 → (St3 → Option α) → Option α
 | [], s, k => k s
 | (t, sh) :: r, s, k => match Jp s t sh with
  | some (g, s1) => bif g then G9 r s1 k else none
  | none => none
def ob {α β : Type} (x : Option β) (k : β → Option α) : Option α := match x with
 | some r => k r
 | none => none
def gd {α : Type} (g : Bool) (x : Option α) : Option α := bif g then x else none
abbrev W (x : Int) : Int := IntKind.i64.wrap x
def Vu (T : Ty) (K : Ag) (A : OA) (o : Oper) (s : St3) : Option (Bool × St3) :=
 match Ih T A.sh o s with
 | some r => match s.eff3 K o.dst r.eff with
  | some s1 => match s1.put3 K o.dst r.val with
   | some s' => match A.tr with
    | none => some (r.g, s')
    | some sh => match o.dst with
     | some d => (X2 sh d s').map fun s2 => (r.g, s2)
     | none => none
   | none => none
  | none => none
 | none => match Ob T o s with
  | some q => some q
  | none => X3 T K o s
def Acw : List Ent3 → Oper → St3 → Option Ent3
 | [], _, _ => none
 | E :: r, o, s => match Hb E.f E.ts o s with
  | some _ => some E
  | none => Acw r o s
theorem Acv : ∀ {l : List Ent3} {o : Oper} {s : St3} {E : Ent3}, Acw l o s = some E → E ∈ l
 | [], _, _, _, h => by cases h
 | F :: r, o, s, E, h => by
  simp only [Acw] at h
  split at h
  · cases h; exact List.mem_cons_self
  · exact List.mem_cons_of_mem _ (Acv h)
def N1 {α : Type} (T : Ty) (K : Ag) (A : OA) (o : Oper) (s : St3) (k : St3 → Option α) : Option α :=
 match Acw A.alt o s with
 | some E => N0 K E A.hb o s k
 | none => match A.ent with
 | some E => match Mh E o s with
  | some (g, x) => bif g then ob (E.m x) (fun r => match s.put3 K o.dst (Eo E.rs r) with
    | some s' => k s'
    | none => none) else none
  | none => match A.entB with
   | some F => N0 K F A.hb o s k
   | none => none
 | none => match A.entB with
 | some E => N0 K E A.hb o s k
 | none => match Vu T K A o s with
  | some (g, s') => bif g then k s' else none
  | none => none
def Oe {α : Type} (T : Ty) (K : Ag) (A : OA) (o : Oper) (s : St3) (k : St3 → Option α) : Option α :=
 match A.bor with
 | some kk => At8 T K kk o s k
 | none => match A.shut with
  | none => N1 T K A o s k
  | some kk => N1 T K A o s fun s1 => match Agt kk s1 with
   | some (g, s2) => bif g then k s2 else none
   | none => none
def A8d {α : Type} (K : Ag) (o : Oper) (s : St3) (k : St3 → Option α) : Option α :=
 match s.put3 K o.dst (.tup []) with
 | some s' => k s'
 | none => none
def Se {α : Type} (ops : List Oper) (o : Oper) (s : St3) (f g : St3 → Option α) : Option α :=
 match o.guard with
 | none => f s
 | some (j, want) => match ops[j]? with
  | some p => match p.dst with
   | some t => match A0 t s.slots with
    | some (.d .bool b) => bif b then
      (bif want then f { s with slots := W0 t (.d .bool true) s.slots } else g { s with slots := W0 t (.d .bool true) s.slots }) else
      (bif want then g { s with slots := W0 t (.d .bool false) s.slots } else f { s with slots := W0 t (.d .bool false) s.slots })
    | some (.tup []) => g s
    | _ => none
   | none => none
  | none => none
def Gr {α : Type} (T : Ty) (K : Ag) (ops : List Oper) (A : List (Nat × OA)) : List (Nat × Oper) → St3 → (St3 → Option α) → Option α
 | [], s, k => k s
 | (i, o) :: r, s, k => G9 ((A0 i A).getD {}).fz s fun s0 => Se ops o s0 (fun s1 => Oe T K ((A0 i A).getD {}) o s1 fun s2 => Gr T K ops A r s2 k) (fun s1 => A8d K o s1 fun s2 => Gr T K ops A r s2 k)
def OA.quiet (T : Ty) (A : OA) (o : Oper) (s : St3) : Bool :=
 A.fz.isEmpty && A.tr.isNone && A.alt.isEmpty && (A.bor.isNone && A.shut.isNone) && (match A.entB with | some _ => false | none => true) && (match o.dst with | some _ => true | none => false) && (match A.ent with
 | some _ => true
 | none => match Ih T A.sh o s with
  | some r => match r.eff with
   | .none => true
   | _ => false
  | none => false)
def A9c {α : Type} (T : Ty) (K : Ag) (ops : List Oper) (A : List (Nat × OA)) : List (Nat × Oper) → St3 → (St3 → Option α) → Option α
 | [], s, k => k s
 | (i, o) :: r, s, k => Se ops o s
   (fun s1 => bif OA.quiet T ((A0 i A).getD {}) o s1 then Oe T K ((A0 i A).getD {}) o s1 (fun s2 => A9c T K ops A r s2 k) else none)
   (fun s1 => bif o.dst.isSome then A8d K o s1 (fun s2 => A9c T K ops A r s2 k) else none)
def Ar4 {α : Type} (P : Program) (T : Ty) (K : Ag) (A : RA) (ops : Array Oper) (draw : Bool) (s : St3) (k : St3 → Option α) : Option α :=
 bif draw then
  bif D5 ops A.m then G9 A.fz s fun s0 => A9c T K ops.toList A.ops ((Aa ops.toList).take A.m) s0 fun s1 => Gr T K ops.toList A.ops ((Aa ops.toList).drop A.m) s1 k else none
 else Gr T K ops.toList A.ops (Aa ops.toList) s k
def Az {α : Type} (P : Program) (T : Ty) (K : Ag) (D : D3 α) : Code → St3 → (Exit → St3 → Option α) → Option α
 | .skip, s, k => k .normal s
 | .region id ops draw, s, k => match A0 id D.any with
  | some X => bif draw then (match X.dec s with
   | some w => Gr T K ops.toList ((A0 id D.reg).getD {}).ops (Aa ops.toList) (X.enc w) (k .normal)
   | none => none) else none
  | none => Ar4 P T K ((A0 id D.reg).getD {}) ops draw s (k .normal)
 | .seq c d, s, k => match A0 (Bm d) D.join with
  | none => Az P T K D c s fun x s1 => match x with
   | .normal => Az P T K D d s1 k
   | x => k x s1
  | some X => (fun (J : X.den → Option α) => Az P T K D c s fun x s1 => match x with
   | .normal => match X.dec s1 with
    | some w => J w
    | none => none
   | x => k x s1) fun w => Az P T K D d (X.enc w) k
 | .cond (.tmp t) c d, s, k => match A0 t s.slots with
  | some (.d .bool b) => bif b then Az P T K D c { s with slots := W0 t (.d .bool true) s.slots } k else Az P T K D d { s with slots := W0 t (.d .bool false) s.slots } k
  | _ => none
 | .block id c, s, k => Az P T K D c s fun x s1 => match x with
  | .exit j => bif Nat.beq j id then k .normal s1 else k (.exit j) s1
  | x => k x s1
 | .loop c, s, k => match A0 (Bm c) D.loop with
  | some L => match L.H.dec s with
   | some v => L.run v (Mq k L.outs)
   | none => none
  | none => none
 | .rangeFunc _ _ a b, s, k => match A0 (match Bm a with | 0 => Bm b | n + 1 => n + 1) D.loop with
  | some L => match L.H.dec s with
   | some v => L.run v (Mq k L.outs)
   | none => none
  | none => none
 | .exit id, s, k => k (.exit id) s
 | .ret, s, k => k .ret s
 | _, _, _ => none
def A5 {α : Type} {V Ks : Type} (B : V → (V → Option α) → Ks → Option α) : Nat → V → Ks → Option α
 | 0, _, _ => none
 | n + 1, v, ks => B v (fun v' => A5 B n v' ks) ks
def A2p {α : Type} (H : Tm) (outs : List (Exit × Tm)) (f : H.den → Option α) (ks : KS α outs) (x : Exit) (s : St3) : Option α :=
 match x with
 | .normal => match H.dec s with
  | some v => f v
  | none => none
 | x => Jc outs ks x s
def A36 (T : Ty) (s : St3) : ResultVar → Option SV
 | .tmp t => A0 t s.slots
 | .cell a t => match s.val (.tmp a) with
  | .hp h row col => match A0 h s.boxes with
   | some (.var _ _ _ _) => match Ud T t (.hp h row col) s.boxes with
    | some r => some r.val
    | none => none
   | _ => none
  | _ => none
def S0 (T : Ty) (s : St3) (rv : ResultVar) (t : Sh) : Option (Bool × t.den × List Nat) :=
 match A36 T s rv with
 | some v => Tz s.boxes t v
 | none => none
def Gn (T : Ty) (s : St3) : (ts : List Sh) → List ResultVar → Option (Bool × HL ts)
 | [], [] => some (true, ())
 | [t], [rv] => match S0 T s rv t with
  | some (g, x, _) => some (g, x)
  | none => none
 | t :: u :: r, rv :: rvs => match S0 T s rv t, Gn T s (u :: r) rvs with
  | some (g, x, _), some (g', xs) => some (g && g', (x, xs))
  | _, _ => none
 | _, _ => none
def Aro (T : Ty) (rs : List Sh) (rvs : List ResultVar) (x : Exit) (s : St3) : Option (HL rs) :=
 match x with
 | .exit _ => none
 | .normal => match Gn T s rs rvs with
  | some (g, y) => bif g then some y else none
  | none => none
 | .ret => match Gn T s rs rvs with
  | some (g, y) => bif g then some y else none
  | none => none
 | _ => none
def Dz (i : Nat) : List SV → List (Nat × SV)
 | [] => []
 | x :: r => (i, x) :: Dz (i + 1) r
def Tv (ts : List Sh) (x : HL ts) : St3 := ⟨Dz 0 (Dk ts x), []⟩
end Go.Ev

/- DERIVED. Code over shapes is what the code does. -/
namespace Go.Ev
open Go
variable {P : Program} {T : Ty} {α : Type}
theorem Ak9 {f : SV → S} {t : Nat} {x y : SV} (hxy : f x = f y) : ∀ {l : List (Nat × SV)}, A0 t l = some y → Af f (W0 t x l) = Af f l
 | [], h => by cases h
 | (j, z) :: r, h => by
  simp only [A0] at h
  simp only [W0]
  cases hb : Nat.beq j t with
  | true =>
   rw [hb] at h
   simp only [cond, Option.some.injEq] at h
   subst h
   simp [Af, hxy]
  | false =>
   rw [hb] at h
   have := Ak9 hxy h
   simp only [Af] at this
   simp [Af, this]
theorem Ml {nt : Nat} : ∀ {l : List (Nat × Sh)} {s : St3} {k : St3 → Option α} {r : α}, G9 l s k = some r → ∃ s' fz ob, Dm fz (s.st nt) = some (s'.st nt, ob) ∧ (∀ p ∈ ob, p) ∧ k s' = some r ∧ (l = [] → fz = [] ∧ s' = s)
 | [], s, k, r, h => ⟨s, [], [], rfl, by simp, h, fun _ => ⟨rfl, rfl⟩⟩
 | (t, sh) :: l, s, k, r, h => by
  simp only [G9] at h
  split at h
  · rename_i g s1 hs
    cases g with
    | false => cases h
    | true =>
     obtain ⟨x', ob, h1, h2⟩ := Og (nt := nt) hs rfl
     obtain ⟨s2, fz, ob2, h3, h4, h5, _⟩ := Ml (nt := nt) (l := l) h
     refine ⟨s2, (t, x') :: fz, ob ++ ob2, by simp only [Dm, h1, h3], fun p hp => ?_, h5, fun e => by cases e⟩
     rcases List.mem_append.1 hp with hp | hp
     · exact h2 p hp
     · exact h4 p hp
  · cases h
theorem Agx {o : Oper} {s : St3} {nt : Nat} {A : Option Sh} {r : R3} (h : Ih T A o s = some r) (hg : r.g = true) (he : r.eff = .none) :
  ∃ D obs, (∀ p ∈ obs, p) ∧ quiet P T o D (s.st nt) = some (r.val.s (A2 s.boxes), obs) := by
 obtain ⟨hnt, q, h1, h2, h3⟩ := Acj (nt := nt) h hg
 unfold Gg at h3
 rw [he] at h3
 refine ⟨{ cells := hnt }, q.ob ++ [], by simpa using h2, ?_⟩
 unfold quiet
 simp only [h1, h3.1, Option.getD_none, h3.2]
theorem Ar1 {K : Ag} {o : Oper} {D : Ei} {s : St} (fz : List (Nat × V)) : Bo P T K o { D with fz := fz } s = Bo P T K o D s := rfl
def OA.S (P : Program) (a : OA) : Prop := (∀ E, a.ent = some E → E.Sound P) ∧ (∀ E, a.entB = some E → E.Sound P) ∧ ∀ E, E ∈ a.alt → E.Sound P
theorem Acp (hT : Ak P T) {K : Ag} {A : OA} {o : Oper} {s s' : St3} {nt : Nat} {g : Bool} (h : Vu T K A o s = some (g, s')) (hg : g = true) :
  ∃ D obs, Bo P T K o D (s.st nt) = some (s'.st nt, obs) ∧ ∀ p ∈ obs, p := by
 unfold Vu at h
 split at h
 · rename_i q hq
   split at h
   · rename_i s1 he
     split at h
     · rename_i s2 hp
       have key : q.g = true → ∃ D obs, Bo P T K o D (s.st nt) = some (s2.st nt, obs) ∧ ∀ p ∈ obs, p := fun hg => by
        obtain ⟨hnt, r1, h1, h2, h3⟩ := Acj (nt := nt) hq hg
        obtain ⟨h4, h5⟩ := Axd (nt := nt) he h3
        have h6 := N2 (nt := nt) hp
        rw [← h5] at h6
        refine ⟨{ cells := hnt }, r1.ob ++ [] ++ [], ?_, by simpa using h2⟩
        unfold Bo
        simp only [h1, h4, Option.getD_none, h6, Option.map_some]
       split at h
       · simp only [Option.some.injEq, Prod.mk.injEq] at h
         obtain ⟨rfl, rfl⟩ := h
         exact key hg
       · split at h
         · simp only [Option.map_eq_some_iff, Prod.mk.injEq] at h
           obtain ⟨s3, h3, rfl, rfl⟩ := h
           obtain ⟨D, obs, k1, k2⟩ := key hg
           exact ⟨{ own := some (s3.st nt) }, _, rfl, fun p hp => by
            rw [List.mem_singleton.1 hp]
            exact (C3 hT k1 k2).weak (Ad9 h3)⟩
         · cases h
     · cases h
   · cases h
 · split at h
   · rename_i q hq
     obtain rfl := Option.some.inj h
     exact ⟨{ own := some (s'.st nt) }, _, rfl, fun p hp => by rw [List.mem_singleton.1 hp]; exact A7z hT hq hg⟩
   · exact ⟨{ own := some (s'.st nt) }, _, rfl, fun p hp => by rw [List.mem_singleton.1 hp]; exact Ada hT h hg⟩
theorem A5k (hT : Ak P T) {K : Ag} {A : OA} {o : Oper} {s : St3} {nt : Nat} {k : St3 → Option α} {r : α} (h : N1 T K A o s k = some r) (hE : A.S P) :
  ∃ s' D obs, Bo P T K o D (s.st nt) = some (s'.st nt, obs) ∧ (∀ p ∈ obs, p) ∧ k s' = some r := by
 unfold N1 at h
 split at h
 · rename_i E hal
   exact Rl h (hE.2.2 E (Acv hal))
 split at h
 · rename_i E hent
   split at h
   · rename_i g x hc
     cases g with
     | false => cases h
     | true =>
      simp only [cond, ob] at h
      split at h
      · rename_i y hm
        split at h
        · rename_i s' hp
          obtain ⟨obs, h1, h2⟩ := A0b (T := T) (nt := nt) hc hm (hE.1 E hent)
          have := N2 (nt := nt) hp
          rw [A33] at this
          obtain ⟨D', obs', h3, h4⟩ := Oj h2 this
          exact ⟨s', D', obs', h3, h4 h1, h⟩
        · cases h
      · cases h
   · split at h
     · rename_i F hF
       exact Rl h (hE.2.1 F hF)
     · cases h
 split at h
 · rename_i E hent
   exact Rl h (hE.2.1 E hent)
 · split at h
   · rename_i g s' hq
     cases g with
     | false => cases h
     | true =>
      obtain ⟨D, obs, h1, h2⟩ := Acp (nt := nt) hT hq rfl
      exact ⟨s', D, obs, h1, h2, h⟩
   · cases h
theorem Ar0 (hT : Ak P T) {K : Ag} {A : OA} {o : Oper} {s : St3} {nt : Nat} {k : St3 → Option α} {r : α} (h : Oe T K A o s k = some r) (hE : A.S P) :
  ∃ s' D obs, Bo P T K o D (s.st nt) = some (s'.st nt, obs) ∧ (∀ p ∈ obs, p) ∧ k s' = some r := by
 unfold Oe at h
 split at h
 · obtain ⟨s', h1, h2⟩ := Axf (nt := nt) hT h
   exact ⟨s', { own := some (s'.st nt) }, _, rfl, fun p hp => by rw [List.mem_singleton.1 hp]; exact h1, h2⟩
 · split at h
   · exact A5k hT h hE
   · obtain ⟨s1, D, obs, h1, h2, h3⟩ := A5k (nt := nt) hT h hE
     split at h3
     · rename_i g s2 hs
       cases g with
       | false => cases h3
       | true => exact ⟨s2, { own := some (s2.st nt) }, _, rfl, fun p hp => by rw [List.mem_singleton.1 hp]; exact (C3 hT h1 h2).weak (Ar2 hs rfl), h3⟩
     · cases h3
theorem Akl {K : Ag} {A : OA} {o : Oper} {s : St3} {nt : Nat} {k : St3 → Option α} {r : α} (h : Oe T K A o s k = some r) (hq : A.quiet T o s = true) (hE : A.S P) :
  ∃ t s' D x obs, o.dst = some t ∧ Nat.blt t K.N = true ∧ quiet P T o D (s.st nt) = some (x, obs) ∧ (∀ p ∈ obs, p) ∧ k s' = some r ∧ s'.st nt = { s.st nt with slots := Ae t x (s.st nt).slots } := by
 unfold OA.quiet at hq
 simp only [Bool.and_eq_true] at hq
 obtain ⟨⟨⟨⟨⟨⟨_, hqt⟩, hqa⟩, hqb, hqc⟩, hq0⟩, hq1⟩, hq2⟩ := hq
 have putI : ∀ {s s' : St3} {y : SV}, s.put3 K o.dst y = some s' → ∃ t, o.dst = some t ∧ Nat.blt t K.N = true ∧ s'.st nt = { s.st nt with slots := Ae t (y.s (A2 s.boxes)) (s.st nt).slots } := by
  intro s s' y hp
  unfold St3.put3 at hp
  cases hd : o.dst with
  | none => rw [hd] at hq1; cases hq1
  | some t =>
   rw [hd] at hp
   simp only at hp
   cases hb : Nat.blt t K.N with
   | false => rw [hb] at hp; cases hp
   | true =>
    rw [hb] at hp
    obtain rfl := Option.some.inj hp
    exact ⟨t, rfl, hb, by simp only [St3.st, Cd]⟩
 unfold Oe at h
 rw [show A.bor = none by simpa using hqb, show A.shut = none by simpa using hqc] at h
 simp only at h
 unfold N1 at h
 split at h
 · rename_i E hal
   rw [List.isEmpty_iff.1 hqa] at hal; cases hal
 split at h
 · rename_i E hent
   split at h
   · rename_i g x hc
     cases g with
     | false => cases h
     | true =>
      simp only [cond, ob] at h
      split at h
      · rename_i y hm
        split at h
        · rename_i s' hp
          obtain ⟨obs, h1, h2⟩ := A0b (T := T) (nt := nt) hc hm (hE.1 E hent)
          obtain ⟨t, p1, p2, p3⟩ := putI hp
          rw [A33] at p3
          exact ⟨t, s', _, _, obs, p1, p2, h2, h1, h, p3⟩
        · cases h
      · cases h
   · split at h
     · rename_i F hF
       rw [hF] at hq0; cases hq0
     · cases h
 split at h
 · rename_i E hB
   rw [hB] at hq0; cases hq0
 · rename_i hent _ _
   rw [hent] at hq2
   simp only at hq2
   cases hcq : Ih T A.sh o s with
   | none => rw [hcq] at hq2; cases hq2
   | some q =>
    rw [hcq] at hq2
    simp only at hq2
    have he : q.eff = .none := by
     cases e : q.eff <;> first | rfl | (rw [e] at hq2; cases hq2)
    have htr : A.tr = none := by
     cases e : A.tr with
     | none => rfl
     | some _ => rw [e] at hqt; cases hqt
    unfold Vu at h
    rw [hcq] at h
    simp only [he, St3.eff3, htr] at h
    split at h
    · rename_i g s' hb
      split at hb
      · rename_i s2 hp
        simp only [Option.some.injEq, Prod.mk.injEq] at hb
        obtain ⟨hg, rfl⟩ := hb
        cases g with
        | false => cases h
        | true =>
         simp only [cond] at h
         obtain ⟨D, obs, h1, h2⟩ := Agx (P := P) (nt := nt) hcq hg he
         obtain ⟨t, p1, p2, p3⟩ := putI hp
         exact ⟨t, _, D, _, obs, p1, p2, h2, h1, h, p3⟩
      · cases hb
    · cases h
theorem A5n {s : St3} {nt t : Nat} {b : Bool} (h : A0 t s.slots = some (.d .bool b)) : A0 t (s.st nt).slots = some (.v (.one (.i (.lit (.bool b))))) := by
 simp only [St3.st, Ac, h]; rfl
theorem Hj {s : St3} {nt t : Nat} {b : Bool} (h : A0 t s.slots = some (.d .bool b)) : (({ s with slots := W0 t (.d .bool b) s.slots } : St3).st nt) = s.st nt := by
 simp only [St3.st]
 rw [Ak9 rfl h]
theorem A61 {ops : List Oper} {o : Oper} {s : St3} {nt : Nat} {f g : St3 → Option α} {r : α} (h : Se ops o s f g = some r) :
  ∃ s0, s0.st nt = s.st nt ∧ ((Fu (s.st nt) ops o = some true ∧ f s0 = some r) ∨ (Fu (s.st nt) ops o = some false ∧ g s0 = some r)) := by
 unfold Se at h
 unfold Fu
 split at h
 · rename_i hg
   rw [hg]
   exact ⟨s, rfl, .inl ⟨by first | rfl | trivial, h⟩⟩
 · rename_i j want hg
   rw [hg]
   simp only
   split at h
   · rename_i p hp
     simp only [hp]
     split at h
     · rename_i t ht
       simp only [ht]
       split at h
       · rename_i b hl
         simp only [A5n (nt := nt) hl]
         cases b <;> cases want <;> simp only [cond] at h
         · exact ⟨_, Hj hl, .inl ⟨by first | rfl | trivial, h⟩⟩
         · exact ⟨_, Hj hl, .inr ⟨by first | rfl | trivial, h⟩⟩
         · exact ⟨_, Hj hl, .inr ⟨by first | rfl | trivial, h⟩⟩
         · exact ⟨_, Hj hl, .inl ⟨by first | rfl | trivial, h⟩⟩
       · rename_i hl
         have : A0 t (s.st nt).slots = some (.tup []) := by
          simp only [St3.st, Ac, hl]; rfl
         simp only [this]
         exact ⟨s, rfl, .inr ⟨by first | rfl | trivial, h⟩⟩
       · cases h
     · cases h
   · cases h
theorem A92 {K : Ag} {o : Oper} {s : St3} {nt : Nat} {k : St3 → Option α} {r : α} (h : A8d K o s k = some r) : ∃ s', (s.st nt).putD K o.dst (.tup []) = some (s'.st nt) ∧ k s' = some r := by
 unfold A8d at h
 split at h
 · rename_i s' hp
   exact ⟨s', N2 (nt := nt) hp, h⟩
 · cases h
theorem Gl {K : Ag} {ops : List Oper} {Ds Ds' : List (Nat × Ei)} : ∀ (l : List (Nat × Oper)) (s : St), (∀ p ∈ l, A0 p.1 Ds = A0 p.1 Ds') → Cf P T K ops Ds l s = Cf P T K ops Ds' l s
 | [], _, _ => rfl
 | (i, o) :: r, s, h => by
  have h0 := h (i, o) (by simp)
  have ih := fun s => Gl (K := K) (ops := ops) r s fun p hp => h p (by simp [hp])
  simp only [Cf]
  rw [show A0 i Ds = A0 i Ds' from h0]
  simp only [ih]
theorem Gk {K : Ag} {ops : List Oper} {Ds Ds' : List (Nat × Ei)} : ∀ (l : List (Nat × Oper)) (xs : List (Nat × Nat × S)) (s : St), (∀ p ∈ l, A0 p.1 Ds = A0 p.1 Ds') → Ew P T K ops Ds l xs s = Ew P T K ops Ds' l xs s
 | [], _, _, _ => rfl
 | (i, o) :: r, xs, s, h => by
  have h0 := h (i, o) (by simp)
  have ih := fun xs s => Gk (K := K) (ops := ops) r xs s fun p hp => h p (by simp [hp])
  simp only [Ew]
  rw [show A0 i Ds = A0 i Ds' from h0]
  simp only [ih]
theorem Ao {β : Type} {i j : Nat} {x : β} {l : List (Nat × β)} (h : i ≠ j) : A0 j ((i, x) :: l) = A0 j l := by
 simp only [A0]
 have : Nat.beq i j = false := by cases e : Nat.beq i j with | false => rfl | true => exact absurd (Nat.eq_of_beq_eq_true e) h
 rw [this]; rfl
theorem Aw {β : Type} {i : Nat} {x : β} {l : List (Nat × β)} : A0 i ((i, x) :: l) = some x := by
 simp only [A0, Nat.beq_refl]; rfl
theorem U8 (hT : Ak P T) {K : Ag} {ops : List Oper} {A : List (Nat × OA)} {nt : Nat} (hE : ∀ i a, A0 i A = some a → a.S P) : ∀ (l : List (Nat × Oper)) (s : St3) (k : St3 → Option α) (r : α), (l.map (·.1)).Nodup → Gr T K ops A l s k = some r →
  ∃ s' Ds obs, k s' = some r ∧ Cf P T K ops Ds l (s.st nt) = some (s'.st nt, obs) ∧ ∀ p ∈ obs, p
 | [], s, k, r, _, h => ⟨s, [], [], h, rfl, by simp⟩
 | (i, o) :: l, s, k, r, hn, h => by
  simp only [List.map_cons, List.nodup_cons] at hn
  simp only [Gr] at h
  obtain ⟨s0, fz, ob0, h1, h2, h3, _⟩ := Ml (nt := nt) h
  obtain ⟨s00, e1, hg⟩ := A61 (nt := nt) h3
  have hEi : ((A0 i A).getD {}).S P := by
   cases hl : A0 i A with
   | none => exact ⟨(fun E h => by cases h), (fun E h => by cases h), (fun E h => by cases h)⟩
   | some a => exact hE i a hl
  rcases hg with ⟨g1, g2⟩ | ⟨g1, g2⟩
  · obtain ⟨s1, D, ob1, h4, h5, h6⟩ := Ar0 (P := P) (nt := nt) hT g2 hEi
    obtain ⟨s', Ds, ob2, h7, h8, h9⟩ := U8 hT hE l s1 k r hn.2 h6
    refine ⟨s', (i, { D with fz := fz }) :: Ds, ob0 ++ (ob1 ++ ob2), h7, ?_, fun p hp => ?_⟩
    · simp only [Cf, Aw, Option.getD_some, h1]
      rw [e1] at h4
      simp only [U5, g1, Ar1, h4]
      rw [Gl (Ds' := Ds) l _ fun p hp => Ao fun e => hn.1 (by rw [e]; exact List.mem_map.2 ⟨p, hp, rfl⟩), h8]
    · rcases List.mem_append.1 hp with hp | hp
      · exact h2 p hp
      · rcases List.mem_append.1 hp with hp | hp
        · exact h5 p hp
        · exact h9 p hp
  · obtain ⟨s1, h4, h6⟩ := A92 (nt := nt) g2
    obtain ⟨s', Ds, ob2, h7, h8, h9⟩ := U8 hT hE l s1 k r hn.2 h6
    refine ⟨s', (i, { fz := fz }) :: Ds, ob0 ++ ([] ++ ob2), h7, ?_, fun p hp => ?_⟩
    · simp only [Cf, Aw, Option.getD_some, h1]
      rw [e1] at h4
      simp only [U5, g1, h4, Option.map_some]
      rw [Gl (Ds' := Ds) l _ fun p hp => Ao fun e => hn.1 (by rw [e]; exact List.mem_map.2 ⟨p, hp, rfl⟩), h8]
    · rcases List.mem_append.1 hp with hp | hp
      · exact h2 p hp
      · exact h9 p (by simpa using hp)
theorem A5u {β : Type} {i : Nat} {d : β} {Ds : List (Nat × β)} {ks : List Nat} (h : ∀ j, (A0 j Ds).isSome = true ↔ j ∈ ks) : ∀ j, (A0 j ((i, d) :: Ds)).isSome = true ↔ j ∈ i :: ks := by
 intro j
 by_cases e : i = j
 · subst e
   rw [Aw]
   simp
 · rw [Ao e, h j]
   simp [Ne.symm e]
theorem R7 {β : Type} {j : Nat} : ∀ {a b : List (Nat × β)}, (A0 j a).isSome = true → A0 j (a ++ b) = A0 j a
 | [], _, h => by cases h
 | (i, x) :: r, b, h => by
  by_cases e : i = j
  · subst e
    rw [List.cons_append, Aw, Aw]
  · rw [Ao e] at h
    rw [List.cons_append, Ao e, Ao e, R7 h]
theorem R8 {β : Type} {j : Nat} : ∀ {a b : List (Nat × β)}, A0 j a = none → A0 j (a ++ b) = A0 j b
 | [], _, _ => rfl
 | (i, x) :: r, b, h => by
  by_cases e : i = j
  · subst e
    rw [Aw] at h
    cases h
  · rw [Ao e] at h
    rw [List.cons_append, Ao e, R8 h]
theorem A37 {K : Ag} {ops : List Oper} {A : List (Nat × OA)} {nt : Nat} (hE : ∀ i a, A0 i A = some a → a.S P) : ∀ (l : List (Nat × Oper)) (s : St3) (k : St3 → Option α) (r : α), (l.map (·.1)).Nodup → A9c T K ops A l s k = some r →
  ∃ s' Ds obs, k s' = some r ∧ (∀ xs, ∃ ys, Ew P T K ops Ds l xs (s.st nt) = some (ys, s'.st nt, obs)) ∧ (∀ p ∈ obs, p) ∧ ∀ j, (A0 j Ds).isSome = true ↔ j ∈ l.map (·.1)
 | [], s, k, r, _, h => ⟨s, [], [], h, fun xs => ⟨xs, rfl⟩, by simp, fun j => by simp [A0]⟩
 | (i, o) :: l, s, k, r, hn, h => by
  simp only [List.map_cons, List.nodup_cons] at hn
  simp only [A9c] at h
  have hEi : ((A0 i A).getD {}).S P := by
   cases hl : A0 i A with
   | none => exact ⟨(fun E h => by cases h), (fun E h => by cases h), (fun E h => by cases h)⟩
   | some a => exact hE i a hl
  obtain ⟨s00, e1, hg⟩ := A61 (nt := nt) h
  rcases hg with ⟨g1, g2⟩ | ⟨g1, g2⟩
  · cases hq : OA.quiet T ((A0 i A).getD {}) o s00 with
    | false => rw [hq] at g2; cases g2
    | true =>
     rw [hq] at g2
     simp only [cond] at g2
     obtain ⟨t, s1, D, x, ob1, d1, d2, d3, d4, d5, d6⟩ := Akl (P := P) (nt := nt) g2 hq hEi
     obtain ⟨s', Ds, ob2, h7, h8, h9, h10⟩ := A37 hE l s1 k r hn.2 d5
     refine ⟨s', (i, D) :: Ds, ob1 ++ ob2, h7, fun xs => ?_, fun p hp => ?_, A5u h10⟩
     · obtain ⟨ys, h8⟩ := h8 ((i, t, x) :: xs)
       refine ⟨ys, ?_⟩
       rw [e1] at d3 d6
       simp only [Ew, d1, Aw, Option.getD_some, Ok, g1, d3, d2, cond]
       rw [← d6, Gk (Ds' := Ds) l _ _ fun p hp => Ao fun e => hn.1 (by rw [e]; exact List.mem_map.2 ⟨p, hp, rfl⟩), h8]
     · rcases List.mem_append.1 hp with hp | hp
       · exact d4 p hp
       · exact h9 p hp
  · cases hd : o.dst with
    | none => rw [hd] at g2; cases g2
    | some t =>
     rw [hd] at g2
     simp only [Option.isSome_some, cond] at g2
     obtain ⟨s1, h4, h6⟩ := A92 (nt := nt) g2
     rw [hd] at h4
     simp only [St.putD] at h4
     cases hb : Nat.blt t K.N with
     | false => rw [hb] at h4; cases h4
     | true =>
      rw [hb] at h4
      simp only [cond, Option.some.injEq] at h4
      obtain ⟨s', Ds, ob2, h7, h8, h9, h10⟩ := A37 hE l s1 k r hn.2 h6
      refine ⟨s', (i, {}) :: Ds, [] ++ ob2, h7, fun xs => ?_, fun p hp => h9 p (by simpa using hp), A5u h10⟩
      obtain ⟨ys, h8⟩ := h8 ((i, t, .tup []) :: xs)
      refine ⟨ys, ?_⟩
      rw [e1] at h4
      simp only [Ew, hd, Aw, Option.getD_some, Ok, g1, hb, cond]
      rw [h4, Gk (Ds' := Ds) l _ _ fun p hp => Ao fun e => hn.1 (by rw [e]; exact List.mem_map.2 ⟨p, hp, rfl⟩), h8]
theorem Eb (l : List Oper) : ((Aa l).map (·.1)).Nodup := by
 have : (Aa l).map (·.1) = List.range l.length := by
  apply List.ext_getElem?
  intro j
  simp only [Aa, List.map_map, List.getElem?_map, List.getElem?_zipIdx]
  by_cases hj : j < l.length
  · simp [hj]
  · simp [hj]
 rw [this]
 exact List.nodup_range
theorem Aum (hT : Ak P T) (hfol : P.follows .mixedOrders = true) {K : Ag} {A : RA} {id : Nat} {ops : Array Oper} {draw : Bool} {s : St3} {nt : Nat} {k : St3 → Option α} {r : α}
  (hE : ∀ i a, A0 i A.ops = some a → a.S P) (h : Ar4 P T K A ops draw s k = some r) :
  ∃ s', Code.Den P K (.region id ops draw) (s.st nt) .normal (s'.st nt) ∧ k s' = some r := by
 unfold Ar4 at h
 cases draw with
 | true =>
  simp only [cond] at h
  cases hok : D5 ops A.m with
  | false => rw [hok] at h; cases h
  | true =>
   rw [hok] at h
   obtain ⟨s0, fz, ob0, h1, h2, h3, _⟩ := Ml (nt := nt) h
   obtain ⟨s1, Ds1, ob1, h4, h5, h6, h6'⟩ := A37 (P := P) (nt := nt) hE _ s0 _ _ ((Eb ops.toList).sublist ((List.take_sublist _ _).map _)) h3
   obtain ⟨s2, Ds2, ob2, h7, h8, h9⟩ := U8 (P := P) (nt := nt) hT hE _ s1 _ _ ((Eb ops.toList).sublist ((List.drop_sublist _ _).map _)) h4
   refine ⟨s2, ?_, h7⟩
   have hnd := Eb ops.toList
   have e1 : ∀ p ∈ (Aa ops.toList).take A.m, A0 p.1 (Ds1 ++ Ds2) = A0 p.1 Ds1 := fun p hp => by
    have := (h6' p.1).2 (List.mem_map.2 ⟨p, hp, rfl⟩)
    exact R7 this
   have e2 : ∀ p ∈ (Aa ops.toList).drop A.m, A0 p.1 (Ds1 ++ Ds2) = A0 p.1 Ds2 := fun p hp => by
    refine R8 ?_
    cases hl : A0 p.1 Ds1 with
    | none => rfl
    | some d =>
     exfalso
     have hm := (h6' p.1).1 (by rw [hl]; rfl)
     have hd : p.1 ∈ ((Aa ops.toList).drop A.m).map (·.1) := List.mem_map.2 ⟨p, hp, rfl⟩
     rw [← List.take_append_drop A.m (Aa ops.toList), List.map_append, List.nodup_append] at hnd
     exact hnd.2.2 _ hm _ hd rfl
   obtain ⟨ys, h5⟩ := h5 []
   have : Ru P T K ops A.m (Ds1 ++ Ds2) fz (s.st nt) = some (s2.st nt, (P.follows .mixedOrders = true) :: (ob0 ++ (ob1 ++ ob2))) := by
    unfold Ru
    rw [hok]
    simp only [cond, h1]
    rw [Gk _ _ _ e1, h5]
    simp only
    rw [Gl _ _ e2, h8]
   refine A97 hT this fun p hp => ?_
   rcases List.mem_cons.1 hp with rfl | hp
   · exact hfol
   · rcases List.mem_append.1 hp with hp | hp
     · exact h2 p hp
     · rcases List.mem_append.1 hp with hp | hp
       · exact h6 p hp
       · exact h9 p hp
 | false =>
  simp only [cond] at h
  obtain ⟨s2, Ds2, ob2, h7, h8, h9⟩ := U8 (P := P) (nt := nt) hT hE _ s _ _ (Eb ops.toList) h
  refine ⟨s2, ?_, h7⟩
  have : Il P T K ops { ds := Ds2, drop := [] } (s.st nt) = some ((s2.st nt).forget [], ob2) := by
   unfold Il
   simp only [h8]
  have := A9a (id := id) hT this h9
  have e : (s2.st nt).forget [] = s2.st nt := by
   have : A8l [] (s2.st nt).slots = (s2.st nt).slots := List.filter_eq_self.2 fun _ _ => rfl
   unfold St.forget
   rw [this]
  rw [e] at this
  exact this
end Go.Ev
