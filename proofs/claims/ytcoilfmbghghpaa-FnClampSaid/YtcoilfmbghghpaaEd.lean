/- DERIVED. The evaluator over shapes of data: all paths of a function. -/
import Derived.Test.YtcoilfmbghghpaaEc

set_option linter.all false
set_option linter.unusedVariables false
set_option linter.unusedSimpArgs false

/- DERIVED. What is settled, and results, over shapes; templates of states. -/
namespace Go.Ev
open Go

variable {P : Program} {T : Ty}

/-- a cell handed on is one that v1's convC takes -/
theorem conv3c_ok {bs : List (Nat × B3)} {t : Sh} {v : SV} {g : Bool} {x : t.den} {ks : List Nat} (ht : t.one = true) (h : conv3c bs t v = some (g, x, ks)) (hg : g = true) :
    v.cellB = true ∧ (∃ ob, convC (look · (mapV (B3.box (lens bs)) bs)) (v.c (lens bs)) (.i (hd1 (t.cells x))) = some (ob, ks) ∧ ∀ p ∈ ob, p) ∧ ∀ k ∈ ks, k < 1000 ∧ (look k bs).isSome = true := by
  unfold conv3c at h
  split at h
  · rename_i hh
    split at h
    · rename_i t0
      split at h
      · rename_i e sh fz xs hl
        cases hk : Nat.blt hh 1000 with
        | false => rw [hk] at h; cases h
        | true =>
          rw [hk] at h
          simp only [cond, Option.map_eq_some_iff, Prod.mk.injEq] at h
          obtain ⟨y, hy, rfl, rfl, rfl⟩ := h
          obtain ⟨rfl, rfl⟩ := sl_to hy
          have hle : lens bs hh = xs.length := by simp [lens, hl, B3.len]
          refine ⟨rfl, ⟨[0 + lens bs hh ≤ (xs.map fun y => (sh.cells y).map C.i).length, ((xs.map fun y => (sh.cells y).map C.i).drop 0).take (lens bs hh) = (xs.map sh.cells).map (·.map .i)], ?_, ?_⟩, ?_⟩
          · simp only [convC, SV.c, box_at, hl, Option.map_some, B3.box, Sh.cells, hd1, Nat.beq_refl, cond]
          · simp only [List.mem_cons, List.not_mem_nil, or_false, forall_eq_or_imp, forall_eq]
            refine ⟨by simp [hle], ?_⟩
            rw [List.drop_zero, hle, List.take_of_length_le (by simp), List.map_map]
            rfl
          · intro k hk'
            simp only [List.mem_singleton] at hk'
            subst hk'
            exact ⟨by simpa [Nat.blt_eq] using hk, by rw [hl]; rfl⟩
      · cases h
    · cases h
  · rename_i hh off len
    split at h
    · rename_i t0
      split at h
      · rename_i e sh fz xs hl
        cases hk : Nat.blt hh 1000 with
        | false => rw [hk] at h; cases h
        | true =>
          rw [hk] at h
          simp only [cond, Option.map_eq_some_iff, Prod.mk.injEq] at h
          obtain ⟨y, hy, rfl, rfl, rfl⟩ := h
          obtain ⟨rfl, rfl⟩ := sl_to hy
          simp only [decide_eq_true_eq] at hg
          refine ⟨rfl, ⟨[off + len ≤ (xs.map fun y => (sh.cells y).map C.i).length, ((xs.map fun y => (sh.cells y).map C.i).drop off).take len = (((xs.drop off).take len).map sh.cells).map (·.map .i)], ?_, ?_⟩, ?_⟩
          · simp only [convC, SV.c, box_at, hl, Option.map_some, B3.box, Sh.cells, hd1, Nat.beq_refl, cond]
          · simp only [List.mem_cons, List.not_mem_nil, or_false, forall_eq_or_imp, forall_eq]
            refine ⟨by simpa using hg, ?_⟩
            rw [List.map_map, List.map_take, List.map_drop]
            rfl
          · intro k hk'
            simp only [List.mem_singleton] at hk'
            subst hk'
            exact ⟨by simpa [Nat.blt_eq] using hk, by rw [hl]; rfl⟩
      · cases h
    · cases h
  · rename_i cs
    split at h
    · rename_i t0
      cases hd : cs.all SV.isD with
      | false => rw [hd] at h; cases h
      | true =>
        rw [hd] at h
        simp only [cond, Option.map_eq_some_iff, Prod.mk.injEq] at h
        obtain ⟨y, hy, rfl, rfl, rfl⟩ := h
        obtain ⟨_, _, h3, _⟩ := all_false hy
        refine ⟨hd, ⟨[C.i (.ref 0 (cs.map SV.i0)) = C.i (.ref 0 (t0.cells y))], rfl, by simp [h3 hd]⟩, by simp⟩
    · cases h
  · rename_i h1 h2 h3
    rw [ht] at h
    simp only [cond, Option.map_eq_some_iff, Prod.mk.injEq] at h
    obtain ⟨y, hy, rfl, rfl, rfl⟩ := h
    obtain ⟨q1, ob, q2, q3⟩ := as_sub (L := lens bs) ht hy
    refine ⟨isD_cellB q1, ⟨ob, ?_, q3⟩, by simp⟩
    have hI : isI (v.c (lens bs)) = true := imm_isI (isD_imm q1)
    unfold convC
    split
    · rename_i he _
      rw [he] at hI; cases hI
    · rw [q2]; rfl

def ConvCs (bs : List (Nat × B3)) (cs : List SV) (ds : List I) (ks : List Nat) : Prop :=
  (∃ ob, convCs (look · (mapV (B3.box (lens bs)) bs)) (cs.map (SV.c (lens bs))) (ds.map .i) = some (ob, ks) ∧ ∀ p ∈ ob, p) ∧ ∀ k ∈ ks, k < 1000 ∧ (look k bs).isSome = true

theorem ConvCs.app {bs : List (Nat × B3)} : ∀ {cs cs' : List SV} {ds ds' : List I} {ks ks' : List Nat}, ConvCs bs cs ds ks → ConvCs bs cs' ds' ks' → ConvCs bs (cs ++ cs') (ds ++ ds') (ks ++ ks')
  | [], cs', [], ds', ks, ks', h, h' => by
    obtain ⟨⟨ob, h, _⟩, _⟩ := h
    simp only [List.map_nil, convCs, Option.some.injEq, Prod.mk.injEq] at h
    obtain ⟨_, rfl⟩ := h
    exact h'
  | [], cs', d :: ds, ds', _, _, h, _ => by obtain ⟨⟨ob, h, _⟩, _⟩ := h; simp [convCs] at h
  | c :: cs, cs', [], ds', _, _, h, _ => by obtain ⟨⟨ob, h, _⟩, _⟩ := h; simp [convCs] at h
  | c :: cs, cs', d :: ds, ds', ks, ks', h, h' => by
    obtain ⟨⟨ob, h, ho⟩, hk⟩ := h
    simp only [List.map_cons, convCs] at h
    split at h
    · rename_i p k q l h1 h2
      simp only [Option.some.injEq, Prod.mk.injEq] at h
      obtain ⟨rfl, rfl⟩ := h
      obtain ⟨⟨ob2, h3, ho2⟩, hk2⟩ := ConvCs.app (cs := cs) (ds := ds) (ks := l) ⟨⟨q, h2, fun x hx => ho x (List.mem_append.2 (.inr hx))⟩, fun k hk' => hk k (List.mem_append.2 (.inr hk'))⟩ h'
      refine ⟨⟨p ++ ob2, ?_, fun x hx => ?_⟩, fun j hj => ?_⟩
      · simp only [List.cons_append, List.map_cons, convCs, h1, h3, List.append_assoc]
      · rcases List.mem_append.1 hx with hx | hx
        · exact ho x (List.mem_append.2 (.inl hx))
        · exact ho2 x hx
      · rw [List.append_assoc] at hj
        rcases List.mem_append.1 hj with hj | hj
        · exact hk j (List.mem_append.2 (.inl hj))
        · exact hk2 j hj
    · cases h

theorem impB_ok {bs : List (Nat × B3)} : ∀ (t : Sh) (cs : List SV) (g : Bool) (x : t.den) (ks : List Nat) (r : List SV), t.impB bs cs = some (g, x, ks, r) → g = true → ∃ pre, cs = pre ++ r ∧ ConvCs bs pre (t.cells x) ks ∧ pre.all SV.cellB = true := by
  have cell : ∀ (t : Sh) (c : SV) (r q : List SV) (g : Bool) (x : t.den) (ks : List Nat), t.one = true → (conv3c bs t c).map (fun p => (p.1, p.2.1, p.2.2, r)) = some (g, x, ks, q) → g = true → ∃ pre, c :: r = pre ++ q ∧ ConvCs bs pre (t.cells x) ks ∧ pre.all SV.cellB = true := by
    intro t c r q g x ks ht h hg
    simp only [Option.map_eq_some_iff, Prod.mk.injEq] at h
    obtain ⟨⟨g', x', k'⟩, h1, rfl, rfl, rfl, rfl⟩ := h
    obtain ⟨hc, ⟨ob, h2, h3⟩, h4⟩ := conv3c_ok ht h1 hg
    refine ⟨[c], rfl, ⟨⟨ob ++ [], ?_, by simpa using h3⟩, h4⟩, by simp [hc]⟩
    rw [cells1 t x' ht]
    simp only [List.map_cons, List.map_nil, convCs, h2, List.append_nil]
  intro t
  induction t with
  | pair a b iha ihb =>
    intro cs g x ks r h hg
    simp only [Sh.impB] at h
    split at h
    · rename_i g1 y k1 q h1
      split at h
      · rename_i g2 z k2 q' h2
        simp only [Option.some.injEq, Prod.mk.injEq] at h
        obtain ⟨rfl, rfl, rfl, rfl⟩ := h
        simp only [Bool.and_eq_true] at hg
        obtain ⟨p1, e1, c1, i1⟩ := iha _ _ _ _ _ h1 hg.1
        obtain ⟨p2, e2, c2, i2⟩ := ihb _ _ _ _ _ h2 hg.2
        exact ⟨p1 ++ p2, by rw [e1, e2, List.append_assoc], c1.app c2, by simp [i1, i2]⟩
      · cases h
    · cases h
  | st t ih => intro cs g x ks r h hg; exact ih _ _ _ _ _ h hg
  | unit =>
    intro cs g x ks r h _
    simp only [Sh.impB, Option.some.injEq, Prod.mk.injEq] at h
    obtain ⟨_, _, rfl, rfl⟩ := h
    exact ⟨[], rfl, ⟨⟨[], rfl, by simp⟩, by simp⟩, rfl⟩
  | int k => intro cs g x ks r h hg; cases cs with | nil => simp [Sh.impB] at h | cons c cs => exact cell _ _ _ _ _ _ _ rfl h hg
  | bool => intro cs g x ks r h hg; cases cs with | nil => simp [Sh.impB] at h | cons c cs => exact cell _ _ _ _ _ _ _ rfl h hg
  | str => intro cs g x ks r h hg; cases cs with | nil => simp [Sh.impB] at h | cons c cs => exact cell _ _ _ _ _ _ _ rfl h hg
  | nil => intro cs g x ks r h hg; cases cs with | nil => simp [Sh.impB] at h | cons c cs => exact cell _ _ _ _ _ _ _ rfl h hg
  | fn f => intro cs g x ks r h hg; cases cs with | nil => simp [Sh.impB] at h | cons c cs => exact cell _ _ _ _ _ _ _ rfl h hg
  | sl t _ => intro cs g x ks r h hg; cases cs with | nil => simp [Sh.impB] at h | cons c cs => exact cell _ _ _ _ _ _ _ rfl h hg
  | ref t _ => intro cs g x ks r h hg; cases cs with | nil => simp [Sh.impB] at h | cons c cs => exact cell _ _ _ _ _ _ _ rfl h hg
  | clo f c _ => intro cs g x ks r h hg; cases cs with | nil => simp [Sh.impB] at h | cons v cs => exact cell _ _ _ _ _ _ _ rfl h hg

theorem cellB_s {L : Nat → Nat} {v : SV} (h : v.cellB = true) : v.s L = .v (.one (v.c L)) ∧ v.v L = .one (v.c L) := by cases v <;> first | exact ⟨rfl, rfl⟩ | cases h

theorem convV3_ok {bs : List (Nat × B3)} {t : Sh} {v : SV} {g : Bool} {x : t.den} {ks : List Nat} (h : convV3 bs t v = some (g, x, ks)) (hg : g = true) :
    v.s (lens bs) = .v (v.v (lens bs)) ∧ (∃ ob, convV (look · (mapV (B3.box (lens bs)) bs)) (v.v (lens bs)) (t.v x) = some (ob, ks) ∧ ∀ p ∈ ob, p) ∧ ∀ k ∈ ks, k < 1000 ∧ (look k bs).isSome = true := by
  unfold convV3 at h
  cases ht : t.one with
  | true =>
    rw [ht] at h
    obtain ⟨hc, ⟨ob, h1, h2⟩, h3⟩ := conv3c_ok ht h hg
    obtain ⟨e1, e2⟩ := cellB_s (L := lens bs) hc
    refine ⟨by rw [e1, e2], ⟨ob, ?_, h2⟩, h3⟩
    simp only [e2, Sh.v, ht, cond, convV, h1]
  | false =>
    rw [ht] at h
    simp only [cond] at h
    split at h
    · rename_i cs
      split at h
      · rename_i g1 y k1 hi
        simp only [Option.some.injEq, Prod.mk.injEq] at h
        obtain ⟨rfl, rfl, rfl⟩ := h
        obtain ⟨pre, e, ⟨⟨ob, h1, h2⟩, h3⟩, _⟩ := impB_ok _ _ _ _ _ _ hi hg
        rw [List.append_nil] at e
        subst e
        refine ⟨rfl, ⟨ob, ?_, h2⟩, h3⟩
        simp only [SV.v, Sh.v, ht, cond, convV, h1]
      · cases h
    · cases h

theorem canFz_ok {bs : List (Nat × B3)} {L : Nat → Nat} {ks : List Nat} (h : ∀ k ∈ ks, k < 1000 ∧ (look k bs).isSome = true) : canFz (mapV (B3.box L) bs) ks = true := by
  unfold canFz
  refine List.all_eq_true.2 fun k hk => ?_
  obtain ⟨h1, h2⟩ := h k hk
  rw [look_mapV, Option.isSome_map, h2]
  simpa [Nat.blt_eq] using h1

theorem settle3_ok {s s' : St3} {nt : Nat} {t : Nat} {sh : Sh} {g : Bool} (h : settle3 s t sh = some (g, s')) (hg : g = true) :
    ∃ (x' : V) (ob : List Prop), settle (s.st nt) t x' = some (s'.st nt, ob) ∧ ∀ p ∈ ob, p := by
  unfold settle3 at h
  split at h
  · rename_i v hv
    split at h
    · rename_i g1 x ks hc
      simp only [Option.some.injEq, Prod.mk.injEq] at h
      obtain ⟨rfl, rfl⟩ := h
      obtain ⟨h1, ⟨ob, h2, h3⟩, h4⟩ := convV3_ok hc hg
      refine ⟨sh.v x, ob, ?_, h3⟩
      have hl : look t (s.st nt).slots = some (.v (v.v (lens s.boxes))) := by
        simp only [St3.st, look_mapV, hv, Option.map_some, h1]
      have h2' : convV (look · (s.st nt).boxes) (v.v (lens s.boxes)) (sh.v x) = some (ob, ks) := h2
      have hz : canFz (s.st nt).boxes ks = true := canFz_ok h4
      simp only [settle, hl, h2', hz, cond, Option.some.injEq, Prod.mk.injEq, and_true]
      simp only [St3.st]
      congr 1
      · rw [freeze3_lens, ← (sv_v (L := lens s.boxes) sh x).2, ins_mapV]
      · rw [freeze3_lens]; exact freeze3_ok _ _ _
    · cases h
  · cases h

/-! templates -/
inductive TS where
  | d (t : Sh)
  | ag (t : Sh)
  | k (v : SV)
  | hs (h : Nat)

@[reducible] def TS.den : TS → Type
  | .d t => t.den
  | .ag t => t.den
  | .k _ => Unit
  | .hs _ => Nat × Nat

def TS.enc : (t : TS) → t.den → SV
  | .d t, x => .d t x
  | .ag t, x => .agg (t.exp x)
  | .k v, _ => v
  | .hs h, x => .hs h x.1 x.2

def SV.same : SV → SV → Bool
  | .hw h, .hw h' => Nat.beq h h'
  | .hp h r c, .hp h' r' c' => Nat.beq h h' && Nat.beq r r' && Nat.beq c c'
  | .dead, _ => true
  | .d t _, .d t' _ => (match t with
    | .nil => true
    | .fn _ => true
    | _ => false) && t.eqb t'
  | _, _ => false

def TS.dec : (t : TS) → SV → Option t.den
  | .d t, v => match v with
    | .rf cs => match t with
      | .ref t0 => bif cs.all SV.isD then t0.all false cs else none
      | _ => none
    | v => bif t.one then v.as true t else none
  | .ag t, v => match v with
    | .agg cs => t.all true cs
    | _ => none
  | .k c, v => bif c.same v then some () else none
  | .hs h, v => match v with
    | .hs h' o l => bif Nat.beq h h' then some (o, l) else none
    | _ => none

inductive TB where
  | arr (e : TypeId) (t : Sh) (fz : Bool)
  | var (e : TypeId) (hf fz : Bool) (cs : List TS)

@[reducible] def DL : List TS → Type
  | [] => Unit
  | t :: r => t.den × DL r

def encL : (l : List TS) → DL l → List SV
  | [], _ => []
  | t :: r, x => t.enc x.1 :: encL r x.2
def decL : (l : List TS) → List SV → Option (DL l)
  | [], [] => some ()
  | t :: r, v :: vs => match t.dec v, decL r vs with
    | some x, some xs => some (x, xs)
    | _, _ => none
  | _, _ => none

@[reducible] def TB.den : TB → Type
  | .arr _ t _ => List t.den
  | .var _ _ _ cs => DL cs
def TB.enc : (b : TB) → b.den → B3
  | .arr e t fz, xs => .arr e t fz xs
  | .var e hf fz cs, xs => .var e hf fz (encL cs xs)
def TB.dec : (b : TB) → B3 → Option b.den
  | .arr e t fz, b => match b with
    | .arr e' t' fz' xs => bif Nat.beq e e' && (fz == fz') then (Sh.sl t').to (.sl t) xs else none
    | .rep e' fz' n cs => bif Nat.beq e e' && (fz == fz') then (t.all true cs).map fun x => List.replicate n x else none
    | _ => none
  | .var e hf fz cs, b => match b with
    | .var e' hf' fz' vs => bif Nat.beq e e' && (hf == hf') && (fz == fz') && vs.all SV.cellB then (match decL cs vs with
      | some x => bif (encL cs x).all SV.cellB && (!hf || (encL cs x).all SV.imm) then some x else none
      | none => none) else none
    | _ => none

@[reducible] def DK (β : Type) (den : β → Type) : List (Nat × β) → Type
  | [] => Unit
  | (_, t) :: r => den t × DK β den r

def encS : (l : List (Nat × TS)) → DK TS TS.den l → List (Nat × SV)
  | [], _ => []
  | (k, t) :: r, x => (k, t.enc x.1) :: encS r x.2
def decS : (l : List (Nat × TS)) → List (Nat × SV) → Option (DK TS TS.den l)
  | [], [] => some ()
  | (k, t) :: r, (j, v) :: vs => bif Nat.beq k j then (match t.dec v, decS r vs with
    | some x, some xs => some (x, xs)
    | _, _ => none) else none
  | _, _ => none
def encB : (l : List (Nat × TB)) → DK TB TB.den l → List (Nat × B3)
  | [], _ => []
  | (k, t) :: r, x => (k, t.enc x.1) :: encB r x.2
def decB : (l : List (Nat × TB)) → List (Nat × B3) → Option (DK TB TB.den l)
  | [], [] => some ()
  | (k, t) :: r, (j, v) :: vs => bif Nat.beq k j then (match t.dec v, decB r vs with
    | some x, some xs => some (x, xs)
    | _, _ => none) else none
  | _, _ => none

structure Tm where
  slots : List (Nat × TS)
  boxes : List (Nat × TB) := []
  drop : List Nat := []
  fz : List (Nat × Sh) := []

@[reducible] def Tm.den (X : Tm) : Type := DK TS TS.den X.slots × DK TB TB.den X.boxes

def Tm.enc (X : Tm) (x : X.den) : St3 := ⟨encS X.slots x.1, encB X.boxes x.2⟩

def keepKeys : List (Nat × TS) → List (Nat × SV) → List (Nat × SV)
  | X, sl => sl.filter fun p => X.any fun q => Nat.beq q.1 p.1

def dels3 : List Nat → St3 → Option St3
  | [], s => some s
  | h :: r, s => bif Nat.blt h 1000 && s.clean h then dels3 r { s with boxes := del h s.boxes } else none

/-- own slices of these slots are settled -/
def settleQ : List (Nat × Sh) → St3 → Option St3
  | [], s => some s
  | (t, sh) :: r, s => match look t s.slots with
    | some (.d _ _) => settleQ r s
    | _ => match settle3 s t sh with
      | some (g, s1) => bif g then settleQ r s1 else none
      | none => none

def Tm.dec1 (X : Tm) (s : St3) : Option X.den :=
  match dels3 X.drop { s with slots := keepKeys X.slots s.slots } with
  | some s2 => match decS X.slots s2.slots, decB X.boxes s2.boxes with
    | some x, some y => some (x, y)
    | _, _ => none
  | none => none

def Tm.dec (X : Tm) (s : St3) : Option X.den :=
  match settleQ X.fz s with
  | some s1 => X.dec1 s1
  | none => none

end Go.Ev

/- DERIVED. Calls that are handed boxes or hand out boxes, over shapes. -/
namespace Go.Ev
open Go

variable {P : Program} {T : Ty}

/-- a cell of a parameter or a result: immutable; a slice of an own box; a pointer to an own variable; the slice of a box that was handed in -/
inductive CK where
  | im (t : Sh)
  | own (e : TypeId) (t : Sh)
  | ptr (e : TypeId) (t : Sh)
  | back (k : Nat)
  | win (e : TypeId) (t : Sh)

@[reducible] def CK.den : CK → Type
  | .im t => t.den
  | .own _ t => List t.den
  | .ptr _ t => t.den
  | .back _ => Unit
  | .win _ t => List t.den × Nat × Nat

@[reducible] def DC : List CK → Type
  | [] => Unit
  | [c] => c.den
  | c :: d :: r => c.den × DC (d :: r)

inductive PK where
  | im (t : Sh)
  | one (c : CK)
  | mix (cs : List CK)

@[reducible] def PK.den : PK → Type
  | .im t => t.den
  | .one c => c.den
  | .mix cs => DC cs

@[reducible] def HP : List PK → Type
  | [] => Unit
  | [p] => p.den
  | p :: q :: r => p.den × HP (q :: r)

def CK.sv (k : Nat) : (c : CK) → c.den → SV
  | .im t, x => .d t x
  | .own _ _, _ => .hw k
  | .ptr _ _, _ => .hp k 0 0
  | .back j, _ => .hw j
  | .win _ _, x => .hs k x.2.1 x.2.2
def CK.bx (k : Nat) : (c : CK) → c.den → List (Nat × B3)
  | .own e t, xs => [(k, .arr e t false xs)]
  | .ptr e t, x => [(k, .var e true false (t.exp x))]
  | .win e t, x => [(k, .arr e t false x.1)]
  | _, _ => []
def svCs (k : Nat) : (cs : List CK) → DC cs → List SV
  | [], _ => []
  | [c], x => [c.sv k x]
  | c :: d :: r, x => c.sv k x.1 :: svCs (k + 1) (d :: r) x.2
def bxCs (k : Nat) : (cs : List CK) → DC cs → List (Nat × B3)
  | [], _ => []
  | [c], x => c.bx k x
  | c :: d :: r, x => c.bx k x.1 ++ bxCs (k + 1) (d :: r) x.2
def PK.n : PK → Nat
  | .mix cs => cs.length
  | _ => 1
def PK.isIm : PK → Bool
  | .im _ => true
  | _ => false
def PK.sv (k : Nat) : (p : PK) → p.den → SV
  | .im t, x => t.sv x
  | .one c, x => c.sv k x
  | .mix cs, x => .agg (svCs k cs x)
def PK.bx (k : Nat) : (p : PK) → p.den → List (Nat × B3)
  | .im _, _ => []
  | .one c, x => c.bx k x
  | .mix cs, x => bxCs k cs x
def svPs (k : Nat) : (ps : List PK) → HP ps → List SV
  | [], _ => []
  | [p], x => [p.sv k x]
  | p :: q :: r, x => p.sv k x.1 :: svPs (k + p.n) (q :: r) x.2
def bxPs (k : Nat) : (ps : List PK) → HP ps → List (Nat × B3)
  | [], _ => []
  | [p], x => p.bx k x
  | p :: q :: r, x => p.bx k x.1 ++ bxPs (k + p.n) (q :: r) x.2

/-- the boxes that are handed in -/
def CK.owns (k : Nat) : CK → List (Nat × CK)
  | .own e t => [(k, .own e t)]
  | .ptr e t => [(k, .ptr e t)]
  | .win e t => [(k, .own e t)]
  | _ => []
def ownsC (k : Nat) : List CK → List (Nat × CK)
  | [] => []
  | c :: r => c.owns k ++ ownsC (k + 1) r
def PK.owns (k : Nat) : PK → List (Nat × CK)
  | .im _ => []
  | .one c => c.owns k
  | .mix cs => ownsC k cs
def ownsP (k : Nat) : List PK → List (Nat × CK)
  | [] => []
  | p :: r => p.owns k ++ ownsP (k + p.n) r

@[reducible] def DO : List (Nat × CK) → Type
  | [] => Unit
  | [p] => p.2.den
  | p :: q :: r => p.2.den × DO (q :: r)
def bxO : (os : List (Nat × CK)) → DO os → List (Nat × B3)
  | [], _ => []
  | [p], x => p.2.bx p.1 x
  | p :: q :: r, x => p.2.bx p.1 x.1 ++ bxO (q :: r) x.2

@[reducible] def HR (rs : List PK) : List (Nat × CK) → Type
  | [] => HP rs
  | p :: r => HP rs × DO (p :: r)
def resOf {rs : List PK} : {os : List (Nat × CK)} → HR rs os → HP rs
  | [], y => y
  | _ :: _, y => y.1
def outOf {rs : List PK} : {os : List (Nat × CK)} → HR rs os → DO os
  | [], _ => ()
  | _ :: _, y => y.2

/-- a function that is handed boxes or hands out boxes, at one form of its results -/
structure Ent2 where
  f : Nat
  ts : List PK
  rs : List PK

def inBx (E : Ent2) (x : HP E.ts) : List (Nat × B3) := bxPs 1000 E.ts x
def outBx (E : Ent2) (y : HR E.rs (ownsP 1000 E.ts)) : List (Nat × B3) := bxPs 0 E.rs (resOf y) ++ bxO (ownsP 1000 E.ts) (outOf y)
def st3B (bs : List (Nat × B3)) : List (Nat × Box) := mapV (B3.box (lens bs)) bs

def Ent2.Den (P : Program) (E : Ent2) (nt : Nat) (x : HP E.ts) (y : HR E.rs (ownsP 1000 E.ts)) : Prop :=
  FDen P E.f nt [] (st3B (inBx E x)) ((svPs 1000 E.ts x).map (SV.v (lens (inBx E x)))) ((joinSV (svPs 0 E.rs (resOf y))).s (lens (outBx E y))) nt (st3B (outBx E y))

/-! several forms of the results -/
@[reducible] def HF (os : List (Nat × CK)) : List (List PK) → Type
  | [] => Unit
  | [rs] => HR rs os
  | rs :: r :: q => HR rs os ⊕ HF os (r :: q)

def caseS {A B α : Type} (z : A ⊕ B) (f : A → Option α) (g : B → Option α) : Option α := match z with
  | .inl a => f a
  | .inr b => g b

def caseF {α : Type} (os : List (Nat × CK)) : (fs : List (List PK)) → HF os fs → ((rs : List PK) → HR rs os → Option α) → Option α
  | [], _, _ => none
  | [rs], y, k => k rs y
  | rs :: r :: q, z, k => caseS z (fun y => k rs y) (fun z => caseF os (r :: q) z k)

def AllF (os : List (Nat × CK)) : (fs : List (List PK)) → HF os fs → ((rs : List PK) → HR rs os → Prop) → Prop
  | [], _, _ => True
  | [rs], y, k => k rs y
  | rs :: _ :: _, .inl y, k => k rs y
  | _ :: r :: q, .inr z, k => AllF os (r :: q) z k

theorem caseF_some {α : Type} {os : List (Nat × CK)} {p : (rs : List PK) → HR rs os → Prop} : ∀ {fs : List (List PK)} {z : HF os fs} {k : (rs : List PK) → HR rs os → Option α} {r : α}, caseF os fs z k = some r → AllF os fs z p → ∃ rs y, k rs y = some r ∧ p rs y
  | [], _, _, _, h, _ => by cases h
  | [rs], y, k, r, h, hp => ⟨rs, y, h, hp⟩
  | rs :: _ :: _, .inl y, k, r, h, hp => ⟨rs, y, h, hp⟩
  | _ :: r :: q, .inr z, k, _, h, hp => caseF_some (fs := r :: q) h hp

/-- a function that is handed boxes or hands out boxes, told by a model -/
structure Ent3 where
  f : Nat
  ts : List PK
  forms : List (List PK)
  m : HP ts → Option (HF (ownsP 1000 ts) forms)

def Ent3.Sound (P : Program) (E : Ent3) : Prop := ∀ (nt : Nat) (x : HP E.ts) (z : HF (ownsP 1000 E.ts) E.forms), E.m x = some z → AllF (ownsP 1000 E.ts) E.forms z fun rs y => Ent2.Den P ⟨E.f, E.ts, rs⟩ nt x y

/-! names of handles -/
def fwd (rn : List (Nat × Nat)) (k : Nat) : Nat := match look k rn with
  | some h => h
  | none => 0
def bwd : List (Nat × Nat) → Nat → Option Nat
  | [], _ => none
  | (k, h') :: r, h => bif Nat.beq h' h then some k else bwd r h
def goodRn : List (Nat × Nat) → Bool
  | [] => true
  | (k, h) :: r => r.all (fun p => !Nat.beq p.1 k && !Nat.beq p.2 h) && goodRn r
def sameKeys {β : Type} : List (Nat × β) → List (Nat × Nat) → Bool
  | [], [] => true
  | (k, _) :: B, (k', _) :: R => Nat.beq k k' && sameKeys B R
  | _, _ => false
def insAll : List (Nat × B3) → List (Nat × Nat) → List (Nat × B3) → List (Nat × B3)
  | (_, b) :: B, (_, h) :: R, bs => ins h b (insAll B R bs)
  | _, _, bs => bs

theorem beq_ne {a b : Nat} (h : Nat.beq a b = false) : a ≠ b := fun e => by subst e; simp at h
theorem ne_beq {a b : Nat} (h : a ≠ b) : Nat.beq a b = false := by cases hb : Nat.beq a b with | false => rfl | true => exact absurd (Nat.eq_of_beq_eq_true hb) h

theorem goodRn_cons {k h : Nat} {r : List (Nat × Nat)} (hg : goodRn ((k, h) :: r) = true) : (∀ p ∈ r, p.1 ≠ k ∧ p.2 ≠ h) ∧ goodRn r = true := by
  simp only [goodRn, Bool.and_eq_true, List.all_eq_true, Bool.not_eq_true'] at hg
  exact ⟨fun p hp => ⟨beq_ne (hg.1 p hp).1, beq_ne (hg.1 p hp).2⟩, hg.2⟩

theorem look_memR {β : Type} : ∀ {rn : List (Nat × β)} {k : Nat} {h : β}, look k rn = some h → (k, h) ∈ rn
  | [], _, _, e => by cases e
  | (k', h') :: r, k, h, e => by
    simp only [look] at e
    cases hb : Nat.beq k' k with
    | true => rw [hb] at e; obtain rfl := Option.some.inj e; rw [Nat.eq_of_beq_eq_true hb]; exact List.mem_cons_self
    | false => rw [hb] at e; exact List.mem_cons_of_mem _ (look_memR e)
theorem bwd_mem : ∀ {rn : List (Nat × Nat)} {k h : Nat}, bwd rn h = some k → (k, h) ∈ rn
  | [], _, _, e => by cases e
  | (k', h') :: r, k, h, e => by
    simp only [bwd] at e
    cases hb : Nat.beq h' h with
    | true => rw [hb] at e; obtain rfl := Option.some.inj e; rw [Nat.eq_of_beq_eq_true hb]; exact List.mem_cons_self
    | false => rw [hb] at e; exact List.mem_cons_of_mem _ (bwd_mem e)
theorem mem_look : ∀ {rn : List (Nat × Nat)} {k h : Nat}, goodRn rn = true → (k, h) ∈ rn → look k rn = some h ∧ bwd rn h = some k
  | [], _, _, _, e => by cases e
  | (k', h') :: r, k, h, hg, e => by
    obtain ⟨h1, h2⟩ := goodRn_cons hg
    simp only [look, bwd]
    rcases List.mem_cons.1 e with e | e
    · obtain ⟨rfl, rfl⟩ := Prod.mk.inj e
      simp only [Nat.beq_refl, cond]
      exact ⟨trivial, trivial⟩
    · obtain ⟨e1, e2⟩ := mem_look h2 e
      rw [ne_beq (h1 _ e).1.symm, ne_beq (h1 _ e).2.symm]
      exact ⟨e1, e2⟩
theorem look_keysR {β : Type} : ∀ {B : List (Nat × β)} {R : List (Nat × Nat)}, sameKeys B R = true → ∀ k, (look k B).isSome = (look k R).isSome
  | [], [], _, _ => rfl
  | (k1, b) :: B, (k2, h) :: R, e, k => by
    simp only [sameKeys, Bool.and_eq_true] at e
    obtain rfl := Nat.eq_of_beq_eq_true e.1
    simp only [look]
    cases Nat.beq k1 k with
    | true => rfl
    | false => exact look_keysR e.2 k
  | [], _ :: _, e, _ => by simp [sameKeys] at e
  | _ :: _, [], e, _ => by simp [sameKeys] at e
theorem mem_lookB {β : Type} : ∀ {B : List (Nat × β)} {R : List (Nat × Nat)} {k : Nat} {b : β}, sameKeys B R = true → goodRn R = true → (k, b) ∈ B → look k B = some b
  | [], _, _, _, _, _, e => by cases e
  | (k1, b1) :: B, (k2, h) :: R, k, b, hs, hg, e => by
    simp only [sameKeys, Bool.and_eq_true] at hs
    obtain rfl := Nat.eq_of_beq_eq_true hs.1
    obtain ⟨h1, h2⟩ := goodRn_cons hg
    simp only [look]
    rcases List.mem_cons.1 e with e | e
    · obtain ⟨rfl, rfl⟩ := Prod.mk.inj e
      simp only [Nat.beq_refl, cond]
    · have := mem_lookB hs.2 h2 e
      have hk : (look k R).isSome = true := by rw [← look_keysR hs.2 k, this]; rfl
      obtain ⟨h', hh⟩ := Option.isSome_iff_exists.1 hk
      rw [ne_beq (h1 _ (look_memR hh)).1.symm]
      exact this
  | _ :: _, [], _, _, hs, _, _ => by simp [sameKeys] at hs

theorem insAll_look : ∀ {B : List (Nat × B3)} {R : List (Nat × Nat)} {bs : List (Nat × B3)}, sameKeys B R = true → goodRn R = true → ∀ h, look h (insAll B R bs) = match bwd R h with | some k => look k B | none => look h bs
  | [], [], _, _, _, h => rfl
  | (k1, b) :: B, (k2, h2) :: R, bs, hs, hg, h => by
    simp only [sameKeys, Bool.and_eq_true] at hs
    obtain rfl := Nat.eq_of_beq_eq_true hs.1
    obtain ⟨g1, g2⟩ := goodRn_cons hg
    simp only [insAll, bwd]
    cases hb : Nat.beq h2 h with
    | true =>
      obtain rfl := Nat.eq_of_beq_eq_true hb
      simp only [cond, look_ins_self, look, Nat.beq_refl]
    | false =>
      simp only [cond]
      rw [look_ins_ne _ _ (beq_ne hb).symm, insAll_look hs.2 g2 h]
      cases hw : bwd R h with
      | none => rfl
      | some k =>
        simp only [look]
        rw [ne_beq (g1 _ (bwd_mem hw)).1.symm]
        rfl
  | [], _ :: _, _, e, _, _ => by simp [sameKeys] at e
  | _ :: _, [], _, e, _, _ => by simp [sameKeys] at e

/-! the arguments of such a call -/
def cellArg (bs : List (Nat × B3)) (k : Nat) : (c : CK) → SV → Option (c.den × List (Nat × Nat))
  | .im t, v => bif t.one then (v.as true t).map fun x => (x, []) else none
  | .own e t, .hw h => match look h bs with
    | some (.arr e' sh false xs) => bif Nat.beq e e' then ((Sh.sl sh).to (.sl t) xs).map fun x => (x, [(k, h)]) else none
    | _ => none
  | .ptr e t, .hp h 0 0 => match look h bs with
    | some (.var e' true false cs) => bif Nat.beq e e' && cs.all SV.isD then (t.all false cs).map fun x => (x, [(k, h)]) else none
    | _ => none
  | .win e t, .hs h off len => match look h bs with
    | some (.arr e' sh false xs) => bif Nat.beq e e' then ((Sh.sl sh).to (.sl t) xs).map fun x => ((x, off, len), [(k, h)]) else none
    | _ => none
  | _, _ => none
def cellsArg (bs : List (Nat × B3)) (k : Nat) : (cs : List CK) → List SV → Option (DC cs × List (Nat × Nat))
  | [], [] => some ((), [])
  | [c], [v] => cellArg bs k c v
  | c :: d :: r, v :: vs => match cellArg bs k c v, cellsArg bs (k + 1) (d :: r) vs with
    | some (x, q), some (y, q') => some ((x, y), q ++ q')
    | _, _ => none
  | _, _ => none
def argP (bs : List (Nat × B3)) (k : Nat) : (p : PK) → SV → Option (Bool × p.den × List Nat × List (Nat × Nat))
  | .im t, v => (arg3 bs t v).map fun q => (q.1, q.2.1, q.2.2, [])
  | .one c, v => (cellArg bs k c v).map fun q => (true, q.1, [], q.2)
  | .mix cs, .agg vs => (cellsArg bs k cs vs).map fun q => (true, q.1, [], q.2)
  | _, _ => none
def argsP (bs : List (Nat × B3)) (k : Nat) : (ps : List PK) → List SV → Option (Bool × HP ps × List Nat × List (Nat × Nat))
  | [], [] => some (true, (), [], [])
  | [p], [v] => argP bs k p v
  | p :: q :: r, v :: vs => match argP bs k p v, argsP bs (k + p.n) (q :: r) vs with
    | some (g, x, l, n), some (g', y, l', n') => some (g && g', (x, y), l ++ l', n ++ n')
    | _, _ => none
  | _, _ => none

/-- what is said of the boxes that are handed on -/
def InOK (bs B : List (Nat × B3)) (q : List (Nat × Nat)) : Prop :=
  ∀ k b, (k, b) ∈ B → ∃ h b', (k, h) ∈ q ∧ look h bs = some b' ∧ b'.len = b.len ∧ (∀ L L', b'.box L = b.box L') ∧ ∀ L, (b.box L).fz = false ∧ (b.box L).hf = true

theorem InOK.app {bs B B' : List (Nat × B3)} {q q' : List (Nat × Nat)} (h : InOK bs B q) (h' : InOK bs B' q') : InOK bs (B ++ B') (q ++ q') := by
  intro k b hb
  rcases List.mem_append.1 hb with hb | hb
  · obtain ⟨x, y, h1, h2⟩ := h k b hb; exact ⟨x, y, List.mem_append.2 (.inl h1), h2⟩
  · obtain ⟨x, y, h1, h2⟩ := h' k b hb; exact ⟨x, y, List.mem_append.2 (.inr h1), h2⟩

theorem cellArg_ok {bs : List (Nat × B3)} {hd : Nat → Nat → Bool} {L : Nat → Nat} {k : Nat} {c : CK} {v : SV} {x : c.den} {q : List (Nat × Nat)} (h : cellArg bs k c v = some (x, q))
    (hq : ∀ p ∈ q, hd p.1 p.2 = true) (hL : ∀ k' b, (k', b) ∈ c.bx k x → L k' = b.len) :
    v.cellB = true ∧ (∃ ob, argC hd (look · (mapV (B3.box (lens bs)) bs)) (v.c (lens bs)) ((c.sv k x).c L) = some (ob, []) ∧ ∀ p ∈ ob, p) ∧ (c.sv k x).cellB = true ∧ InOK bs (c.bx k x) q := by
  unfold cellArg at h
  split at h
  · rename_i t
    cases ht : t.one with
    | false => rw [ht] at h; cases h
    | true =>
      rw [ht] at h
      simp only [cond, Option.map_eq_some_iff, Prod.mk.injEq] at h
      obtain ⟨y, hy, rfl, rfl⟩ := h
      obtain ⟨q1, ob, q2, q3⟩ := as_sub (L := lens bs) ht hy
      refine ⟨isD_cellB q1, ⟨ob, ?_, q3⟩, ht, fun k b hb => by cases hb⟩
      have hc := isD_c (L := lens bs) q1
      rw [hc] at q2 ⊢
      simp only [CK.sv, SV.c, argC, argD, V.noH, isI, Bool.and_self, cond, subV, q2, Option.map_some]
  · rename_i e t hh
    split at h
    · rename_i e' sh xs hl
      cases he : Nat.beq e e' with
      | false => rw [he] at h; cases h
      | true =>
        rw [he] at h
        simp only [cond, Option.map_eq_some_iff, Prod.mk.injEq] at h
        obtain ⟨y, hy, rfl, rfl⟩ := h
        obtain ⟨rfl, rfl⟩ := sl_to hy
        obtain rfl := Nat.eq_of_beq_eq_true he
        have hle : lens bs hh = xs.length := by simp [lens, hl, B3.len]
        have hk : L k = xs.length := hL k (.arr e sh false xs) (by simp [CK.bx])
        refine ⟨rfl, ⟨[0 = 0, lens bs hh = L k], ?_, by simp [hle, hk]⟩, rfl, fun k' b hb => ?_⟩
        · simp only [CK.sv, SV.c, argC, hq (k, hh) (by simp), cond]
        · simp only [CK.bx, List.mem_singleton, Prod.mk.injEq] at hb
          obtain ⟨rfl, rfl⟩ := hb
          exact ⟨hh, _, by simp, hl, rfl, fun _ _ => rfl, fun _ => ⟨rfl, rfl⟩⟩
    · cases h
  · rename_i e t hh
    split at h
    · rename_i e' cs hl
      cases he : (Nat.beq e e' && cs.all SV.isD) with
      | false => rw [he] at h; cases h
      | true =>
        rw [he] at h
        simp only [cond, Option.map_eq_some_iff, Prod.mk.injEq] at h
        obtain ⟨y, hy, rfl, rfl⟩ := h
        simp only [Bool.and_eq_true] at he
        obtain rfl := Nat.eq_of_beq_eq_true he.1
        obtain ⟨a1, _, _, a4⟩ := all_false hy
        refine ⟨rfl, ⟨[0 = 0, 0 = 0], ?_, by simp⟩, rfl, fun k' b hb => ?_⟩
        · simp only [CK.sv, SV.c, argC, hq (k, hh) (by simp), cond]
        · simp only [CK.bx, List.mem_singleton, Prod.mk.injEq] at hb
          obtain ⟨rfl, rfl⟩ := hb
          refine ⟨hh, _, by simp, hl, rfl, fun L1 L2 => ?_, fun _ => ⟨rfl, rfl⟩⟩
          simp only [B3.box, a1, exp_c, exp_len, a4]
    · cases h
  · rename_i e t hh off len
    split at h
    · rename_i e' sh xs hl
      cases he : Nat.beq e e' with
      | false => rw [he] at h; cases h
      | true =>
        rw [he] at h
        simp only [cond, Option.map_eq_some_iff, Prod.mk.injEq] at h
        obtain ⟨y, hy, rfl, rfl⟩ := h
        obtain ⟨rfl, rfl⟩ := sl_to hy
        obtain rfl := Nat.eq_of_beq_eq_true he
        refine ⟨rfl, ⟨[off = off, len = len], ?_, by simp⟩, rfl, fun k' b hb => ?_⟩
        · simp only [CK.sv, SV.c, argC, hq (k, hh) (by simp), cond]
        · simp only [CK.bx, List.mem_singleton, Prod.mk.injEq] at hb
          obtain ⟨rfl, rfl⟩ := hb
          exact ⟨hh, _, by simp, hl, rfl, fun _ _ => rfl, fun _ => ⟨rfl, rfl⟩⟩
    · cases h
  · cases h

theorem cellsArg_ok {bs : List (Nat × B3)} {hd : Nat → Nat → Bool} {L : Nat → Nat} : ∀ {cs : List CK} {k : Nat} {vs : List SV} {x : DC cs} {q : List (Nat × Nat)}, cellsArg bs k cs vs = some (x, q) →
    (∀ p ∈ q, hd p.1 p.2 = true) → (∀ k' b, (k', b) ∈ bxCs k cs x → L k' = b.len) →
    (∃ ob, argCs hd (look · (mapV (B3.box (lens bs)) bs)) (vs.map (SV.c (lens bs))) ((svCs k cs x).map (SV.c L)) = some (ob, []) ∧ ∀ p ∈ ob, p) ∧ InOK bs (bxCs k cs x) q
  | [], k, [], x, q, h, _, _ => ⟨⟨[], rfl, by simp⟩, fun k b hb => by cases hb⟩
  | [], k, _ :: _, _, _, h, _, _ => by simp [cellsArg] at h
  | [c], k, [], _, _, h, _, _ => by simp [cellsArg] at h
  | [c], k, [v], x, q, h, hq, hL => by
    obtain ⟨_, ⟨ob, h1, h2⟩, _, h3⟩ := cellArg_ok (hd := hd) (L := L) (x := x) h hq hL
    refine ⟨⟨ob ++ [], ?_, by simpa using h2⟩, h3⟩
    simp only [svCs, List.map_cons, List.map_nil, argCs, h1, List.append_nil]
  | [c], k, v :: w :: r, _, _, h, _, _ => by simp [cellsArg] at h
  | c :: d :: r, k, [], _, _, h, _, _ => by simp [cellsArg] at h
  | c :: d :: r, k, v :: vs, x, q, h, hq, hL => by
    simp only [cellsArg] at h
    split at h
    · rename_i x1 q1 y1 q2 h1 h2
      simp only [Option.some.injEq, Prod.mk.injEq] at h
      obtain ⟨rfl, rfl⟩ := h
      obtain ⟨_, ⟨ob, a1, a2⟩, _, a3⟩ := cellArg_ok (hd := hd) (L := L) h1 (fun p hp => hq p (List.mem_append.2 (.inl hp))) (fun k' b hb => hL k' b (by simp only [bxCs]; exact List.mem_append.2 (.inl hb)))
      obtain ⟨⟨ob', b1, b2⟩, b3⟩ := cellsArg_ok (hd := hd) (L := L) h2 (fun p hp => hq p (List.mem_append.2 (.inr hp))) (fun k' b hb => hL k' b (by simp only [bxCs]; exact List.mem_append.2 (.inr hb)))
      refine ⟨⟨ob ++ ob', ?_, fun p hp => (List.mem_append.1 hp).elim (a2 p) (b2 p)⟩, a3.app b3⟩
      simp only [svCs, List.map_cons, argCs, a1, b1, List.append_nil]
    · cases h

theorem argP_ok {bs : List (Nat × B3)} {hd : Nat → Nat → Bool} {L : Nat → Nat} {k : Nat} {p : PK} {v : SV} {g : Bool} {x : p.den} {bor : List Nat} {q : List (Nat × Nat)} (h : argP bs k p v = some (g, x, bor, q)) (hg : g = true)
    (hq : ∀ p ∈ q, hd p.1 p.2 = true) (hL : ∀ k' b, (k', b) ∈ p.bx k x → L k' = b.len) :
    (∃ ob, argB hd (look · (mapV (B3.box (lens bs)) bs)) p.isIm (v.s (lens bs)) ((p.sv k x).v L) = some (ob, bor) ∧ ∀ p ∈ ob, p) ∧ (∀ k ∈ bor, ∃ b, look k (mapV (B3.box (lens bs)) bs) = some b ∧ b.fz = false) ∧ InOK bs (p.bx k x) q ∧ v.alive = true := by
  cases p with
  | im t =>
    simp only [argP, Option.map_eq_some_iff, Prod.mk.injEq] at h
    obtain ⟨⟨g', y, b⟩, h1, rfl, rfl, rfl, rfl⟩ := h
    obtain ⟨ob, a1, a2, a3⟩ := arg3_ok h1 hg
    refine ⟨⟨ob, ?_, a2⟩, a3, (fun k b hb => by cases hb), arg3_alive h1⟩
    simp only [argB, PK.isIm, cond, PK.sv, (sv_v t y).1]
    exact a1
  | one c =>
    simp only [argP, Option.map_eq_some_iff, Prod.mk.injEq] at h
    obtain ⟨⟨y, b⟩, h1, rfl, rfl, rfl, rfl⟩ := h
    obtain ⟨c1, ⟨ob, a1, a2⟩, c2, a3⟩ := cellArg_ok (hd := hd) (L := L) h1 hq hL
    refine ⟨⟨ob, ?_, a2⟩, by simp, a3, alive_of fun e => by subst e; cases c1⟩
    simp only [argB, PK.isIm, cond, PK.sv, (cellB_s c1).1, (cellB_s c2).2]
    exact a1
  | mix cs =>
    cases v with
    | agg vs =>
      simp only [argP] at h
      simp only [Option.map_eq_some_iff, Prod.mk.injEq] at h
      obtain ⟨⟨y, b⟩, h1, rfl, rfl, rfl, rfl⟩ := h
      obtain ⟨⟨ob, a1, a2⟩, a3⟩ := cellsArg_ok (hd := hd) (L := L) h1 hq hL
      refine ⟨⟨ob, ?_, a2⟩, by simp, a3, rfl⟩
      simp only [argB, PK.isIm, cond, PK.sv, SV.s, SV.v]
      exact a1
    | _ => cases h

theorem argsP_ok {bs : List (Nat × B3)} {hd : Nat → Nat → Bool} {L : Nat → Nat} : ∀ {ps : List PK} {k : Nat} {vs : List SV} {g : Bool} {x : HP ps} {bor : List Nat} {q : List (Nat × Nat)}, argsP bs k ps vs = some (g, x, bor, q) → g = true →
    (∀ p ∈ q, hd p.1 p.2 = true) → (∀ k' b, (k', b) ∈ bxPs k ps x → L k' = b.len) →
    (∃ ob, argsB hd (look · (mapV (B3.box (lens bs)) bs)) (ps.map PK.isIm) (vs.map (SV.s (lens bs))) ((svPs k ps x).map (SV.v L)) = some (ob, bor) ∧ ∀ p ∈ ob, p) ∧ (∀ k ∈ bor, ∃ b, look k (mapV (B3.box (lens bs)) bs) = some b ∧ b.fz = false) ∧ InOK bs (bxPs k ps x) q ∧ ∀ v ∈ vs, v.alive = true
  | [], k, [], g, x, bor, q, h, _, _, _ => by
    simp only [argsP, Option.some.injEq, Prod.mk.injEq] at h
    obtain ⟨_, _, rfl, rfl⟩ := h
    exact ⟨⟨[], rfl, by simp⟩, by simp, (fun k b hb => by cases hb), by simp⟩
  | [], k, _ :: _, _, _, _, _, h, _, _, _ => by simp [argsP] at h
  | [p], k, [], _, _, _, _, h, _, _, _ => by simp [argsP] at h
  | [p], k, [v], g, x, bor, q, h, hg, hq, hL => by
    obtain ⟨⟨ob, h1, h2⟩, h3, h4, h5⟩ := argP_ok (hd := hd) (L := L) (x := x) h hg hq hL
    refine ⟨⟨ob ++ [], ?_, by simpa using h2⟩, h3, h4, by simpa using h5⟩
    simp only [svPs, List.map_cons, List.map_nil, argsB, h1, List.append_nil]
  | [p], k, v :: w :: r, _, _, _, _, h, _, _, _ => by simp [argsP] at h
  | p :: p2 :: r, k, [], _, _, _, _, h, _, _, _ => by simp [argsP] at h
  | p :: p2 :: r, k, v :: vs, g, x, bor, q, h, hg, hq, hL => by
    simp only [argsP] at h
    split at h
    · rename_i g1 x1 l1 q1 g2 y1 l2 q2 h1 h2
      simp only [Option.some.injEq, Prod.mk.injEq] at h
      obtain ⟨rfl, rfl, rfl, rfl⟩ := h
      simp only [Bool.and_eq_true] at hg
      obtain ⟨⟨ob, a1, a2⟩, a3, a4, a5⟩ := argP_ok (hd := hd) (L := L) h1 hg.1 (fun p hp => hq p (List.mem_append.2 (.inl hp))) (fun k' b hb => hL k' b (by simp only [bxPs]; exact List.mem_append.2 (.inl hb)))
      obtain ⟨⟨ob', b1, b2⟩, b3, b4, b5⟩ := argsP_ok (hd := hd) (L := L) h2 hg.2 (fun p hp => hq p (List.mem_append.2 (.inr hp))) (fun k' b hb => hL k' b (by simp only [bxPs]; exact List.mem_append.2 (.inr hb)))
      refine ⟨⟨ob ++ ob', ?_, fun p hp => (List.mem_append.1 hp).elim (a2 p) (b2 p)⟩, fun j hj => (List.mem_append.1 hj).elim (a3 j) (b3 j), a4.app b4, by simpa using ⟨a5, b5⟩⟩
      simp only [List.map_cons] at b1
      simp only [svPs, List.map_cons, argsB, a1, b1]
    · cases h

end Go.Ev

/- DERIVED. A state that a template takes may be read as the template's. -/
namespace Go.Ev
open Go

variable {P : Program} {T : Ty}

/-- each reading of x is one of x' -/
def SubS (x x' : S) : Prop := ∀ (w : World) (E : Env) (v : Value), Rs w E v x → Rs w E v x'
def SubC (c c' : C) : Prop := ∀ (w : World) (E : Env) (v : Value), Rc w E v c → Rc w E v c'

structure SubB (b b' : Box) : Prop where
  e : b'.e = b.e
  sz : b'.sz = b.sz
  fz : b'.fz = b.fz
  len : b'.rows.length = b.rows.length
  rows : ∀ (i : Nat) (r' : List C), b'.rows[i]? = some r' → ∃ r, b.rows[i]? = some r ∧ r'.length = r.length ∧ ∀ (j : Nat) (c' : C), r'[j]? = some c' → ∃ c, r[j]? = some c ∧ SubC c c'
  hf : b'.hf = true → ∀ (i : Nat) (r : List C) (j : Nat) (c : C), b'.rows[i]? = some r → r[j]? = some c → ∃ x, c = .i x

theorem BoxAt.sub {w : World} {E : Env} {b b' : Box} {g cap : Nat} (h : BoxAt w E b g cap) (hb : SubB b b') : BoxAt w E b' g cap := by
  obtain ⟨arr, a1, a2, a3, a4, a5, a6, a7, a8, a9⟩ := h
  refine ⟨arr, by rw [hb.e]; exact a1, by rw [hb.sz]; exact a2, by rw [hb.len]; exact a3, a4, fun i r hi => ?_, fun i r j c hi hj => ?_, fun hf i r j c hi hj => hb.hf hf i r j c hi hj, fun hf => a8 (by rw [← hb.fz]; exact hf), a9⟩
  · obtain ⟨r0, h1, h2, _⟩ := hb.rows i r hi
    rw [h2, hb.sz]; exact a5 i r0 h1
  · obtain ⟨r0, h1, _, h3⟩ := hb.rows i r hi
    obtain ⟨c0, h4, h5⟩ := h3 j c hj
    obtain ⟨v, h6, h7⟩ := a6 i r0 j c0 h1 h4
    exact ⟨v, by rw [hb.sz]; exact h6, h5 _ _ _ h7⟩

theorem StRep.sub {Γ : Ctx} {w : World} {E : Env} {s s' : St} {tmps : Array Value} (hs : StRep Γ w E s tmps) (hnt : s'.nt = s.nt)
    (h1 : ∀ t x', look t s'.slots = some x' → ∃ x, look t s.slots = some x ∧ SubS x x')
    (h2 : ∀ h b', look h s'.boxes = some b' → ∃ b, look h s.boxes = some b ∧ SubB b b')
    (h3 : ∀ h b, look h s.boxes = some b → (look h s'.boxes).isSome = true) : StRep Γ w E s' tmps where
  fr := hs.fr
  held := hs.held
  wf := by rw [hnt]; exact hs.wf
  old := hs.old
  nt := by rw [hnt]; exact hs.nt
  tag := hs.tag
  new := hs.new
  boxes := fun h b' hb' => by
    obtain ⟨b, hb, hsub⟩ := h2 h b' hb'
    obtain ⟨g, cap, hβ, hat⟩ := hs.boxes h b hb
    exact ⟨g, cap, by rw [hsub.sz]; exact hβ, hat.sub hsub⟩
  inj := fun h h' b b' g g' z z' hb hb' hz hz' hne => by
    obtain ⟨b0, hb0, _⟩ := h2 h b hb
    obtain ⟨b1, hb1, _⟩ := h2 h' b' hb'
    exact hs.inj h h' b0 b1 g g' z z' hb0 hb1 hz hz' hne
  own := fun h b' g z hb' hz => by
    obtain ⟨b, hb, hsub⟩ := h2 h b' hb'
    rw [hsub.fz]
    exact hs.own h b g z hb hz
  slots := fun t x' hx' => by
    obtain ⟨x, hx, hsub⟩ := h1 t x' hx'
    exact hsub _ _ _ (hs.slots t x hx)
  tsize := hs.tsize
  dom := fun h x hx => by
    obtain ⟨b, hb⟩ := Option.isSome_iff_exists.1 (hs.dom h x hx)
    exact h3 h b hb
  stay := hs.stay
  fzn := fun h b' g z hb' hz hf => by
    obtain ⟨b, hb, hsub⟩ := h2 h b' hb'
    exact hs.fzn h b g z hb hz (by rw [← hsub.fz]; exact hf)

theorem SubC.refl (c : C) : SubC c c := fun _ _ _ h => h
theorem SubS.refl (x : S) : SubS x x := fun _ _ _ h => h
theorem SubS.dead (x : S) : SubS x .dead := fun _ _ _ _ => .dead

theorem subC_sub {c c' : C} (h : ∃ ob, subC c c' = some ob ∧ ∀ p ∈ ob, p) : SubC c c' := by
  obtain ⟨ob, h1, h2⟩ := h
  exact fun w E v hv => subC_sound hv h1 h2

/-- one by one -/
def SubL (cs cs' : List C) : Prop := cs'.length = cs.length ∧ ∀ (j : Nat) (c' : C), cs'[j]? = some c' → ∃ c, cs[j]? = some c ∧ SubC c c'

theorem subCs_len : ∀ (cs cs' : List C) (ob : List Prop), subCs cs cs' = some ob → (∀ p ∈ ob, p) → SubL cs cs'
  | [], [], _, _, _ => ⟨rfl, fun j c hj => by simp at hj⟩
  | [], _ :: _, _, h, _ => by simp [subCs] at h
  | _ :: _, [], _, h, _ => by simp [subCs] at h
  | c :: cs, c' :: cs', ob, h, ho => by
    simp only [subCs] at h
    split at h
    · rename_i p q h1 h2
      obtain rfl := Option.some.inj h
      obtain ⟨i1, i2⟩ := subCs_len cs cs' q h2 (fun x hx => ho x (List.mem_append.2 (.inr hx)))
      refine ⟨by simp [i1], fun j d hj => ?_⟩
      cases j with
      | zero =>
        simp at hj; subst hj
        exact ⟨c, rfl, subC_sub ⟨p, h1, fun x hx => ho x (List.mem_append.2 (.inl hx))⟩⟩
      | succ j => exact i2 j d (by simpa using hj)
    · cases h

theorem SubCs.subL {L : Nat → Nat} {cs : List SV} {ds : List I} (h : SubCs L cs ds) : SubL (cs.map (SV.c L)) (ds.map .i) := by
  obtain ⟨ob, h1, h2⟩ := h
  exact subCs_len _ _ _ h1 h2

theorem SubL.agg {cs cs' : List C} (h : SubL cs cs') : SubS (.v (.agg cs)) (.v (.agg cs')) := by
  intro w E v hv
  cases hv with
  | v hv =>
    cases hv with
    | agg hv =>
      refine .v (.agg ⟨by rw [h.1]; exact hv.1, fun j v c hv' hc => ?_⟩)
      obtain ⟨c0, h1, h2⟩ := h.2 j c hc
      exact h2 _ _ _ (hv.2 j v c0 hv' h1)

theorem SubC.one {c c' : C} (h : SubC c c') : SubS (.v (.one c)) (.v (.one c')) := by
  intro w E v hv
  cases hv with
  | v hv => cases hv with | one hv => exact .v (.one (h _ _ _ hv))

/-- a value that a template takes -/
theorem dec_sub {L : Nat → Nat} {t : TS} {v : SV} {x : t.den} (h : t.dec v = some x) : SubS (v.s L) ((t.enc x).s L) ∧ (v.cellB = true → (t.enc x).cellB = true → SubC (v.c L) ((t.enc x).c L)) := by
  cases t with
  | d t =>
    simp only [TS.dec] at h
    split at h
    · rename_i cs
      split at h
      · rename_i t0
        cases hd : cs.all SV.isD with
        | false => rw [hd] at h; cases h
        | true =>
          rw [hd] at h
          simp only [cond] at h
          obtain ⟨_, _, h3, _⟩ := all_false h
          have e : (SV.rf cs).c L = (SV.d (.ref t0) x).c L := by
            simp only [SV.c, h3 hd, Sh.cells, hd1]
          have hc : SubC ((SV.rf cs).c L) ((TS.enc (.d (.ref t0)) x).c L) := by
            show SubC _ ((SV.d (.ref t0) x).c L)
            rw [← e]; exact SubC.refl _
          exact ⟨hc.one, fun _ _ => hc⟩
      · cases h
    · rename_i hnr
      cases ht : t.one with
      | false => rw [ht] at h; cases h
      | true =>
        rw [ht] at h
        obtain ⟨q1, q2⟩ := as_sub (L := L) ht h
        have hc : SubC (v.c L) ((TS.enc (.d t) x).c L) := subC_sub q2
        have e : v.s L = .v (.one (v.c L)) := by cases v <;> first | rfl | cases q1
        refine ⟨?_, fun _ _ => hc⟩
        rw [e]
        exact hc.one
  | ag t =>
    simp only [TS.dec] at h
    split at h
    · rename_i cs
      obtain ⟨h1, h2⟩ := all_true (L := L) h
      refine ⟨?_, fun hc => by cases hc⟩
      show SubS (.v (.agg (cs.map (SV.c L)))) (.v (.agg ((t.exp x).map (SV.c L))))
      rw [exp_c]
      exact h1.subL.agg
    · cases h
  | k c =>
    simp only [TS.dec] at h
    cases hs : c.same v with
    | false => rw [hs] at h; cases h
    | true =>
      show SubS (v.s L) (c.s L) ∧ (v.cellB = true → c.cellB = true → SubC (v.c L) (c.c L))
      unfold SV.same at hs
      split at hs
      · obtain rfl := Nat.eq_of_beq_eq_true hs; exact ⟨SubS.refl _, fun _ _ => SubC.refl _⟩
      · simp only [Bool.and_eq_true] at hs
        obtain rfl := Nat.eq_of_beq_eq_true hs.1.1
        obtain rfl := Nat.eq_of_beq_eq_true hs.1.2
        obtain rfl := Nat.eq_of_beq_eq_true hs.2
        exact ⟨SubS.refl _, fun _ _ => SubC.refl _⟩
      · exact ⟨SubS.dead _, fun _ h => by cases h⟩
      · rename_i t x' t' y
        simp only [Bool.and_eq_true] at hs
        obtain rfl := Sh.eqb_eq hs.2
        have : SV.d t x' = SV.d t y := by
          split at hs
          · rfl
          · rfl
          · exact absurd hs.1 (by simp)
        rw [this]
        exact ⟨SubS.refl _, fun _ _ => SubC.refl _⟩
      · cases hs
  | hs h' =>
    simp only [TS.dec] at h
    split at h
    · rename_i k o l
      cases hk : Nat.beq h' k with
      | false => rw [hk] at h; cases h
      | true =>
        rw [hk] at h
        obtain rfl := Nat.eq_of_beq_eq_true hk
        simp only [cond, Option.some.injEq] at h
        subst h
        exact ⟨SubS.refl _, fun _ _ => SubC.refl _⟩
    · cases h

theorem decS_len : ∀ {l : List (Nat × TS)} {sl : List (Nat × SV)} {x : DK TS TS.den l}, decS l sl = some x → ∀ (L : Nat → Nat) (k : Nat) (y : S), look k (mapV (SV.s L) (encS l x)) = some y → ∃ z, look k (mapV (SV.s L) sl) = some z ∧ SubS z y
  | [], [], _, _, _, k, y, h => by simp [encS, mapV, look] at h
  | [], _ :: _, _, h, _, _, _, _ => by simp [decS] at h
  | _ :: _, [], _, h, _, _, _, _ => by simp [decS] at h
  | (k, t) :: r, (j, v) :: vs, x, h, L, i, y, hy => by
    simp only [decS] at h
    cases hk : Nat.beq k j with
    | false => rw [hk] at h; cases h
    | true =>
      rw [hk] at h
      obtain rfl := Nat.eq_of_beq_eq_true hk
      simp only [cond] at h
      split at h
      · rename_i a as h1 h2
        obtain rfl := Option.some.inj h
        simp only [encS, mapV, List.map_cons, look] at hy ⊢
        cases hb : Nat.beq k i with
        | true =>
          rw [hb] at hy
          simp only [cond, Option.some.injEq] at hy
          subst hy
          exact ⟨_, rfl, (dec_sub h1).1⟩
        | false =>
          rw [hb] at hy
          exact decS_len h2 L i y hy
      · cases h

theorem decL_sub {L : Nat → Nat} : ∀ {l : List TS} {vs : List SV} {x : DL l}, decL l vs = some x → vs.all SV.cellB = true → (encL l x).all SV.cellB = true → SubL (vs.map (SV.c L)) ((encL l x).map (SV.c L))
  | [], [], _, _, _, _ => ⟨rfl, fun j c h => by simp [encL] at h⟩
  | [], _ :: _, _, h, _, _ => by simp [decL] at h
  | _ :: _, [], _, h, _, _ => by simp [decL] at h
  | t :: r, v :: vs, x, h, hc, hc' => by
    simp only [decL] at h
    split at h
    · rename_i a as h1 h2
      obtain rfl := Option.some.inj h
      simp only [List.all_cons, Bool.and_eq_true, encL] at hc hc'
      obtain ⟨i1, i2⟩ := decL_sub (L := L) h2 hc.2 hc'.2
      refine ⟨by simpa [encL] using i1, fun j c hj => ?_⟩
      cases j with
      | zero =>
        simp [encL] at hj; subst hj
        exact ⟨_, rfl, (dec_sub h1).2 hc.1 hc'.1⟩
      | succ j => exact i2 j c (by simpa [encL] using hj)
    · cases h

theorem boxdec_sub {L : Nat → Nat} {t : TB} {b : B3} {x : t.den} (h : t.dec b = some x) : SubB (b.box L) ((t.enc x).box L) ∧ (t.enc x).len = b.len := by
  cases t with
  | arr e t fz =>
    simp only [TB.dec] at h
    split at h
    · rename_i e' t' fz' xs
      cases hc : (Nat.beq e e' && (fz == fz')) with
      | false => rw [hc] at h; cases h
      | true =>
        rw [hc] at h
        simp only [Bool.and_eq_true] at hc
        obtain rfl := Nat.eq_of_beq_eq_true hc.1
        obtain rfl := eq_of_beq hc.2
        obtain ⟨rfl, rfl⟩ := sl_to h
        refine ⟨⟨rfl, rfl, rfl, rfl, fun i r hi => ⟨r, hi, rfl, fun j c hj => ⟨c, hj, SubC.refl c⟩⟩, fun _ i r j c hi hj => ?_⟩, rfl⟩
        simp only [TB.enc, B3.box, List.getElem?_map] at hi
        obtain ⟨y, _, rfl⟩ := Option.map_eq_some_iff.1 hi
        rw [List.getElem?_map] at hj
        obtain ⟨z, _, rfl⟩ := Option.map_eq_some_iff.1 hj
        exact ⟨z, rfl⟩
    · rename_i e' fz' n cs
      cases hc : (Nat.beq e e' && (fz == fz')) with
      | false => rw [hc] at h; cases h
      | true =>
        rw [hc] at h
        simp only [cond, Option.map_eq_some_iff] at h
        obtain ⟨y, hy, rfl⟩ := h
        simp only [Bool.and_eq_true] at hc
        obtain rfl := Nat.eq_of_beq_eq_true hc.1
        obtain rfl := eq_of_beq hc.2
        obtain ⟨h1, h2⟩ := all_true (L := L) hy
        have hL := h1.subL
        have hz : cs.length = t.size := by have := hL.1; simp [Sh.cells_len] at this; omega
        refine ⟨⟨rfl, by simp [TB.enc, B3.box, hz], rfl, by simp [TB.enc, B3.box], fun i r hi => ?_, fun _ i r j c hi hj => ?_⟩, by simp [TB.enc, B3.len]⟩
        · simp only [TB.enc, B3.box, List.map_replicate, List.getElem?_replicate] at hi
          split at hi
          · rename_i hlt
            obtain rfl := Option.some.inj hi
            exact ⟨cs.map (SV.c L), by simp [B3.box, List.getElem?_replicate, hlt], hL.1, hL.2⟩
          · cases hi
        · simp only [TB.enc, B3.box, List.map_replicate, List.getElem?_replicate] at hi
          split at hi
          · obtain rfl := Option.some.inj hi
            rw [List.getElem?_map] at hj
            obtain ⟨z, _, rfl⟩ := Option.map_eq_some_iff.1 hj
            exact ⟨z, rfl⟩
          · cases hi
    · cases h
  | var e hf fz cs =>
    simp only [TB.dec] at h
    split at h
    · rename_i e' hf' fz' vs
      cases hc : (Nat.beq e e' && (hf == hf') && (fz == fz') && vs.all SV.cellB) with
      | false => rw [hc] at h; cases h
      | true =>
        rw [hc] at h
        simp only [cond] at h
        simp only [Bool.and_eq_true] at hc
        obtain rfl := Nat.eq_of_beq_eq_true hc.1.1.1
        obtain rfl := eq_of_beq hc.1.1.2
        obtain rfl := eq_of_beq hc.1.2
        split at h
        · rename_i y hy
          cases he : ((encL cs y).all SV.cellB && (!hf || (encL cs y).all SV.imm)) with
          | false => rw [he] at h; cases h
          | true =>
            rw [he] at h
            obtain rfl := Option.some.inj h
            simp only [Bool.and_eq_true, Bool.or_eq_true, Bool.not_eq_true'] at he
            have hL := decL_sub (L := L) hy hc.2 he.1
            refine ⟨⟨rfl, by have := hL.1; simpa [TB.enc, B3.box] using this, rfl, rfl, fun i r hi => ?_, fun hf' i r j c hi hj => ?_⟩, rfl⟩
            · cases i with
              | zero =>
                simp [TB.enc, B3.box] at hi; subst hi
                exact ⟨vs.map (SV.c L), rfl, hL.1, hL.2⟩
              | succ i => simp [TB.enc, B3.box] at hi
            · have hf'' : hf = true := hf'
              have hi' : (encL cs y).all SV.imm = true := by
                rcases he.2 with h0 | h0
                · rw [hf''] at h0; cases h0
                · exact h0
              cases i with
              | zero =>
                simp [TB.enc, B3.box] at hi; subst hi
                rw [List.getElem?_map] at hj
                obtain ⟨z, hz, rfl⟩ := Option.map_eq_some_iff.1 hj
                have := imm_isI (L := L) (List.all_eq_true.1 hi' z (List.mem_of_getElem? hz))
                cases hzc : z.c L with
                | i q => exact ⟨q, rfl⟩
                | hs => rw [hzc] at this; cases this
                | hp => rw [hzc] at this; cases this
              | succ i => simp [TB.enc, B3.box] at hi
        · cases h
    · cases h

theorem decB_sub {L : Nat → Nat} : ∀ {l : List (Nat × TB)} {bs : List (Nat × B3)} {x : DK TB TB.den l}, decB l bs = some x →
    (∀ k b', look k (mapV (B3.box L) (encB l x)) = some b' → ∃ b, look k (mapV (B3.box L) bs) = some b ∧ SubB b b') ∧ (∀ k b, look k (mapV (B3.box L) bs) = some b → (look k (mapV (B3.box L) (encB l x))).isSome = true) ∧ lens (encB l x) = lens bs
  | [], [], _, _ => ⟨fun k b h => by simp [encB, mapV, look] at h, fun k b h => by simp [mapV, look] at h, rfl⟩
  | [], _ :: _, _, h => by simp [decB] at h
  | _ :: _, [], _, h => by simp [decB] at h
  | (k, t) :: r, (j, v) :: vs, x, h => by
    simp only [decB] at h
    cases hk : Nat.beq k j with
    | false => rw [hk] at h; cases h
    | true =>
      rw [hk] at h
      obtain rfl := Nat.eq_of_beq_eq_true hk
      simp only [cond] at h
      split at h
      · rename_i a as h1 h2
        obtain rfl := Option.some.inj h
        obtain ⟨i1, i2, i3⟩ := decB_sub (L := L) h2
        obtain ⟨b1, b2⟩ := boxdec_sub (L := L) h1
        refine ⟨fun i b hb => ?_, fun i b hb => ?_, ?_⟩
        · simp only [encB, mapV, List.map_cons, look] at hb ⊢
          cases hc : Nat.beq k i with
          | true => rw [hc] at hb; simp only [cond, Option.some.injEq] at hb; subst hb; exact ⟨_, rfl, b1⟩
          | false => rw [hc] at hb; exact i1 i b hb
        · simp only [encB, mapV, List.map_cons, look] at hb ⊢
          cases hc : Nat.beq k i with
          | true => rfl
          | false => rw [hc] at hb; exact i2 i b hb
        · funext i
          have e := congrFun i3 i
          simp only [lens, encB, look] at e ⊢
          cases hc : Nat.beq k i with
          | true => exact b2
          | false => exact e
      · cases h

theorem keep_look {X : List (Nat × TS)} : ∀ {sl : List (Nat × SV)} {k : Nat} {x : SV}, look k (keepKeys X sl) = some x → look k sl = some x
  | [], k, x, h => by cases h
  | (j, y) :: r, k, x, h => by
    simp only [keepKeys, List.filter_cons] at h
    have gone : (X.any fun q => Nat.beq q.1 j) = false → ∀ q : List (Nat × SV), look j (q.filter fun p => X.any fun z => Nat.beq z.1 p.1) = none := by
      intro hc q
      induction q with
      | nil => rfl
      | cons p' r' ih' =>
        simp only [List.filter_cons]
        split
        · rename_i hc'
          simp only [look]
          cases hb' : Nat.beq p'.1 j with
          | true => have := Nat.eq_of_beq_eq_true hb'; rw [this, hc] at hc'; cases hc'
          | false => exact ih'
        · exact ih'
    simp only [look]
    cases hb : Nat.beq j k with
    | true =>
      have := Nat.eq_of_beq_eq_true hb
      subst this
      cases hc : (X.any fun q => Nat.beq q.1 j) with
      | true =>
        rw [if_pos hc] at h
        simp only [look, hb, cond] at h
        exact h
      | false =>
        rw [if_neg (by rw [hc]; exact Bool.false_ne_true), gone hc] at h
        cases h
    | false =>
      simp only [cond]
      split at h
      · simp only [look, hb, cond] at h
        exact keep_look h
      · exact keep_look h

theorem del_mapV {α β : Type} (f : α → β) (h : Nat) : ∀ l : List (Nat × α), del h (mapV f l) = mapV f (del h l)
  | [] => rfl
  | (j, x) :: r => by
    have ih := del_mapV f h r
    show (bif Nat.beq j h then del h (mapV f r) else (j, f x) :: del h (mapV f r)) = mapV f (bif Nat.beq j h then del h r else (j, x) :: del h r)
    cases Nat.beq j h with
    | true => exact ih
    | false =>
      show (j, f x) :: del h (mapV f r) = (j, f x) :: mapV f (del h r)
      rw [ih]

theorem dels3_ok {nt : Nat} : ∀ (l : List Nat) {s s' : St3}, dels3 l s = some s' → delBoxes l (s.st nt) = some (s'.st nt)
  | [], s, s', h => by obtain rfl := Option.some.inj h; rfl
  | k :: r, s, s', h => by
    simp only [dels3] at h
    cases hc : (Nat.blt k 1000 && s.clean k) with
    | false => rw [hc] at h; cases h
    | true =>
      rw [hc] at h
      simp only [cond] at h
      simp only [Bool.and_eq_true] at hc
      have hcl := hc.2
      unfold St3.clean at hcl
      simp only [Bool.and_eq_true, List.all_eq_true] at hcl
      have ih := dels3_ok (nt := nt) r h
      have hd : (s.st nt).delBox k = some (({ s with boxes := del k s.boxes } : St3).st nt) := by
        unfold St.delBox
        have h1 : (s.st nt).slots.all (fun p => !p.2.men k) = true := by
          simp only [St3.st, mapV, List.all_map, List.all_eq_true, Function.comp, men_s]
          exact hcl.1
        have h2 : cleanB k (s.st nt).boxes = true := by
          simp only [cleanB, St3.st, mapV, List.all_map, List.all_eq_true, Function.comp, Bool.or_eq_true, Bool.not_eq_true']
          intro p hp
          exact .inr (box_men (by simpa using hcl.2 p hp))
        rw [hc.1, h1, h2]
        have hL : ∀ j, j ≠ k → lens s.boxes j = lens (del k s.boxes) j := fun j hj => by
          unfold lens; rw [look_del_ne hj]
        simp only [Bool.and_self, cond, Option.some.injEq, St3.st]
        congr 1
        · exact mapV_congr fun p hp => s_congr hL (by simpa using hcl.1 p hp)
        · rw [← del_mapV]
          congr 1
          exact mapV_congr fun p hp => box_congr hL (by simpa using hcl.2 p hp)
      simp only [delBoxes, hd]
      exact ih

/-- a state that a template takes may be read as the template's -/
theorem Tm.dec1_ok {X : Tm} {s : St3} {x : X.den} (h : X.dec1 s = some x) {nt : Nat} {Γ : Ctx} {w : World} {E : Env} {tmps : Array Value} (hs : StRep Γ w E (s.st nt) tmps) : ∃ E', StRep Γ w E' ((X.enc x).st nt) tmps := by
  unfold Tm.dec1 at h
  split at h
  · rename_i s2 hd
    split at h
    · rename_i a b h1 h2
      obtain rfl := Option.some.inj h
      have hs1 : StRep Γ w E (({ s with slots := keepKeys X.slots s.slots } : St3).st nt) tmps := hs.less fun t y hy => by
        simp only [St3.st, look_mapV] at hy ⊢
        obtain ⟨z, hz, rfl⟩ := Option.map_eq_some_iff.1 hy
        rw [keep_look hz]; rfl
      obtain ⟨E', hs2⟩ := delBoxes_sound _ hs1 (dels3_ok _ hd)
      obtain ⟨b1, b2, b3⟩ := decB_sub (L := lens s2.boxes) h2
      refine ⟨E', hs2.sub rfl (fun t y hy => ?_) (fun k b' hb => ?_) (fun k b hb => ?_)⟩
      · simp only [Tm.enc, St3.st] at hy
        rw [b3] at hy
        exact decS_len h1 _ t y hy
      · simp only [Tm.enc, St3.st] at hb
        rw [b3] at hb
        exact b1 k b' hb
      · simp only [Tm.enc, St3.st]
        rw [b3]
        exact b2 k b hb
    · cases h
  · cases h

theorem settleQ_ok {nt : Nat} {Γ : Ctx} {w : World} {tmps : Array Value} : ∀ {l : List (Nat × Sh)} {s s' : St3} {E : Env}, settleQ l s = some s' → StRep Γ w E (s.st nt) tmps → ∃ E', StRep Γ w E' (s'.st nt) tmps
  | [], s, s', E, h, hs => by
    simp only [settleQ, Option.some.injEq] at h
    subst h
    exact ⟨E, hs⟩
  | (t, sh) :: r, s, s', E, h, hs => by
    have go : ∀ {q}, settle3 s t sh = some q → (bif q.1 then settleQ r q.2 else none) = some s' → ∃ E', StRep Γ w E' (s'.st nt) tmps := by
      rintro ⟨g, s1⟩ h1 h2
      cases g with
      | false => cases h2
      | true =>
        obtain ⟨x', ob, q1, q2⟩ := settle3_ok (nt := nt) h1 rfl
        obtain ⟨E1, hs1⟩ := settles_sound [(t, x')] (s' := s1.st nt) (obs := ob ++ []) hs (by simp only [settles, q1]) (fun p hp => by simp only [List.append_nil] at hp; exact q2 p hp)
        exact settleQ_ok (l := r) h2 hs1
    simp only [settleQ] at h
    split at h
    · exact settleQ_ok (l := r) h hs
    · split at h
      · rename_i hq; exact go hq h
      · cases h

theorem Tm.dec_ok {X : Tm} {s : St3} {x : X.den} (h : X.dec s = some x) {nt : Nat} {Γ : Ctx} {w : World} {E : Env} {tmps : Array Value} (hs : StRep Γ w E (s.st nt) tmps) : ∃ E', StRep Γ w E' ((X.enc x).st nt) tmps := by
  unfold Tm.dec at h
  split at h
  · rename_i s1 h1
    obtain ⟨E1, hs1⟩ := settleQ_ok h1 hs
    exact Tm.dec1_ok h hs1
  · cases h

end Go.Ev

/- DERIVED. A call that is handed boxes or hands out boxes, decided. -/
namespace Go.Ev
open Go

variable {P : Program} {T : Ty}

def SV.renC (σ : Nat → Nat) : SV → SV
  | .hw h => .hw (σ h)
  | .hs h o l => .hs (σ h) o l
  | .hp h r c => .hp (σ h) r c
  | x => x
def SV.renV (σ : Nat → Nat) : SV → SV
  | .agg cs => .agg (cs.map (SV.renC σ))
  | x => x.renC σ
def SV.ren3 (σ : Nat → Nat) : SV → SV
  | .tup cs => .tup (cs.map (SV.renV σ))
  | x => x.renV σ
def SV.okC (p : Nat → Bool) : SV → Bool
  | .hw h => p h
  | .hs h _ _ => p h
  | .hp h _ _ => p h
  | _ => true
def SV.okV (p : Nat → Bool) : SV → Bool
  | .agg cs => cs.all (SV.okC p)
  | x => x.okC p
def SV.ok3 (p : Nat → Bool) : SV → Bool
  | .tup cs => cs.all (SV.okV p)
  | x => x.okV p
def SV.clC : SV → Bool
  | .d t _ => t.closed
  | .rf _ => false
  | .dead => false
  | _ => true
def SV.clV : SV → Bool
  | .agg cs => cs.all SV.clC
  | x => x.clC
def SV.cl3 : SV → Bool
  | .tup cs => cs.all SV.clV
  | x => x.clV
def B3.cl : B3 → Bool
  | .arr _ t _ _ => t.closed
  | .rep _ _ _ cs => cs.all SV.clC
  | .var _ _ _ cs => cs.all SV.clC
def B3.plain : B3 → Bool
  | .arr _ _ _ _ => true
  | .var _ hf _ cs => hf && cs.all SV.isD
  | _ => false

section
variable {L L' : Nat → Nat} {σ : Nat → Nat} {p : Nat → Bool}
theorem renC_c (hL : ∀ k, p k = true → L (σ k) = L' k) {x : SV} (ho : x.okC p = true) : (x.renC σ).c L = (x.c L').ren σ := by
  cases x <;> first | rfl | skip
  simp only [SV.renC, SV.c, C.ren]
  rw [hL _ ho]
theorem renV_v (hL : ∀ k, p k = true → L (σ k) = L' k) {x : SV} (ho : x.okV p = true) : (x.renV σ).v L = (x.v L').ren σ := by
  cases x with
  | agg cs =>
    simp only [SV.renV, SV.v, V.ren, List.map_map]
    congr 1
    exact List.map_congr_left fun y hy => renC_c hL (List.all_eq_true.1 ho y hy)
  | hw h => exact congrArg V.one (renC_c (x := .hw h) hL ho)
  | _ => rfl
theorem ren3_s (hL : ∀ k, p k = true → L (σ k) = L' k) {x : SV} (ho : x.ok3 p = true) : (x.ren3 σ).s L = (x.s L').ren σ := by
  cases x with
  | tup cs =>
    simp only [SV.ren3, SV.s, S.ren, List.map_map]
    congr 1
    exact List.map_congr_left fun y hy => renV_v hL (List.all_eq_true.1 ho y hy)
  | hw h => exact congrArg S.v (renV_v (x := .hw h) hL ho)
  | agg cs => exact congrArg S.v (renV_v (x := .agg cs) hL ho)
  | _ => rfl
theorem okC_c {x : SV} (ho : x.okC p = true) : (x.c L).okH p = true := by cases x <;> first | rfl | exact ho
theorem okV_v {x : SV} (ho : x.okV p = true) : (x.v L).okH p = true := by
  cases x with
  | agg cs =>
    simp only [SV.v, V.okH, List.all_map, List.all_eq_true, Function.comp]
    exact fun y hy => okC_c (List.all_eq_true.1 ho y hy)
  | hw h => exact ho
  | hs h o l => exact ho
  | hp h r c => exact ho
  | _ => rfl
theorem ok3_s {x : SV} (ho : x.ok3 p = true) : (x.s L).okH p = true := by
  cases x with
  | tup cs =>
    simp only [SV.s, S.okH, List.all_map, List.all_eq_true, Function.comp]
    exact fun y hy => okV_v (List.all_eq_true.1 ho y hy)
  | agg cs => exact okV_v (x := .agg cs) ho
  | hw h => exact ho
  | hs h o l => exact ho
  | hp h r c => exact ho
  | _ => rfl
theorem hd1_closed {l : List I} (h : ∀ c ∈ l, IClosed c) : IClosed (hd1 l) := by
  cases l with
  | nil => exact .lit _
  | cons c r => exact h c (by simp)
theorem clC_c {x : SV} (h : x.clC = true) : (x.c L).allI IClosed := by
  cases x with
  | d t y => exact hd1_closed (closed_I t y h)
  | rf => cases h
  | dead => cases h
  | hw => trivial
  | hs => trivial
  | hp => trivial
  | _ => exact .lit _
theorem clV_v {x : SV} (h : x.clV = true) : (x.v L).allI IClosed := by
  cases x with
  | agg cs =>
    simp only [SV.v, V.allI, List.getElem?_map]
    intro j c hc
    obtain ⟨y, hy, rfl⟩ := Option.map_eq_some_iff.1 hc
    exact clC_c (all_get h hy)
  | d t y => exact clC_c (L := L) (x := .d t y) h
  | rf cs => exact clC_c (L := L) (x := .rf cs) h
  | hw k => exact clC_c (L := L) (x := .hw k) h
  | hs k o l => exact clC_c (L := L) (x := .hs k o l) h
  | hp k o l => exact clC_c (L := L) (x := .hp k o l) h
  | tup cs => exact clC_c (L := L) (x := .tup cs) h
  | dead => exact clC_c (L := L) (x := .dead) h
theorem cl3_s {x : SV} (h : x.cl3 = true) : (x.s L).allI IClosed := by
  cases x with
  | tup cs =>
    simp only [SV.s, S.allI, List.getElem?_map]
    intro j c hc
    obtain ⟨y, hy, rfl⟩ := Option.map_eq_some_iff.1 hc
    exact clV_v (all_get h hy)
  | dead => trivial
  | d t y => exact clV_v (L := L) (x := .d t y) h
  | rf cs => exact clV_v (L := L) (x := .rf cs) h
  | hw k => exact clV_v (L := L) (x := .hw k) h
  | hs k o l => exact clV_v (L := L) (x := .hs k o l) h
  | hp k o l => exact clV_v (L := L) (x := .hp k o l) h
  | agg cs => exact clV_v (L := L) (x := .agg cs) h
theorem cl_box {b : B3} (h : b.cl = true) : ∀ (i : Nat) (q : List C) (j : Nat) (c : C), (b.box L).rows[i]? = some q → q[j]? = some c → c.allI IClosed := by
  intro i q j c hq hc
  cases b with
  | arr e t fz xs =>
    simp only [B3.box, List.getElem?_map] at hq
    obtain ⟨y, hy, rfl⟩ := Option.map_eq_some_iff.1 hq
    rw [List.getElem?_map] at hc
    obtain ⟨z, hz, rfl⟩ := Option.map_eq_some_iff.1 hc
    exact closed_I t y h z (List.mem_of_getElem? hz)
  | rep e fz n cs =>
    simp only [B3.box, List.getElem?_replicate] at hq
    split at hq
    · obtain rfl := Option.some.inj hq
      rw [List.getElem?_map] at hc
      obtain ⟨z, hz, rfl⟩ := Option.map_eq_some_iff.1 hc
      exact clC_c (all_get h hz)
    · cases hq
  | var e hf fz cs =>
    simp only [B3.box] at hq
    cases i with
    | zero =>
      obtain rfl := Option.some.inj hq
      rw [List.getElem?_map] at hc
      obtain ⟨z, hz, rfl⟩ := Option.map_eq_some_iff.1 hc
      exact clC_c (all_get h hz)
    | succ i => simp at hq
theorem plain_box {b : B3} (h : b.plain = true) : b.box L = b.box L' ∧ (b.box L).hf = true := by
  cases b with
  | arr => exact ⟨rfl, rfl⟩
  | rep => cases h
  | var e hf fz cs =>
    simp only [B3.plain, Bool.and_eq_true] at h
    exact ⟨by simp only [B3.box]; rw [isD_congr h.2], h.1⟩
end

theorem c_congr2 {L L' : Nat → Nat} {x : SV} (hL : ∀ k, x.menC k = true → L k = L' k) : x.c L = x.c L' := by
  cases x <;> first | rfl | skip
  rename_i k
  simp only [SV.c]
  rw [hL k (by simp [SV.menC])]
theorem v_congr2 {L L' : Nat → Nat} {x : SV} (hL : ∀ k, x.menV k = true → L k = L' k) : x.v L = x.v L' := by
  cases x with
  | agg cs =>
    simp only [SV.v]
    congr 1
    exact List.map_congr_left fun y hy => c_congr2 fun k hk => hL k (List.any_eq_true.2 ⟨y, hy, hk⟩)
  | hw k => exact congrArg V.one (c_congr2 (x := .hw k) hL)
  | _ => rfl
theorem s_congr2 {L L' : Nat → Nat} {x : SV} (hL : ∀ k, x.men k = true → L k = L' k) : x.s L = x.s L' := by
  cases x with
  | tup cs =>
    simp only [SV.s]
    congr 1
    exact List.map_congr_left fun y hy => v_congr2 fun k hk => hL k (List.any_eq_true.2 ⟨y, hy, hk⟩)
  | hw k => exact congrArg S.v (v_congr2 (x := .hw k) hL)
  | agg cs => exact congrArg S.v (v_congr2 (x := .agg cs) hL)
  | _ => rfl
theorem box_congr2 {L L' : Nat → Nat} {b : B3} (hL : ∀ k, b.men k = true → L k = L' k) : b.box L = b.box L' := by
  cases b with
  | arr => rfl
  | rep e fz n cs =>
    simp only [B3.box]
    rw [List.map_congr_left fun y hy => c_congr2 fun k hk => hL k (List.any_eq_true.2 ⟨y, hy, hk⟩)]
  | var e hf fz cs =>
    simp only [B3.box]
    rw [List.map_congr_left fun y hy => c_congr2 fun k hk => hL k (List.any_eq_true.2 ⟨y, hy, hk⟩)]

def CK.backs : CK → List Nat
  | .back j => [j]
  | _ => []
def PK.backs : PK → List Nat
  | .im _ => []
  | .one c => c.backs
  | .mix cs => cs.flatMap CK.backs

def callB3 (f0 : Nat) (ts : List PK) (o : Oper) (s : St3) : Option (Bool × HP ts × List Nat × List (Nat × Nat)) :=
  match o.op with
  | .call c => match c.callee with
    | .value f => match callee3 (s.val f) with
      | some (fid, caps) => bif Nat.beq fid f0 then argsP s.boxes 1000 ts (c.args.toList.map s.val ++ caps) else none
      | none => none
    | _ => none
  | _ => none

def keys3 (rs : List PK) : List Nat := (ownsP 0 rs).map (·.1)
def rn3 (E : Ent2) (hb : Nat) (q : List (Nat × Nat)) : List (Nat × Nat) := (keys3 E.rs).map (fun k => (k, hb + k)) ++ q
def kill3 (E : Ent2) (rn : List (Nat × Nat)) : List Nat := (E.rs.flatMap PK.backs).map (fwd rn)
def lenOK (B bs : List (Nat × B3)) (kill : List Nat) : List (Nat × Nat) → Bool
  | [] => true
  | p :: r => bif kill.any (Nat.beq p.2) then lenOK B bs kill r else Nat.beq (lens B p.1) (lens bs p.2) && lenOK B bs kill r

def chk3 (E : Ent2) (hb : Nat) (s : St3) (x : HP E.ts) (bor : List Nat) (q : List (Nat × Nat)) (y : HR E.rs (ownsP 1000 E.ts)) : Bool :=
  goodRn (rn3 E hb q) && sameKeys (outBx E y) (rn3 E hb q) && sameKeys (inBx E x) q && (inBx E x).all (fun p => Nat.ble 1000 p.1) && (outBx E y).all (fun p => p.2.plain) &&
  (keys3 E.rs).all (fun k => Nat.blt (hb + k) 1000 && (look (hb + k) s.boxes).isNone && s.clean (hb + k)) && q.all (fun p => !bor.any (Nat.beq p.2)) &&
  (bor.isEmpty || ((joinSV (svPs 0 E.rs (resOf y))).cl3 && (outBx E y).all (fun p => p.2.cl))) && (joinSV (svPs 0 E.rs (resOf y))).ok3 (fun k => (look k (outBx E y)).isSome) &&
  (kill3 E (rn3 E hb q)).all (fun h => s.boxes.all (fun p => !p.2.men h))

def after3 (E : Ent2) (hb : Nat) (s : St3) (q : List (Nat × Nat)) (y : HR E.rs (ownsP 1000 E.ts)) : SV × St3 :=
  ((joinSV (svPs 0 E.rs (resOf y))).ren3 (fwd (rn3 E hb q)),
    ⟨mapV (fun x => bif (kill3 E (rn3 E hb q)).any (fun h => x.men h) then .dead else x) s.slots, insAll (outBx E y) (rn3 E hb q) s.boxes⟩)

theorem goodRn_right : ∀ {a b : List (Nat × Nat)}, goodRn (a ++ b) = true → goodRn b = true
  | [], _, h => h
  | (k, h') :: r, b, h => goodRn_right (goodRn_cons h).2

theorem lenOK_mem {B bs : List (Nat × B3)} {kill : List Nat} : ∀ {q : List (Nat × Nat)}, lenOK B bs kill q = true → ∀ p ∈ q, kill.any (Nat.beq p.2) = true ∨ lens B p.1 = lens bs p.2
  | [], _, p, hp => by cases hp
  | a :: r, h, p, hp => by
    simp only [lenOK] at h
    cases hk : kill.any (Nat.beq a.2) with
    | true =>
      rw [hk] at h
      rcases List.mem_cons.1 hp with rfl | hp
      · exact .inl hk
      · exact lenOK_mem h p hp
    | false =>
      rw [hk] at h
      simp only [cond, Bool.and_eq_true] at h
      rcases List.mem_cons.1 hp with rfl | hp
      · exact .inr (Nat.eq_of_beq_eq_true h.1)
      · exact lenOK_mem h.2 p hp

theorem look_mem3 {β : Type} {k : Nat} {b : β} {l : List (Nat × β)} (h : look k l = some b) : (k, b) ∈ l := look_memR h

theorem callB3_ok {E : Ent2} {hb : Nat} {o : Oper} {s s' : St3} {nt : Nat} {x : HP E.ts} {bor : List Nat} {q : List (Nat × Nat)} {y : HR E.rs (ownsP 1000 E.ts)} {K : Cfg}
    (h : callB3 E.f E.ts o s = some (true, x, bor, q)) (hc : chk3 E hb s x bor q y = true) (hg : lenOK (outBx E y) s.boxes (kill3 E (rn3 E hb q)) q = true) (hF : E.Den P nt x y)
    (hp : (after3 E hb s q y).2.put3 K o.dst (after3 E hb s q y).1 = some s') :
    ∃ D obs, step1 P T K o D (s.st nt) = some (s'.st nt, obs) ∧ ∀ p ∈ obs, p := by
  obtain ⟨dst, op, type, pos, aft, guard⟩ := o
  unfold callB3 at h
  simp only at h
  split at h
  case h_2 => cases h
  rename_i c
  split at h
  case h_2 => cases h
  rename_i f hf
  split at h
  case h_2 => cases h
  rename_i fid caps hcal
  cases hcf : Nat.beq fid E.f with
  | false => rw [hcf] at h; cases h
  | true =>
  rw [hcf] at h
  simp only [cond] at h
  obtain rfl := Nat.eq_of_beq_eq_true hcf
  generalize hrn : rn3 E hb q = rn at *
  unfold chk3 at hc
  rw [hrn] at hc
  simp only [Bool.and_eq_true] at hc
  obtain ⟨⟨⟨⟨⟨⟨⟨⟨⟨c1, c2⟩, c3⟩, c4⟩, c5⟩, c6⟩, c7⟩, c8⟩, c9⟩, c10⟩ := hc
  have hrn' : rn = (keys3 E.rs).map (fun k => (k, hb + k)) ++ q := hrn.symm
  have c1q : goodRn q = true := goodRn_right (by rw [← hrn']; exact c1)
  have qrn : ∀ p ∈ q, p ∈ rn := fun p hp => by rw [hrn']; exact List.mem_append.2 (.inr hp)
  have fwdm : ∀ k h, (k, h) ∈ rn → fwd rn k = h ∧ bwd rn h = some k ∧ look k rn = some h := fun k h hm => by
    obtain ⟨e1, e2⟩ := mem_look c1 hm
    exact ⟨by unfold fwd; rw [e1], e2, e1⟩
  have outS : ∀ k, (look k (st3B (outBx E y))).isSome = (look k rn).isSome := fun k => by
    unfold st3B
    rw [look_mapV, Option.isSome_map, look_keysR c2 k]
  have inS : ∀ k, (look k (st3B (inBx E x))).isSome = (look k q).isSome := fun k => by
    unfold st3B
    rw [look_mapV, Option.isSome_map, look_keysR c3 k]
  obtain ⟨⟨ob, a1, a2⟩, a3, a4, a5⟩ := argsP_ok (hd := fun k h => q.any fun p => Nat.beq p.1 k && Nat.beq p.2 h) (L := lens (inBx E x)) h rfl
    (fun p hp => List.any_eq_true.2 ⟨p, hp, by simp⟩) (fun k b hb => by
      have := mem_lookB c3 c1q hb
      simp only [lens]
      show (match look k (inBx E x) with | some b => b.len | none => 0) = b.len
      rw [this])
  obtain ⟨cs, k1, k2⟩ := callee3_ok (L := lens s.boxes) hcal
  have hfa : (s.val f).alive = true := alive_of fun e => by rw [e] at hcal; cases hcal
  have hfv := val3 (nt := nt) rfl hfa
  have hmap : c.args.toList.map (s.st nt).val ++ cs.map (fun x => S.v (V.one (C.i x))) = (c.args.toList.map s.val ++ caps).map (SV.s (lens s.boxes)) := by
    rw [List.map_append, k2, List.map_map]
    congr 1
    exact List.map_congr_left fun z hz => val3 rfl (a5 _ (List.mem_append.2 (.inl (List.mem_map.2 ⟨z, hz, rfl⟩))))
  have blook : ∀ h, look h (after3 E hb s q y).2.boxes = match bwd rn h with | some k => look k (outBx E y) | none => look h s.boxes := fun h => by
    have := insAll_look (bs := s.boxes) c2 c1 h
    rw [← hrn] at this ⊢
    exact this
  have lenk : ∀ k h, (k, h) ∈ rn → lens (after3 E hb s q y).2.boxes h = lens (outBx E y) k := fun k h hm => by
    unfold lens
    rw [blook h, (fwdm k h hm).2.1]
  have lenS : ∀ h, s.clean h = true ∨ (∀ k, bwd rn h = some k → (k, h) ∈ q ∧ (kill3 E rn).any (Nat.beq h) = false) → s.clean h = true ∨ lens (after3 E hb s q y).2.boxes h = lens s.boxes h := by
    intro h hh
    rcases hh with hh | hh
    · exact .inl hh
    · cases hw : bwd rn h with
      | none =>
        right
        unfold lens
        rw [blook h, hw]
      | some k =>
        obtain ⟨h1, h2⟩ := hh k hw
        right
        rw [lenk k h (qrn _ h1)]
        rcases lenOK_mem hg _ h1 with h3 | h3
        · rw [h3] at h2; cases h2
        · exact h3
  have newC : ∀ k h, (k, h) ∈ rn → (k, h) ∈ q ∨ (h < 1000 ∧ look h s.boxes = none ∧ s.clean h = true) := fun k h hm => by
    rw [hrn'] at hm
    rcases List.mem_append.1 hm with hm | hm
    · obtain ⟨k', hk', e⟩ := List.mem_map.1 hm
      obtain ⟨rfl, rfl⟩ := Prod.mk.inj e
      have := List.all_eq_true.1 c6 k' hk'
      simp only [Bool.and_eq_true] at this
      exact .inr ⟨by simpa [Nat.blt_eq] using this.1.1, by simpa using this.1.2, this.2⟩
    · exact .inl hm
  have lenM : ∀ h, (kill3 E rn).any (Nat.beq h) = false → s.clean h = true ∨ lens (after3 E hb s q y).2.boxes h = lens s.boxes h := fun h hk => by
    cases hw : bwd rn h with
    | none => exact lenS h (.inr fun k e => by rw [hw] at e; cases e)
    | some k =>
      rcases newC k h (bwd_mem hw) with h1 | h1
      · exact lenS h (.inr fun k' e => by rw [hw] at e; obtain rfl := Option.some.inj e; exact ⟨h1, hk⟩)
      · exact .inl h1.2.2
  have cleanS : ∀ {t : Nat} {z : SV} {h : Nat}, look t s.slots = some z → s.clean h = true → z.men h = false := fun {t z h} hz hcl => by
    unfold St3.clean at hcl
    simp only [Bool.and_eq_true, List.all_eq_true, Bool.not_eq_true'] at hcl
    exact hcl.1 _ (look_mem3 hz)
  have cleanB : ∀ {t : Nat} {z : B3} {h : Nat}, look t s.boxes = some z → s.clean h = true → z.men h = false := fun {t z h} hz hcl => by
    unfold St3.clean at hcl
    simp only [Bool.and_eq_true, List.all_eq_true, Bool.not_eq_true'] at hcl
    exact hcl.2 _ (look_mem3 hz)
  have hval : (after3 E hb s q y).1.s (lens (after3 E hb s q y).2.boxes) = ((joinSV (svPs 0 E.rs (resOf y))).s (lens (outBx E y))).ren (fwd rn) := by
    have : (after3 E hb s q y).1 = (joinSV (svPs 0 E.rs (resOf y))).ren3 (fwd rn) := by rw [← hrn]; rfl
    rw [this]
    refine ren3_s (p := fun k => (look k (outBx E y)).isSome) (fun k hk => ?_) c9
    rw [look_keysR c2 k] at hk
    obtain ⟨h', hh'⟩ := Option.isSome_iff_exists.1 hk
    have hm' := look_memR hh'
    rw [(fwdm k h' hm').1, lenk k h' hm']
  have hput := put3_ok (nt := nt) hp
  rw [hval] at hput
  let cb : CallB := ⟨E.ts.map PK.isIm, (svPs 1000 E.ts x).map (SV.v (lens (inBx E x))), (joinSV (svPs 0 E.rs (resOf y))).s (lens (outBx E y)), st3B (inBx E x), st3B (outBx E y), fwd rn, bwd rn, fun k h => q.any fun p => Nat.beq p.1 k && Nat.beq p.2 h, (after3 E hb s q y).2.st nt⟩
  have hok : cb.OK P E.f (s.st nt) bor := by
    refine ⟨hF, fun k h hq => ?_, fun k hk => ?_, fun h k hk => ?_, fun k b hb => ?_, fun k b hb => ?_, ?_, ?_, a3, fun h => ?_, fun t z hz => ?_⟩
    · obtain ⟨p, hp1, hp2⟩ := List.any_eq_true.1 hq
      simp only [Bool.and_eq_true] at hp2
      have e1 := Nat.eq_of_beq_eq_true hp2.1
      have e2 := Nat.eq_of_beq_eq_true hp2.2
      have hm' : (k, h) ∈ q := by rw [← e1, ← e2]; exact hp1
      refine ⟨(fwdm k h (qrn _ hm')).1, ?_⟩
      show (look k (st3B (inBx E x))).isSome = true
      rw [inS k, (mem_look c1q hm').1]; rfl
    · have hk : (look k (st3B (outBx E y))).isSome = true := hk
      rw [outS k] at hk
      obtain ⟨h', hh'⟩ := Option.isSome_iff_exists.1 hk
      obtain ⟨e1, e2, _⟩ := fwdm k h' (look_memR hh')
      show bwd rn (fwd rn k) = some k
      rw [e1, e2]
    · have hk : bwd rn h = some k := hk
      obtain ⟨e1, e2, e3⟩ := fwdm k h (bwd_mem hk)
      refine ⟨e1, ?_⟩
      show (look k (st3B (outBx E y))).isSome = true
      rw [outS k, e3]; rfl
    · have hb : look k (st3B (inBx E x)) = some b := hb
      unfold st3B at hb
      rw [look_mapV] at hb
      obtain ⟨b3, hb3, rfl⟩ := Option.map_eq_some_iff.1 hb
      have hmem := look_mem3 hb3
      obtain ⟨h', b', i1, i2, i3, i4, i5⟩ := a4 k b3 hmem
      obtain ⟨e1, e2, e3⟩ := fwdm k h' (qrn _ i1)
      have hk := List.all_eq_true.1 c4 _ hmem
      have hnb := List.all_eq_true.1 c7 _ i1
      refine ⟨by simpa using hk, ?_, (i5 _).1, (i5 _).2, ?_, ?_⟩
      · show look (fwd rn k) (mapV (B3.box (lens s.boxes)) s.boxes) = _
        rw [e1, look_mapV, i2]
        exact congrArg some (i4 _ _)
      · show fwd rn k ∉ bor
        rw [e1]
        intro hmb
        have : (bor.any (Nat.beq h')) = true := List.any_eq_true.2 ⟨h', hmb, by simp⟩
        simp only [this, Bool.not_true] at hnb
        cases hnb
      · show (look k (st3B (outBx E y))).isSome = true
        rw [outS k, e3]; rfl
    · have hb : look k (st3B (outBx E y)) = some b := hb
      have hS : (look k (st3B (outBx E y))).isSome = true := by rw [hb]; rfl
      rw [outS k] at hS
      obtain ⟨h', hh'⟩ := Option.isSome_iff_exists.1 hS
      obtain ⟨e1, e2, e3⟩ := fwdm k h' (look_memR hh')
      unfold st3B at hb
      rw [look_mapV] at hb
      obtain ⟨b3, hb3, rfl⟩ := Option.map_eq_some_iff.1 hb
      refine ⟨(plain_box (L' := fun _ => 0) (List.all_eq_true.1 c5 _ (look_mem3 hb3))).2, fun hn => ?_⟩
      have hn : look k (st3B (inBx E x)) = none := hn
      rcases newC k h' (look_memR hh') with h1 | ⟨h1, h2, _⟩
      · have : (look k (st3B (inBx E x))).isSome = true := by rw [inS k, (mem_look c1q h1).1]; rfl
        rw [hn] at this; cases this
      · show look (fwd rn k) (mapV _ s.boxes) = none ∧ fwd rn k < 1000
        rw [e1, look_mapV, h2]
        exact ⟨rfl, h1⟩
    · simp only [Bool.or_eq_true, List.isEmpty_iff, Bool.and_eq_true] at c8
      rcases c8 with c8 | ⟨c8, c8'⟩
      · exact .inl c8
      · refine .inr ⟨cl3_s c8, fun k b hb => ?_⟩
        have hb : look k (st3B (outBx E y)) = some b := hb
        unfold st3B at hb
        rw [look_mapV] at hb
        obtain ⟨b3, hb3, rfl⟩ := Option.map_eq_some_iff.1 hb
        exact cl_box (List.all_eq_true.1 c8' _ (look_mem3 hb3))
    · have : (fun k => (look k (st3B (outBx E y))).isSome) = fun k => (look k (outBx E y)).isSome := by
        funext k
        unfold st3B
        rw [look_mapV, Option.isSome_map]
      show S.okH (fun k => (look k (st3B (outBx E y))).isSome) _ = true
      rw [this]
      exact ok3_s c9
    · show look h (mapV (B3.box (lens (after3 E hb s q y).2.boxes)) (after3 E hb s q y).2.boxes) = match bwd rn h with | some k => look k (st3B (outBx E y)) | none => look h (mapV (B3.box (lens s.boxes)) s.boxes)
      rw [look_mapV, blook h]
      cases hw : bwd rn h with
      | some k =>
        simp only
        unfold st3B
        rw [look_mapV]
        cases hb : look k (outBx E y) with
        | none => rfl
        | some b3 => exact congrArg some (plain_box (List.all_eq_true.1 c5 _ (look_mem3 hb))).1
      | none =>
        simp only
        rw [look_mapV]
        cases hb : look h s.boxes with
        | none => rfl
        | some b3 =>
          refine congrArg some (box_congr2 fun k hk => ?_)
          cases hki : (kill3 E rn).any (Nat.beq k) with
          | true =>
            obtain ⟨k2, hk2, hk3⟩ := List.any_eq_true.1 hki
            obtain rfl := Nat.eq_of_beq_eq_true hk3
            have := List.all_eq_true.1 (List.all_eq_true.1 c10 _ hk2) _ (look_mem3 hb)
            simp only [hk, Bool.not_true] at this
            cases this
          | false =>
            rcases lenM k hki with h1 | h1
            · rw [cleanB hb h1] at hk; cases hk
            · exact h1
    · have hz : look t (mapV (SV.s (lens (after3 E hb s q y).2.boxes)) (mapV (fun x => bif (kill3 E (rn3 E hb q)).any (fun h => x.men h) then .dead else x) s.slots)) = some z := hz
      rw [hrn, look_mapV, look_mapV, Option.map_map] at hz
      obtain ⟨z0, hz0, rfl⟩ := Option.map_eq_some_iff.1 hz
      simp only [Function.comp]
      cases hki : (kill3 E rn).any (fun h => z0.men h) with
      | true => exact .inl rfl
      | false =>
        right
        show look t (mapV (SV.s (lens s.boxes)) s.slots) = _
        rw [look_mapV, hz0]
        refine congrArg some (s_congr2 fun k hk => ?_)
        cases hki' : (kill3 E rn).any (Nat.beq k) with
        | true =>
          obtain ⟨k2, hk2, hk3⟩ := List.any_eq_true.1 hki'
          obtain rfl := Nat.eq_of_beq_eq_true hk3
          have := List.any_eq_false.1 hki _ hk2
          rw [hk] at this; exact absurd rfl this
        | false =>
          rcases lenM k hki' with h1 | h1
          · rw [cleanS hz0 h1] at hk; cases hk
          · exact h1.symm
  refine ⟨{ callB := some cb }, cb.OK P E.f (s.st nt) bor :: ob, ?_, fun p hp => ?_⟩
  · have a1' : argsB cb.hd (s.st nt).box cb.ims (c.args.toList.map (s.st nt).val ++ cs.map fun x => S.v (V.one (C.i x))) cb.args = some (ob, bor) := by
      rw [hmap]; exact a1
    simp only [step1, stepB, hf, hfv, k1, a1']
    have : cb.s'.putD K dst (cb.r.ren cb.σ) = some (s'.st nt) := hput
    rw [this]
    rfl
  · rcases List.mem_cons.1 hp with rfl | hp
    · exact hok
    · exact a2 p hp

/-- the way on behind such a call -/
def onB {α : Type} (K : Cfg) (E : Ent2) (hb : Nat) (o : Oper) (s : St3) (x : HP E.ts) (bor : List Nat) (q : List (Nat × Nat)) (y : HR E.rs (ownsP 1000 E.ts)) (k : St3 → Option α) : Option α :=
  bif chk3 E hb s x bor q y then bif lenOK (outBx E y) s.boxes (kill3 E (rn3 E hb q)) q then (match (after3 E hb s q y).2.put3 K o.dst (after3 E hb s q y).1 with
    | some s' => k s'
    | none => none) else none else none

def stepB3 {α : Type} (K : Cfg) (E : Ent3) (hb : Nat) (o : Oper) (s : St3) (k : St3 → Option α) : Option α :=
  match callB3 E.f E.ts o s with
  | some (g, x, bor, q) => bif g then (match E.m x with
    | some z => caseF (ownsP 1000 E.ts) E.forms z fun rs y => onB K ⟨E.f, E.ts, rs⟩ hb o s x bor q y k
    | none => none) else none
  | none => none

theorem stepB3_ok {α : Type} {K : Cfg} {E : Ent3} {hb : Nat} {o : Oper} {s : St3} {nt : Nat} {k : St3 → Option α} {r : α} (h : stepB3 K E hb o s k = some r) (hE : E.Sound P) :
    ∃ s' D obs, step1 P T K o D (s.st nt) = some (s'.st nt, obs) ∧ (∀ p ∈ obs, p) ∧ k s' = some r := by
  unfold stepB3 at h
  split at h
  · rename_i g x bor q hc
    cases g with
    | false => cases h
    | true =>
      simp only [cond] at h
      split at h
      · rename_i z hm
        obtain ⟨rs, y, h1, h2⟩ := caseF_some h (hE nt x z hm)
        unfold onB at h1
        cases hck : chk3 ⟨E.f, E.ts, rs⟩ hb s x bor q y with
        | false => rw [hck] at h1; cases h1
        | true =>
          rw [hck] at h1
          simp only [cond] at h1
          cases hl : lenOK (outBx ⟨E.f, E.ts, rs⟩ y) s.boxes (kill3 ⟨E.f, E.ts, rs⟩ (rn3 ⟨E.f, E.ts, rs⟩ hb q)) q with
          | false => rw [hl] at h1; cases h1
          | true =>
            rw [hl] at h1
            simp only at h1
            split at h1
            · rename_i s' hp
              obtain ⟨D, obs, q1, q2⟩ := callB3_ok (T := T) (E := ⟨E.f, E.ts, rs⟩) hc hck hl h2 hp
              exact ⟨s', D, obs, q1, q2, h1⟩
            · cases h1
      · cases h
  · cases h

end Go.Ev

/- DERIVED. Code over shapes: all paths, in one expression. -/
namespace Go.Ev
open Go

variable {P : Program} {T : Ty}

/-- what is said of an operation: the callee's model; a shape; what is settled ahead -/
structure OA where
  ent : Option Ent := none
  sh : Option Sh := none
  fz : List (Nat × Sh) := []
  entB : Option Ent3 := none
  hb : Nat := 0

/-- what is said of a region: how many operations may come in any order -/
structure RA where
  m : Nat := 0
  fz : List (Nat × Sh) := []
  ops : List (Nat × OA) := []

@[reducible] def KS (α : Type) : List (Exit × Tm) → Type
  | [] => Unit
  | (_, X) :: r => (X.den → Option α) × KS α r

def ksOf {α : Type} (k : Exit → St3 → Option α) : (l : List (Exit × Tm)) → KS α l
  | [] => ()
  | (x, X) :: r => (fun w => k x (X.enc w), ksOf k r)

def Exit.eqb : Exit → Exit → Bool
  | .normal, .normal => true
  | .ret, .ret => true
  | .exit i, .exit j => Nat.beq i j
  | _, _ => false

theorem Exit.eqb_eq {a b : Exit} (h : Exit.eqb a b = true) : a = b := by
  unfold Exit.eqb at h
  split at h
  · rfl
  · rfl
  · rw [Nat.eq_of_beq_eq_true h]
  · cases h

/-- to the way out that fits -/
def pickK {α : Type} : (l : List (Exit × Tm)) → KS α l → Exit → St3 → Option α
  | [], _, _, _ => none
  | (x, X) :: r, ks, y, s => bif Exit.eqb x y then (match X.dec s with
    | some w => ks.1 w
    | none => none) else pickK r ks.2 y s

/-- a loop, told by a model -/
structure LO (α : Type) where
  H : Tm
  outs : List (Exit × Tm)
  run : H.den → KS α outs → Option α

structure D3 (α : Type) where
  reg : List (Nat × RA) := []
  join : List (Nat × Tm) := []
  loop : List (Nat × LO α) := []
  any : List (Nat × Tm) := []

def firstReg : Code → Nat
  | .region id _ _ => id
  | .seq c d => match firstReg c with
    | 0 => firstReg d
    | n + 1 => n + 1
  | .cond _ c d => match firstReg c with
    | 0 => firstReg d
    | n + 1 => n + 1
  | .block _ c => firstReg c
  | .loop c => firstReg c
  | .rangeFunc _ _ a b => match firstReg a with
    | 0 => firstReg b
    | n + 1 => n + 1
  | _ => 0

/-- a value in the place of the one that is there -/
def upd {α : Type} (k : Nat) (x : α) : List (Nat × α) → List (Nat × α)
  | [] => []
  | (j, y) :: r => bif Nat.beq j k then (j, x) :: r else (j, y) :: upd k x r

def settles3 {α : Type} : List (Nat × Sh) → St3 → (St3 → Option α) → Option α
  | [], s, k => k s
  | (t, sh) :: r, s, k => match settle3 s t sh with
    | some (g, s1) => bif g then settles3 r s1 k else none
    | none => none

def ob {α β : Type} (x : Option β) (k : β → Option α) : Option α := match x with
  | some r => k r
  | none => none
def gd {α : Type} (g : Bool) (x : Option α) : Option α := bif g then x else none
abbrev W (x : Int) : Int := IntKind.i64.wrap x

/-- one operation that is wanted -/
def step3 {α : Type} (T : Ty) (K : Cfg) (A : OA) (o : Oper) (s : St3) (k : St3 → Option α) : Option α :=
  match A.ent with
  | some E => match call3 E o s with
    | some (g, x) => bif g then ob (E.m x) (fun r => match s.put3 K o.dst (resSV E.rs r) with
        | some s' => k s'
        | none => none) else none
    | none => match A.entB with
      | some F => stepB3 K F A.hb o s k
      | none => none
  | none => match A.entB with
  | some E => stepB3 K E A.hb o s k
  | none => match core3 T A.sh o s with
    | some r => bif r.g then (match s.eff3 K o.dst r.eff with
      | some s1 => match s1.put3 K o.dst r.val with
        | some s' => k s'
        | none => none
      | none => none) else none
    | none => none

def skip3 {α : Type} (K : Cfg) (o : Oper) (s : St3) (k : St3 → Option α) : Option α :=
  match s.put3 K o.dst (.tup []) with
  | some s' => k s'
  | none => none

/-- an operation with its guard: wanted (f) or not (g) -/
def guard3 {α : Type} (ops : List Oper) (o : Oper) (s : St3) (f g : St3 → Option α) : Option α :=
  match o.guard with
  | none => f s
  | some (j, want) => match ops[j]? with
    | some p => match p.dst with
      | some t => match look t s.slots with
        | some (.d .bool b) => bif b then
            (bif want then f { s with slots := upd t (.d .bool true) s.slots } else g { s with slots := upd t (.d .bool true) s.slots }) else
            (bif want then g { s with slots := upd t (.d .bool false) s.slots } else f { s with slots := upd t (.d .bool false) s.slots })
        | some (.tup []) => g s
        | _ => none
      | none => none
    | none => none

def ops3 {α : Type} (T : Ty) (K : Cfg) (ops : List Oper) (A : List (Nat × OA)) : List (Nat × Oper) → St3 → (St3 → Option α) → Option α
  | [], s, k => k s
  | (i, o) :: r, s, k => settles3 ((look i A).getD {}).fz s fun s0 => guard3 ops o s0 (fun s1 => step3 T K ((look i A).getD {}) o s1 fun s2 => ops3 T K ops A r s2 k) (fun s1 => skip3 K o s1 fun s2 => ops3 T K ops A r s2 k)

/-- it only puts a value -/
def OA.quiet (T : Ty) (A : OA) (o : Oper) (s : St3) : Bool :=
  A.fz.isEmpty && (match A.entB with | some _ => false | none => true) && (match o.dst with | some _ => true | none => false) && (match A.ent with
  | some _ => true
  | none => match core3 T A.sh o s with
    | some r => match r.eff with
      | .none => true
      | _ => false
    | none => true)

def pre3 {α : Type} (T : Ty) (K : Cfg) (ops : List Oper) (A : List (Nat × OA)) : List (Nat × Oper) → St3 → (St3 → Option α) → Option α
  | [], s, k => k s
  | (i, o) :: r, s, k => guard3 ops o s
      (fun s1 => bif OA.quiet T ((look i A).getD {}) o s1 then step3 T K ((look i A).getD {}) o s1 (fun s2 => pre3 T K ops A r s2 k) else none)
      (fun s1 => bif o.dst.isSome then skip3 K o s1 (fun s2 => pre3 T K ops A r s2 k) else none)

def reg3 {α : Type} (P : Program) (T : Ty) (K : Cfg) (A : RA) (ops : Array Oper) (draw : Bool) (s : St3) (k : St3 → Option α) : Option α :=
  bif draw then
    bif drawOK ops A.m then settles3 A.fz s fun s0 => pre3 T K ops.toList A.ops ((swapIdx ops.toList).take A.m) s0 fun s1 => ops3 T K ops.toList A.ops ((swapIdx ops.toList).drop A.m) s1 k else none
  else ops3 T K ops.toList A.ops (swapIdx ops.toList) s k

def exec3 {α : Type} (P : Program) (T : Ty) (K : Cfg) (D : D3 α) : Code → St3 → (Exit → St3 → Option α) → Option α
  | .skip, s, k => k .normal s
  | .region id ops draw, s, k => match look id D.any with
    | some X => bif draw then (match X.dec s with
      | some w => ops3 T K ops.toList ((look id D.reg).getD {}).ops (swapIdx ops.toList) (X.enc w) (k .normal)
      | none => none) else none
    | none => reg3 P T K ((look id D.reg).getD {}) ops draw s (k .normal)
  | .seq c d, s, k => match look (firstReg d) D.join with
    | none => exec3 P T K D c s fun x s1 => match x with
      | .normal => exec3 P T K D d s1 k
      | x => k x s1
    | some X => (fun (J : X.den → Option α) => exec3 P T K D c s fun x s1 => match x with
      | .normal => match X.dec s1 with
        | some w => J w
        | none => none
      | x => k x s1) fun w => exec3 P T K D d (X.enc w) k
  | .cond (.tmp t) c d, s, k => match look t s.slots with
    | some (.d .bool b) => bif b then exec3 P T K D c { s with slots := upd t (.d .bool true) s.slots } k else exec3 P T K D d { s with slots := upd t (.d .bool false) s.slots } k
    | _ => none
  | .block id c, s, k => exec3 P T K D c s fun x s1 => match x with
    | .exit j => bif Nat.beq j id then k .normal s1 else k (.exit j) s1
    | x => k x s1
  | .loop c, s, k => match look (firstReg c) D.loop with
    | some L => match L.H.dec s with
      | some v => L.run v (ksOf k L.outs)
      | none => none
    | none => none
  | .rangeFunc _ _ a b, s, k => match look (match firstReg a with | 0 => firstReg b | n + 1 => n + 1) D.loop with
    | some L => match L.H.dec s with
      | some v => L.run v (ksOf k L.outs)
      | none => none
    | none => none
  | .exit id, s, k => k (.exit id) s
  | .ret, s, k => k .ret s
  | _, _, _ => none

/-- rounds -/
def rounds {α : Type} {V Ks : Type} (B : V → (V → Option α) → Ks → Option α) : Nat → V → Ks → Option α
  | 0, _, _ => none
  | n + 1, v, ks => B v (fun v' => rounds B n v' ks) ks

/-- the round of a loop: on, or out -/
def around {α : Type} (H : Tm) (outs : List (Exit × Tm)) (f : H.den → Option α) (ks : KS α outs) (x : Exit) (s : St3) : Option α :=
  match x with
  | .normal => match H.dec s with
    | some v => f v
    | none => none
  | x => pickK outs ks x s

/-! results -/
def raw3 (T : Ty) (s : St3) : ResultVar → Option SV
  | .tmp t => look t s.slots
  | .cell a t => match s.val (.tmp a) with
    | .hp h row col => match look h s.boxes with
      | some (.var _ _ _ _) => match load3 T t (.hp h row col) s.boxes with
        | some r => some r.val
        | none => none
      | _ => none
    | _ => none

def one3 (T : Ty) (s : St3) (rv : ResultVar) (t : Sh) : Option (Bool × t.den × List Nat) :=
  match raw3 T s rv with
  | some v => convV3 s.boxes t v
  | none => none

def rets3 (T : Ty) (s : St3) : (ts : List Sh) → List ResultVar → Option (Bool × HL ts)
  | [], [] => some (true, ())
  | [t], [rv] => match one3 T s rv t with
    | some (g, x, _) => some (g, x)
    | none => none
  | t :: u :: r, rv :: rvs => match one3 T s rv t, rets3 T s (u :: r) rvs with
    | some (g, x, _), some (g', xs) => some (g && g', (x, xs))
    | _, _ => none
  | _, _ => none

def fin3 (T : Ty) (rs : List Sh) (rvs : List ResultVar) (x : Exit) (s : St3) : Option (HL rs) :=
  match x with
  | .exit _ => none
  | .normal => match rets3 T s rs rvs with
    | some (g, y) => bif g then some y else none
    | none => none
  | .ret => match rets3 T s rs rvs with
    | some (g, y) => bif g then some y else none
    | none => none
  | _ => none

def paramsSV (i : Nat) : List SV → List (Nat × SV)
  | [] => []
  | x :: r => (i, x) :: paramsSV (i + 1) r

def entry3 (ts : List Sh) (x : HL ts) : St3 := ⟨paramsSV 0 (valsSV ts x), []⟩

end Go.Ev

/- DERIVED. Code over shapes is what the code does. -/
namespace Go.Ev
open Go

variable {P : Program} {T : Ty} {α : Type}

theorem upd_ok {f : SV → S} {t : Nat} {x y : SV} (hxy : f x = f y) : ∀ {l : List (Nat × SV)}, look t l = some y → mapV f (upd t x l) = mapV f l
  | [], h => by cases h
  | (j, z) :: r, h => by
    simp only [look] at h
    simp only [upd]
    cases hb : Nat.beq j t with
    | true =>
      rw [hb] at h
      simp only [cond, Option.some.injEq] at h
      subst h
      simp [mapV, hxy]
    | false =>
      rw [hb] at h
      have := upd_ok hxy h
      simp only [mapV] at this
      simp [mapV, this]

theorem settles3_ok {nt : Nat} : ∀ {l : List (Nat × Sh)} {s : St3} {k : St3 → Option α} {r : α}, settles3 l s k = some r → ∃ s' fz ob, settles fz (s.st nt) = some (s'.st nt, ob) ∧ (∀ p ∈ ob, p) ∧ k s' = some r ∧ (l = [] → fz = [] ∧ s' = s)
  | [], s, k, r, h => ⟨s, [], [], rfl, by simp, h, fun _ => ⟨rfl, rfl⟩⟩
  | (t, sh) :: l, s, k, r, h => by
    simp only [settles3] at h
    split at h
    · rename_i g s1 hs
      cases g with
      | false => cases h
      | true =>
        obtain ⟨x', ob, h1, h2⟩ := settle3_ok (nt := nt) hs rfl
        obtain ⟨s2, fz, ob2, h3, h4, h5, _⟩ := settles3_ok (nt := nt) (l := l) h
        refine ⟨s2, (t, x') :: fz, ob ++ ob2, by simp only [settles, h1, h3], fun p hp => ?_, h5, fun e => by cases e⟩
        rcases List.mem_append.1 hp with hp | hp
        · exact h2 p hp
        · exact h4 p hp
    · cases h

theorem quiet_core {o : Oper} {s : St3} {nt : Nat} {A : Option Sh} {r : R3} (h : core3 T A o s = some r) (hg : r.g = true) (he : r.eff = .none) :
    ∃ D obs, (∀ p ∈ obs, p) ∧ quiet P T o D (s.st nt) = some (r.val.s (lens s.boxes), obs) := by
  obtain ⟨hnt, q, h1, h2, h3⟩ := core3_ok (nt := nt) h hg
  unfold CoreRel at h3
  rw [he] at h3
  refine ⟨{ cells := hnt }, q.ob ++ [], by simpa using h2, ?_⟩
  unfold quiet
  simp only [h1, h3.1, Option.getD_none, h3.2]

theorem step1_fz {K : Cfg} {o : Oper} {D : Dec} {s : St} (fz : List (Nat × V)) : step1 P T K o { D with fz := fz } s = step1 P T K o D s := rfl

def OA.S (P : Program) (a : OA) : Prop := (∀ E, a.ent = some E → E.Sound P) ∧ ∀ E, a.entB = some E → E.Sound P

/-- one operation that is wanted -/
theorem step3_ok {K : Cfg} {A : OA} {o : Oper} {s : St3} {nt : Nat} {k : St3 → Option α} {r : α} (h : step3 T K A o s k = some r) (hE : A.S P) :
    ∃ s' D obs, step1 P T K o D (s.st nt) = some (s'.st nt, obs) ∧ (∀ p ∈ obs, p) ∧ k s' = some r := by
  unfold step3 at h
  split at h
  · rename_i E hent
    split at h
    · rename_i g x hc
      cases g with
      | false => cases h
      | true =>
        simp only [cond, ob] at h
        split at h
        · rename_i y hm
          split at h
          · rename_i s' hp
            obtain ⟨obs, h1, h2⟩ := call3_ok (T := T) (nt := nt) hc hm (hE.1 E hent)
            have := put3_ok (nt := nt) hp
            rw [resSV_s] at this
            obtain ⟨D', obs', h3, h4⟩ := quiet_step h2 this
            exact ⟨s', D', obs', h3, h4 h1, h⟩
          · cases h
        · cases h
    · split at h
      · rename_i F hF
        exact stepB3_ok h (hE.2 F hF)
      · cases h
  split at h
  · rename_i E hent
    exact stepB3_ok h (hE.2 E hent)
  · split at h
    · rename_i q hq
      cases hg : q.g with
      | false => rw [hg] at h; cases h
      | true =>
        rw [hg] at h
        simp only [cond] at h
        split at h
        · rename_i s1 he
          split at h
          · rename_i s' hp
            obtain ⟨hnt, r1, h1, h2, h3⟩ := core3_ok (nt := nt) hq hg
            obtain ⟨h4, h5⟩ := eff3_ok (nt := nt) he h3
            have h6 := put3_ok (nt := nt) hp
            rw [← h5] at h6
            refine ⟨s', { cells := hnt }, r1.ob ++ [] ++ [], ?_, by simpa using h2, h⟩
            unfold step1
            simp only [h1, h4, Option.getD_none, h6, Option.map_some]
          · cases h
        · cases h
    · cases h

theorem quiet3_ok {K : Cfg} {A : OA} {o : Oper} {s : St3} {nt : Nat} {k : St3 → Option α} {r : α} (h : step3 T K A o s k = some r) (hq : A.quiet T o s = true) (hE : A.S P) :
    ∃ t s' D x obs, o.dst = some t ∧ Nat.blt t K.N = true ∧ quiet P T o D (s.st nt) = some (x, obs) ∧ (∀ p ∈ obs, p) ∧ k s' = some r ∧ s'.st nt = { s.st nt with slots := ins t x (s.st nt).slots } := by
  unfold OA.quiet at hq
  simp only [Bool.and_eq_true] at hq
  obtain ⟨⟨⟨_, hq0⟩, hq1⟩, hq2⟩ := hq
  have putI : ∀ {s s' : St3} {y : SV}, s.put3 K o.dst y = some s' → ∃ t, o.dst = some t ∧ Nat.blt t K.N = true ∧ s'.st nt = { s.st nt with slots := ins t (y.s (lens s.boxes)) (s.st nt).slots } := by
    intro s s' y hp
    unfold St3.put3 at hp
    cases hd : o.dst with
    | none => rw [hd] at hq1; cases hq1
    | some t =>
      rw [hd] at hp
      simp only at hp
      cases hb : Nat.blt t K.N with
      | false => rw [hb] at hp; cases hp
      | true =>
        rw [hb] at hp
        obtain rfl := Option.some.inj hp
        exact ⟨t, rfl, hb, by simp only [St3.st, ins_mapV]⟩
  unfold step3 at h
  split at h
  · rename_i E hent
    split at h
    · rename_i g x hc
      cases g with
      | false => cases h
      | true =>
        simp only [cond, ob] at h
        split at h
        · rename_i y hm
          split at h
          · rename_i s' hp
            obtain ⟨obs, h1, h2⟩ := call3_ok (T := T) (nt := nt) hc hm (hE.1 E hent)
            obtain ⟨t, p1, p2, p3⟩ := putI hp
            rw [resSV_s] at p3
            exact ⟨t, s', _, _, obs, p1, p2, h2, h1, h, p3⟩
          · cases h
        · cases h
    · split at h
      · rename_i F hF
        rw [hF] at hq0; cases hq0
      · cases h
  split at h
  · rename_i E hB
    rw [hB] at hq0; cases hq0
  · rename_i hent _ _
    split at h
    · rename_i q hcq
      cases hg : q.g with
      | false => rw [hg] at h; cases h
      | true =>
        rw [hg] at h
        simp only [cond] at h
        rw [hent, hcq] at hq2
        simp only at hq2
        have he : q.eff = .none := by
          cases e : q.eff <;> first | rfl | (rw [e] at hq2; cases hq2)
        rw [he] at h
        simp only [St3.eff3] at h
        split at h
        · rename_i s' hp
          obtain ⟨D, obs, h1, h2⟩ := quiet_core (P := P) (nt := nt) hcq hg he
          obtain ⟨t, p1, p2, p3⟩ := putI hp
          exact ⟨t, s', D, _, obs, p1, p2, h2, h1, h, p3⟩
        · cases h
    · cases h

theorem slot_bool {s : St3} {nt t : Nat} {b : Bool} (h : look t s.slots = some (.d .bool b)) : look t (s.st nt).slots = some (.v (.one (.i (.lit (.bool b))))) := by
  simp only [St3.st, look_mapV, h]; rfl

theorem slot_set {s : St3} {nt t : Nat} {b : Bool} (h : look t s.slots = some (.d .bool b)) : (({ s with slots := upd t (.d .bool b) s.slots } : St3).st nt) = s.st nt := by
  simp only [St3.st]
  rw [upd_ok rfl h]

/-- with its guard: wanted or not -/
theorem guard3_ok {ops : List Oper} {o : Oper} {s : St3} {nt : Nat} {f g : St3 → Option α} {r : α} (h : guard3 ops o s f g = some r) :
    ∃ s0, s0.st nt = s.st nt ∧ ((guardD (s.st nt) ops o = some true ∧ f s0 = some r) ∨ (guardD (s.st nt) ops o = some false ∧ g s0 = some r)) := by
  unfold guard3 at h
  unfold guardD
  split at h
  · rename_i hg
    rw [hg]
    exact ⟨s, rfl, .inl ⟨by first | rfl | trivial, h⟩⟩
  · rename_i j want hg
    rw [hg]
    simp only
    split at h
    · rename_i p hp
      simp only [hp]
      split at h
      · rename_i t ht
        simp only [ht]
        split at h
        · rename_i b hl
          simp only [slot_bool (nt := nt) hl]
          cases b <;> cases want <;> simp only [cond] at h
          · exact ⟨_, slot_set hl, .inl ⟨by first | rfl | trivial, h⟩⟩
          · exact ⟨_, slot_set hl, .inr ⟨by first | rfl | trivial, h⟩⟩
          · exact ⟨_, slot_set hl, .inr ⟨by first | rfl | trivial, h⟩⟩
          · exact ⟨_, slot_set hl, .inl ⟨by first | rfl | trivial, h⟩⟩
        · rename_i hl
          have : look t (s.st nt).slots = some (.tup []) := by
            simp only [St3.st, look_mapV, hl]; rfl
          simp only [this]
          exact ⟨s, rfl, .inr ⟨by first | rfl | trivial, h⟩⟩
        · cases h
      · cases h
    · cases h

theorem skip3_ok {K : Cfg} {o : Oper} {s : St3} {nt : Nat} {k : St3 → Option α} {r : α} (h : skip3 K o s k = some r) : ∃ s', (s.st nt).putD K o.dst (.tup []) = some (s'.st nt) ∧ k s' = some r := by
  unfold skip3 at h
  split at h
  · rename_i s' hp
    exact ⟨s', put3_ok (nt := nt) hp, h⟩
  · cases h

theorem runOps_congr {K : Cfg} {ops : List Oper} {Ds Ds' : List (Nat × Dec)} : ∀ (l : List (Nat × Oper)) (s : St), (∀ p ∈ l, look p.1 Ds = look p.1 Ds') → runOps P T K ops Ds l s = runOps P T K ops Ds' l s
  | [], _, _ => rfl
  | (i, o) :: r, s, h => by
    have h0 := h (i, o) (by simp)
    have ih := fun s => runOps_congr (K := K) (ops := ops) r s fun p hp => h p (by simp [hp])
    simp only [runOps]
    rw [show look i Ds = look i Ds' from h0]
    simp only [ih]

theorem runPre_congr {K : Cfg} {ops : List Oper} {Ds Ds' : List (Nat × Dec)} : ∀ (l : List (Nat × Oper)) (xs : List (Nat × Nat × S)) (s : St), (∀ p ∈ l, look p.1 Ds = look p.1 Ds') → runPre P T K ops Ds l xs s = runPre P T K ops Ds' l xs s
  | [], _, _, _ => rfl
  | (i, o) :: r, xs, s, h => by
    have h0 := h (i, o) (by simp)
    have ih := fun xs s => runPre_congr (K := K) (ops := ops) r xs s fun p hp => h p (by simp [hp])
    simp only [runPre]
    rw [show look i Ds = look i Ds' from h0]
    simp only [ih]

theorem look_cons_ne {β : Type} {i j : Nat} {x : β} {l : List (Nat × β)} (h : i ≠ j) : look j ((i, x) :: l) = look j l := by
  simp only [look]
  have : Nat.beq i j = false := by cases e : Nat.beq i j with | false => rfl | true => exact absurd (Nat.eq_of_beq_eq_true e) h
  rw [this]; rfl
theorem look_cons_self {β : Type} {i : Nat} {x : β} {l : List (Nat × β)} : look i ((i, x) :: l) = some x := by
  simp only [look, Nat.beq_refl]; rfl

theorem ops3_ok {K : Cfg} {ops : List Oper} {A : List (Nat × OA)} {nt : Nat} (hE : ∀ i a, look i A = some a → a.S P) : ∀ (l : List (Nat × Oper)) (s : St3) (k : St3 → Option α) (r : α), (l.map (·.1)).Nodup → ops3 T K ops A l s k = some r →
    ∃ s' Ds obs, k s' = some r ∧ runOps P T K ops Ds l (s.st nt) = some (s'.st nt, obs) ∧ ∀ p ∈ obs, p
  | [], s, k, r, _, h => ⟨s, [], [], h, rfl, by simp⟩
  | (i, o) :: l, s, k, r, hn, h => by
    simp only [List.map_cons, List.nodup_cons] at hn
    simp only [ops3] at h
    obtain ⟨s0, fz, ob0, h1, h2, h3, _⟩ := settles3_ok (nt := nt) h
    obtain ⟨s00, e1, hg⟩ := guard3_ok (nt := nt) h3
    have hEi : ((look i A).getD {}).S P := by
      cases hl : look i A with
      | none => exact ⟨(fun E h => by cases h), (fun E h => by cases h)⟩
      | some a => exact hE i a hl
    rcases hg with ⟨g1, g2⟩ | ⟨g1, g2⟩
    · obtain ⟨s1, D, ob1, h4, h5, h6⟩ := step3_ok (P := P) (nt := nt) g2 hEi
      obtain ⟨s', Ds, ob2, h7, h8, h9⟩ := ops3_ok hE l s1 k r hn.2 h6
      refine ⟨s', (i, { D with fz := fz }) :: Ds, ob0 ++ (ob1 ++ ob2), h7, ?_, fun p hp => ?_⟩
      · simp only [runOps, look_cons_self, Option.getD_some, h1]
        rw [e1] at h4
        simp only [stepG, g1, step1_fz, h4]
        rw [runOps_congr (Ds' := Ds) l _ fun p hp => look_cons_ne fun e => hn.1 (by rw [e]; exact List.mem_map.2 ⟨p, hp, rfl⟩), h8]
      · rcases List.mem_append.1 hp with hp | hp
        · exact h2 p hp
        · rcases List.mem_append.1 hp with hp | hp
          · exact h5 p hp
          · exact h9 p hp
    · obtain ⟨s1, h4, h6⟩ := skip3_ok (nt := nt) g2
      obtain ⟨s', Ds, ob2, h7, h8, h9⟩ := ops3_ok hE l s1 k r hn.2 h6
      refine ⟨s', (i, { fz := fz }) :: Ds, ob0 ++ ([] ++ ob2), h7, ?_, fun p hp => ?_⟩
      · simp only [runOps, look_cons_self, Option.getD_some, h1]
        rw [e1] at h4
        simp only [stepG, g1, h4, Option.map_some]
        rw [runOps_congr (Ds' := Ds) l _ fun p hp => look_cons_ne fun e => hn.1 (by rw [e]; exact List.mem_map.2 ⟨p, hp, rfl⟩), h8]
      · rcases List.mem_append.1 hp with hp | hp
        · exact h2 p hp
        · exact h9 p (by simpa using hp)

theorem look_keys {β : Type} {i : Nat} {d : β} {Ds : List (Nat × β)} {ks : List Nat} (h : ∀ j, (look j Ds).isSome = true ↔ j ∈ ks) : ∀ j, (look j ((i, d) :: Ds)).isSome = true ↔ j ∈ i :: ks := by
  intro j
  by_cases e : i = j
  · subst e
    rw [look_cons_self]
    simp
  · rw [look_cons_ne e, h j]
    simp [Ne.symm e]

theorem look_app_some {β : Type} {j : Nat} : ∀ {a b : List (Nat × β)}, (look j a).isSome = true → look j (a ++ b) = look j a
  | [], _, h => by cases h
  | (i, x) :: r, b, h => by
    by_cases e : i = j
    · subst e
      rw [List.cons_append, look_cons_self, look_cons_self]
    · rw [look_cons_ne e] at h
      rw [List.cons_append, look_cons_ne e, look_cons_ne e, look_app_some h]
theorem look_app_none {β : Type} {j : Nat} : ∀ {a b : List (Nat × β)}, look j a = none → look j (a ++ b) = look j b
  | [], _, _ => rfl
  | (i, x) :: r, b, h => by
    by_cases e : i = j
    · subst e
      rw [look_cons_self] at h
      cases h
    · rw [look_cons_ne e] at h
      rw [List.cons_append, look_cons_ne e, look_app_none h]

theorem pre3_ok {K : Cfg} {ops : List Oper} {A : List (Nat × OA)} {nt : Nat} (hE : ∀ i a, look i A = some a → a.S P) : ∀ (l : List (Nat × Oper)) (s : St3) (k : St3 → Option α) (r : α), (l.map (·.1)).Nodup → pre3 T K ops A l s k = some r →
    ∃ s' Ds obs, k s' = some r ∧ (∀ xs, ∃ ys, runPre P T K ops Ds l xs (s.st nt) = some (ys, s'.st nt, obs)) ∧ (∀ p ∈ obs, p) ∧ ∀ j, (look j Ds).isSome = true ↔ j ∈ l.map (·.1)
  | [], s, k, r, _, h => ⟨s, [], [], h, fun xs => ⟨xs, rfl⟩, by simp, fun j => by simp [look]⟩
  | (i, o) :: l, s, k, r, hn, h => by
    simp only [List.map_cons, List.nodup_cons] at hn
    simp only [pre3] at h
    have hEi : ((look i A).getD {}).S P := by
      cases hl : look i A with
      | none => exact ⟨(fun E h => by cases h), (fun E h => by cases h)⟩
      | some a => exact hE i a hl
    obtain ⟨s00, e1, hg⟩ := guard3_ok (nt := nt) h
    rcases hg with ⟨g1, g2⟩ | ⟨g1, g2⟩
    · cases hq : OA.quiet T ((look i A).getD {}) o s00 with
      | false => rw [hq] at g2; cases g2
      | true =>
        rw [hq] at g2
        simp only [cond] at g2
        obtain ⟨t, s1, D, x, ob1, d1, d2, d3, d4, d5, d6⟩ := quiet3_ok (P := P) (nt := nt) g2 hq hEi
        obtain ⟨s', Ds, ob2, h7, h8, h9, h10⟩ := pre3_ok hE l s1 k r hn.2 d5
        refine ⟨s', (i, D) :: Ds, ob1 ++ ob2, h7, fun xs => ?_, fun p hp => ?_, look_keys h10⟩
        · obtain ⟨ys, h8⟩ := h8 ((i, t, x) :: xs)
          refine ⟨ys, ?_⟩
          rw [e1] at d3 d6
          simp only [runPre, d1, look_cons_self, Option.getD_some, qres, g1, d3, d2, cond]
          rw [← d6, runPre_congr (Ds' := Ds) l _ _ fun p hp => look_cons_ne fun e => hn.1 (by rw [e]; exact List.mem_map.2 ⟨p, hp, rfl⟩), h8]
        · rcases List.mem_append.1 hp with hp | hp
          · exact d4 p hp
          · exact h9 p hp
    · cases hd : o.dst with
      | none => rw [hd] at g2; cases g2
      | some t =>
        rw [hd] at g2
        simp only [Option.isSome_some, cond] at g2
        obtain ⟨s1, h4, h6⟩ := skip3_ok (nt := nt) g2
        rw [hd] at h4
        simp only [St.putD] at h4
        cases hb : Nat.blt t K.N with
        | false => rw [hb] at h4; cases h4
        | true =>
          rw [hb] at h4
          simp only [cond, Option.some.injEq] at h4
          obtain ⟨s', Ds, ob2, h7, h8, h9, h10⟩ := pre3_ok hE l s1 k r hn.2 h6
          refine ⟨s', (i, {}) :: Ds, [] ++ ob2, h7, fun xs => ?_, fun p hp => h9 p (by simpa using hp), look_keys h10⟩
          obtain ⟨ys, h8⟩ := h8 ((i, t, .tup []) :: xs)
          refine ⟨ys, ?_⟩
          rw [e1] at h4
          simp only [runPre, hd, look_cons_self, Option.getD_some, qres, g1, hb, cond]
          rw [h4, runPre_congr (Ds' := Ds) l _ _ fun p hp => look_cons_ne fun e => hn.1 (by rw [e]; exact List.mem_map.2 ⟨p, hp, rfl⟩), h8]

theorem swapIdx_nodup (l : List Oper) : ((swapIdx l).map (·.1)).Nodup := by
  have : (swapIdx l).map (·.1) = List.range l.length := by
    apply List.ext_getElem?
    intro j
    simp only [swapIdx, List.map_map, List.getElem?_map, List.getElem?_zipIdx]
    by_cases hj : j < l.length
    · simp [hj]
    · simp [hj]
  rw [this]
  exact List.nodup_range

theorem reg3_ok (hT : TyOK P T) (hfol : P.follows .mixedOrders = true) {K : Cfg} {A : RA} {id : Nat} {ops : Array Oper} {draw : Bool} {s : St3} {nt : Nat} {k : St3 → Option α} {r : α}
    (hE : ∀ i a, look i A.ops = some a → a.S P) (h : reg3 P T K A ops draw s k = some r) :
    ∃ s', Code.Den P K (.region id ops draw) (s.st nt) .normal (s'.st nt) ∧ k s' = some r := by
  unfold reg3 at h
  cases draw with
  | true =>
    simp only [cond] at h
    cases hok : drawOK ops A.m with
    | false => rw [hok] at h; cases h
    | true =>
      rw [hok] at h
      obtain ⟨s0, fz, ob0, h1, h2, h3, _⟩ := settles3_ok (nt := nt) h
      obtain ⟨s1, Ds1, ob1, h4, h5, h6, h6'⟩ := pre3_ok (P := P) (nt := nt) hE _ s0 _ _ ((swapIdx_nodup ops.toList).sublist ((List.take_sublist _ _).map _)) h3
      obtain ⟨s2, Ds2, ob2, h7, h8, h9⟩ := ops3_ok (P := P) (nt := nt) hE _ s1 _ _ ((swapIdx_nodup ops.toList).sublist ((List.drop_sublist _ _).map _)) h4
      refine ⟨s2, ?_, h7⟩
      have hnd := swapIdx_nodup ops.toList
      have e1 : ∀ p ∈ (swapIdx ops.toList).take A.m, look p.1 (Ds1 ++ Ds2) = look p.1 Ds1 := fun p hp => by
        have := (h6' p.1).2 (List.mem_map.2 ⟨p, hp, rfl⟩)
        exact look_app_some this
      have e2 : ∀ p ∈ (swapIdx ops.toList).drop A.m, look p.1 (Ds1 ++ Ds2) = look p.1 Ds2 := fun p hp => by
        refine look_app_none ?_
        cases hl : look p.1 Ds1 with
        | none => rfl
        | some d =>
          exfalso
          have hm := (h6' p.1).1 (by rw [hl]; rfl)
          have hd : p.1 ∈ ((swapIdx ops.toList).drop A.m).map (·.1) := List.mem_map.2 ⟨p, hp, rfl⟩
          rw [← List.take_append_drop A.m (swapIdx ops.toList), List.map_append, List.nodup_append] at hnd
          exact hnd.2.2 _ hm _ hd rfl
      obtain ⟨ys, h5⟩ := h5 []
      have : runAny P T K ops A.m (Ds1 ++ Ds2) fz (s.st nt) = some (s2.st nt, (P.follows .mixedOrders = true) :: (ob0 ++ (ob1 ++ ob2))) := by
        unfold runAny
        rw [hok]
        simp only [cond, h1]
        rw [runPre_congr _ _ _ e1, h5]
        simp only
        rw [runOps_congr _ _ e2, h8]
      refine runAny_sound hT this fun p hp => ?_
      rcases List.mem_cons.1 hp with rfl | hp
      · exact hfol
      · rcases List.mem_append.1 hp with hp | hp
        · exact h2 p hp
        · rcases List.mem_append.1 hp with hp | hp
          · exact h6 p hp
          · exact h9 p hp
  | false =>
    simp only [cond] at h
    obtain ⟨s2, Ds2, ob2, h7, h8, h9⟩ := ops3_ok (P := P) (nt := nt) hE _ s _ _ (swapIdx_nodup ops.toList) h
    refine ⟨s2, ?_, h7⟩
    have : runRegion P T K ops { ds := Ds2, drop := [] } (s.st nt) = some ((s2.st nt).forget [], ob2) := by
      unfold runRegion
      simp only [h8]
    have := region_sound (id := id) hT this h9
    have e : (s2.st nt).forget [] = s2.st nt := by
      have : dropS [] (s2.st nt).slots = (s2.st nt).slots := List.filter_eq_self.2 fun _ _ => rfl
      unfold St.forget
      rw [this]
    rw [e] at this
    exact this

end Go.Ev

/- DERIVED. Regions that draw their order, over shapes: each order gives the same. -/
namespace Go.Ev
open Go

variable {P : Program} {T : Ty} {α : Type}

/-- what a call answers -/
inductive RV where
  | sv (x : SV)
  | bx (E : Ent3) (z : HF (ownsP 1000 E.ts) E.forms)

/-- what a call is handed, and answers -/
inductive AV where
  | none
  | im (E : Ent) (x : HL E.ts) (y : SV)
  | bx (E : Ent3) (x : HP E.ts) (z : HF (ownsP 1000 E.ts) E.forms)

def AV.ok : AV → Prop
  | .none => True
  | .im E x y => ∃ r, E.m x = some r ∧ y = resSV E.rs r
  | .bx E x z => E.m x = some z

def settlesP : List (Nat × Sh) → St3 → Option (Bool × St3)
  | [], s => some (true, s)
  | (t, sh) :: r, s => match settle3 s t sh with
    | some (g, s1) => match settlesP r s1 with
      | some (g', s2) => some (g && g', s2)
      | none => none
    | none => none

/-- one operation: its condition, what it calls, the state behind -/
def stepR (T : Ty) (K : Cfg) (A : OA) (rv : Option RV) (o : Oper) (s : St3) : Option (Bool × AV × St3) :=
  match settlesP A.fz s with
  | none => none
  | some (g0, s0) => match A.ent with
    | some E => match rv with
      | some (.sv y) => match call3 E o s0 with
        | some (g, x) => match s0.put3 K o.dst y with
          | some s' => some (g0 && g, .im E x y, s')
          | none => none
        | none => none
      | _ => none
    | none => match A.entB with
      | some _ => match rv with
        | some (.bx E z) => match callB3 E.f E.ts o s0 with
          | some (g, x, bor, q) => caseF (ownsP 1000 E.ts) E.forms z fun rs y =>
            bif chk3 ⟨E.f, E.ts, rs⟩ A.hb s0 x bor q y then (match (after3 ⟨E.f, E.ts, rs⟩ A.hb s0 q y).2.put3 K o.dst (after3 ⟨E.f, E.ts, rs⟩ A.hb s0 q y).1 with
              | some s' => some (g0 && (g && lenOK (outBx ⟨E.f, E.ts, rs⟩ y) s0.boxes (kill3 ⟨E.f, E.ts, rs⟩ (rn3 ⟨E.f, E.ts, rs⟩ A.hb q)) q), .bx E x z, s')
              | none => none) else none
          | none => none
        | _ => none
      | none => match core3 T A.sh o s0 with
        | some r => match s0.eff3 K o.dst r.eff with
          | some s1 => match s1.put3 K o.dst r.val with
            | some s' => some (g0 && r.g, .none, s')
            | none => none
          | none => none
        | none => none

theorem settlesP_ok {nt : Nat} : ∀ {l : List (Nat × Sh)} {s s' : St3} {g : Bool}, settlesP l s = some (g, s') → g = true → Weak (s.st nt) (s'.st nt)
  | [], s, s', g, h, _ => by
    simp only [settlesP, Option.some.injEq, Prod.mk.injEq] at h
    obtain ⟨_, rfl⟩ := h
    exact fun _ _ E _ hs => ⟨E, hs⟩
  | (t, sh) :: r, s, s', g, h, hg => by
    simp only [settlesP] at h
    split at h
    · rename_i g1 s1 h1
      split at h
      · rename_i g2 s2 h2
        simp only [Option.some.injEq, Prod.mk.injEq] at h
        obtain ⟨rfl, rfl⟩ := h
        simp only [Bool.and_eq_true] at hg
        intro Γ w E tmps hs
        obtain ⟨x', ob, q1, q2⟩ := settle3_ok (nt := nt) h1 hg.1
        obtain ⟨E1, hs1⟩ := settles_sound [(t, x')] (s' := s1.st nt) (obs := ob ++ []) hs (by simp only [settles, q1]) (fun p hp => by simp only [List.append_nil] at hp; exact q2 p hp)
        exact settlesP_ok h2 hg.2 Γ w E1 tmps hs1
      · cases h
    · cases h

def RV.S (P : Program) : Option RV → Prop
  | some (.bx E _) => E.Sound P
  | _ => True

theorem stepR_ok (hT : TyOK P T) {K : Cfg} {A : OA} {rv : Option RV} {o : Oper} {s s' : St3} {g : Bool} {av : AV} {nt : Nat} (h : stepR T K A rv o s = some (g, av, s')) (hg : g = true) (hav : av.ok) (hE : A.S P) (hrv : RV.S P rv) : StepDen P K o (s.st nt) (s'.st nt) := by
  unfold stepR at h
  split at h
  · cases h
  rename_i g0 s0 h0
  have fin : ∀ {D : Dec} {obs : List Prop}, g0 = true → step1 P T K o D (s0.st nt) = some (s'.st nt, obs) → (∀ p ∈ obs, p) → StepDen P K o (s.st nt) (s'.st nt) := fun hg0 hs ho => ⟨_, settlesP_ok h0 hg0, step1_sound hT hs ho⟩
  split at h
  · rename_i E hent
    split at h
    · rename_i y
      split at h
      · rename_i g1 x hc
        split at h
        · rename_i s2 hp
          simp only [Option.some.injEq, Prod.mk.injEq] at h
          obtain ⟨rfl, rfl, rfl⟩ := h
          simp only [Bool.and_eq_true] at hg
          obtain ⟨rfl, rfl⟩ := hg
          obtain ⟨r, hm, rfl⟩ := hav
          obtain ⟨obs, h1, h2⟩ := call3_ok (T := T) (nt := nt) hc hm (hE.1 E hent)
          have := put3_ok (nt := nt) hp
          rw [resSV_s] at this
          obtain ⟨D', obs', h3, h4⟩ := quiet_step h2 this
          exact fin rfl h3 (h4 h1)
        · cases h
      · cases h
    · cases h
  · rename_i hent
    split at h
    · rename_i F hF
      split at h
      · rename_i E z
        split at h
        · rename_i g1 x bor q hc
          have hS : E.Sound P := hrv
          have hm : ∀ {r : Bool × AV × St3} , caseF (ownsP 1000 E.ts) E.forms z (fun rs y =>
            bif chk3 ⟨E.f, E.ts, rs⟩ A.hb s0 x bor q y then (match (after3 ⟨E.f, E.ts, rs⟩ A.hb s0 q y).2.put3 K o.dst (after3 ⟨E.f, E.ts, rs⟩ A.hb s0 q y).1 with
              | some s' => some (g0 && (g1 && lenOK (outBx ⟨E.f, E.ts, rs⟩ y) s0.boxes (kill3 ⟨E.f, E.ts, rs⟩ (rn3 ⟨E.f, E.ts, rs⟩ A.hb q)) q), AV.bx E x z, s')
              | none => none) else none) = some r → r.2.1 = .bx E x z := fun {r} hr => by
            have key : ∀ (fs : List (List PK)) (zz : HF (ownsP 1000 E.ts) fs), caseF (ownsP 1000 E.ts) fs zz (fun rs y =>
              bif chk3 ⟨E.f, E.ts, rs⟩ A.hb s0 x bor q y then (match (after3 ⟨E.f, E.ts, rs⟩ A.hb s0 q y).2.put3 K o.dst (after3 ⟨E.f, E.ts, rs⟩ A.hb s0 q y).1 with
                | some s' => some (g0 && (g1 && lenOK (outBx ⟨E.f, E.ts, rs⟩ y) s0.boxes (kill3 ⟨E.f, E.ts, rs⟩ (rn3 ⟨E.f, E.ts, rs⟩ A.hb q)) q), AV.bx E x z, s')
                | none => none) else none) = some r → r.2.1 = .bx E x z := by
              intro fs zz hz
              have hall : AllF (ownsP 1000 E.ts) fs zz (fun _ _ => True) := by
                clear hz
                induction fs with
                | nil => trivial
                | cons f fs ih =>
                  cases fs with
                  | nil => trivial
                  | cons f2 fs => cases zz with
                    | inl a => trivial
                    | inr b => exact ih b
              obtain ⟨rs, y, h1, _⟩ := caseF_some hz hall
              cases hck : chk3 ⟨E.f, E.ts, rs⟩ A.hb s0 x bor q y with
              | false => rw [hck] at h1; cases h1
              | true =>
                rw [hck] at h1
                simp only [cond] at h1
                split at h1
                · obtain rfl := Option.some.inj h1; rfl
                · cases h1
            exact key E.forms z hr
          have e1 : av = .bx E x z := hm h
          subst e1
          have hav : E.m x = some z := hav
          obtain ⟨rs, y, h1, h2⟩ := caseF_some h (hS nt x z hav)
          cases hck : chk3 ⟨E.f, E.ts, rs⟩ A.hb s0 x bor q y with
          | false => rw [hck] at h1; cases h1
          | true =>
            rw [hck] at h1
            simp only [cond] at h1
            split at h1
            · rename_i s2 hp
              simp only [Option.some.injEq, Prod.mk.injEq] at h1
              obtain ⟨e, _, rfl⟩ := h1
              rw [← e] at hg
              simp only [Bool.and_eq_true] at hg
              obtain ⟨rfl, rfl, hl⟩ := hg
              obtain ⟨D, obs, q1, q2⟩ := callB3_ok (T := T) (E := ⟨E.f, E.ts, rs⟩) hc hck hl h2 hp
              exact fin rfl q1 q2
            · cases h1
        · cases h
      · cases h
    · split at h
      · rename_i r hr
        split at h
        · rename_i s1 he
          split at h
          · rename_i s2 hp
            simp only [Option.some.injEq, Prod.mk.injEq] at h
            obtain ⟨rfl, rfl, rfl⟩ := h
            simp only [Bool.and_eq_true] at hg
            obtain ⟨hnt, r1, h1, h2, h3⟩ := core3_ok (nt := nt) hr hg.2
            obtain ⟨h4, h5⟩ := eff3_ok (nt := nt) he h3
            have h6 := put3_ok (nt := nt) hp
            rw [← h5] at h6
            refine fin (D := { cells := hnt }) (obs := r1.ob ++ [] ++ []) hg.1 ?_ (by simpa using h2)
            unfold step1
            simp only [h1, h4, Option.getD_none, h6, Option.map_some]
          · cases h
        · cases h
      · cases h

/-! the row of operations -/
abbrev OA.at (A : List (Nat × OA)) (i : Nat) : OA := (look i A).getD {}

/-- the operations of a set, in their own order -/
def S3 (T : Ty) (K : Cfg) (A : List (Nat × OA)) (q : List (Nat × RV)) (L : Nat) : List (Nat × Oper) → St3 → St3
  | [], s => s
  | (i, o) :: l, s => S3 T K A q L l (bif L.testBit i then (match stepR T K (OA.at A i) (look i q) o s with
    | some r => r.2.2
    | none => s) else s)

/-- answers that fit -/
def WT (A : List (Nat × OA)) : List (Nat × Oper) → List (Nat × RV) → Prop
  | [], q => q = []
  | (i, _) :: l, q => match (OA.at A i).ent with
    | some E => ∃ y q', q = (i, .sv (resSV E.rs y)) :: q' ∧ WT A l q'
    | none => match (OA.at A i).entB with
      | some F => ∃ z q', q = (i, .bx F z) :: q' ∧ WT A l q'
      | none => WT A l q

def Run (T : Ty) (K : Cfg) (A : List (Nat × OA)) (q : List (Nat × RV)) : List (Nat × Oper) → St3 → St3 → Prop
  | [], s, s' => s = s'
  | (i, o) :: l, s, s' => ∃ av s1, stepR T K (OA.at A i) (look i q) o s = some (true, av, s1) ∧ av.ok ∧ Run T K A q l s1 s'

theorem WT.keys {A : List (Nat × OA)} : ∀ {l : List (Nat × Oper)} {q : List (Nat × RV)}, WT A l q → ∀ i, (∀ p ∈ l, p.1 ≠ i) → look i q = none
  | [], q, h, i, _ => by unfold WT at h; subst h; rfl
  | (j, o) :: l, q, h, i, hi => by
    have ih := fun q' (h' : WT A l q') => WT.keys h' i fun p hp => hi p (by simp [hp])
    unfold WT at h
    split at h
    · obtain ⟨y, q', rfl, h'⟩ := h
      rw [look_cons_ne (hi (j, o) (by simp))]
      exact ih q' h'
    · split at h
      · obtain ⟨y, q', rfl, h'⟩ := h
        rw [look_cons_ne (hi (j, o) (by simp))]
        exact ih q' h'
      · exact ih q h

theorem Run.congr {K : Cfg} {A : List (Nat × OA)} {q q' : List (Nat × RV)} : ∀ {l : List (Nat × Oper)} {s s' : St3}, (∀ p ∈ l, look p.1 q = look p.1 q') → Run T K A q l s s' → Run T K A q' l s s'
  | [], _, _, _, h => h
  | (i, o) :: l, s, s', hq, h => by
    obtain ⟨av, s1, h1, h2, h3⟩ := h
    exact ⟨av, s1, by rw [← hq (i, o) (by simp)]; exact h1, h2, Run.congr (fun p hp => hq p (by simp [hp])) h3⟩

theorem settlesP_of {l : List (Nat × Sh)} {s : St3} {k : St3 → Option α} {r : α} (h : settles3 l s k = some r) : ∃ s', settlesP l s = some (true, s') ∧ k s' = some r := by
  induction l generalizing s with
  | nil => exact ⟨s, rfl, h⟩
  | cons p l ih =>
    obtain ⟨t, sh⟩ := p
    simp only [settles3] at h
    split at h
    · rename_i g s1 h1
      cases g with
      | false => cases h
      | true =>
        obtain ⟨s2, h2, h3⟩ := ih h
        exact ⟨s2, by simp only [settlesP, h1, h2, Bool.and_self], h3⟩
    · cases h

theorem ops3_trace {K : Cfg} {ops : List Oper} {A : List (Nat × OA)} : ∀ (l : List (Nat × Oper)) (s : St3) (k : St3 → Option α) (r : α), (l.map (·.1)).Nodup → (∀ p ∈ l, p.2.guard = none) → (∀ p ∈ l, ((OA.at A p.1).ent.isSome && (OA.at A p.1).entB.isSome) = false) →
    ops3 T K ops A l s k = some r → ∃ q s', WT A l q ∧ k s' = some r ∧ Run T K A q l s s'
  | [], s, k, r, _, _, _, h => ⟨[], s, rfl, h, rfl⟩
  | (i, o) :: l, s, k, r, hn, hg, hx, h => by
    simp only [List.map_cons, List.nodup_cons] at hn
    have hni : ∀ p ∈ l, p.1 ≠ i := fun p hp e => hn.1 (by rw [← e]; exact List.mem_map.2 ⟨p, hp, rfl⟩)
    simp only [ops3] at h
    obtain ⟨s0, h0, h⟩ := settlesP_of h
    have hgo : o.guard = none := hg (i, o) (by simp)
    unfold guard3 at h
    rw [hgo] at h
    simp only at h
    have ih := fun s1 h' => ops3_trace (K := K) (ops := ops) (A := A) l s1 k r hn.2 (fun p hp => hg p (by simp [hp])) (fun p hp => hx p (by simp [hp])) h'
    have hxi := hx (i, o) (by simp)
    unfold step3 at h
    cases hent : (OA.at A i).ent with
    | some E =>
      have hB : (OA.at A i).entB = none := by
        cases e : (OA.at A i).entB with
        | none => rfl
        | some F => rw [hent, e] at hxi; cases hxi
      simp only [OA.at] at hent hB
      simp only [hent, hB] at h
      split at h
      · rename_i g x hc
        cases g with
        | false => cases h
        | true =>
          simp only [cond, ob] at h
          split at h
          · rename_i y hm
            split at h
            · rename_i s1 hp
              obtain ⟨q, s', w1, w2, w3⟩ := ih s1 h
              refine ⟨(i, .sv (resSV E.rs y)) :: q, s', ?_, w2, ?_⟩
              · unfold WT; simp only [OA.at, hent]; exact ⟨y, q, rfl, w1⟩
              · refine ⟨.im E x (resSV E.rs y), s1, ?_, ⟨y, hm, rfl⟩, Run.congr (fun p hp => (look_cons_ne (hni p hp).symm).symm) w3⟩
                rw [look_cons_self]
                simp only [stepR, OA.at, h0, hent, hc, hp, Bool.and_self]
            · cases h
          · cases h
      · cases h
    | none =>
      cases hB : (OA.at A i).entB with
      | some F =>
        simp only [OA.at] at hent hB
        simp only [hent, hB] at h
        unfold stepB3 at h
        split at h
        · rename_i g x bor qn hc
          cases g with
          | false => cases h
          | true =>
            simp only [cond] at h
            split at h
            · rename_i z hm
              have hall : ∀ (fs : List (List PK)) (zz : HF (ownsP 1000 F.ts) fs), AllF (ownsP 1000 F.ts) fs zz (fun _ _ => True) := by
                intro fs
                induction fs with
                | nil => intro _; trivial
                | cons f fs ih2 =>
                  intro zz
                  cases fs with
                  | nil => trivial
                  | cons f2 fs => cases zz with
                    | inl a => trivial
                    | inr b => exact ih2 b
              have key : ∀ (fs : List (List PK)) (zz : HF (ownsP 1000 F.ts) fs), (caseF (ownsP 1000 F.ts) fs zz fun rs y => onB K ⟨F.f, F.ts, rs⟩ ((look i A).getD {}).hb o s0 x bor qn y fun s2 => ops3 T K ops A l s2 k) = some r →
                  ∃ s1, (caseF (ownsP 1000 F.ts) fs zz fun rs y =>
                    bif chk3 ⟨F.f, F.ts, rs⟩ ((look i A).getD {}).hb s0 x bor qn y then (match (after3 ⟨F.f, F.ts, rs⟩ ((look i A).getD {}).hb s0 qn y).2.put3 K o.dst (after3 ⟨F.f, F.ts, rs⟩ ((look i A).getD {}).hb s0 qn y).1 with
                      | some s' => some (true && (true && lenOK (outBx ⟨F.f, F.ts, rs⟩ y) s0.boxes (kill3 ⟨F.f, F.ts, rs⟩ (rn3 ⟨F.f, F.ts, rs⟩ ((look i A).getD {}).hb qn)) qn), AV.bx F x z, s')
                      | none => none) else none) = some (true, .bx F x z, s1) ∧ ops3 T K ops A l s1 k = some r := by
                intro fs
                induction fs with
                | nil => intro _ h; cases h
                | cons f fs ih2 =>
                  have one : ∀ (y : HR f (ownsP 1000 F.ts)), (onB K ⟨F.f, F.ts, f⟩ ((look i A).getD {}).hb o s0 x bor qn y fun s2 => ops3 T K ops A l s2 k) = some r →
                      ∃ s1, (bif chk3 ⟨F.f, F.ts, f⟩ ((look i A).getD {}).hb s0 x bor qn y then (match (after3 ⟨F.f, F.ts, f⟩ ((look i A).getD {}).hb s0 qn y).2.put3 K o.dst (after3 ⟨F.f, F.ts, f⟩ ((look i A).getD {}).hb s0 qn y).1 with
                      | some s' => some (true && (true && lenOK (outBx ⟨F.f, F.ts, f⟩ y) s0.boxes (kill3 ⟨F.f, F.ts, f⟩ (rn3 ⟨F.f, F.ts, f⟩ ((look i A).getD {}).hb qn)) qn), AV.bx F x z, s')
                      | none => none) else none) = some (true, .bx F x z, s1) ∧ ops3 T K ops A l s1 k = some r := by
                    intro y h
                    unfold onB at h
                    cases hck : chk3 ⟨F.f, F.ts, f⟩ ((look i A).getD {}).hb s0 x bor qn y with
                    | false => rw [hck] at h; cases h
                    | true =>
                      rw [hck] at h
                      simp only [cond] at h
                      cases hl : lenOK (outBx ⟨F.f, F.ts, f⟩ y) s0.boxes (kill3 ⟨F.f, F.ts, f⟩ (rn3 ⟨F.f, F.ts, f⟩ ((look i A).getD {}).hb qn)) qn with
                      | false => rw [hl] at h; cases h
                      | true =>
                        rw [hl] at h
                        simp only at h
                        split at h
                        · rename_i s1 hp
                          refine ⟨s1, ?_, h⟩
                          simp only [cond, hp, Bool.and_self]
                        · cases h
                  cases fs with
                  | nil => exact one
                  | cons f2 fs =>
                    intro zz h
                    cases zz with
                    | inl a => exact one a h
                    | inr b => exact ih2 b h
              obtain ⟨s1, k1, k2⟩ := key F.forms z h
              obtain ⟨q, s', w1, w2, w3⟩ := ih s1 k2
              refine ⟨(i, .bx F z) :: q, s', ?_, w2, ?_⟩
              · unfold WT; simp only [OA.at, hent, hB]; exact ⟨z, q, rfl, w1⟩
              · refine ⟨.bx F x z, s1, ?_, hm, Run.congr (fun p hp => (look_cons_ne (hni p hp).symm).symm) w3⟩
                rw [look_cons_self]
                simp only [stepR, OA.at, h0, hent, hB, hc]
                exact k1
            · cases h
        · cases h
      | none =>
        simp only [OA.at] at hent hB
        simp only [hent, hB] at h
        split at h
        · rename_i rr hr
          cases hgr : rr.g with
          | false => rw [hgr] at h; cases h
          | true =>
            rw [hgr] at h
            simp only [cond] at h
            split at h
            · rename_i s1 he
              split at h
              · rename_i s2 hp
                obtain ⟨q, s', w1, w2, w3⟩ := ih s2 h
                refine ⟨q, s', ?_, w2, ?_⟩
                · unfold WT; simp only [OA.at, hent, hB]; exact w1
                · refine ⟨.none, s2, ?_, trivial, w3⟩
                  have hnone : look i q = none := WT.keys w1 i hni
                  rw [hnone]
                  simp only [stepR, OA.at, h0, hent, hB, hr, he, hp, hgr, Bool.and_self]
              · cases h
            · cases h
        · cases h

def depsIn (o : Oper) (L : Nat) : Bool := o.after.toList.all fun e => !Region.binds .any e || L.testBit e.on
/-- the sets of operations that may be done -/
def downs : List (Nat × Oper) → List Nat → List Nat
  | [], D => D
  | (i, o) :: l, D => downs l (D ++ (D.filter (depsIn o)).map fun L => L ||| 1 <<< i)
def rdy (l : List (Nat × Oper)) (L : Nat) : List (Nat × Oper) := l.filter fun p => !L.testBit p.1 && depsIn p.2 L

def FamEq (T : Ty) (K : Cfg) (A : List (Nat × OA)) (l : List (Nat × Oper)) (s : St3) (q : List (Nat × RV)) : Prop :=
  (downs l [0]).map (fun L => (rdy l L).map fun p => stepR T K (OA.at A p.1) (look p.1 q) p.2 (S3 T K A q L l s)) =
  (downs l [0]).map (fun L => (rdy l L).map fun p => (stepR T K (OA.at A p.1) (look p.1 q) p.2 (S3 T K A q (2 ^ p.1 - 1) l s)).map fun r => (r.1, r.2.1, S3 T K A q (L ||| 1 <<< p.1) l s))

theorem FamEq.mk {K : Cfg} {A : List (Nat × OA)} {l : List (Nat × Oper)} {s : St3} {q : List (Nat × RV)}
    (h : (downs l [0]).map (fun L => (rdy l L).map fun p => stepR T K (OA.at A p.1) (look p.1 q) p.2 (S3 T K A q L l s)) =
      (downs l [0]).map (fun L => (rdy l L).map fun p => (stepR T K (OA.at A p.1) (look p.1 q) p.2 (S3 T K A q (2 ^ p.1 - 1) l s)).map fun r => (r.1, r.2.1, S3 T K A q (L ||| 1 <<< p.1) l s))) : FamEq T K A l s q := h

def famChk (A : List (Nat × OA)) (l : List (Nat × Oper)) : Bool :=
  l.all fun p => (match p.2.guard with | none => true | some _ => false) && p.2.after.toList.all (fun e => !Region.binds .any e || Nat.blt e.on p.1) && !((OA.at A p.1).ent.isSome && (OA.at A p.1).entB.isSome)

def FamAll (T : Ty) (K : Cfg) (A : List (Nat × OA)) (X : Tm) (ops : Array Oper) : Prop :=
  famChk A (swapIdx ops.toList) = true ∧ ∀ w q, WT A (swapIdx ops.toList) q → FamEq T K A (swapIdx ops.toList) (X.enc w) q

theorem mod_pow_or (L i : Nat) : (L.testBit i = true → L % 2 ^ (i + 1) = L % 2 ^ i ||| 1 <<< i) ∧ (L.testBit i = false → L % 2 ^ (i + 1) = L % 2 ^ i) := by
  constructor
  · intro h
    refine Nat.eq_of_testBit_eq fun j => ?_
    rw [Nat.testBit_mod_two_pow, Nat.testBit_or, Nat.testBit_mod_two_pow, Nat.testBit_shiftLeft]
    by_cases e : j = i
    · subst e; simp [h]
    · by_cases h1 : j < i
      · have h2 : j < i + 1 := by omega
        have h3 : ¬ i ≤ j := by omega
        simp [h1, h2, h3]
      · have h2 : ¬ j < i + 1 := by omega
        obtain ⟨d, hd⟩ : ∃ d, j - i = d + 1 := ⟨j - i - 1, by omega⟩
        simp [h1, h2, hd, Nat.testBit_succ]
  · intro h
    refine Nat.eq_of_testBit_eq fun j => ?_
    rw [Nat.testBit_mod_two_pow, Nat.testBit_mod_two_pow]
    by_cases e : j = i
    · subst e; simp [h]
    · by_cases h1 : j < i
      · have h2 : j < i + 1 := by omega
        simp [h1, h2]
      · have h2 : ¬ j < i + 1 := by omega
        simp [h1, h2]

theorem mem_downs {L : Nat} : ∀ (l : List (Nat × Oper)) (i : Nat) (D : List Nat), (∀ k p, l[k]? = some p → p.1 = i + k ∧ (∀ e ∈ p.2.after, Region.binds .any e = true → e.on < p.1) ∧ (L.testBit p.1 = true → ∀ e ∈ p.2.after, Region.binds .any e = true → L.testBit e.on = true)) →
    L % 2 ^ i ∈ D → L % 2 ^ (i + l.length) ∈ downs l D
  | [], i, D, _, h => by simpa [downs] using h
  | (j, o) :: l, i, D, hl, h => by
    obtain ⟨h1, h2, h3⟩ := hl 0 (j, o) rfl
    simp only [Nat.add_zero] at h1
    subst h1
    simp only [downs, List.length_cons]
    rw [show j + (l.length + 1) = j + 1 + l.length by omega]
    refine mem_downs l (j + 1) _ (fun k p hk => ?_) ?_
    · obtain ⟨a, b⟩ := hl (k + 1) p (by simpa using hk)
      exact ⟨by omega, b⟩
    · cases hb : L.testBit j with
      | false =>
        rw [(mod_pow_or L j).2 hb]
        exact List.mem_append.2 (.inl h)
      | true =>
        rw [(mod_pow_or L j).1 hb]
        refine List.mem_append.2 (.inr (List.mem_map.2 ⟨_, List.mem_filter.2 ⟨h, ?_⟩, rfl⟩))
        unfold depsIn
        refine List.all_eq_true.2 fun e he => ?_
        cases hbe : Region.binds .any e with
        | false => rfl
        | true =>
          have he' : e ∈ o.after := by simpa using he
          have := h2 e he' hbe
          simp only [Nat.testBit_mod_two_pow, this, decide_true, Bool.true_and, Bool.not_true, Bool.false_or]
          exact h3 hb e he' hbe

theorem S3_run {K : Cfg} {A : List (Nat × OA)} {q : List (Nat × RV)} {L : Nat} : ∀ {l : List (Nat × Oper)} {s s' : St3}, Run T K A q l s s' → (∀ p ∈ l, L.testBit p.1 = true) → S3 T K A q L l s = s'
  | [], s, s', h, _ => h
  | (i, o) :: l, s, s', h, hL => by
    obtain ⟨av, s1, h1, _, h3⟩ := h
    simp only [S3, hL (i, o) (by simp), cond, h1]
    exact S3_run h3 fun p hp => hL p (by simp [hp])
theorem S3_skip {K : Cfg} {A : List (Nat × OA)} {q : List (Nat × RV)} {L : Nat} : ∀ {l : List (Nat × Oper)} {s : St3}, (∀ p ∈ l, L.testBit p.1 = false) → S3 T K A q L l s = s
  | [], s, _ => rfl
  | (i, o) :: l, s, hL => by
    simp only [S3, hL (i, o) (by simp), cond]
    exact S3_skip fun p hp => hL p (by simp [hp])

/-- the state ahead of an operation, in their own order -/
theorem Run.at {K : Cfg} {A : List (Nat × OA)} {q : List (Nat × RV)} {i0 : Nat} : ∀ {l : List (Nat × Oper)} {s s' : St3} {b : Nat}, Run T K A q l s s' → (∀ k p, l[k]? = some p → p.1 = b + k) → ∀ {i : Nat} {o : Oper}, i = b + i0 → l[i0]? = some (i, o) →
    ∃ av s1, stepR T K (OA.at A i) (look i q) o (S3 T K A q (2 ^ i - 1) l s) = some (true, av, s1) ∧ av.ok := by
  induction i0 with
  | zero =>
    intro l s s' b h hl i o hi ho
    match l, h with
    | [], _ => simp at ho
    | (j, o') :: l, h =>
      simp only [List.getElem?_cons_zero, Option.some.injEq, Prod.mk.injEq] at ho
      obtain ⟨rfl, rfl⟩ := ho
      obtain ⟨av, s1, h1, h2, _⟩ := h
      refine ⟨av, s1, ?_, h2⟩
      rw [S3_skip (fun p hp => ?_)]
      · exact h1
      · obtain ⟨k, hk⟩ := List.getElem?_of_mem hp
        have := hl k p hk
        rw [Nat.testBit_two_pow_sub_one]
        simp only [decide_eq_false_iff_not]
        omega
  | succ i0 ih =>
    intro l s s' b h hl i o hi ho
    match l, h with
    | [], _ => simp at ho
    | (j, o') :: l, h =>
      obtain ⟨av, s1, h1, _, h3⟩ := h
      have hj := hl 0 (j, o') rfl
      simp only [Nat.add_zero] at hj
      obtain ⟨av2, s2, q1, q2⟩ := ih (b := b + 1) h3 (fun k p hk => by have := hl (k + 1) p (by simpa using hk); omega) (i := i) (o := o) (by omega) (by simpa using ho)
      refine ⟨av2, s2, ?_, q2⟩
      have hb : (2 ^ i - 1).testBit j = true := by
        rw [Nat.testBit_two_pow_sub_one]; simp only [decide_eq_true_eq]; omega
      simp only [S3, hb, cond, h1]
      exact q1

theorem WT.bx {A : List (Nat × OA)} : ∀ {l : List (Nat × Oper)} {q : List (Nat × RV)}, WT A l q → ∀ {i : Nat} {E : Ent3} {z : HF (ownsP 1000 E.ts) E.forms}, look i q = some (.bx E z) → (OA.at A i).entB = some E
  | [], q, h, i, E, z, hi => by unfold WT at h; subst h; cases hi
  | (j, o) :: l, q, h, i, E, z, hi => by
    unfold WT at h
    split at h
    · obtain ⟨y, q', rfl, h'⟩ := h
      simp only [look] at hi
      cases hb : Nat.beq j i with
      | true => rw [hb] at hi; cases hi
      | false => rw [hb] at hi; exact WT.bx h' hi
    · split at h
      · rename_i F hF
        obtain ⟨y, q', rfl, h'⟩ := h
        simp only [look] at hi
        cases hb : Nat.beq j i with
        | true =>
          rw [hb] at hi
          have := Nat.eq_of_beq_eq_true hb
          subst this
          simp only [cond, Option.some.injEq, RV.bx.injEq] at hi
          obtain ⟨rfl, _⟩ := hi
          exact hF
        | false => rw [hb] at hi; exact WT.bx h' hi
      · exact WT.bx h hi

theorem swapIdx_at {l : List Oper} {k : Nat} {p : Nat × Oper} (h : (swapIdx l)[k]? = some p) : p.1 = 0 + k := by
  rw [Nat.zero_add]; exact (swapIdx_get h).1

theorem fam_ok (hT : TyOK P T) (hfol : P.follows .mixedOrders = true) {K : Cfg} {A : List (Nat × OA)} {X : Tm} {id : Nat} {ops : Array Oper} {nt : Nat} (hE : ∀ i a, look i A = some a → a.S P) (hF : FamAll T K A X ops) {w : X.den} {k : St3 → Option α} {r : α}
    (h : ops3 T K ops.toList A (swapIdx ops.toList) (X.enc w) k = some r) : ∃ s', Code.Den P K (.region id ops true) ((X.enc w).st nt) .normal (s'.st nt) ∧ k s' = some r := by
  obtain ⟨hchk, hfam⟩ := hF
  have chk : ∀ p ∈ swapIdx ops.toList, p.2.guard = none ∧ (∀ e ∈ p.2.after, Region.binds .any e = true → e.on < p.1) ∧ ((OA.at A p.1).ent.isSome && (OA.at A p.1).entB.isSome) = false := fun p hp => by
    have := List.all_eq_true.1 hchk p hp
    simp only [Bool.and_eq_true] at this
    obtain ⟨⟨h1, h2⟩, h3⟩ := this
    refine ⟨?_, fun e he hb => ?_, by cases hx : ((OA.at A p.1).ent.isSome && (OA.at A p.1).entB.isSome) with | false => rfl | true => rw [hx] at h3; cases h3⟩
    · cases hg : p.2.guard with
      | none => rfl
      | some _ => rw [hg] at h1; cases h1
    · have := List.all_eq_true.1 h2 e (by simpa using he)
      rw [hb] at this
      simpa [Nat.blt_eq] using this
  have hnod : ((swapIdx ops.toList).map (·.1)).Nodup := by
    have : (swapIdx ops.toList).map (·.1) = List.range ops.toList.length := by
      apply List.ext_getElem?
      intro j
      simp only [swapIdx, List.map_map, List.getElem?_map, List.getElem?_zipIdx]
      by_cases hj : j < ops.toList.length
      · simp at hj; simp [hj]
      · simp at hj; simp [hj]
    rw [this]; exact List.nodup_range
  obtain ⟨q, s', hw, hk, hrun⟩ := ops3_trace _ _ _ _ hnod (fun p hp => (chk p hp).1) (fun p hp => (chk p hp).2.2) h
  refine ⟨s', ?_, hk⟩
  have hsz : (swapIdx ops.toList).length = ops.size := by simp [swapIdx]
  have at_ : ∀ (i : Nat) (o : Oper), ops[i]? = some o → (swapIdx ops.toList)[i]? = some (i, o) := fun i o hi => by
    obtain ⟨h1, h2⟩ := Array.getElem?_eq_some_iff.1 hi
    simp [swapIdx, List.getElem?_zipIdx, h1, h2]
  have h0 : S3 T K A q 0 (swapIdx ops.toList) (X.enc w) = X.enc w := S3_skip fun p _ => by simp
  have hfull : S3 T K A q (2 ^ ops.size - 1) (swapIdx ops.toList) (X.enc w) = s' := S3_run hrun fun p hp => by
    obtain ⟨j, hj⟩ := List.getElem?_of_mem hp
    have := (swapIdx_get hj).1
    have hlt := (List.getElem?_eq_some_iff.1 hj).1
    rw [Nat.testBit_two_pow_sub_one]
    simp only [decide_eq_true_eq]
    omega
  have := fam_sound (P := P) hfol (K := K) (id := id) (ops := ops) (S := fun L => (S3 T K A q L (swapIdx ops.toList) (X.enc w)).st nt)
    (fun i o hi => (chk (i, o) (List.mem_of_getElem? (at_ i o hi))).2.1) (fun L i o hbig hcl hoi hbit hdep => ?_)
  · simp only [h0, hfull] at this
    exact this
  · have hmem := List.mem_of_getElem? (at_ i o hoi)
    refine ⟨(chk (i, o) hmem).1, ?_⟩
    have hLd : L ∈ downs (swapIdx ops.toList) [0] := by
      have := mem_downs (L := L) (swapIdx ops.toList) 0 [0] (fun k p hk => ?_) (by simp [Nat.mod_one])
      · have e : L % 2 ^ (0 + (swapIdx ops.toList).length) = L := by
          refine Nat.eq_of_testBit_eq fun j => ?_
          rw [Nat.testBit_mod_two_pow, hsz, Nat.zero_add]
          by_cases hj : j < ops.size
          · simp [hj]
          · rw [hbig j (by omega)]; simp
        rw [e] at this; exact this
      · obtain ⟨h1, h2⟩ := swapIdx_get hk
        refine ⟨by omega, (chk p (List.mem_of_getElem? hk)).2.1, fun hb e he hbe => hcl p.1 p.2 hb ?_ e he hbe⟩
        rw [h1]
        simpa using h2
    have hrd : (i, o) ∈ rdy (swapIdx ops.toList) L := by
      refine List.mem_filter.2 ⟨hmem, ?_⟩
      simp only [hbit, Bool.not_false, Bool.true_and]
      unfold depsIn
      refine List.all_eq_true.2 fun e he => ?_
      cases hbe : Region.binds .any e with
      | false => rfl
      | true => simpa using hdep e (by simpa using he) hbe
    have e1 := List.map_inj_left.1 (hfam w q hw) L hLd
    have e2 := List.map_inj_left.1 e1 (i, o) hrd
    obtain ⟨av, s1, b1, b2⟩ := Run.at (i0 := i) hrun (fun k p hk => swapIdx_at hk) (i := i) (o := o) (by omega) (at_ i o hoi)
    simp only [b1, Option.map_some] at e2
    have hAi : (OA.at A i).S P := by
      unfold OA.at
      cases hl : look i A with
      | none => exact ⟨(fun E h => by cases h), (fun E h => by cases h)⟩
      | some a => exact hE i a hl
    refine stepR_ok hT e2 rfl b2 hAi ?_
    unfold RV.S
    split
    · rename_i E z hz
      exact hAi.2 E (WT.bx hw hz)
    · trivial

end Go.Ev

/- DERIVED. Code, loops and functions over shapes. -/
namespace Go.Ev
open Go

variable {P : Program} {T : Ty} {α : Type}

/-- a loop's model says what the loop does -/
def LO.Sound (P : Program) (K : Cfg) (L : LO α) (c : Code) : Prop :=
  ∀ (nt : Nat) (v : L.H.den) (k : Exit → St3 → Option α) (r : α), L.run v (ksOf k L.outs) = some r → ∃ x s', Code.Den P K c ((L.H.enc v).st nt) x (s'.st nt) ∧ k x s' = some r

/-- the loops of a piece of code, outermost ones -/
def loopsOf : Code → List (Nat × Code)
  | .seq c d => loopsOf c ++ loopsOf d
  | .cond _ c d => loopsOf c ++ loopsOf d
  | .block _ c => loopsOf c
  | .loop c => [(firstReg c, .loop c)]
  | .rangeFunc f ps a b => [(match firstReg a with | 0 => firstReg b | n + 1 => n + 1, .rangeFunc f ps a b)]
  | _ => []

/-- the regions that draw their order, those of loops left out -/
def anysOf : Code → List (Nat × Array Oper)
  | .seq c d => anysOf c ++ anysOf d
  | .cond _ c d => anysOf c ++ anysOf d
  | .block _ c => anysOf c
  | .region id ops true => [(id, ops)]
  | _ => []
def regOps : Code → Array Oper
  | .region _ ops _ => ops
  | _ => #[]

structure D3.OK (P : Program) (T : Ty) (K : Cfg) (D : D3 α) (c : Code) : Prop where
  ent : ∀ id A, look id D.reg = some A → ∀ i a, look i A.ops = some a → a.S P
  loop : ∀ p ∈ loopsOf c, ∀ L, look p.1 D.loop = some L → L.Sound P K p.2
  any : ∀ p ∈ anysOf c, ∀ X, look p.1 D.any = some X → FamAll T K ((look p.1 D.reg).getD {}).ops X p.2

/-- the callees that are named -/
def entsOps : List (Nat × OA) → List (Ent ⊕ Ent3)
  | [] => []
  | (_, a) :: r => match a.ent with
    | some E => .inl E :: (match a.entB with
      | some F => .inr F :: entsOps r
      | none => entsOps r)
    | none => match a.entB with
      | some E => .inr E :: entsOps r
      | none => entsOps r
def entsOf : List (Nat × RA) → List (Ent ⊕ Ent3)
  | [] => []
  | (_, A) :: r => entsOps A.ops ++ entsOf r
def EntS (P : Program) : Ent ⊕ Ent3 → Prop
  | .inl E => E.Sound P
  | .inr E => E.Sound P
def AllS (P : Program) : List (Ent ⊕ Ent3) → Prop
  | [] => True
  | .inl E :: r => E.Sound P ∧ AllS P r
  | .inr E :: r => E.Sound P ∧ AllS P r
def AllL (P : Program) (K : Cfg) (D : D3 α) : List (Nat × Code) → Prop
  | [] => True
  | p :: r => (∀ L, look p.1 D.loop = some L → L.Sound P K p.2) ∧ AllL P K D r

theorem AllS.mem : ∀ {l : List (Ent ⊕ Ent3)}, AllS P l → ∀ E ∈ l, EntS P E
  | [], _, E, h => by cases h
  | .inl F :: r, hs, E, h => by
    rcases List.mem_cons.1 h with rfl | h
    · exact hs.1
    · exact AllS.mem hs.2 E h
  | .inr F :: r, hs, E, h => by
    rcases List.mem_cons.1 h with rfl | h
    · exact hs.1
    · exact AllS.mem hs.2 E h
theorem AllL.mem {K : Cfg} {D : D3 α} : ∀ {l : List (Nat × Code)}, AllL P K D l → ∀ p ∈ l, ∀ L, look p.1 D.loop = some L → L.Sound P K p.2
  | [], _, p, h => by cases h
  | q :: r, hs, p, h => by
    rcases List.mem_cons.1 h with rfl | h
    · exact hs.1
    · exact AllL.mem hs.2 p h

theorem entsOps_mem : ∀ {l : List (Nat × OA)} {i : Nat} {a : OA}, look i l = some a → (∀ E, a.ent = some E → Sum.inl E ∈ entsOps l) ∧ ∀ E, a.entB = some E → Sum.inr E ∈ entsOps l
  | [], _, _, h => by cases h
  | (j, b) :: r, i, a, h => by
    simp only [look] at h
    cases hb : Nat.beq j i with
    | true =>
      rw [hb] at h
      obtain rfl := Option.some.inj h
      refine ⟨fun E he => ?_, fun E he => ?_⟩
      · simp only [entsOps, he]; exact List.mem_cons_self
      · simp only [entsOps]
        cases b.ent with
        | some F => simp only [he]; exact List.mem_cons_of_mem _ List.mem_cons_self
        | none => simp only [he]; exact List.mem_cons_self
    | false =>
      rw [hb] at h
      have := entsOps_mem h
      have up : ∀ x, x ∈ entsOps r → x ∈ entsOps ((j, b) :: r) := by
        intro x hx
        simp only [entsOps]
        split
        · split
          · exact List.mem_cons_of_mem _ (List.mem_cons_of_mem _ hx)
          · exact List.mem_cons_of_mem _ hx
        · split
          · exact List.mem_cons_of_mem _ hx
          · exact hx
      exact ⟨fun E he => up _ (this.1 E he), fun E he => up _ (this.2 E he)⟩
theorem entsOf_mem : ∀ {l : List (Nat × RA)} {id : Nat} {A : RA} {E : Ent ⊕ Ent3}, look id l = some A → E ∈ entsOps A.ops → E ∈ entsOf l
  | [], _, _, _, h, _ => by cases h
  | (j, B) :: r, id, A, E, h, he => by
    simp only [look] at h
    simp only [entsOf, List.mem_append]
    cases hb : Nat.beq j id with
    | true =>
      rw [hb] at h
      obtain rfl := Option.some.inj h
      exact .inl he
    | false =>
      rw [hb] at h
      exact .inr (entsOf_mem h he)

/-- each region that is named has one outcome -/
def AllA (T : Ty) (K : Cfg) (D : D3 α) : List (Nat × Array Oper) → Prop
  | [] => True
  | p :: r => (∀ X, look p.1 D.any = some X → FamAll T K ((look p.1 D.reg).getD {}).ops X p.2) ∧ AllA T K D r
theorem AllA.mem {K : Cfg} {D : D3 α} : ∀ {l : List (Nat × Array Oper)}, AllA T K D l → ∀ p ∈ l, ∀ X, look p.1 D.any = some X → FamAll T K ((look p.1 D.reg).getD {}).ops X p.2
  | [], _, p, hp => by cases hp
  | q :: r, h, p, hp => by
    rcases List.mem_cons.1 hp with rfl | hp
    · exact h.1
    · exact AllA.mem h.2 p hp

theorem D3.OK.mk3a {K : Cfg} {D : D3 α} {c : Code} {ls : List (Nat × Code)} {as : List (Nat × Array Oper)} (he : AllS P (entsOf D.reg)) (hl : loopsOf c = ls) (h : AllL P K D ls) (ha : anysOf c = as) (h' : AllA T K D as) : D3.OK P T K D c :=
  ⟨fun _ _ hA _ _ ha' => ⟨fun E hE => he.mem (.inl E) (entsOf_mem hA ((entsOps_mem ha').1 E hE)), fun E hE => he.mem (.inr E) (entsOf_mem hA ((entsOps_mem ha').2 E hE))⟩, fun p hp => h.mem p (by rw [← hl]; exact hp), fun p hp => h'.mem p (by rw [← ha]; exact hp)⟩
theorem D3.OK.mk3 {K : Cfg} {D : D3 α} {c : Code} {ls : List (Nat × Code)} (he : AllS P (entsOf D.reg)) (hl : loopsOf c = ls) (h : AllL P K D ls) (ha : D.any = [] := by rfl) : D3.OK P T K D c :=
  ⟨fun _ _ hA _ _ ha' => ⟨fun E hE => he.mem (.inl E) (entsOf_mem hA ((entsOps_mem ha').1 E hE)), fun E hE => he.mem (.inr E) (entsOf_mem hA ((entsOps_mem ha').2 E hE))⟩, fun p hp => h.mem p (by rw [← hl]; exact hp), fun p _ X hX => by rw [ha] at hX; cases hX⟩

theorem look_sound {K : Cfg} {i : Nat} {l : List (Nat × LO α)} {L0 : LO α} {c : Code} (h : look i l = some L0) (hs : L0.Sound P K c) : ∀ L, look i l = some L → L.Sound P K c := fun L hL => by
  rw [h] at hL
  obtain rfl := Option.some.inj hL
  exact hs

theorem Den.weakT {K : Cfg} {c : Code} {s : St} {s1 : St3} {x : Exit} {X : Tm} {w : X.den} {nt : Nat} (h : Code.Den P K c s x (s1.st nt)) (hd : X.dec s1 = some w) : Code.Den P K c s x ((X.enc w).st nt) :=
  Den.weak h fun _ _ _ _ hs => Tm.dec_ok hd hs

theorem Den.weakIn {K : Cfg} {c : Code} {s : St3} {s' : St} {x : Exit} {X : Tm} {w : X.den} {nt : Nat} (h : Code.Den P K c ((X.enc w).st nt) x s') (hd : X.dec s = some w) : Code.Den P K c (s.st nt) x s' := by
  intro Γ wd E a ro n hK hdef hs
  obtain ⟨E', hs'⟩ := Tm.dec_ok hd hs
  exact h Γ wd E' a ro n hK hdef hs'

theorem D3.OK.left {K : Cfg} {D : D3 α} {c d : Code} (h : D3.OK P T K D (.seq c d)) : D3.OK P T K D c := ⟨h.ent, fun p hp => h.loop p (List.mem_append.2 (.inl hp)), fun p hp => h.any p (List.mem_append.2 (.inl hp))⟩
theorem D3.OK.right {K : Cfg} {D : D3 α} {c d : Code} (h : D3.OK P T K D (.seq c d)) : D3.OK P T K D d := ⟨h.ent, fun p hp => h.loop p (List.mem_append.2 (.inr hp)), fun p hp => h.any p (List.mem_append.2 (.inr hp))⟩

theorem exec3_ok (hT : TyOK P T) (hfol : P.follows .mixedOrders = true) {K : Cfg} {D : D3 α} {nt : Nat} : ∀ (c : Code) (s : St3) (k : Exit → St3 → Option α) (r : α), D3.OK P T K D c → exec3 P T K D c s k = some r →
    ∃ x s', Code.Den P K c (s.st nt) x (s'.st nt) ∧ k x s' = some r := by
  intro c
  induction c with
  | skip => intro s k r _ h; exact ⟨.normal, s, Den.skip, h⟩
  | region id ops draw =>
    intro s k r hD h
    simp only [exec3] at h
    have hEnt : ∀ i a, look i ((look id D.reg).getD {}).ops = some a → a.S P := fun i a hi => by
      cases hl : look id D.reg with
      | none => rw [hl] at hi; cases hi
      | some A => rw [hl] at hi; exact hD.ent id A hl i a hi
    split at h
    · rename_i X hX
      cases draw with
      | false => cases h
      | true =>
        simp only [cond] at h
        split at h
        · rename_i w hw
          obtain ⟨s', h1, h2⟩ := fam_ok (id := id) (nt := nt) hT hfol hEnt (hD.any (id, ops) (by simp [anysOf]) X hX) h
          exact ⟨.normal, s', Den.weakIn h1 hw, h2⟩
        · cases h
    · obtain ⟨s', h1, h2⟩ := reg3_ok (id := id) (nt := nt) hT hfol hEnt h
      exact ⟨.normal, s', h1, h2⟩
  | seq c d ihc ihd =>
    intro s k r hD h
    simp only [exec3] at h
    split at h
    · obtain ⟨x, s1, h1, h2⟩ := ihc _ _ _ hD.left h
      cases x with
      | normal =>
        obtain ⟨y, s2, h3, h4⟩ := ihd _ _ _ hD.right h2
        exact ⟨y, s2, Den.seq h1 h3, h4⟩
      | _ => exact ⟨_, s1, Den.seqX (by simp) h1, h2⟩
    · rename_i X hX
      obtain ⟨x, s1, h1, h2⟩ := ihc _ _ _ hD.left h
      cases x with
      | normal =>
        simp only at h2
        split at h2
        · rename_i w hw
          obtain ⟨y, s2, h3, h4⟩ := ihd _ _ _ hD.right h2
          exact ⟨y, s2, Den.seq (Den.weakT h1 hw) h3, h4⟩
        · cases h2
      | _ => exact ⟨_, s1, Den.seqX (by simp) h1, h2⟩
  | cond c a b iha ihb =>
    intro s k r hD h
    cases c with
    | tmp t =>
      simp only [exec3] at h
      split at h
      · rename_i y hl
        have hl' := slot_bool (nt := nt) hl
        cases y with
        | true =>
          simp only [cond] at h
          obtain ⟨x, s', h1, h2⟩ := iha _ _ _ (D3.OK.left (d := b) ⟨hD.ent, hD.loop, hD.any⟩) h
          rw [slot_set hl] at h1
          exact ⟨x, s', Den.cond (b := true) rfl hl' h1, h2⟩
        | false =>
          simp only [cond] at h
          obtain ⟨x, s', h1, h2⟩ := ihb _ _ _ (D3.OK.right (c := a) ⟨hD.ent, hD.loop, hD.any⟩) h
          rw [slot_set hl] at h1
          exact ⟨x, s', Den.cond (b := false) rfl hl' h1, h2⟩
      · cases h
    | const => simp [exec3] at h
    | global => simp [exec3] at h
    | func => simp [exec3] at h
  | block id c ih =>
    intro s k r hD h
    simp only [exec3] at h
    obtain ⟨x, s', h1, h2⟩ := ih _ _ _ ⟨hD.ent, hD.loop, hD.any⟩ h
    cases x with
    | exit j =>
      simp only at h2
      cases hb : Nat.beq j id with
      | true =>
        rw [hb] at h2
        obtain rfl := Nat.eq_of_beq_eq_true hb
        exact ⟨.normal, s', Den.blockX h1, h2⟩
      | false =>
        rw [hb] at h2
        exact ⟨.exit j, s', Den.block h1 (by intro e; injection e with e; subst e; simp at hb), h2⟩
    | _ => exact ⟨_, s', Den.block h1 (by simp), h2⟩
  | loop c ih =>
    intro s k r hD h
    simp only [exec3] at h
    split at h
    · rename_i L hL
      split at h
      · rename_i v hv
        obtain ⟨x, s', h1, h2⟩ := hD.loop _ (List.mem_singleton.2 rfl) L hL nt v k r h
        exact ⟨x, s', Den.weakIn h1 hv, h2⟩
      · cases h
    · cases h
  | rangeFunc f ps a b _ _ =>
    intro s k r hD h
    simp only [exec3] at h
    split at h
    · rename_i L hL
      split at h
      · rename_i v hv
        obtain ⟨x, s', h1, h2⟩ := hD.loop _ (List.mem_singleton.2 rfl) L hL nt v k r h
        exact ⟨x, s', Den.weakIn h1 hv, h2⟩
      · cases h
    · cases h
  | exit id => intro s k r _ h; exact ⟨.exit id, s, Den.exit, h⟩
  | ret => intro s k r _ h; exact ⟨.ret, s, Den.ret, h⟩
  | scope c _ => intro s k r _ h; simp [exec3] at h
  | label l => intro s k r _ h; simp [exec3] at h
  | goto l => intro s k r _ h; simp [exec3] at h
  | refuse w => intro s k r _ h; simp [exec3] at h

theorem pickK_ok {k : Exit → St3 → Option α} {y : Exit} {s : St3} {r : α} : ∀ {l : List (Exit × Tm)}, pickK l (ksOf k l) y s = some r → ∃ (X : Tm) (w : X.den), X.dec s = some w ∧ k y (X.enc w) = some r
  | [], h => by cases h
  | (x, X) :: l, h => by
    simp only [pickK] at h
    cases hb : Exit.eqb x y with
    | true =>
      rw [hb] at h
      obtain rfl := Exit.eqb_eq hb
      simp only [cond] at h
      split at h
      · rename_i w hw; exact ⟨X, w, hw, h⟩
      · cases h
    | false =>
      rw [hb] at h
      exact pickK_ok h

/-- THE USE for a loop -/
theorem loop_ok (hT : TyOK P T) (hfol : P.follows .mixedOrders = true) {K : Cfg} {D : D3 α} {c : Code} {H : Tm} {outs : List (Exit × Tm)} (B : H.den → (H.den → Option α) → KS α outs → Option α) (hD : D3.OK P T K D c)
    (hB : ∀ v f ks, exec3 P T K D c (H.enc v) (around H outs f ks) = B v f ks) (n : Nat) : (⟨H, outs, rounds B n⟩ : LO α).Sound P K (.loop c) := by
  intro nt v k r h
  have key : ∀ (n : Nat) (v : H.den), rounds B n v (ksOf k outs) = some r → ∃ x s', LoopDen P K c ((H.enc v).st nt) x (s'.st nt) ∧ k x s' = some r := by
    intro n
    induction n with
    | zero => intro v h; cases h
    | succ n ih =>
      intro v h
      simp only [rounds] at h
      rw [← hB] at h
      obtain ⟨x, s1, h1, h2⟩ := exec3_ok hT hfol (nt := nt) _ _ _ _ hD h
      have out : ∀ x, x ≠ .normal → Code.Den P K c ((H.enc v).st nt) x (s1.st nt) → pickK outs (ksOf k outs) x s1 = some r → ∃ x s', LoopDen P K c ((H.enc v).st nt) x (s'.st nt) ∧ k x s' = some r := by
        intro x hx hd hp
        obtain ⟨X, w, hw, hk⟩ := pickK_ok hp
        exact ⟨x, X.enc w, .last hx (Den.weakT hd hw), hk⟩
      cases x with
      | normal =>
        simp only [around] at h2
        split at h2
        · rename_i v' hv
          obtain ⟨y, s2, h3, h4⟩ := ih v' h2
          exact ⟨y, s2, .round (Den.weakT h1 hv) h3, h4⟩
        · cases h2
      | _ => exact out _ (by simp) h1 h2
  obtain ⟨x, s', h1, h2⟩ := key n v h
  exact ⟨x, s', Den.loop h1, h2⟩

/-! functions -/
theorem raw3_ok' {s : St3} {nt : Nat} {rv : ResultVar} {v : SV} (h : raw3 T s rv = some v) (hs : v.s (lens s.boxes) = .v (v.v (lens s.boxes))) : ∃ obs, resRaw T (s.st nt) rv = some (v.v (lens s.boxes), obs) ∧ ∀ p ∈ obs, p := by
  unfold raw3 at h
  split at h
  · rename_i t
    refine ⟨[], ?_, by simp⟩
    simp only [resRaw, St3.st, look_mapV, h, Option.map_some, hs]
  · rename_i a ty
    split at h
    · rename_i hh row col ha
      split at h
      · rename_i e hf fz cs hl
        split at h
        · rename_i r hr
          obtain rfl := Option.some.inj h
          have hv : (s.st nt).val (.tmp a) = .v (.one (.hp hh row col)) := val3 ha rfl
          unfold load3 at hr
          split at hr
          · cases hr
          · rename_i ti hti
            simp only [hl] at hr
            cases hb : (Nat.beq row 0 && Nat.ble (col + ti.size) cs.length && cs.all SV.cellB) with
            | false => rw [hb] at hr; cases hr
            | true =>
              rw [hb] at hr
              simp only [Bool.and_eq_true] at hb
              obtain rfl := Nat.eq_of_beq_eq_true hb.1.1
              simp only [cond, Option.map_eq_some_iff] at hr
              obtain ⟨z, hz, rfl⟩ := hr
              obtain ⟨h1, h2⟩ := ofCells3_ok (L := lens s.boxes) hz (all_drop _ hb.2)
              rw [List.map_drop] at h1
              have hbx : (s.st nt).box hh = some ((B3.var e hf fz cs).box (lens s.boxes)) := by
                show look hh (mapV (B3.box (lens s.boxes)) s.boxes) = _
                rw [box_at, hl]; rfl
              refine ⟨[], ?_, by simp⟩
              simp only [resRaw, hv, evLoad, hti, hbx, B3.box, List.length_map, hb.1.2, cond, h1, Option.bind_some]
        · cases h
      · cases h
    · cases h

theorem raw3_ok {s : St3} {nt : Nat} {rv : ResultVar} {v : SV} {t : Sh} {q} (h : raw3 T s rv = some v) (hc : convV3 s.boxes t v = some (true, q)) : ∃ obs, resRaw T (s.st nt) rv = some (v.v (lens s.boxes), obs) ∧ ∀ p ∈ obs, p := by
  obtain ⟨x, ks⟩ := q
  exact raw3_ok' h (convV3_ok hc rfl).1

theorem one3_ok {s : St3} {nt : Nat} {t : Sh} {rv : ResultVar} {g : Bool} {x : t.den} {ks : List Nat} (h : one3 T s rv t = some (g, x, ks)) (hg : g = true) :
    ∃ obs, resOne T (s.st nt) rv (some (t.v x)) = some (t.v x, obs, ks) ∧ (∀ p ∈ obs, p) ∧ ∀ k ∈ ks, k < 1000 ∧ (look k s.boxes).isSome = true := by
  subst hg
  unfold one3 at h
  split at h
  · rename_i v hv
    obtain ⟨obs, h1, h2⟩ := raw3_ok (nt := nt) hv h
    obtain ⟨_, ⟨ob, h3, h4⟩, h5⟩ := convV3_ok h rfl
    have h3' : convV (s.st nt).box (v.v (lens s.boxes)) (t.v x) = some (ob, ks) := h3
    refine ⟨obs ++ ob, ?_, fun p hp => ?_, h5⟩
    · simp only [resOne, h1, h3']
    · rcases List.mem_append.1 hp with hp | hp
      · exact h2 p hp
      · exact h4 p hp
  · cases h

theorem rets3_ok {s : St3} {nt : Nat} : ∀ {ts : List Sh} {rvs : List ResultVar} {x : HL ts} {g : Bool}, rets3 T s ts rvs = some (g, x) → g = true →
    ∃ obs ks, resAll T (s.st nt) rvs ((valsV ts x).map some) = some (valsV ts x, obs, ks) ∧ (∀ p ∈ obs, p) ∧ ∀ k ∈ ks, k < 1000 ∧ (look k s.boxes).isSome = true := by
  have one : ∀ {t : Sh} {rv : ResultVar} {g : Bool} {x : t.den} {ks : List Nat}, one3 T s rv t = some (g, x, ks) → g = true →
      ∃ obs, resOne T (s.st nt) rv (some (t.v x)) = some (t.v x, obs, ks) ∧ (∀ p ∈ obs, p) ∧ ∀ k ∈ ks, k < 1000 ∧ (look k s.boxes).isSome = true := by
    intro t rv g x ks h hg
    subst hg
    unfold one3 at h
    split at h
    · rename_i v hv
      obtain ⟨obs, h1, h2⟩ := raw3_ok (nt := nt) hv h
      obtain ⟨_, ⟨ob, h3, h4⟩, h5⟩ := convV3_ok h rfl
      have h3' : convV (s.st nt).box (v.v (lens s.boxes)) (t.v x) = some (ob, ks) := h3
      refine ⟨obs ++ ob, ?_, fun p hp => ?_, h5⟩
      · simp only [resOne, h1, h3']
      · rcases List.mem_append.1 hp with hp | hp
        · exact h2 p hp
        · exact h4 p hp
    · cases h
  intro ts
  induction ts with
  | nil =>
    intro rvs x g h hg
    cases rvs with
    | nil => exact ⟨[], [], rfl, by simp, by simp⟩
    | cons => simp [rets3] at h
  | cons t ts ih =>
    intro rvs x g h hg
    cases ts with
    | nil =>
      cases rvs with
      | nil => simp [rets3] at h
      | cons rv rvs =>
        cases rvs with
        | nil =>
          simp only [rets3] at h
          split at h
          · rename_i g1 y ks h1
            simp only [Option.some.injEq, Prod.mk.injEq] at h
            obtain ⟨rfl, rfl⟩ := h
            obtain ⟨obs, o1, o2, o3⟩ := one h1 hg
            refine ⟨obs ++ [], ks ++ [], ?_, by simpa using o2, by simpa using o3⟩
            simp only [valsV, List.map_cons, List.map_nil, resAll, List.headD_cons, o1]
          · cases h
        | cons => simp [rets3] at h
    | cons u r =>
      cases rvs with
      | nil => simp [rets3] at h
      | cons rv rvs =>
        simp only [rets3] at h
        split at h
        · rename_i g1 y ks g2 ys h1 h2
          simp only [Option.some.injEq, Prod.mk.injEq] at h
          obtain ⟨rfl, rfl⟩ := h
          simp only [Bool.and_eq_true] at hg
          obtain ⟨obs, o1, o2, o3⟩ := one h1 hg.1
          obtain ⟨obs', ks', p1, p2, p3⟩ := ih h2 hg.2
          refine ⟨obs ++ obs', ks ++ ks', ?_, fun p hp => ?_, fun k hk => ?_⟩
          · simp only [valsV, List.map_cons, resAll, List.headD_cons, List.tail_cons, o1]
            have : resAll T (s.st nt) rvs ((valsV (u :: r) ys).map some) = _ := p1
            rw [this]
          · rcases List.mem_append.1 hp with hp | hp
            · exact o2 p hp
            · exact p2 p hp
          · rcases List.mem_append.1 hk with hk | hk
            · exact o3 k hk
            · exact p3 k hk
        · cases h

theorem params_st : ∀ (vs : List SV) (L : Nat → Nat) (i : Nat), (∀ v ∈ vs, v.s L = .v (v.v L)) → mapV (SV.s L) (paramsSV i vs) = params i (vs.map (SV.v L))
  | [], _, _, _ => rfl
  | v :: r, L, i, h => by
    have ih := params_st r L (i + 1) fun x hx => h x (by simp [hx])
    simp only [paramsSV, mapV, List.map_cons, params] at ih ⊢
    rw [h v (by simp), ih]

theorem vals_s {L : Nat → Nat} : ∀ (ts : List Sh) (x : HL ts), ∀ v ∈ valsSV ts x, v.s L = .v (v.v L)
  | [], _, v, h => by cases h
  | [t], x, v, h => by
    simp only [valsSV, List.mem_singleton] at h
    subst h
    rw [(sv_v t x).2, (sv_v t x).1]
  | t :: u :: r, x, v, h => by
    simp only [valsSV, List.mem_cons] at h
    rcases h with rfl | h
    · rw [(sv_v t x.1).2, (sv_v t x.1).1]
    · exact vals_s (u :: r) x.2 v (by simpa [valsSV] using h)

theorem entry3_st (ts : List Sh) (x : HL ts) (nt : Nat) : (entry3 ts x).st nt = { slots := params 0 (valsV ts x), boxes := [], nt := nt } := by
  simp only [entry3, St3.st]
  rw [params_st _ _ _ (vals_s ts x), valsSV_v]
  rfl

/-- THE USE for a function -/
theorem fn_ok (hT : TyOK P T) (hfol : P.follows .mixedOrders = true) {f : Nat} {fn : Func} {c : Code} {K : Cfg} {ts rs : List Sh} {m : HL ts → Option (HL rs)} (D : D3 (HL rs))
    (hf : P.funcs[f]? = some fn) (hname : (fn.name == "runtime.NumGoroutine") = false) (hb : fn.body = some c) (hN : fn.ntmps = K.N) (hmv : K.mv = []) (hargs : ts.length ≤ K.N) (hD : D3.OK P T K D c)
    (h : ∀ x, exec3 P T K D c (entry3 ts x) (fin3 T rs fn.results.toList) = m x) : (⟨f, ts, rs, m⟩ : Ent).Sound P := by
  intro nt x r hm
  have hm : m x = some r := hm
  rw [← h] at hm
  obtain ⟨e, s', h1, h2⟩ := exec3_ok hT hfol (nt := nt) _ _ _ _ hD hm
  rw [entry3_st] at h1
  have key : ∀ e, e = .normal ∨ e = .ret → Code.Den P K c { slots := params 0 (valsV ts x), boxes := [], nt := nt } e (s'.st nt) → (match rets3 T s' rs fn.results.toList with | some (g, y) => bif g then some y else none | none => none) = some r → FDen P f nt [] [] (valsV ts x) (resS rs r) nt [] := by
    intro e he hd h2
    split at h2
    · rename_i g y hy
      cases g with
      | false => cases h2
      | true =>
        obtain rfl := Option.some.inj h2
        obtain ⟨obs, ks, o1, o2, o3⟩ := rets3_ok (nt := nt) hy rfl
        exact fden_pure hT hf hname hb hN hmv (by rw [valsV_len]; exact hargs) he hd o1 o2 (canFz_ok o3) (vals_noH rs y)
    · cases h2
  cases e with
  | normal => exact key _ (.inl rfl) h1 h2
  | ret => exact key _ (.inr rfl) h1 h2
  | _ => cases h2

end Go.Ev

/- DERIVED. Functions that are handed boxes or hand out boxes, over shapes. -/
namespace Go.Ev
open Go

variable {P : Program} {T : Ty} {α : Type}

def imKs (T : Ty) (s : St3) : List PK → List ResultVar → Option (Bool × List Nat)
  | [], [] => some (true, [])
  | .im t :: r, rv :: rvs => match one3 T s rv t, imKs T s r rvs with
    | some (g, _, ks), some (g', ks') => some (g && g', ks ++ ks')
    | _, _ => none
  | _ :: r, _ :: rvs => imKs T s r rvs
  | _, _ => none

def cellRes (bs : List (Nat × B3)) (k : Nat) : (c : CK) → SV → Option (c.den × List (Nat × Nat))
  | .im t, v => bif t.one then (v.as false t).map fun x => (x, []) else none
  | .own e t, .hw h => match look h bs with
    | some (.arr e' sh false xs) => bif Nat.beq e e' then ((Sh.sl sh).to (.sl t) xs).map fun x => (x, [(k, h)]) else none
    | _ => none
  | .ptr e t, .hp h 0 0 => match look h bs with
    | some (.var e' true false cs) => bif Nat.beq e e' && cs.all SV.isD then (t.all false cs).map fun x => (x, [(k, h)]) else none
    | _ => none
  | .back j, .hw h => bif Nat.beq h j then some ((), []) else none
  | _, _ => none
def cellsRes (bs : List (Nat × B3)) (k : Nat) : (cs : List CK) → List SV → Option (DC cs × List (Nat × Nat))
  | [], [] => some ((), [])
  | [c], [v] => cellRes bs k c v
  | c :: d :: r, v :: vs => match cellRes bs k c v, cellsRes bs (k + 1) (d :: r) vs with
    | some (x, q), some (y, q') => some ((x, y), q ++ q')
    | _, _ => none
  | _, _ => none
def resP (T : Ty) (s : St3) (fbs : List (Nat × B3)) (k : Nat) : (p : PK) → ResultVar → Option (p.den × List (Nat × Nat))
  | .im t, rv => (one3 T s rv t).map fun q => (q.2.1, [])
  | .one c, rv => match raw3 T s rv with
    | some v => cellRes fbs k c v
    | none => none
  | .mix cs, rv => match raw3 T s rv with
    | some (.agg vs) => cellsRes fbs k cs vs
    | _ => none
def resPs (T : Ty) (s : St3) (fbs : List (Nat × B3)) (k : Nat) : (ps : List PK) → List ResultVar → Option (HP ps × List (Nat × Nat))
  | [], [] => some ((), [])
  | [p], [rv] => resP T s fbs k p rv
  | p :: q :: r, rv :: rvs => match resP T s fbs k p rv, resPs T s fbs (k + p.n) (q :: r) rvs with
    | some (x, l), some (y, l') => some ((x, y), l ++ l')
    | _, _ => none
  | _, _ => none
def outO (bs : List (Nat × B3)) (k : Nat) : (c : CK) → Option c.den
  | .own e t => match look k bs with
    | some (.arr e' sh false xs) => bif Nat.beq e e' then (Sh.sl sh).to (.sl t) xs else none
    | _ => none
  | .ptr e t => match look k bs with
    | some (.var e' true false cs) => bif Nat.beq e e' && cs.all SV.isD then t.all false cs else none
    | _ => none
  | _ => none
def outsO (bs : List (Nat × B3)) : (os : List (Nat × CK)) → Option (DO os)
  | [] => some ()
  | [p] => outO bs p.1 p.2
  | p :: q :: r => match outO bs p.1 p.2, outsO bs (q :: r) with
    | some x, some y => some (x, y)
    | _, _ => none
def mkHR {rs : List PK} : (os : List (Nat × CK)) → HP rs → DO os → HR rs os
  | [], y, _ => y
  | _ :: _, y, z => (y, z)

theorem mkHR_res {rs : List PK} : ∀ (os : List (Nat × CK)) (y : HP rs) (z : DO os), resOf (mkHR os y z) = y ∧ outOf (mkHR os y z) = z
  | [], _, _ => ⟨rfl, rfl⟩
  | _ :: _, _, _ => ⟨rfl, rfl⟩

def idRn (os : List (Nat × CK)) : List (Nat × Nat) := os.map fun p => (p.1, p.1)

def finB (T : Ty) (ts rs : List PK) (rvs : List ResultVar) (s : St3) : Option (Bool × HR rs (ownsP 1000 ts)) :=
  match imKs T s rs rvs with
  | some (g, ks) => match resPs T s (freeze3 s.boxes ks) 0 rs rvs, outsO (freeze3 s.boxes ks) (ownsP 1000 ts) with
    | some (y, q), some z => bif goodRn (q ++ idRn (ownsP 1000 ts)) && sameKeys (bxPs 0 rs y ++ bxO (ownsP 1000 ts) z) (q ++ idRn (ownsP 1000 ts)) && q.all (fun p => Nat.blt p.2 1000) && (rs.flatMap PK.backs).all (fun j => (look j (bxPs 0 rs y)).isNone && (ownsP 1000 ts).any fun p => Nat.beq p.1 j) then
        some (g, mkHR (ownsP 1000 ts) y z) else none
    | _, _ => none
  | none => none

def finF (T : Ty) (ts : List PK) (rvs : List ResultVar) (s : St3) : (fs : List (List PK)) → Option (HF (ownsP 1000 ts) fs)
  | [] => none
  | [rs] => match finB T ts rs rvs s with
    | some (g, y) => bif g then some y else none
    | none => none
  | rs :: r :: q => match finB T ts rs rvs s with
    | some (g, y) => bif g then some (.inl y) else none
    | none => match finF T ts rvs s (r :: q) with
      | some z => some (.inr z)
      | none => none

def finX (T : Ty) (ts : List PK) (fs : List (List PK)) (rvs : List ResultVar) (x : Exit) (s : St3) : Option (HF (ownsP 1000 ts) fs) :=
  match x with
  | .normal => finF T ts rvs s fs
  | .ret => finF T ts rvs s fs
  | _ => none

theorem mem_append_r {β : Type} {a : β} {l l' : List β} (h : a ∈ l') : a ∈ l ++ l' := List.mem_append.2 (.inr h)

section
variable {bs : List (Nat × B3)} {ρ L0 L' : Nat → Nat} {p : Nat → Bool}

theorem cellRes_ok {k : Nat} {c : CK} {v : SV} {x : c.den} {q : List (Nat × Nat)} (h : cellRes bs k c v = some (x, q)) (hL0 : lens bs = L0)
    (hq : ∀ r ∈ q, ρ r.2 = r.1 ∧ p r.2 = true) (hbk : ∀ j ∈ c.backs, ρ j = j ∧ p j = true ∧ L' j = L0 j) (hL : ∀ k' b, (k', b) ∈ c.bx k x → L' k' = b.len) :
    v.cellB = true ∧ (v.c L0).ren ρ = (c.sv k x).c L' ∧ (v.c L0).okH p = true ∧ (c.sv k x).cellB = true ∧ InOK bs (c.bx k x) q := by
  unfold cellRes at h
  split at h
  · rename_i t
    cases ht : t.one with
    | false => rw [ht] at h; cases h
    | true =>
      rw [ht] at h
      simp only [cond, Option.map_eq_some_iff, Prod.mk.injEq] at h
      obtain ⟨y, hy, rfl, rfl⟩ := h
      obtain rfl := as_false hy
      exact ⟨ht, rfl, rfl, ht, fun k b hb => by cases hb⟩
  · rename_i e t hh
    split at h
    · rename_i e' sh xs hl
      cases he : Nat.beq e e' with
      | false => rw [he] at h; cases h
      | true =>
        rw [he] at h
        simp only [cond, Option.map_eq_some_iff, Prod.mk.injEq] at h
        obtain ⟨y, hy, rfl, rfl⟩ := h
        obtain ⟨rfl, rfl⟩ := sl_to hy
        obtain rfl := Nat.eq_of_beq_eq_true he
        have hle : L0 hh = xs.length := by rw [← hL0]; simp [lens, hl, B3.len]
        have hk : L' k = xs.length := hL k (.arr e sh false xs) (by simp [CK.bx])
        obtain ⟨r1, r2⟩ := hq (k, hh) (by simp)
        refine ⟨rfl, ?_, r2, rfl, fun k' b hb => ?_⟩
        · simp only [SV.c, C.ren, CK.sv, hle, hk]
          rw [show ρ hh = k from r1]
        · simp only [CK.bx, List.mem_singleton, Prod.mk.injEq] at hb
          obtain ⟨rfl, rfl⟩ := hb
          exact ⟨hh, _, by simp, hl, rfl, fun _ _ => rfl, fun _ => ⟨rfl, rfl⟩⟩
    · cases h
  · rename_i e t hh
    split at h
    · rename_i e' cs hl
      cases he : (Nat.beq e e' && cs.all SV.isD) with
      | false => rw [he] at h; cases h
      | true =>
        rw [he] at h
        simp only [cond, Option.map_eq_some_iff, Prod.mk.injEq] at h
        obtain ⟨y, hy, rfl, rfl⟩ := h
        simp only [Bool.and_eq_true] at he
        obtain rfl := Nat.eq_of_beq_eq_true he.1
        obtain ⟨a1, _, _, a4⟩ := all_false hy
        obtain ⟨r1, r2⟩ := hq (k, hh) (by simp)
        refine ⟨rfl, ?_, r2, rfl, fun k' b hb => ?_⟩
        · simp only [SV.c, C.ren, CK.sv]
          rw [show ρ hh = k from r1]
        · simp only [CK.bx, List.mem_singleton, Prod.mk.injEq] at hb
          obtain ⟨rfl, rfl⟩ := hb
          refine ⟨hh, _, by simp, hl, rfl, fun L1 L2 => ?_, fun _ => ⟨rfl, rfl⟩⟩
          simp only [B3.box, a1, exp_c, exp_len, a4]
    · cases h
  · rename_i j hh
    cases he : Nat.beq hh j with
    | false => rw [he] at h; cases h
    | true =>
      rw [he] at h
      simp only [cond, Option.some.injEq, Prod.mk.injEq] at h
      obtain ⟨_, rfl⟩ := h
      obtain rfl := Nat.eq_of_beq_eq_true he
      obtain ⟨b1, b2, b3⟩ := hbk hh (by simp [CK.backs])
      refine ⟨rfl, ?_, b2, rfl, fun k b hb => by cases hb⟩
      simp only [SV.c, C.ren, CK.sv, b1, b3]
  · cases h

theorem cellsRes_ok : ∀ {cs : List CK} {k : Nat} {vs : List SV} {x : DC cs} {q : List (Nat × Nat)}, cellsRes bs k cs vs = some (x, q) → lens bs = L0 →
    (∀ r ∈ q, ρ r.2 = r.1 ∧ p r.2 = true) → (∀ j ∈ cs.flatMap CK.backs, ρ j = j ∧ p j = true ∧ L' j = L0 j) → (∀ k' b, (k', b) ∈ bxCs k cs x → L' k' = b.len) →
    (vs.map (SV.c L0)).map (C.ren ρ) = (svCs k cs x).map (SV.c L') ∧ (vs.map (SV.c L0)).all (C.okH p) = true ∧ InOK bs (bxCs k cs x) q
  | [], k, [], x, q, h, _, _, _, _ => ⟨rfl, rfl, fun k b hb => by cases hb⟩
  | [], k, _ :: _, _, _, h, _, _, _, _ => by simp [cellsRes] at h
  | [c], k, [], _, _, h, _, _, _, _ => by simp [cellsRes] at h
  | [c], k, [v], x, q, h, h0, hq, hbk, hL => by
    obtain ⟨_, h1, h2, _, h3⟩ := cellRes_ok (x := x) h h0 hq (by simpa using hbk) hL
    exact ⟨by simp only [List.map_cons, List.map_nil, svCs, h1], by simp only [List.map_cons, List.map_nil, List.all_cons, List.all_nil, h2, Bool.and_self], h3⟩
  | [c], k, v :: w :: r, _, _, h, _, _, _, _ => by simp [cellsRes] at h
  | c :: d :: r, k, [], _, _, h, _, _, _, _ => by simp [cellsRes] at h
  | c :: d :: r, k, v :: vs, x, q, h, h0, hq, hbk, hL => by
    simp only [cellsRes] at h
    split at h
    · rename_i x1 q1 y1 q2 h1 h2
      simp only [Option.some.injEq, Prod.mk.injEq] at h
      obtain ⟨rfl, rfl⟩ := h
      obtain ⟨_, a1, a2, _, a3⟩ := cellRes_ok h1 h0 (fun r hr => hq r (List.mem_append.2 (.inl hr))) (fun j hj => hbk j (by simp only [List.flatMap_cons, List.mem_append]; exact .inl hj)) (fun k' b hb => hL k' b (by simp only [bxCs]; exact List.mem_append.2 (.inl hb)))
      obtain ⟨b1, b2, b3⟩ := cellsRes_ok h2 h0 (fun r hr => hq r (List.mem_append.2 (.inr hr))) (fun j hj => hbk j (by rw [List.flatMap_cons]; exact List.mem_append.2 (.inr hj))) (fun k' b hb => hL k' b (by simp only [bxCs]; exact List.mem_append.2 (.inr hb)))
      refine ⟨?_, ?_, a3.app b3⟩
      · simp only [List.map_cons, svCs, a1]
        rw [b1]
      · simp only [List.map_cons, List.all_cons, a2, b2, Bool.and_self]
    · cases h

theorem resP_ok {s : St3} {nt : Nat} {k : Nat} {pk : PK} {rv : ResultVar} {x : pk.den} {q : List (Nat × Nat)} (h : resP T s bs k pk rv = some (x, q)) (hL0 : lens bs = lens s.boxes)
    (hq : ∀ r ∈ q, ρ r.2 = r.1 ∧ p r.2 = true) (hbk : ∀ j ∈ pk.backs, ρ j = j ∧ p j = true ∧ L' j = lens s.boxes j) (hL : ∀ k' b, (k', b) ∈ pk.bx k x → L' k' = b.len)
    {g : Bool} {ks : List Nat} (hk : imKs T s [pk] [rv] = some (g, ks)) (hg : g = true) :
    ∃ d xv obs, resOne T (s.st nt) rv d = some (xv, obs, ks) ∧ (∀ p ∈ obs, p) ∧ xv.ren ρ = (pk.sv k x).v L' ∧ xv.okH p = true ∧ InOK bs (pk.bx k x) q ∧ (pk.sv k x).s L' = .v ((pk.sv k x).v L') ∧ ∀ j ∈ ks, j < 1000 ∧ (look j s.boxes).isSome = true := by
  cases pk with
  | im t =>
    simp only [resP, Option.map_eq_some_iff, Prod.mk.injEq] at h
    obtain ⟨⟨g1, y, ks1⟩, h1, rfl, rfl⟩ := h
    simp only [imKs, h1, Option.some.injEq, Prod.mk.injEq, Bool.and_true, List.append_nil] at hk
    obtain ⟨rfl, rfl⟩ := hk
    obtain ⟨obs, a1, a2, a3⟩ := one3_ok (nt := nt) h1 hg
    refine ⟨_, _, obs, a1, a2, ?_, ?_, (fun k b hb => by cases hb), ?_, a3⟩
    · rw [show (PK.im t).sv k y = t.sv y from rfl, (sv_v t y).1]
      unfold Sh.v
      cases t.one with
      | true => rfl
      | false =>
        simp only [cond, V.ren, List.map_map]
        rfl
    · unfold Sh.v
      cases t.one with
      | true => rfl
      | false => simp [V.okH, C.okH]
    · exact (sv_v t y).2.trans (by rw [show (PK.im t).sv k y = t.sv y from rfl, (sv_v t y).1])
  | one c =>
    simp only [imKs, Option.some.injEq, Prod.mk.injEq] at hk
    obtain ⟨rfl, rfl⟩ := hk
    simp only [resP] at h
    split at h
    · rename_i v hv
      obtain ⟨a1, a2, a3, a4, a5⟩ := cellRes_ok h hL0 hq hbk hL
      obtain ⟨obs, b1, b2⟩ := raw3_ok' (nt := nt) hv (by rw [(cellB_s a1).1, (cellB_s a1).2])
      refine ⟨none, v.v (lens s.boxes), obs, by simp only [resOne, b1], b2, ?_, ?_, a5, ?_, by simp⟩
      · rw [(cellB_s a1).2]
        show V.one _ = (c.sv k x).v L'
        rw [(cellB_s a4).2, a2]
      · rw [(cellB_s a1).2]; exact a3
      · show (c.sv k x).s L' = .v ((c.sv k x).v L')
        rw [(cellB_s a4).1, (cellB_s a4).2]
    · cases h
  | mix cs =>
    simp only [imKs, Option.some.injEq, Prod.mk.injEq] at hk
    obtain ⟨rfl, rfl⟩ := hk
    simp only [resP] at h
    split at h
    · rename_i vs hv
      obtain ⟨a1, a2, a3⟩ := cellsRes_ok h hL0 hq hbk hL
      obtain ⟨obs, b1, b2⟩ := raw3_ok' (nt := nt) hv rfl
      refine ⟨none, (SV.agg vs).v (lens s.boxes), obs, by simp only [resOne, b1], b2, ?_, a2, a3, rfl, by simp⟩
      show V.agg _ = V.agg _
      rw [a1]
    · cases h

theorem resPs_ok {s : St3} {nt : Nat} : ∀ {ps : List PK} {k : Nat} {rvs : List ResultVar} {x : HP ps} {q : List (Nat × Nat)}, resPs T s bs k ps rvs = some (x, q) → lens bs = lens s.boxes →
    (∀ r ∈ q, ρ r.2 = r.1 ∧ p r.2 = true) → (∀ j ∈ ps.flatMap PK.backs, ρ j = j ∧ p j = true ∧ L' j = lens s.boxes j) → (∀ k' b, (k', b) ∈ bxPs k ps x → L' k' = b.len) →
    ∀ {g : Bool} {ks : List Nat}, imKs T s ps rvs = some (g, ks) → g = true →
    ∃ ds xs obs, resAll T (s.st nt) rvs ds = some (xs, obs, ks) ∧ (∀ p ∈ obs, p) ∧ xs.map (V.ren ρ) = (svPs k ps x).map (SV.v L') ∧ xs.all (V.okH p) = true ∧ InOK bs (bxPs k ps x) q ∧ (∀ v ∈ svPs k ps x, v.s L' = .v (v.v L')) ∧ ∀ j ∈ ks, j < 1000 ∧ (look j s.boxes).isSome = true
  | [], k, [], x, q, h, _, _, _, _, g, ks, hk, _ => by
    simp only [imKs, Option.some.injEq, Prod.mk.injEq] at hk
    obtain ⟨_, rfl⟩ := hk
    exact ⟨[], [], [], rfl, by simp, rfl, rfl, (fun k b hb => by cases hb), by simp [svPs], by simp⟩
  | [], k, _ :: _, _, _, h, _, _, _, _, _, _, _, _ => by simp [resPs] at h
  | [pk], k, [], _, _, h, _, _, _, _, _, _, _, _ => by simp [resPs] at h
  | [pk], k, [rv], x, q, h, h0, hq, hbk, hL, g, ks, hk, hg => by
    obtain ⟨d, xv, obs, a1, a2, a3, a4, a5, a6, a7⟩ := resP_ok (nt := nt) (x := x) h h0 hq (by simpa using hbk) hL hk hg
    refine ⟨[d], [xv], obs ++ [], ?_, by simpa using a2, ?_, ?_, a5, ?_, a7⟩
    · simp only [resAll, List.headD_cons, a1, List.append_nil]
    · simp only [List.map_cons, List.map_nil, svPs, a3]
    · simp [a4]
    · simpa [svPs] using a6
  | [pk], k, rv :: w :: r, _, _, h, _, _, _, _, _, _, _, _ => by simp [resPs] at h
  | pk :: p2 :: r, k, [], _, _, h, _, _, _, _, _, _, _, _ => by simp [resPs] at h
  | pk :: p2 :: r, k, rv :: rvs, x, q, h, h0, hq, hbk, hL, g, ks, hk, hg => by
    simp only [resPs] at h
    split at h
    · rename_i x1 q1 y1 q2 h1 h2
      simp only [Option.some.injEq, Prod.mk.injEq] at h
      obtain ⟨rfl, rfl⟩ := h
      obtain ⟨g1, ks1, g2, ks2, e1, e2, rfl, rfl⟩ : ∃ g1 ks1 g2 ks2, imKs T s [pk] [rv] = some (g1, ks1) ∧ imKs T s (p2 :: r) rvs = some (g2, ks2) ∧ g = (g1 && g2) ∧ ks = ks1 ++ ks2 := by
        cases pk with
        | im t =>
          simp only [imKs] at hk
          split at hk
          · rename_i g1 a ks1 g2 ks2 i1 i2
            simp only [Option.some.injEq, Prod.mk.injEq] at hk
            exact ⟨g1, ks1, g2, ks2, by simp [imKs, i1], i2, hk.1.symm, hk.2.symm⟩
          · cases hk
        | one c => exact ⟨true, [], g, ks, rfl, hk, by simp, rfl⟩
        | mix cs => exact ⟨true, [], g, ks, rfl, hk, by simp, rfl⟩
      simp only [Bool.and_eq_true] at hg
      obtain ⟨d, xv, obs, a1, a2, a3, a4, a5, a6, a7⟩ := resP_ok (nt := nt) h1 h0 (fun r hr => hq r (List.mem_append.2 (.inl hr))) (fun j hj => hbk j (by rw [List.flatMap_cons]; exact List.mem_append.2 (.inl hj))) (fun k' b hb => hL k' b (by simp only [bxPs]; exact List.mem_append.2 (.inl hb))) e1 hg.1
      obtain ⟨ds, xs, obs', b1, b2, b3, b4, b5, b6, b7⟩ := resPs_ok (nt := nt) h2 h0 (fun r hr => hq r (List.mem_append.2 (.inr hr))) (fun j hj => hbk j (by rw [List.flatMap_cons]; exact List.mem_append.2 (.inr hj))) (fun k' b hb => hL k' b (by simp only [bxPs]; exact List.mem_append.2 (.inr hb))) e2 hg.2
      refine ⟨d :: ds, xv :: xs, obs ++ obs', ?_, fun p hp => (List.mem_append.1 hp).elim (a2 p) (b2 p), ?_, ?_, a5.app b5, ?_, fun j hj => (List.mem_append.1 hj).elim (a7 j) (b7 j)⟩
      · simp only [resAll, List.headD_cons, List.tail_cons, a1, b1]
      · simp only [List.map_cons, svPs, a3, b3]
      · simp only [List.all_cons, a4, b4, Bool.and_self]
      · simpa [svPs] using ⟨a6, b6⟩
    · cases h
end

end Go.Ev

/- DERIVED. THE USE for a function that is handed boxes or hands out boxes. -/
namespace Go.Ev
open Go

variable {P : Program} {T : Ty} {α : Type}

theorem outO_ok {bs : List (Nat × B3)} {k : Nat} {c : CK} {x : c.den} (h : outO bs k c = some x) : InOK bs (c.bx k x) [(k, k)] := by
  unfold outO at h
  split at h
  · rename_i e t
    split at h
    · rename_i e' sh xs hl
      cases he : Nat.beq e e' with
      | false => rw [he] at h; cases h
      | true =>
        rw [he] at h
        obtain ⟨rfl, rfl⟩ := sl_to h
        obtain rfl := Nat.eq_of_beq_eq_true he
        intro k' b hb
        simp only [CK.bx, List.mem_singleton, Prod.mk.injEq] at hb
        obtain ⟨rfl, rfl⟩ := hb
        exact ⟨_, _, by simp, hl, rfl, fun _ _ => rfl, fun _ => ⟨rfl, rfl⟩⟩
    · cases h
  · rename_i e t
    split at h
    · rename_i e' cs hl
      cases he : (Nat.beq e e' && cs.all SV.isD) with
      | false => rw [he] at h; cases h
      | true =>
        rw [he] at h
        simp only [cond] at h
        simp only [Bool.and_eq_true] at he
        obtain rfl := Nat.eq_of_beq_eq_true he.1
        obtain ⟨a1, _, _, a4⟩ := all_false h
        intro k' b hb
        simp only [CK.bx, List.mem_singleton, Prod.mk.injEq] at hb
        obtain ⟨rfl, rfl⟩ := hb
        refine ⟨_, _, by simp, hl, rfl, fun L1 L2 => ?_, fun _ => ⟨rfl, rfl⟩⟩
        simp only [B3.box, a1, exp_c, exp_len, a4]
    · cases h
  · cases h

theorem outsO_ok {bs : List (Nat × B3)} : ∀ {os : List (Nat × CK)} {z : DO os}, outsO bs os = some z → InOK bs (bxO os z) (idRn os)
  | [], z, _ => fun k b hb => by cases hb
  | [p], z, h => outO_ok (c := p.2) h
  | p :: q :: r, z, h => by
    simp only [outsO] at h
    split at h
    · rename_i x y h1 h2
      obtain rfl := Option.some.inj h
      exact InOK.app (q := [(p.1, p.1)]) (outO_ok h1) (outsO_ok h2)
    · cases h

theorem bxC_owns : ∀ {cs : List CK} {k : Nat} {x : DC cs} {k' : Nat} {b : B3}, (k', b) ∈ bxCs k cs x → ∃ c, (k', c) ∈ ownsC k cs := by
  have one : ∀ {c : CK} {k : Nat} {x : c.den} {k' : Nat} {b : B3}, (k', b) ∈ c.bx k x → ∃ d, (k', d) ∈ c.owns k := by
    intro c k x k' b h
    cases c <;> simp [CK.bx, CK.owns] at h ⊢ <;> exact h.1
  intro cs
  induction cs with
  | nil => intro k x k' b h; cases h
  | cons c r ih =>
    intro k x k' b h
    cases r with
    | nil =>
      obtain ⟨d, hd⟩ := one (c := c) h
      exact ⟨d, List.mem_append.2 (.inl hd)⟩
    | cons d r =>
      simp only [bxCs] at h
      rcases List.mem_append.1 h with h | h
      · obtain ⟨d, hd⟩ := one h
        exact ⟨d, List.mem_append.2 (.inl hd)⟩
      · obtain ⟨d, hd⟩ := ih h
        exact ⟨d, List.mem_append.2 (.inr hd)⟩

theorem bxP_owns : ∀ {ps : List PK} {k : Nat} {x : HP ps} {k' : Nat} {b : B3}, (k', b) ∈ bxPs k ps x → ∃ c, (k', c) ∈ ownsP k ps := by
  have one : ∀ {p : PK} {k : Nat} {x : p.den} {k' : Nat} {b : B3}, (k', b) ∈ p.bx k x → ∃ d, (k', d) ∈ p.owns k := by
    intro p k x k' b h
    cases p with
    | im t => cases h
    | one c => cases c <;> simp [PK.bx, PK.owns, CK.bx, CK.owns] at h ⊢ <;> exact h.1
    | mix cs => exact bxC_owns (cs := cs) h
  intro ps
  induction ps with
  | nil => intro k x k' b h; cases h
  | cons p r ih =>
    intro k x k' b h
    cases r with
    | nil =>
      obtain ⟨d, hd⟩ := one (p := p) h
      exact ⟨d, List.mem_append.2 (.inl hd)⟩
    | cons d r =>
      simp only [bxPs] at h
      rcases List.mem_append.1 h with h | h
      · obtain ⟨d, hd⟩ := one h
        exact ⟨d, List.mem_append.2 (.inl hd)⟩
      · obtain ⟨d, hd⟩ := ih h
        exact ⟨d, List.mem_append.2 (.inr hd)⟩

theorem svC_s (k : Nat) (c : CK) (x : c.den) (L : Nat → Nat) (h : match c with | .im t => t.one = true | _ => True) : (c.sv k x).s L = .v ((c.sv k x).v L) := by
  cases c <;> rfl

theorem svPs_s (L : Nat → Nat) : ∀ (ps : List PK) (k : Nat) (x : HP ps), ∀ v ∈ svPs k ps x, v.s L = .v (v.v L) := by
  have one : ∀ (p : PK) (k : Nat) (x : p.den), (p.sv k x).s L = .v ((p.sv k x).v L) := by
    intro p k x
    cases p with
    | im t => exact (sv_v t x).2.trans (by rw [show (PK.im t).sv k x = t.sv x from rfl, (sv_v t x).1])
    | one c => cases c <;> rfl
    | mix cs => rfl
  intro ps
  induction ps with
  | nil => intro k x v h; cases h
  | cons p r ih =>
    intro k x v h
    cases r with
    | nil =>
      simp only [svPs, List.mem_singleton] at h
      subst h
      exact one p k x
    | cons d r =>
      simp only [svPs, List.mem_cons] at h
      rcases h with rfl | h
      · exact one p k x.1
      · exact ih _ x.2 v (by simpa [svPs] using h)

theorem join_s {L : Nat → Nat} {vs : List SV} (h : ∀ v ∈ vs, v.s L = .v (v.v L)) : (joinSV vs).s L = joinS (vs.map (SV.v L)) := by
  match vs, h with
  | [], _ => rfl
  | [x], h => exact h x (by simp)
  | x :: y :: r, _ => rfl

theorem join_ren {ρ : Nat → Nat} (xs : List V) : (joinS xs).ren ρ = joinS (xs.map (V.ren ρ)) := by
  match xs with
  | [] => rfl
  | [x] => rfl
  | x :: y :: r => rfl

theorem join_okH {p : Nat → Bool} {xs : List V} (h : xs.all (V.okH p) = true) : (joinS xs).okH p = true := by
  match xs, h with
  | [], _ => rfl
  | [x], h => simpa [joinS, S.okH] using h
  | x :: y :: r, h => simpa [joinS, S.okH] using h

def rho (rn : List (Nat × Nat)) (h : Nat) : Nat := match bwd rn h with
  | some k => k
  | none => 0

theorem look_of_mem {β : Type} : ∀ {l : List (Nat × β)} {k : Nat} {b : β}, (k, b) ∈ l → (look k l).isSome = true
  | [], _, _, h => by cases h
  | (k1, b1) :: r, k, b, h => by
    simp only [look]
    cases hb : Nat.beq k1 k with
    | true => rfl
    | false =>
      rcases List.mem_cons.1 h with h | h
      · obtain ⟨rfl, rfl⟩ := Prod.mk.inj h
        simp at hb
      · exact look_of_mem h

theorem finB_den (hT : TyOK P T) {f : Nat} {fn : Func} {c : Code} {K : Cfg} {nt : Nat} {ts rs : List PK} {x : HP ts} {e : Exit} {s : St3} {Y : HR rs (ownsP 1000 ts)}
    (hf : P.funcs[f]? = some fn) (hname : (fn.name == "runtime.NumGoroutine") = false) (hb : fn.body = some c) (hN : fn.ntmps = K.N) (hmv : K.mv = []) (hargs : (svPs 1000 ts x).length ≤ K.N)
    (he : e = .normal ∨ e = .ret) (hd : Code.Den P K c ((⟨paramsSV 0 (svPs 1000 ts x), bxPs 1000 ts x⟩ : St3).st nt) e (s.st nt)) (h : finB T ts rs fn.results.toList s = some (true, Y)) :
    Ent2.Den P ⟨f, ts, rs⟩ nt x Y := by
  unfold finB at h
  split at h
  case h_2 => cases h
  rename_i g ks hks
  split at h
  case h_2 => cases h
  rename_i y q z hy hz
  cases hc : (goodRn (q ++ idRn (ownsP 1000 ts)) && sameKeys (bxPs 0 rs y ++ bxO (ownsP 1000 ts) z) (q ++ idRn (ownsP 1000 ts)) && q.all (fun p => Nat.blt p.2 1000) && (rs.flatMap PK.backs).all (fun j => (look j (bxPs 0 rs y)).isNone && (ownsP 1000 ts).any fun p => Nat.beq p.1 j)) with
  | false => rw [hc] at h; cases h
  | true =>
  rw [hc] at h
  simp only [cond, Option.some.injEq, Prod.mk.injEq] at h
  obtain ⟨rfl, rfl⟩ := h
  simp only [Bool.and_eq_true] at hc
  obtain ⟨⟨⟨c1, c2⟩, c3⟩, c4⟩ := hc
  generalize hrn : q ++ idRn (ownsP 1000 ts) = rn at *
  obtain ⟨m1, m2⟩ := mkHR_res (rs := rs) (ownsP 1000 ts) y z
  have hB : outBx ⟨f, ts, rs⟩ (mkHR (ownsP 1000 ts) y z) = bxPs 0 rs y ++ bxO (ownsP 1000 ts) z := by
    unfold outBx
    rw [m1, m2]
  generalize hBd : bxPs 0 rs y ++ bxO (ownsP 1000 ts) z = B at *
  have qrn : ∀ p ∈ q, p ∈ rn := fun p hp => by rw [← hrn]; exact List.mem_append.2 (.inl hp)
  have irn : ∀ p ∈ idRn (ownsP 1000 ts), p ∈ rn := fun p hp => by rw [← hrn]; exact List.mem_append.2 (.inr hp)
  have fwdm : ∀ k h, (k, h) ∈ rn → fwd rn k = h ∧ rho rn h = k ∧ look k rn = some h := fun k h hm => by
    obtain ⟨e1, e2⟩ := mem_look c1 hm
    exact ⟨by unfold fwd; rw [e1], by unfold rho; rw [e2], e1⟩
  have outS : ∀ k, (look k (st3B B)).isSome = (look k rn).isSome := fun k => by
    unfold st3B
    rw [look_mapV, Option.isSome_map, look_keysR c2 k]
  have okP : ∀ k h, (k, h) ∈ rn → ((look (rho rn h) (st3B B)).isSome && Nat.beq (fwd rn (rho rn h)) h) = true := fun k h hm => by
    obtain ⟨e1, e2, e3⟩ := fwdm k h hm
    rw [e2, outS k, e3, e1]
    simp
  have hL' : ∀ k b, (k, b) ∈ B → lens B k = b.len := fun k b hb => by
    have := mem_lookB c2 c1 hb
    unfold lens
    rw [this]
  have hlf : lens (freeze3 s.boxes ks) = lens s.boxes := freeze3_lens ks s.boxes
  have hout := outsO_ok hz
  have hIdm : ∀ j, j ∈ rs.flatMap PK.backs → (j, j) ∈ idRn (ownsP 1000 ts) := fun j hj => by
    have h4 := List.all_eq_true.1 c4 j hj
    simp only [Bool.and_eq_true] at h4
    obtain ⟨p, hp, hpj⟩ := List.any_eq_true.1 h4.2
    obtain rfl := Nat.eq_of_beq_eq_true hpj
    exact List.mem_map.2 ⟨p, hp, rfl⟩
  -- the lengths behind, of what was handed in
  have lenB : ∀ k h b, (k, b) ∈ B → (k, h) ∈ rn → ∀ b', look h (freeze3 s.boxes ks) = some b' → b'.len = b.len → lens B k = lens s.boxes h := fun k h b hb _ b' hb' hl => by
    rw [hL' k b hb, ← hl, ← hlf]
    unfold lens
    rw [hb']
  have hInB : InOK (freeze3 s.boxes ks) (bxO (ownsP 1000 ts) z) (idRn (ownsP 1000 ts)) := hout
  have hbk : ∀ j ∈ rs.flatMap PK.backs, rho rn j = j ∧ ((look (rho rn j) (st3B B)).isSome && Nat.beq (fwd rn (rho rn j)) j) = true ∧ lens B j = lens s.boxes j := fun j hj => by
    have hm := irn _ (hIdm j hj)
    refine ⟨(fwdm j j hm).2.1, okP j j hm, ?_⟩
    have hS : (look j B).isSome = true := by rw [look_keysR c2 j, (fwdm j j hm).2.2]; rfl
    obtain ⟨b, hb⟩ := Option.isSome_iff_exists.1 hS
    have hmem := look_mem3 hb
    have hmem' := hmem
    rw [← hBd] at hmem'
    rcases List.mem_append.1 hmem' with hm1 | hm1
    · have h4 := List.all_eq_true.1 c4 j hj
      simp only [Bool.and_eq_true, Option.isNone_iff_eq_none] at h4
      have := look_of_mem hm1
      rw [h4.1] at this; cases this
    · obtain ⟨h', b', i1, i2, i3, _, _⟩ := hInB j b hm1
      obtain ⟨p, hp, hpe⟩ := List.mem_map.1 i1
      obtain ⟨rfl, rfl⟩ := Prod.mk.inj hpe
      exact lenB _ _ b hmem hm b' i2 i3
  obtain ⟨ds, xs, obs, a1, a2, a3, a4, a5, a6, a7⟩ := resPs_ok (nt := nt) (ρ := rho rn) (L' := lens B) (p := fun h => (look (rho rn h) (st3B B)).isSome && Nat.beq (fwd rn (rho rn h)) h) hy hlf
    (fun r hr => ⟨(fwdm r.1 r.2 (qrn _ hr)).2.1, okP r.1 r.2 (qrn _ hr)⟩) hbk (fun k' b hb => hL' k' b (by rw [← hBd]; exact List.mem_append.2 (.inl hb))) hks rfl
  have hIn : InOK (freeze3 s.boxes ks) B rn := by rw [← hBd, ← hrn]; exact a5.app hout
  have hr : (joinSV (svPs 0 rs y)).s (lens B) = (joinS xs).ren (rho rn) := by
    rw [join_s a6, join_ren, a3]
  have hst : (⟨paramsSV 0 (svPs 1000 ts x), bxPs 1000 ts x⟩ : St3).st nt = { slots := params 0 ((svPs 1000 ts x).map (SV.v (lens (bxPs 1000 ts x)))), boxes := st3B (bxPs 1000 ts x), nt := nt } := by
    simp only [St3.st]
    rw [params_st _ _ _ (svPs_s _ ts 1000 x)]
    rfl
  rw [hst] at hd
  have hfin := fden_ofB hT (bs' := st3B B) hf hname hb hN hmv (by rw [List.length_map]; exact hargs) he hd a1 a2 (canFz_ok a7) (fwd rn) (rho rn)
    (fun k b hb => ?_) (fun k k' hk hk' e => ?_) (join_okH a4) (fun k b hb => ?_)
  · unfold Ent2.Den
    rw [m1, hB, hr]
    exact hfin
  · unfold st3B at hb
    rw [look_mapV] at hb
    obtain ⟨b3, hb3, rfl⟩ := Option.map_eq_some_iff.1 hb
    obtain ⟨h', b', i1, i2, i3, i4, i5⟩ := hIn k b3 (look_mem3 hb3)
    obtain ⟨e1, _, _⟩ := fwdm k h' i1
    refine ⟨?_, (i5 _).1, (i5 _).2, ?_⟩
    · show look (fwd rn k) (freezeB (mapV (B3.box (lens s.boxes)) s.boxes) ks) = _
      rw [freeze3_ok, look_mapV, e1, i2]
      exact congrArg some (i4 _ _)
    · rw [e1]
      rw [← hrn] at i1
      rcases List.mem_append.1 i1 with i1 | i1
      · exact .inl (by simpa [Nat.blt_eq] using List.all_eq_true.1 c3 _ i1)
      · obtain ⟨p, _, hpe⟩ := List.mem_map.1 i1
        obtain ⟨rfl, rfl⟩ := Prod.mk.inj hpe
        exact .inr rfl
  · rw [outS k] at hk
    rw [outS k'] at hk'
    obtain ⟨h1, e1⟩ := Option.isSome_iff_exists.1 hk
    obtain ⟨h2, e2⟩ := Option.isSome_iff_exists.1 hk'
    obtain ⟨f1, f2, _⟩ := fwdm k h1 (look_memR e1)
    obtain ⟨f3, f4, _⟩ := fwdm k' h2 (look_memR e2)
    rw [f1, f3] at e
    rw [← f2, ← f4, e]
  · unfold st3B at hb
    rw [look_mapV] at hb
    obtain ⟨b3, hb3, _⟩ := Option.map_eq_some_iff.1 hb
    obtain ⟨d, hd'⟩ := bxP_owns (look_mem3 hb3)
    have hm := irn (k, k) (List.mem_map.2 ⟨_, hd', rfl⟩)
    obtain ⟨e1, _, e3⟩ := fwdm k k hm
    exact ⟨e1, by rw [outS k, e3]; rfl⟩

/-- THE USE for a function that is handed boxes or hands out boxes -/
theorem fn_okB (hT : TyOK P T) (hfol : P.follows .mixedOrders = true) {f : Nat} {fn : Func} {c : Code} {K : Cfg} {ts : List PK} {forms : List (List PK)} {m : HP ts → Option (HF (ownsP 1000 ts) forms)} (D : D3 (HF (ownsP 1000 ts) forms))
    (hf : P.funcs[f]? = some fn) (hname : (fn.name == "runtime.NumGoroutine") = false) (hb : fn.body = some c) (hN : fn.ntmps = K.N) (hmv : K.mv = []) (hargs : ts.length ≤ K.N) (hD : D3.OK P T K D c)
    (h : ∀ x, exec3 P T K D c ⟨paramsSV 0 (svPs 1000 ts x), bxPs 1000 ts x⟩ (finX T ts forms fn.results.toList) = m x) : (⟨f, ts, forms, m⟩ : Ent3).Sound P := by
  intro nt x z hm
  have hm : m x = some z := hm
  rw [← h] at hm
  obtain ⟨e, s', h1, h2⟩ := exec3_ok hT hfol (nt := nt) _ _ _ _ hD hm
  have hlen : (svPs 1000 ts x).length ≤ K.N := by
    have : ∀ (ps : List PK) (k : Nat) (x : HP ps), (svPs k ps x).length = ps.length := by
      intro ps
      induction ps with
      | nil => intro k x; rfl
      | cons p r ih =>
        intro k x
        cases r with
        | nil => rfl
        | cons d r => simp only [svPs, List.length_cons]; rw [ih]; rfl
    rw [this]; exact hargs
  have key : ∀ (fs : List (List PK)) (z : HF (ownsP 1000 ts) fs), e = .normal ∨ e = .ret → finF T ts fn.results.toList s' fs = some z → AllF (ownsP 1000 ts) fs z fun rs y => Ent2.Den P ⟨f, ts, rs⟩ nt x y := by
    intro fs
    induction fs with
    | nil => intro z _ _; trivial
    | cons rs r ih =>
      intro z he hz
      cases r with
      | nil =>
        simp only [finF] at hz
        split at hz
        · rename_i g y hy
          cases g with
          | false => cases hz
          | true =>
            obtain rfl := Option.some.inj hz
            exact finB_den hT hf hname hb hN hmv hlen he h1 hy
        · cases hz
      | cons r q =>
        simp only [finF] at hz
        split at hz
        · rename_i g y hy
          cases g with
          | false => cases hz
          | true =>
            obtain rfl := Option.some.inj hz
            exact finB_den hT hf hname hb hN hmv hlen he h1 hy
        · split at hz
          · rename_i w hw
            obtain rfl := Option.some.inj hz
            exact ih w he hw
          · cases hz
  cases e with
  | normal => exact key forms z (.inl rfl) h2
  | ret => exact key forms z (.inr rfl) h2
  | _ => cases h2

end Go.Ev

/- DERIVED. A range over what slices.Backward hands back, over shapes. -/
namespace Go.Ev
open Go

variable {P : Program} {T : Ty} {α : Type}

def withP3 (p0 p1 i : Nat) (z : Int) (s : St3) : St3 := { s with slots := ins p1 (.d (.int .i64) z) (ins p0 (.d (.int .i64) (i : Int)) s.slots) }
def back3 (wr : Nat → Bool) (p0 p1 : Nat) (s : St3) : St3 := { s with slots := s.slots.filter fun p => !(wr p.1 || (Nat.beq p.1 p0 || Nat.beq p.1 p1)) }

theorem withP3_st {p0 p1 i : Nat} {z : Int} {s : St3} {nt : Nat} : (withP3 p0 p1 i z s).st nt = withP p0 p1 i z (s.st nt) := by
  simp only [withP3, St3.st, withP, ← ins_mapV]
  rfl
theorem filter_mapV {β γ : Type} (f : β → γ) (q : Nat → Bool) : ∀ l : List (Nat × β), mapV f (l.filter fun p => q p.1) = (mapV f l).filter fun p => q p.1
  | [] => rfl
  | (j, y) :: r => by
    have ih := filter_mapV f q r
    simp only [mapV] at ih
    simp only [mapV, List.map_cons, List.filter_cons]
    cases q j with
    | true => simp [ih]
    | false => simp [ih]
theorem back3_st {wr : Nat → Bool} {p0 p1 : Nat} {s : St3} {nt : Nat} : (back3 wr p0 p1 s).st nt = backS wr p0 p1 (s.st nt) := by
  simp only [back3, St3.st, backS]
  rw [filter_mapV (q := fun k => !(wr k || (Nat.beq k p0 || Nat.beq k p1)))]

/-- the end of a round -/
def aroundR (H : Tm) (outs : List (Exit × Tm)) (wr : Nat → Bool) (p0 p1 : Nat) (f : H.den → Option α) (ks : KS α outs) (x : Exit) (s : St3) : Option α :=
  match x with
  | .normal => match H.dec (back3 wr p0 p1 s) with
    | some v => f v
    | none => none
  | .ret => pickK outs ks .ret (back3 wr p0 p1 s)
  | .exit id => pickK outs ks (.exit id) (back3 wr p0 p1 s)
  | _ => none

/-- one round -/
def roundR (P : Program) (T : Ty) (K : Cfg) (D : D3 α) (H : Tm) (outs : List (Exit × Tm)) (p0 p1 : Nat) (asg body : Code) (i : Nat) (z : Int) (v : H.den) (f : H.den → Option α) (ks : KS α outs) : Option α :=
  exec3 P T K D asg (withP3 p0 p1 i z (H.enc v)) fun x sA => match x with
    | .normal => exec3 P T K D body sA (aroundR H outs (fun t => asg.wr t || body.wr t) p0 p1 f ks)
    | _ => none

/-- the rounds, from the i-th element down -/
def rangeB {V Ks : Type} (zsOf : V → List Int) (B : Nat → Int → V → (V → Option α) → Ks → Option α) (zs : List Int) : Nat → V → (V → Option α) → Ks → Option α
  | 0, v, d, _ => d v
  | i + 1, v, d, ks => B i (zs.getD i 0) v (fun v' => gd (decide (zsOf v' = zs)) (rangeB zsOf B zs i v' d ks)) ks

def rangeR {V Ks : Type} (zsOf : V → List Int) (B : Nat → Int → V → (V → Option α) → Ks → Option α) (Dn : V → Ks → Option α) (v : V) (ks : Ks) : Option α :=
  gd (decide ((zsOf v).length ≤ 4611686018427387904)) (rangeB zsOf B (zsOf v) (zsOf v).length v (fun v' => Dn v' ks) ks)

theorem gd_some {g : Bool} {x : Option α} {r : α} (h : gd g x = some r) : g = true ∧ x = some r := by cases g with | true => exact ⟨rfl, h⟩ | false => cases h

theorem Tm.dec_weak {X : Tm} {s : St3} {w : X.den} {nt : Nat} (h : X.dec s = some w) : Weak (s.st nt) ((X.enc w).st nt) := fun _ _ _ _ hs => Tm.dec_ok h hs

theorem range_ok (hT : TyOK P T) (hfol : P.follows .mixedOrders = true) {K : Cfg} {D : D3 α} {g p0 p1 fB : Nat} {asg body : Code} {H : Tm} {outs : List (Exit × Tm)} (zsOf : H.den → List Int)
    (B : Nat → Int → H.den → (H.den → Option α) → KS α outs → Option α) (Dn : H.den → KS α outs → Option α) (hBk : BackOK P fB) (hrA : asg.rf = false) (hrB : body.rf = false) (hp0 : Nat.blt p0 K.N = true) (hp1 : Nat.blt p1 K.N = true)
    (hDa : D3.OK P T K D asg) (hDb : D3.OK P T K D body) (hz : ∀ v, look g (H.enc v).slots = some (.d (.clo fB (.ref (.sl (.int .i64)))) (zsOf v)))
    (hB : ∀ i z v f ks, roundR P T K D H outs p0 p1 asg body i z v f ks = B i z v f ks) (hDn : ∀ v ks, pickK outs ks .normal (H.enc v) = Dn v ks) :
    (⟨H, outs, rangeR zsOf B Dn⟩ : LO α).Sound P K (.rangeFunc (.tmp g) #[p0, p1] asg body) := by
  intro nt v k r h
  obtain ⟨hlen, h⟩ := gd_some h
  simp only [decide_eq_true_eq] at hlen
  obtain ⟨Z, hZ⟩ : ∃ Z, Z = zsOf v := ⟨_, rfl⟩
  rw [← hZ] at h hlen
  have clo : ∀ v', zsOf v' = Z → look g ((H.enc v').st nt).slots = some (cloI fB Z) := fun v' e => by
    simp only [St3.st, look_mapV, hz v', Option.map_some, e]
    rfl
  have key : ∀ (i : Nat) (v : H.den), zsOf v = Z → rangeB zsOf B Z i v (fun v' => Dn v' (ksOf k outs)) (ksOf k outs) = some r →
      ∃ x s1 X w, RangeDen P K g p0 p1 fB Z asg body i ((H.enc v).st nt) x (St3.st s1 nt) ∧ Tm.dec X s1 = some w ∧ k x (X.enc w) = some r := by
    intro i
    induction i with
    | zero =>
      intro v hv h
      simp only [rangeB] at h
      rw [← hDn] at h
      obtain ⟨X, w, h1, h2⟩ := pickK_ok h
      exact ⟨.normal, H.enc v, X, w, .done (clo v hv), h1, h2⟩
    | succ i ih =>
      intro v hv h
      simp only [rangeB] at h
      rw [← hB] at h
      unfold roundR at h
      obtain ⟨x, sA, a1, a2⟩ := exec3_ok hT hfol (nt := nt) _ _ _ _ hDa h
      rw [withP3_st] at a1
      cases x with
      | normal =>
        simp only at a2
        obtain ⟨y, s1, b1, b2⟩ := exec3_ok hT hfol (nt := nt) _ _ _ _ hDb a2
        have out : (y = .ret ∨ ∃ id, y = .exit id) → pickK outs (ksOf k outs) y (back3 (fun t => asg.wr t || body.wr t) p0 p1 s1) = some r →
            ∃ x s1 X w, RangeDen P K g p0 p1 fB Z asg body (i + 1) ((H.enc v).st nt) x (St3.st s1 nt) ∧ Tm.dec X s1 = some w ∧ k x (X.enc w) = some r := by
          intro hy hp
          obtain ⟨X, w, h1, h2⟩ := pickK_ok hp
          refine ⟨y, _, X, w, ?_, h1, h2⟩
          rw [back3_st]
          exact .stop (clo v hv) hy a1 b1
        cases y with
        | normal =>
          simp only [aroundR] at b2
          split at b2
          · rename_i v' hv'
            obtain ⟨e1, e2⟩ := gd_some b2
            obtain ⟨x, s2, X, w, c1, c2, c3⟩ := ih v' (by simpa using e1) e2
            exact ⟨x, s2, X, w, .round (clo v hv) a1 b1 (by rw [← back3_st]; exact Tm.dec_weak hv') c1, c2, c3⟩
          · cases b2
        | ret => exact out (.inl rfl) b2
        | exit id => exact out (.inr ⟨id, rfl⟩) b2
        | goto l => cases b2
        | panic c => cases b2
        | outgrown => cases b2
      | _ => cases a2
  obtain ⟨x, s1, X, w, c1, c2, c3⟩ := key Z.length v hZ.symm h
  have := Den.range hBk hlen hrA hrB (by simpa [Nat.blt_eq] using hp0) (by simpa [Nat.blt_eq] using hp1) c1
  exact ⟨x, X.enc w, Den.weak this (Tm.dec_weak c2), c3⟩

end Go.Ev
