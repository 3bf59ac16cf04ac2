/- DERIVED. The evaluator over shapes of data: all paths of a function. -/
import Derived.Test.YtckjalpomcaamaaEc

/- DERIVED. What is settled, and results, over shapes; templates of states. -/
namespace Go.Ev
open Go

variable {P : Program} {T : Ty}

/-- a cell handed on is one that v1's convC takes -/
theorem conv3c_ok {bs : List (Nat × B3)} {t : Sh} {v : SV} {g : Bool} {x : t.den} {ks : List Nat} (ht : t.one = true) (h : conv3c bs t v = some (g, x, ks)) (hg : g = true) :
    v.cellB = true ∧ (∃ ob, convC (look · (mapV (B3.box (lens bs)) bs)) (v.c (lens bs)) (.i (hd1 (t.cells x))) = some (ob, ks) ∧ ∀ p ∈ ob, p) ∧ ∀ k ∈ ks, k < 1000 ∧ (look k bs).isSome = true := by
  unfold conv3c at h
  split at h
  · rename_i hh
    split at h
    · rename_i t0
      split at h
      · rename_i e sh fz xs hl
        cases hk : Nat.blt hh 1000 with
        | false => rw [hk] at h; cases h
        | true =>
          rw [hk] at h
          simp only [cond, Option.map_eq_some_iff, Prod.mk.injEq] at h
          obtain ⟨y, hy, rfl, rfl, rfl⟩ := h
          obtain ⟨rfl, rfl⟩ := sl_to hy
          have hle : lens bs hh = xs.length := by simp [lens, hl, B3.len]
          refine ⟨rfl, ⟨[0 + lens bs hh ≤ (xs.map fun y => (sh.cells y).map C.i).length, ((xs.map fun y => (sh.cells y).map C.i).drop 0).take (lens bs hh) = (xs.map sh.cells).map (·.map .i)], ?_, ?_⟩, ?_⟩
          · simp only [convC, SV.c, box_at, hl, Option.map_some, B3.box, Sh.cells, hd1, Nat.beq_refl, cond]
          · simp only [List.mem_cons, List.not_mem_nil, or_false, forall_eq_or_imp, forall_eq]
            refine ⟨by simp [hle], ?_⟩
            rw [List.drop_zero, hle, List.take_of_length_le (by simp), List.map_map]
            rfl
          · intro k hk'
            simp only [List.mem_singleton] at hk'
            subst hk'
            exact ⟨by simpa [Nat.blt_eq] using hk, by rw [hl]; rfl⟩
      · cases h
    · cases h
  · rename_i hh off len
    split at h
    · rename_i t0
      split at h
      · rename_i e sh fz xs hl
        cases hk : Nat.blt hh 1000 with
        | false => rw [hk] at h; cases h
        | true =>
          rw [hk] at h
          simp only [cond, Option.map_eq_some_iff, Prod.mk.injEq] at h
          obtain ⟨y, hy, rfl, rfl, rfl⟩ := h
          obtain ⟨rfl, rfl⟩ := sl_to hy
          simp only [decide_eq_true_eq] at hg
          refine ⟨rfl, ⟨[off + len ≤ (xs.map fun y => (sh.cells y).map C.i).length, ((xs.map fun y => (sh.cells y).map C.i).drop off).take len = (((xs.drop off).take len).map sh.cells).map (·.map .i)], ?_, ?_⟩, ?_⟩
          · simp only [convC, SV.c, box_at, hl, Option.map_some, B3.box, Sh.cells, hd1, Nat.beq_refl, cond]
          · simp only [List.mem_cons, List.not_mem_nil, or_false, forall_eq_or_imp, forall_eq]
            refine ⟨by simpa using hg, ?_⟩
            rw [List.map_map, List.map_take, List.map_drop]
            rfl
          · intro k hk'
            simp only [List.mem_singleton] at hk'
            subst hk'
            exact ⟨by simpa [Nat.blt_eq] using hk, by rw [hl]; rfl⟩
      · cases h
    · cases h
  · rename_i cs
    split at h
    · rename_i t0
      cases hd : cs.all SV.isD with
      | false => rw [hd] at h; cases h
      | true =>
        rw [hd] at h
        simp only [cond, Option.map_eq_some_iff, Prod.mk.injEq] at h
        obtain ⟨y, hy, rfl, rfl, rfl⟩ := h
        obtain ⟨_, _, h3, _⟩ := all_false hy
        refine ⟨hd, ⟨[C.i (.ref 0 (cs.map SV.i0)) = C.i (.ref 0 (t0.cells y))], rfl, by simp [h3 hd]⟩, by simp⟩
    · cases h
  · rename_i h1 h2 h3
    rw [ht] at h
    simp only [cond, Option.map_eq_some_iff, Prod.mk.injEq] at h
    obtain ⟨y, hy, rfl, rfl, rfl⟩ := h
    obtain ⟨q1, ob, q2, q3⟩ := as_sub (L := lens bs) ht hy
    refine ⟨isD_cellB q1, ⟨ob, ?_, q3⟩, by simp⟩
    have hI : isI (v.c (lens bs)) = true := imm_isI (isD_imm q1)
    unfold convC
    split
    · rename_i he _
      rw [he] at hI; cases hI
    · rw [q2]; rfl

def ConvCs (bs : List (Nat × B3)) (cs : List SV) (ds : List I) (ks : List Nat) : Prop :=
  (∃ ob, convCs (look · (mapV (B3.box (lens bs)) bs)) (cs.map (SV.c (lens bs))) (ds.map .i) = some (ob, ks) ∧ ∀ p ∈ ob, p) ∧ ∀ k ∈ ks, k < 1000 ∧ (look k bs).isSome = true

theorem ConvCs.app {bs : List (Nat × B3)} : ∀ {cs cs' : List SV} {ds ds' : List I} {ks ks' : List Nat}, ConvCs bs cs ds ks → ConvCs bs cs' ds' ks' → ConvCs bs (cs ++ cs') (ds ++ ds') (ks ++ ks')
  | [], cs', [], ds', ks, ks', h, h' => by
    obtain ⟨⟨ob, h, _⟩, _⟩ := h
    simp only [List.map_nil, convCs, Option.some.injEq, Prod.mk.injEq] at h
    obtain ⟨_, rfl⟩ := h
    exact h'
  | [], cs', d :: ds, ds', _, _, h, _ => by obtain ⟨⟨ob, h, _⟩, _⟩ := h; simp [convCs] at h
  | c :: cs, cs', [], ds', _, _, h, _ => by obtain ⟨⟨ob, h, _⟩, _⟩ := h; simp [convCs] at h
  | c :: cs, cs', d :: ds, ds', ks, ks', h, h' => by
    obtain ⟨⟨ob, h, ho⟩, hk⟩ := h
    simp only [List.map_cons, convCs] at h
    split at h
    · rename_i p k q l h1 h2
      simp only [Option.some.injEq, Prod.mk.injEq] at h
      obtain ⟨rfl, rfl⟩ := h
      obtain ⟨⟨ob2, h3, ho2⟩, hk2⟩ := ConvCs.app (cs := cs) (ds := ds) (ks := l) ⟨⟨q, h2, fun x hx => ho x (List.mem_append.2 (.inr hx))⟩, fun k hk' => hk k (List.mem_append.2 (.inr hk'))⟩ h'
      refine ⟨⟨p ++ ob2, ?_, fun x hx => ?_⟩, fun j hj => ?_⟩
      · simp only [List.cons_append, List.map_cons, convCs, h1, h3, List.append_assoc]
      · rcases List.mem_append.1 hx with hx | hx
        · exact ho x (List.mem_append.2 (.inl hx))
        · exact ho2 x hx
      · rw [List.append_assoc] at hj
        rcases List.mem_append.1 hj with hj | hj
        · exact hk j (List.mem_append.2 (.inl hj))
        · exact hk2 j hj
    · cases h

theorem impB_ok {bs : List (Nat × B3)} : ∀ (t : Sh) (cs : List SV) (g : Bool) (x : t.den) (ks : List Nat) (r : List SV), t.impB bs cs = some (g, x, ks, r) → g = true → ∃ pre, cs = pre ++ r ∧ ConvCs bs pre (t.cells x) ks ∧ pre.all SV.cellB = true := by
  have cell : ∀ (t : Sh) (c : SV) (r q : List SV) (g : Bool) (x : t.den) (ks : List Nat), t.one = true → (conv3c bs t c).map (fun p => (p.1, p.2.1, p.2.2, r)) = some (g, x, ks, q) → g = true → ∃ pre, c :: r = pre ++ q ∧ ConvCs bs pre (t.cells x) ks ∧ pre.all SV.cellB = true := by
    intro t c r q g x ks ht h hg
    simp only [Option.map_eq_some_iff, Prod.mk.injEq] at h
    obtain ⟨⟨g', x', k'⟩, h1, rfl, rfl, rfl, rfl⟩ := h
    obtain ⟨hc, ⟨ob, h2, h3⟩, h4⟩ := conv3c_ok ht h1 hg
    refine ⟨[c], rfl, ⟨⟨ob ++ [], ?_, by simpa using h3⟩, h4⟩, by simp [hc]⟩
    rw [cells1 t x' ht]
    simp only [List.map_cons, List.map_nil, convCs, h2, List.append_nil]
  intro t
  induction t with
  | pair a b iha ihb =>
    intro cs g x ks r h hg
    simp only [Sh.impB] at h
    split at h
    · rename_i g1 y k1 q h1
      split at h
      · rename_i g2 z k2 q' h2
        simp only [Option.some.injEq, Prod.mk.injEq] at h
        obtain ⟨rfl, rfl, rfl, rfl⟩ := h
        simp only [Bool.and_eq_true] at hg
        obtain ⟨p1, e1, c1, i1⟩ := iha _ _ _ _ _ h1 hg.1
        obtain ⟨p2, e2, c2, i2⟩ := ihb _ _ _ _ _ h2 hg.2
        exact ⟨p1 ++ p2, by rw [e1, e2, List.append_assoc], c1.app c2, by simp [i1, i2]⟩
      · cases h
    · cases h
  | st t ih => intro cs g x ks r h hg; exact ih _ _ _ _ _ h hg
  | unit =>
    intro cs g x ks r h _
    simp only [Sh.impB, Option.some.injEq, Prod.mk.injEq] at h
    obtain ⟨_, _, rfl, rfl⟩ := h
    exact ⟨[], rfl, ⟨⟨[], rfl, by simp⟩, by simp⟩, rfl⟩
  | int k => intro cs g x ks r h hg; cases cs with | nil => simp [Sh.impB] at h | cons c cs => exact cell _ _ _ _ _ _ _ rfl h hg
  | bool => intro cs g x ks r h hg; cases cs with | nil => simp [Sh.impB] at h | cons c cs => exact cell _ _ _ _ _ _ _ rfl h hg
  | str => intro cs g x ks r h hg; cases cs with | nil => simp [Sh.impB] at h | cons c cs => exact cell _ _ _ _ _ _ _ rfl h hg
  | nil => intro cs g x ks r h hg; cases cs with | nil => simp [Sh.impB] at h | cons c cs => exact cell _ _ _ _ _ _ _ rfl h hg
  | fn f => intro cs g x ks r h hg; cases cs with | nil => simp [Sh.impB] at h | cons c cs => exact cell _ _ _ _ _ _ _ rfl h hg
  | sl t _ => intro cs g x ks r h hg; cases cs with | nil => simp [Sh.impB] at h | cons c cs => exact cell _ _ _ _ _ _ _ rfl h hg
  | ref t _ => intro cs g x ks r h hg; cases cs with | nil => simp [Sh.impB] at h | cons c cs => exact cell _ _ _ _ _ _ _ rfl h hg
  | clo f c _ => intro cs g x ks r h hg; cases cs with | nil => simp [Sh.impB] at h | cons v cs => exact cell _ _ _ _ _ _ _ rfl h hg

theorem cellB_s {L : Nat → Nat} {v : SV} (h : v.cellB = true) : v.s L = .v (.one (v.c L)) ∧ v.v L = .one (v.c L) := by cases v <;> first | exact ⟨rfl, rfl⟩ | cases h

theorem convV3_ok {bs : List (Nat × B3)} {t : Sh} {v : SV} {g : Bool} {x : t.den} {ks : List Nat} (h : convV3 bs t v = some (g, x, ks)) (hg : g = true) :
    v.s (lens bs) = .v (v.v (lens bs)) ∧ (∃ ob, convV (look · (mapV (B3.box (lens bs)) bs)) (v.v (lens bs)) (t.v x) = some (ob, ks) ∧ ∀ p ∈ ob, p) ∧ ∀ k ∈ ks, k < 1000 ∧ (look k bs).isSome = true := by
  unfold convV3 at h
  cases ht : t.one with
  | true =>
    rw [ht] at h
    obtain ⟨hc, ⟨ob, h1, h2⟩, h3⟩ := conv3c_ok ht h hg
    obtain ⟨e1, e2⟩ := cellB_s (L := lens bs) hc
    refine ⟨by rw [e1, e2], ⟨ob, ?_, h2⟩, h3⟩
    simp only [e2, Sh.v, ht, cond, convV, h1]
  | false =>
    rw [ht] at h
    simp only [cond] at h
    split at h
    · rename_i cs
      split at h
      · rename_i g1 y k1 hi
        simp only [Option.some.injEq, Prod.mk.injEq] at h
        obtain ⟨rfl, rfl, rfl⟩ := h
        obtain ⟨pre, e, ⟨⟨ob, h1, h2⟩, h3⟩, _⟩ := impB_ok _ _ _ _ _ _ hi hg
        rw [List.append_nil] at e
        subst e
        refine ⟨rfl, ⟨ob, ?_, h2⟩, h3⟩
        simp only [SV.v, Sh.v, ht, cond, convV, h1]
      · cases h
    · cases h

theorem canFz_ok {bs : List (Nat × B3)} {L : Nat → Nat} {ks : List Nat} (h : ∀ k ∈ ks, k < 1000 ∧ (look k bs).isSome = true) : canFz (mapV (B3.box L) bs) ks = true := by
  unfold canFz
  refine List.all_eq_true.2 fun k hk => ?_
  obtain ⟨h1, h2⟩ := h k hk
  rw [look_mapV, Option.isSome_map, h2]
  simpa [Nat.blt_eq] using h1

theorem settle3_ok {s s' : St3} {nt : Nat} {t : Nat} {sh : Sh} {g : Bool} (h : settle3 s t sh = some (g, s')) (hg : g = true) :
    ∃ (x' : V) (ob : List Prop), settle (s.st nt) t x' = some (s'.st nt, ob) ∧ ∀ p ∈ ob, p := by
  unfold settle3 at h
  split at h
  · rename_i v hv
    split at h
    · rename_i g1 x ks hc
      simp only [Option.some.injEq, Prod.mk.injEq] at h
      obtain ⟨rfl, rfl⟩ := h
      obtain ⟨h1, ⟨ob, h2, h3⟩, h4⟩ := convV3_ok hc hg
      refine ⟨sh.v x, ob, ?_, h3⟩
      have hl : look t (s.st nt).slots = some (.v (v.v (lens s.boxes))) := by
        simp only [St3.st, look_mapV, hv, Option.map_some, h1]
      have h2' : convV (look · (s.st nt).boxes) (v.v (lens s.boxes)) (sh.v x) = some (ob, ks) := h2
      have hz : canFz (s.st nt).boxes ks = true := canFz_ok h4
      simp only [settle, hl, h2', hz, cond, Option.some.injEq, Prod.mk.injEq, and_true]
      simp only [St3.st]
      congr 1
      · rw [freeze3_lens, ← (sv_v (L := lens s.boxes) sh x).2, ins_mapV]
      · rw [freeze3_lens]; exact freeze3_ok _ _ _
    · cases h
  · cases h

/-! templates -/
inductive TS where
  | d (t : Sh)
  | ag (t : Sh)
  | k (v : SV)
  | hs (h : Nat)

@[reducible] def TS.den : TS → Type
  | .d t => t.den
  | .ag t => t.den
  | .k _ => Unit
  | .hs _ => Nat × Nat

def TS.enc : (t : TS) → t.den → SV
  | .d t, x => .d t x
  | .ag t, x => .agg (t.exp x)
  | .k v, _ => v
  | .hs h, x => .hs h x.1 x.2

def SV.same : SV → SV → Bool
  | .hw h, .hw h' => Nat.beq h h'
  | .hp h r c, .hp h' r' c' => Nat.beq h h' && Nat.beq r r' && Nat.beq c c'
  | .dead, _ => true
  | .d t _, .d t' _ => (match t with
    | .nil => true
    | .fn _ => true
    | _ => false) && t.eqb t'
  | _, _ => false

def TS.dec : (t : TS) → SV → Option t.den
  | .d t, v => match v with
    | .rf cs => match t with
      | .ref t0 => bif cs.all SV.isD then t0.all false cs else none
      | _ => none
    | v => bif t.one then v.as true t else none
  | .ag t, v => match v with
    | .agg cs => t.all true cs
    | _ => none
  | .k c, v => bif c.same v then some () else none
  | .hs h, v => match v with
    | .hs h' o l => bif Nat.beq h h' then some (o, l) else none
    | _ => none

inductive TB where
  | arr (e : TypeId) (t : Sh) (fz : Bool)
  | var (e : TypeId) (hf fz : Bool) (cs : List TS)

@[reducible] def DL : List TS → Type
  | [] => Unit
  | t :: r => t.den × DL r

def encL : (l : List TS) → DL l → List SV
  | [], _ => []
  | t :: r, x => t.enc x.1 :: encL r x.2
def decL : (l : List TS) → List SV → Option (DL l)
  | [], [] => some ()
  | t :: r, v :: vs => match t.dec v, decL r vs with
    | some x, some xs => some (x, xs)
    | _, _ => none
  | _, _ => none

@[reducible] def TB.den : TB → Type
  | .arr _ t _ => List t.den
  | .var _ _ _ cs => DL cs
def TB.enc : (b : TB) → b.den → B3
  | .arr e t fz, xs => .arr e t fz xs
  | .var e hf fz cs, xs => .var e hf fz (encL cs xs)
def TB.dec : (b : TB) → B3 → Option b.den
  | .arr e t fz, b => match b with
    | .arr e' t' fz' xs => bif Nat.beq e e' && (fz == fz') then (Sh.sl t').to (.sl t) xs else none
    | .rep e' fz' n cs => bif Nat.beq e e' && (fz == fz') then (t.all true cs).map fun x => List.replicate n x else none
    | _ => none
  | .var e hf fz cs, b => match b with
    | .var e' hf' fz' vs => bif Nat.beq e e' && (hf == hf') && (fz == fz') && vs.all SV.cellB then (match decL cs vs with
      | some x => bif (encL cs x).all SV.cellB && (!hf || (encL cs x).all SV.imm) then some x else none
      | none => none) else none
    | _ => none

@[reducible] def DK (β : Type) (den : β → Type) : List (Nat × β) → Type
  | [] => Unit
  | (_, t) :: r => den t × DK β den r

def encS : (l : List (Nat × TS)) → DK TS TS.den l → List (Nat × SV)
  | [], _ => []
  | (k, t) :: r, x => (k, t.enc x.1) :: encS r x.2
def decS : (l : List (Nat × TS)) → List (Nat × SV) → Option (DK TS TS.den l)
  | [], [] => some ()
  | (k, t) :: r, (j, v) :: vs => bif Nat.beq k j then (match t.dec v, decS r vs with
    | some x, some xs => some (x, xs)
    | _, _ => none) else none
  | _, _ => none
def encB : (l : List (Nat × TB)) → DK TB TB.den l → List (Nat × B3)
  | [], _ => []
  | (k, t) :: r, x => (k, t.enc x.1) :: encB r x.2
def decB : (l : List (Nat × TB)) → List (Nat × B3) → Option (DK TB TB.den l)
  | [], [] => some ()
  | (k, t) :: r, (j, v) :: vs => bif Nat.beq k j then (match t.dec v, decB r vs with
    | some x, some xs => some (x, xs)
    | _, _ => none) else none
  | _, _ => none

structure Tm where
  slots : List (Nat × TS)
  boxes : List (Nat × TB) := []
  drop : List Nat := []

@[reducible] def Tm.den (X : Tm) : Type := DK TS TS.den X.slots × DK TB TB.den X.boxes

def Tm.enc (X : Tm) (x : X.den) : St3 := ⟨encS X.slots x.1, encB X.boxes x.2⟩

def keepKeys : List (Nat × TS) → List (Nat × SV) → List (Nat × SV)
  | X, sl => sl.filter fun p => X.any fun q => Nat.beq q.1 p.1

def dels3 : List Nat → St3 → Option St3
  | [], s => some s
  | h :: r, s => bif Nat.blt h 1000 && s.clean h then dels3 r { s with boxes := del h s.boxes } else none

def Tm.dec (X : Tm) (s : St3) : Option X.den :=
  match dels3 X.drop { s with slots := keepKeys X.slots s.slots } with
  | some s2 => match decS X.slots s2.slots, decB X.boxes s2.boxes with
    | some x, some y => some (x, y)
    | _, _ => none
  | none => none

end Go.Ev

/- DERIVED. A state that a template takes may be read as the template's. -/
namespace Go.Ev
open Go

variable {P : Program} {T : Ty}

/-- each reading of x is one of x' -/
def SubS (x x' : S) : Prop := ∀ (w : World) (E : Env) (v : Value), Rs w E v x → Rs w E v x'
def SubC (c c' : C) : Prop := ∀ (w : World) (E : Env) (v : Value), Rc w E v c → Rc w E v c'

structure SubB (b b' : Box) : Prop where
  e : b'.e = b.e
  sz : b'.sz = b.sz
  fz : b'.fz = b.fz
  len : b'.rows.length = b.rows.length
  rows : ∀ (i : Nat) (r' : List C), b'.rows[i]? = some r' → ∃ r, b.rows[i]? = some r ∧ r'.length = r.length ∧ ∀ (j : Nat) (c' : C), r'[j]? = some c' → ∃ c, r[j]? = some c ∧ SubC c c'
  hf : b'.hf = true → ∀ (i : Nat) (r : List C) (j : Nat) (c : C), b'.rows[i]? = some r → r[j]? = some c → ∃ x, c = .i x

theorem BoxAt.sub {w : World} {E : Env} {b b' : Box} {g cap : Nat} (h : BoxAt w E b g cap) (hb : SubB b b') : BoxAt w E b' g cap := by
  obtain ⟨arr, a1, a2, a3, a4, a5, a6, a7, a8, a9⟩ := h
  refine ⟨arr, by rw [hb.e]; exact a1, by rw [hb.sz]; exact a2, by rw [hb.len]; exact a3, a4, fun i r hi => ?_, fun i r j c hi hj => ?_, fun hf i r j c hi hj => hb.hf hf i r j c hi hj, fun hf => a8 (by rw [← hb.fz]; exact hf), a9⟩
  · obtain ⟨r0, h1, h2, _⟩ := hb.rows i r hi
    rw [h2, hb.sz]; exact a5 i r0 h1
  · obtain ⟨r0, h1, _, h3⟩ := hb.rows i r hi
    obtain ⟨c0, h4, h5⟩ := h3 j c hj
    obtain ⟨v, h6, h7⟩ := a6 i r0 j c0 h1 h4
    exact ⟨v, by rw [hb.sz]; exact h6, h5 _ _ _ h7⟩

theorem StRep.sub {Γ : Ctx} {w : World} {E : Env} {s s' : St} {tmps : Array Value} (hs : StRep Γ w E s tmps) (hnt : s'.nt = s.nt)
    (h1 : ∀ t x', look t s'.slots = some x' → ∃ x, look t s.slots = some x ∧ SubS x x')
    (h2 : ∀ h b', look h s'.boxes = some b' → ∃ b, look h s.boxes = some b ∧ SubB b b')
    (h3 : ∀ h b, look h s.boxes = some b → (look h s'.boxes).isSome = true) : StRep Γ w E s' tmps where
  fr := hs.fr
  wf := by rw [hnt]; exact hs.wf
  old := hs.old
  nt := by rw [hnt]; exact hs.nt
  tag := hs.tag
  new := hs.new
  boxes := fun h b' hb' => by
    obtain ⟨b, hb, hsub⟩ := h2 h b' hb'
    obtain ⟨g, cap, hβ, hat⟩ := hs.boxes h b hb
    exact ⟨g, cap, by rw [hsub.sz]; exact hβ, hat.sub hsub⟩
  inj := fun h h' b b' g g' z z' hb hb' hz hz' hne => by
    obtain ⟨b0, hb0, _⟩ := h2 h b hb
    obtain ⟨b1, hb1, _⟩ := h2 h' b' hb'
    exact hs.inj h h' b0 b1 g g' z z' hb0 hb1 hz hz' hne
  own := fun h b' g z hb' hz => by
    obtain ⟨b, hb, hsub⟩ := h2 h b' hb'
    rw [hsub.fz]
    exact hs.own h b g z hb hz
  slots := fun t x' hx' => by
    obtain ⟨x, hx, hsub⟩ := h1 t x' hx'
    exact hsub _ _ _ (hs.slots t x hx)
  tsize := hs.tsize
  dom := fun h x hx => by
    obtain ⟨b, hb⟩ := Option.isSome_iff_exists.1 (hs.dom h x hx)
    exact h3 h b hb
  stay := hs.stay
  fzn := fun h b' g z hb' hz hf => by
    obtain ⟨b, hb, hsub⟩ := h2 h b' hb'
    exact hs.fzn h b g z hb hz (by rw [← hsub.fz]; exact hf)

theorem SubC.refl (c : C) : SubC c c := fun _ _ _ h => h
theorem SubS.refl (x : S) : SubS x x := fun _ _ _ h => h
theorem SubS.dead (x : S) : SubS x .dead := fun _ _ _ _ => .dead

theorem subC_sub {c c' : C} (h : ∃ ob, subC c c' = some ob ∧ ∀ p ∈ ob, p) : SubC c c' := by
  obtain ⟨ob, h1, h2⟩ := h
  exact fun w E v hv => subC_sound hv h1 h2

/-- one by one -/
def SubL (cs cs' : List C) : Prop := cs'.length = cs.length ∧ ∀ (j : Nat) (c' : C), cs'[j]? = some c' → ∃ c, cs[j]? = some c ∧ SubC c c'

theorem subCs_len : ∀ (cs cs' : List C) (ob : List Prop), subCs cs cs' = some ob → (∀ p ∈ ob, p) → SubL cs cs'
  | [], [], _, _, _ => ⟨rfl, fun j c hj => by simp at hj⟩
  | [], _ :: _, _, h, _ => by simp [subCs] at h
  | _ :: _, [], _, h, _ => by simp [subCs] at h
  | c :: cs, c' :: cs', ob, h, ho => by
    simp only [subCs] at h
    split at h
    · rename_i p q h1 h2
      obtain rfl := Option.some.inj h
      obtain ⟨i1, i2⟩ := subCs_len cs cs' q h2 (fun x hx => ho x (List.mem_append.2 (.inr hx)))
      refine ⟨by simp [i1], fun j d hj => ?_⟩
      cases j with
      | zero =>
        simp at hj; subst hj
        exact ⟨c, rfl, subC_sub ⟨p, h1, fun x hx => ho x (List.mem_append.2 (.inl hx))⟩⟩
      | succ j => exact i2 j d (by simpa using hj)
    · cases h

theorem SubCs.subL {L : Nat → Nat} {cs : List SV} {ds : List I} (h : SubCs L cs ds) : SubL (cs.map (SV.c L)) (ds.map .i) := by
  obtain ⟨ob, h1, h2⟩ := h
  exact subCs_len _ _ _ h1 h2

theorem SubL.agg {cs cs' : List C} (h : SubL cs cs') : SubS (.v (.agg cs)) (.v (.agg cs')) := by
  intro w E v hv
  cases hv with
  | v hv =>
    cases hv with
    | agg hv =>
      refine .v (.agg ⟨by rw [h.1]; exact hv.1, fun j v c hv' hc => ?_⟩)
      obtain ⟨c0, h1, h2⟩ := h.2 j c hc
      exact h2 _ _ _ (hv.2 j v c0 hv' h1)

theorem SubC.one {c c' : C} (h : SubC c c') : SubS (.v (.one c)) (.v (.one c')) := by
  intro w E v hv
  cases hv with
  | v hv => cases hv with | one hv => exact .v (.one (h _ _ _ hv))

/-- a value that a template takes -/
theorem dec_sub {L : Nat → Nat} {t : TS} {v : SV} {x : t.den} (h : t.dec v = some x) : SubS (v.s L) ((t.enc x).s L) ∧ (v.cellB = true → (t.enc x).cellB = true → SubC (v.c L) ((t.enc x).c L)) := by
  cases t with
  | d t =>
    simp only [TS.dec] at h
    split at h
    · rename_i cs
      split at h
      · rename_i t0
        cases hd : cs.all SV.isD with
        | false => rw [hd] at h; cases h
        | true =>
          rw [hd] at h
          simp only [cond] at h
          obtain ⟨_, _, h3, _⟩ := all_false h
          have e : (SV.rf cs).c L = (SV.d (.ref t0) x).c L := by
            simp only [SV.c, h3 hd, Sh.cells, hd1]
          have hc : SubC ((SV.rf cs).c L) ((TS.enc (.d (.ref t0)) x).c L) := by
            show SubC _ ((SV.d (.ref t0) x).c L)
            rw [← e]; exact SubC.refl _
          exact ⟨hc.one, fun _ _ => hc⟩
      · cases h
    · rename_i hnr
      cases ht : t.one with
      | false => rw [ht] at h; cases h
      | true =>
        rw [ht] at h
        obtain ⟨q1, q2⟩ := as_sub (L := L) ht h
        have hc : SubC (v.c L) ((TS.enc (.d t) x).c L) := subC_sub q2
        have e : v.s L = .v (.one (v.c L)) := by cases v <;> first | rfl | cases q1
        refine ⟨?_, fun _ _ => hc⟩
        rw [e]
        exact hc.one
  | ag t =>
    simp only [TS.dec] at h
    split at h
    · rename_i cs
      obtain ⟨h1, h2⟩ := all_true (L := L) h
      refine ⟨?_, fun hc => by cases hc⟩
      show SubS (.v (.agg (cs.map (SV.c L)))) (.v (.agg ((t.exp x).map (SV.c L))))
      rw [exp_c]
      exact h1.subL.agg
    · cases h
  | k c =>
    simp only [TS.dec] at h
    cases hs : c.same v with
    | false => rw [hs] at h; cases h
    | true =>
      show SubS (v.s L) (c.s L) ∧ (v.cellB = true → c.cellB = true → SubC (v.c L) (c.c L))
      unfold SV.same at hs
      split at hs
      · obtain rfl := Nat.eq_of_beq_eq_true hs; exact ⟨SubS.refl _, fun _ _ => SubC.refl _⟩
      · simp only [Bool.and_eq_true] at hs
        obtain rfl := Nat.eq_of_beq_eq_true hs.1.1
        obtain rfl := Nat.eq_of_beq_eq_true hs.1.2
        obtain rfl := Nat.eq_of_beq_eq_true hs.2
        exact ⟨SubS.refl _, fun _ _ => SubC.refl _⟩
      · exact ⟨SubS.dead _, fun _ h => by cases h⟩
      · rename_i t x' t' y
        simp only [Bool.and_eq_true] at hs
        obtain rfl := Sh.eqb_eq hs.2
        have : SV.d t x' = SV.d t y := by
          split at hs
          · rfl
          · rfl
          · exact absurd hs.1 (by simp)
        rw [this]
        exact ⟨SubS.refl _, fun _ _ => SubC.refl _⟩
      · cases hs
  | hs h' =>
    simp only [TS.dec] at h
    split at h
    · rename_i k o l
      cases hk : Nat.beq h' k with
      | false => rw [hk] at h; cases h
      | true =>
        rw [hk] at h
        obtain rfl := Nat.eq_of_beq_eq_true hk
        simp only [cond, Option.some.injEq] at h
        subst h
        exact ⟨SubS.refl _, fun _ _ => SubC.refl _⟩
    · cases h

theorem decS_len : ∀ {l : List (Nat × TS)} {sl : List (Nat × SV)} {x : DK TS TS.den l}, decS l sl = some x → ∀ (L : Nat → Nat) (k : Nat) (y : S), look k (mapV (SV.s L) (encS l x)) = some y → ∃ z, look k (mapV (SV.s L) sl) = some z ∧ SubS z y
  | [], [], _, _, _, k, y, h => by simp [encS, mapV, look] at h
  | [], _ :: _, _, h, _, _, _, _ => by simp [decS] at h
  | _ :: _, [], _, h, _, _, _, _ => by simp [decS] at h
  | (k, t) :: r, (j, v) :: vs, x, h, L, i, y, hy => by
    simp only [decS] at h
    cases hk : Nat.beq k j with
    | false => rw [hk] at h; cases h
    | true =>
      rw [hk] at h
      obtain rfl := Nat.eq_of_beq_eq_true hk
      simp only [cond] at h
      split at h
      · rename_i a as h1 h2
        obtain rfl := Option.some.inj h
        simp only [encS, mapV, List.map_cons, look] at hy ⊢
        cases hb : Nat.beq k i with
        | true =>
          rw [hb] at hy
          simp only [cond, Option.some.injEq] at hy
          subst hy
          exact ⟨_, rfl, (dec_sub h1).1⟩
        | false =>
          rw [hb] at hy
          exact decS_len h2 L i y hy
      · cases h

theorem decL_sub {L : Nat → Nat} : ∀ {l : List TS} {vs : List SV} {x : DL l}, decL l vs = some x → vs.all SV.cellB = true → (encL l x).all SV.cellB = true → SubL (vs.map (SV.c L)) ((encL l x).map (SV.c L))
  | [], [], _, _, _, _ => ⟨rfl, fun j c h => by simp [encL] at h⟩
  | [], _ :: _, _, h, _, _ => by simp [decL] at h
  | _ :: _, [], _, h, _, _ => by simp [decL] at h
  | t :: r, v :: vs, x, h, hc, hc' => by
    simp only [decL] at h
    split at h
    · rename_i a as h1 h2
      obtain rfl := Option.some.inj h
      simp only [List.all_cons, Bool.and_eq_true, encL] at hc hc'
      obtain ⟨i1, i2⟩ := decL_sub (L := L) h2 hc.2 hc'.2
      refine ⟨by simpa [encL] using i1, fun j c hj => ?_⟩
      cases j with
      | zero =>
        simp [encL] at hj; subst hj
        exact ⟨_, rfl, (dec_sub h1).2 hc.1 hc'.1⟩
      | succ j => exact i2 j c (by simpa [encL] using hj)
    · cases h

theorem boxdec_sub {L : Nat → Nat} {t : TB} {b : B3} {x : t.den} (h : t.dec b = some x) : SubB (b.box L) ((t.enc x).box L) ∧ (t.enc x).len = b.len := by
  cases t with
  | arr e t fz =>
    simp only [TB.dec] at h
    split at h
    · rename_i e' t' fz' xs
      cases hc : (Nat.beq e e' && (fz == fz')) with
      | false => rw [hc] at h; cases h
      | true =>
        rw [hc] at h
        simp only [Bool.and_eq_true] at hc
        obtain rfl := Nat.eq_of_beq_eq_true hc.1
        obtain rfl := eq_of_beq hc.2
        obtain ⟨rfl, rfl⟩ := sl_to h
        refine ⟨⟨rfl, rfl, rfl, rfl, fun i r hi => ⟨r, hi, rfl, fun j c hj => ⟨c, hj, SubC.refl c⟩⟩, fun _ i r j c hi hj => ?_⟩, rfl⟩
        simp only [TB.enc, B3.box, List.getElem?_map] at hi
        obtain ⟨y, _, rfl⟩ := Option.map_eq_some_iff.1 hi
        rw [List.getElem?_map] at hj
        obtain ⟨z, _, rfl⟩ := Option.map_eq_some_iff.1 hj
        exact ⟨z, rfl⟩
    · rename_i e' fz' n cs
      cases hc : (Nat.beq e e' && (fz == fz')) with
      | false => rw [hc] at h; cases h
      | true =>
        rw [hc] at h
        simp only [cond, Option.map_eq_some_iff] at h
        obtain ⟨y, hy, rfl⟩ := h
        simp only [Bool.and_eq_true] at hc
        obtain rfl := Nat.eq_of_beq_eq_true hc.1
        obtain rfl := eq_of_beq hc.2
        obtain ⟨h1, h2⟩ := all_true (L := L) hy
        have hL := h1.subL
        have hz : cs.length = t.size := by have := hL.1; simp [Sh.cells_len] at this; omega
        refine ⟨⟨rfl, by simp [TB.enc, B3.box, hz], rfl, by simp [TB.enc, B3.box], fun i r hi => ?_, fun _ i r j c hi hj => ?_⟩, by simp [TB.enc, B3.len]⟩
        · simp only [TB.enc, B3.box, List.map_replicate, List.getElem?_replicate] at hi
          split at hi
          · rename_i hlt
            obtain rfl := Option.some.inj hi
            exact ⟨cs.map (SV.c L), by simp [B3.box, List.getElem?_replicate, hlt], hL.1, hL.2⟩
          · cases hi
        · simp only [TB.enc, B3.box, List.map_replicate, List.getElem?_replicate] at hi
          split at hi
          · obtain rfl := Option.some.inj hi
            rw [List.getElem?_map] at hj
            obtain ⟨z, _, rfl⟩ := Option.map_eq_some_iff.1 hj
            exact ⟨z, rfl⟩
          · cases hi
    · cases h
  | var e hf fz cs =>
    simp only [TB.dec] at h
    split at h
    · rename_i e' hf' fz' vs
      cases hc : (Nat.beq e e' && (hf == hf') && (fz == fz') && vs.all SV.cellB) with
      | false => rw [hc] at h; cases h
      | true =>
        rw [hc] at h
        simp only [cond] at h
        simp only [Bool.and_eq_true] at hc
        obtain rfl := Nat.eq_of_beq_eq_true hc.1.1.1
        obtain rfl := eq_of_beq hc.1.1.2
        obtain rfl := eq_of_beq hc.1.2
        split at h
        · rename_i y hy
          cases he : ((encL cs y).all SV.cellB && (!hf || (encL cs y).all SV.imm)) with
          | false => rw [he] at h; cases h
          | true =>
            rw [he] at h
            obtain rfl := Option.some.inj h
            simp only [Bool.and_eq_true, Bool.or_eq_true, Bool.not_eq_true'] at he
            have hL := decL_sub (L := L) hy hc.2 he.1
            refine ⟨⟨rfl, by have := hL.1; simpa [TB.enc, B3.box] using this, rfl, rfl, fun i r hi => ?_, fun hf' i r j c hi hj => ?_⟩, rfl⟩
            · cases i with
              | zero =>
                simp [TB.enc, B3.box] at hi; subst hi
                exact ⟨vs.map (SV.c L), rfl, hL.1, hL.2⟩
              | succ i => simp [TB.enc, B3.box] at hi
            · have hf'' : hf = true := hf'
              have hi' : (encL cs y).all SV.imm = true := by
                rcases he.2 with h0 | h0
                · rw [hf''] at h0; cases h0
                · exact h0
              cases i with
              | zero =>
                simp [TB.enc, B3.box] at hi; subst hi
                rw [List.getElem?_map] at hj
                obtain ⟨z, hz, rfl⟩ := Option.map_eq_some_iff.1 hj
                have := imm_isI (L := L) (List.all_eq_true.1 hi' z (List.mem_of_getElem? hz))
                cases hzc : z.c L with
                | i q => exact ⟨q, rfl⟩
                | hs => rw [hzc] at this; cases this
                | hp => rw [hzc] at this; cases this
              | succ i => simp [TB.enc, B3.box] at hi
        · cases h
    · cases h

theorem decB_sub {L : Nat → Nat} : ∀ {l : List (Nat × TB)} {bs : List (Nat × B3)} {x : DK TB TB.den l}, decB l bs = some x →
    (∀ k b', look k (mapV (B3.box L) (encB l x)) = some b' → ∃ b, look k (mapV (B3.box L) bs) = some b ∧ SubB b b') ∧ (∀ k b, look k (mapV (B3.box L) bs) = some b → (look k (mapV (B3.box L) (encB l x))).isSome = true) ∧ lens (encB l x) = lens bs
  | [], [], _, _ => ⟨fun k b h => by simp [encB, mapV, look] at h, fun k b h => by simp [mapV, look] at h, rfl⟩
  | [], _ :: _, _, h => by simp [decB] at h
  | _ :: _, [], _, h => by simp [decB] at h
  | (k, t) :: r, (j, v) :: vs, x, h => by
    simp only [decB] at h
    cases hk : Nat.beq k j with
    | false => rw [hk] at h; cases h
    | true =>
      rw [hk] at h
      obtain rfl := Nat.eq_of_beq_eq_true hk
      simp only [cond] at h
      split at h
      · rename_i a as h1 h2
        obtain rfl := Option.some.inj h
        obtain ⟨i1, i2, i3⟩ := decB_sub (L := L) h2
        obtain ⟨b1, b2⟩ := boxdec_sub (L := L) h1
        refine ⟨fun i b hb => ?_, fun i b hb => ?_, ?_⟩
        · simp only [encB, mapV, List.map_cons, look] at hb ⊢
          cases hc : Nat.beq k i with
          | true => rw [hc] at hb; simp only [cond, Option.some.injEq] at hb; subst hb; exact ⟨_, rfl, b1⟩
          | false => rw [hc] at hb; exact i1 i b hb
        · simp only [encB, mapV, List.map_cons, look] at hb ⊢
          cases hc : Nat.beq k i with
          | true => rfl
          | false => rw [hc] at hb; exact i2 i b hb
        · funext i
          have e := congrFun i3 i
          simp only [lens, encB, look] at e ⊢
          cases hc : Nat.beq k i with
          | true => exact b2
          | false => exact e
      · cases h

theorem keep_look {X : List (Nat × TS)} : ∀ {sl : List (Nat × SV)} {k : Nat} {x : SV}, look k (keepKeys X sl) = some x → look k sl = some x
  | [], k, x, h => by cases h
  | (j, y) :: r, k, x, h => by
    simp only [keepKeys, List.filter_cons] at h
    have gone : (X.any fun q => Nat.beq q.1 j) = false → ∀ q : List (Nat × SV), look j (q.filter fun p => X.any fun z => Nat.beq z.1 p.1) = none := by
      intro hc q
      induction q with
      | nil => rfl
      | cons p' r' ih' =>
        simp only [List.filter_cons]
        split
        · rename_i hc'
          simp only [look]
          cases hb' : Nat.beq p'.1 j with
          | true => have := Nat.eq_of_beq_eq_true hb'; rw [this, hc] at hc'; cases hc'
          | false => exact ih'
        · exact ih'
    simp only [look]
    cases hb : Nat.beq j k with
    | true =>
      have := Nat.eq_of_beq_eq_true hb
      subst this
      cases hc : (X.any fun q => Nat.beq q.1 j) with
      | true =>
        rw [if_pos hc] at h
        simp only [look, hb, cond] at h
        exact h
      | false =>
        rw [if_neg (by rw [hc]; exact Bool.false_ne_true), gone hc] at h
        cases h
    | false =>
      simp only [cond]
      split at h
      · simp only [look, hb, cond] at h
        exact keep_look h
      · exact keep_look h

theorem del_mapV {α β : Type} (f : α → β) (h : Nat) : ∀ l : List (Nat × α), del h (mapV f l) = mapV f (del h l)
  | [] => rfl
  | (j, x) :: r => by
    have ih := del_mapV f h r
    show (bif Nat.beq j h then del h (mapV f r) else (j, f x) :: del h (mapV f r)) = mapV f (bif Nat.beq j h then del h r else (j, x) :: del h r)
    cases Nat.beq j h with
    | true => exact ih
    | false =>
      show (j, f x) :: del h (mapV f r) = (j, f x) :: mapV f (del h r)
      rw [ih]

theorem dels3_ok {nt : Nat} : ∀ (l : List Nat) {s s' : St3}, dels3 l s = some s' → delBoxes l (s.st nt) = some (s'.st nt)
  | [], s, s', h => by obtain rfl := Option.some.inj h; rfl
  | k :: r, s, s', h => by
    simp only [dels3] at h
    cases hc : (Nat.blt k 1000 && s.clean k) with
    | false => rw [hc] at h; cases h
    | true =>
      rw [hc] at h
      simp only [cond] at h
      simp only [Bool.and_eq_true] at hc
      have hcl := hc.2
      unfold St3.clean at hcl
      simp only [Bool.and_eq_true, List.all_eq_true] at hcl
      have ih := dels3_ok (nt := nt) r h
      have hd : (s.st nt).delBox k = some (({ s with boxes := del k s.boxes } : St3).st nt) := by
        unfold St.delBox
        have h1 : (s.st nt).slots.all (fun p => !p.2.men k) = true := by
          simp only [St3.st, mapV, List.all_map, List.all_eq_true, Function.comp, men_s]
          exact hcl.1
        have h2 : cleanB k (s.st nt).boxes = true := by
          simp only [cleanB, St3.st, mapV, List.all_map, List.all_eq_true, Function.comp, Bool.or_eq_true, Bool.not_eq_true']
          intro p hp
          exact .inr (box_men (by simpa using hcl.2 p hp))
        rw [hc.1, h1, h2]
        have hL : ∀ j, j ≠ k → lens s.boxes j = lens (del k s.boxes) j := fun j hj => by
          unfold lens; rw [look_del_ne hj]
        simp only [Bool.and_self, cond, Option.some.injEq, St3.st]
        congr 1
        · exact mapV_congr fun p hp => s_congr hL (by simpa using hcl.1 p hp)
        · rw [← del_mapV]
          congr 1
          exact mapV_congr fun p hp => box_congr hL (by simpa using hcl.2 p hp)
      simp only [delBoxes, hd]
      exact ih

/-- a state that a template takes may be read as the template's -/
theorem Tm.dec_ok {X : Tm} {s : St3} {x : X.den} (h : X.dec s = some x) {nt : Nat} {Γ : Ctx} {w : World} {E : Env} {tmps : Array Value} (hs : StRep Γ w E (s.st nt) tmps) : ∃ E', StRep Γ w E' ((X.enc x).st nt) tmps := by
  unfold Tm.dec at h
  split at h
  · rename_i s2 hd
    split at h
    · rename_i a b h1 h2
      obtain rfl := Option.some.inj h
      have hs1 : StRep Γ w E (({ s with slots := keepKeys X.slots s.slots } : St3).st nt) tmps := hs.less fun t y hy => by
        simp only [St3.st, look_mapV] at hy ⊢
        obtain ⟨z, hz, rfl⟩ := Option.map_eq_some_iff.1 hy
        rw [keep_look hz]; rfl
      obtain ⟨E', hs2⟩ := delBoxes_sound _ hs1 (dels3_ok _ hd)
      obtain ⟨b1, b2, b3⟩ := decB_sub (L := lens s2.boxes) h2
      refine ⟨E', hs2.sub rfl (fun t y hy => ?_) (fun k b' hb => ?_) (fun k b hb => ?_)⟩
      · simp only [Tm.enc, St3.st] at hy
        rw [b3] at hy
        exact decS_len h1 _ t y hy
      · simp only [Tm.enc, St3.st] at hb
        rw [b3] at hb
        exact b1 k b' hb
      · simp only [Tm.enc, St3.st]
        rw [b3]
        exact b2 k b hb
    · cases h
  · cases h

end Go.Ev

/- DERIVED. Code over shapes: all paths, in one expression. -/
namespace Go.Ev
open Go

variable {P : Program} {T : Ty}

/-- what is said of an operation: the callee's model; a shape; what is settled ahead -/
structure OA where
  ent : Option Ent := none
  sh : Option Sh := none
  fz : List (Nat × Sh) := []

/-- what is said of a region: how many operations may come in any order -/
structure RA where
  m : Nat := 0
  fz : List (Nat × Sh) := []
  ops : List (Nat × OA) := []

@[reducible] def KS (α : Type) : List (Exit × Tm) → Type
  | [] => Unit
  | (_, X) :: r => (X.den → Option α) × KS α r

def ksOf {α : Type} (k : Exit → St3 → Option α) : (l : List (Exit × Tm)) → KS α l
  | [] => ()
  | (x, X) :: r => (fun w => k x (X.enc w), ksOf k r)

def Exit.eqb : Exit → Exit → Bool
  | .normal, .normal => true
  | .ret, .ret => true
  | .exit i, .exit j => Nat.beq i j
  | _, _ => false

theorem Exit.eqb_eq {a b : Exit} (h : Exit.eqb a b = true) : a = b := by
  unfold Exit.eqb at h
  split at h
  · rfl
  · rfl
  · rw [Nat.eq_of_beq_eq_true h]
  · cases h

/-- to the way out that fits -/
def pickK {α : Type} : (l : List (Exit × Tm)) → KS α l → Exit → St3 → Option α
  | [], _, _, _ => none
  | (x, X) :: r, ks, y, s => bif Exit.eqb x y then (match X.dec s with
    | some w => ks.1 w
    | none => none) else pickK r ks.2 y s

/-- a loop, told by a model -/
structure LO (α : Type) where
  H : Tm
  outs : List (Exit × Tm)
  run : H.den → KS α outs → Option α

structure D3 (α : Type) where
  reg : List (Nat × RA) := []
  join : List (Nat × Tm) := []
  loop : List (Nat × LO α) := []

def firstReg : Code → Nat
  | .region id _ _ => id
  | .seq c d => match firstReg c with
    | 0 => firstReg d
    | n + 1 => n + 1
  | .cond _ c d => match firstReg c with
    | 0 => firstReg d
    | n + 1 => n + 1
  | .block _ c => firstReg c
  | .loop c => firstReg c
  | .rangeFunc _ _ a b => match firstReg a with
    | 0 => firstReg b
    | n + 1 => n + 1
  | _ => 0

/-- a value in the place of the one that is there -/
def upd {α : Type} (k : Nat) (x : α) : List (Nat × α) → List (Nat × α)
  | [] => []
  | (j, y) :: r => bif Nat.beq j k then (j, x) :: r else (j, y) :: upd k x r

def settles3 {α : Type} : List (Nat × Sh) → St3 → (St3 → Option α) → Option α
  | [], s, k => k s
  | (t, sh) :: r, s, k => match settle3 s t sh with
    | some (g, s1) => bif g then settles3 r s1 k else none
    | none => none

def ob {α β : Type} (x : Option β) (k : β → Option α) : Option α := match x with
  | some r => k r
  | none => none
def gd {α : Type} (g : Bool) (x : Option α) : Option α := bif g then x else none
abbrev W (x : Int) : Int := IntKind.i64.wrap x

/-- one operation that is wanted -/
def step3 {α : Type} (T : Ty) (K : Cfg) (A : OA) (o : Oper) (s : St3) (k : St3 → Option α) : Option α :=
  match A.ent with
  | some E => match call3 E o s with
    | some (g, x) => bif g then ob (E.m x) (fun r => match s.put3 K o.dst (resSV E.rs r) with
        | some s' => k s'
        | none => none) else none
    | none => none
  | none => match core3 T A.sh o s with
    | some r => bif r.g then (match s.eff3 K o.dst r.eff with
      | some s1 => match s1.put3 K o.dst r.val with
        | some s' => k s'
        | none => none
      | none => none) else none
    | none => none

def skip3 {α : Type} (K : Cfg) (o : Oper) (s : St3) (k : St3 → Option α) : Option α :=
  match s.put3 K o.dst (.tup []) with
  | some s' => k s'
  | none => none

/-- an operation with its guard: wanted (f) or not (g) -/
def guard3 {α : Type} (ops : List Oper) (o : Oper) (s : St3) (f g : St3 → Option α) : Option α :=
  match o.guard with
  | none => f s
  | some (j, want) => match ops[j]? with
    | some p => match p.dst with
      | some t => match look t s.slots with
        | some (.d .bool b) => bif b then
            (bif want then f { s with slots := upd t (.d .bool true) s.slots } else g { s with slots := upd t (.d .bool true) s.slots }) else
            (bif want then g { s with slots := upd t (.d .bool false) s.slots } else f { s with slots := upd t (.d .bool false) s.slots })
        | some (.tup []) => g s
        | _ => none
      | none => none
    | none => none

def ops3 {α : Type} (T : Ty) (K : Cfg) (ops : List Oper) (A : List (Nat × OA)) : List (Nat × Oper) → St3 → (St3 → Option α) → Option α
  | [], s, k => k s
  | (i, o) :: r, s, k => settles3 ((look i A).getD {}).fz s fun s0 => guard3 ops o s0 (fun s1 => step3 T K ((look i A).getD {}) o s1 fun s2 => ops3 T K ops A r s2 k) (fun s1 => skip3 K o s1 fun s2 => ops3 T K ops A r s2 k)

/-- it only puts a value -/
def OA.quiet (T : Ty) (A : OA) (o : Oper) (s : St3) : Bool :=
  A.fz.isEmpty && (match o.dst with | some _ => true | none => false) && (match A.ent with
  | some _ => true
  | none => match core3 T A.sh o s with
    | some r => match r.eff with
      | .none => true
      | _ => false
    | none => true)

def pre3 {α : Type} (T : Ty) (K : Cfg) (ops : List Oper) (A : List (Nat × OA)) : List (Nat × Oper) → St3 → (St3 → Option α) → Option α
  | [], s, k => k s
  | (i, o) :: r, s, k => guard3 ops o s
      (fun s1 => bif OA.quiet T ((look i A).getD {}) o s1 then step3 T K ((look i A).getD {}) o s1 (fun s2 => pre3 T K ops A r s2 k) else none)
      (fun s1 => bif o.dst.isSome then skip3 K o s1 (fun s2 => pre3 T K ops A r s2 k) else none)

def reg3 {α : Type} (P : Program) (T : Ty) (K : Cfg) (A : RA) (ops : Array Oper) (draw : Bool) (s : St3) (k : St3 → Option α) : Option α :=
  bif draw then
    bif drawOK ops A.m then settles3 A.fz s fun s0 => pre3 T K ops.toList A.ops ((swapIdx ops.toList).take A.m) s0 fun s1 => ops3 T K ops.toList A.ops ((swapIdx ops.toList).drop A.m) s1 k else none
  else ops3 T K ops.toList A.ops (swapIdx ops.toList) s k

def exec3 {α : Type} (P : Program) (T : Ty) (K : Cfg) (D : D3 α) : Code → St3 → (Exit → St3 → Option α) → Option α
  | .skip, s, k => k .normal s
  | .region id ops draw, s, k => reg3 P T K ((look id D.reg).getD {}) ops draw s (k .normal)
  | .seq c d, s, k => match look (firstReg d) D.join with
    | none => exec3 P T K D c s fun x s1 => match x with
      | .normal => exec3 P T K D d s1 k
      | x => k x s1
    | some X => (fun (J : X.den → Option α) => exec3 P T K D c s fun x s1 => match x with
      | .normal => match X.dec s1 with
        | some w => J w
        | none => none
      | x => k x s1) fun w => exec3 P T K D d (X.enc w) k
  | .cond (.tmp t) c d, s, k => match look t s.slots with
    | some (.d .bool b) => bif b then exec3 P T K D c { s with slots := upd t (.d .bool true) s.slots } k else exec3 P T K D d { s with slots := upd t (.d .bool false) s.slots } k
    | _ => none
  | .block id c, s, k => exec3 P T K D c s fun x s1 => match x with
    | .exit j => bif Nat.beq j id then k .normal s1 else k (.exit j) s1
    | x => k x s1
  | .loop c, s, k => match look (firstReg c) D.loop with
    | some L => match L.H.dec s with
      | some v => L.run v (ksOf k L.outs)
      | none => none
    | none => none
  | .rangeFunc _ _ a b, s, k => match look (match firstReg a with | 0 => firstReg b | n + 1 => n + 1) D.loop with
    | some L => match L.H.dec s with
      | some v => L.run v (ksOf k L.outs)
      | none => none
    | none => none
  | .exit id, s, k => k (.exit id) s
  | .ret, s, k => k .ret s
  | _, _, _ => none

/-- rounds -/
def rounds {α : Type} {V Ks : Type} (B : V → (V → Option α) → Ks → Option α) : Nat → V → Ks → Option α
  | 0, _, _ => none
  | n + 1, v, ks => B v (fun v' => rounds B n v' ks) ks

/-- the round of a loop: on, or out -/
def around {α : Type} (H : Tm) (outs : List (Exit × Tm)) (f : H.den → Option α) (ks : KS α outs) (x : Exit) (s : St3) : Option α :=
  match x with
  | .normal => match H.dec s with
    | some v => f v
    | none => none
  | x => pickK outs ks x s

/-! results -/
def raw3 (T : Ty) (s : St3) : ResultVar → Option SV
  | .tmp t => look t s.slots
  | .cell a t => match s.val (.tmp a) with
    | .hp h row col => match look h s.boxes with
      | some (.var _ _ _ _) => match load3 T t (.hp h row col) s.boxes with
        | some r => some r.val
        | none => none
      | _ => none
    | _ => none

def one3 (T : Ty) (s : St3) (rv : ResultVar) (t : Sh) : Option (Bool × t.den × List Nat) :=
  match raw3 T s rv with
  | some v => convV3 s.boxes t v
  | none => none

def rets3 (T : Ty) (s : St3) : (ts : List Sh) → List ResultVar → Option (Bool × HL ts)
  | [], [] => some (true, ())
  | [t], [rv] => match one3 T s rv t with
    | some (g, x, _) => some (g, x)
    | none => none
  | t :: u :: r, rv :: rvs => match one3 T s rv t, rets3 T s (u :: r) rvs with
    | some (g, x, _), some (g', xs) => some (g && g', (x, xs))
    | _, _ => none
  | _, _ => none

def fin3 (T : Ty) (rs : List Sh) (rvs : List ResultVar) (x : Exit) (s : St3) : Option (HL rs) :=
  match x with
  | .exit _ => none
  | .normal => match rets3 T s rs rvs with
    | some (g, y) => bif g then some y else none
    | none => none
  | .ret => match rets3 T s rs rvs with
    | some (g, y) => bif g then some y else none
    | none => none
  | _ => none

def paramsSV (i : Nat) : List SV → List (Nat × SV)
  | [] => []
  | x :: r => (i, x) :: paramsSV (i + 1) r

def entry3 (ts : List Sh) (x : HL ts) : St3 := ⟨paramsSV 0 (valsSV ts x), []⟩

end Go.Ev

/- DERIVED. Code over shapes is what the code does. -/
namespace Go.Ev
open Go

variable {P : Program} {T : Ty} {α : Type}

theorem upd_ok {f : SV → S} {t : Nat} {x y : SV} (hxy : f x = f y) : ∀ {l : List (Nat × SV)}, look t l = some y → mapV f (upd t x l) = mapV f l
  | [], h => by cases h
  | (j, z) :: r, h => by
    simp only [look] at h
    simp only [upd]
    cases hb : Nat.beq j t with
    | true =>
      rw [hb] at h
      simp only [cond, Option.some.injEq] at h
      subst h
      simp [mapV, hxy]
    | false =>
      rw [hb] at h
      have := upd_ok hxy h
      simp only [mapV] at this
      simp [mapV, this]

theorem settles3_ok {nt : Nat} : ∀ {l : List (Nat × Sh)} {s : St3} {k : St3 → Option α} {r : α}, settles3 l s k = some r → ∃ s' fz ob, settles fz (s.st nt) = some (s'.st nt, ob) ∧ (∀ p ∈ ob, p) ∧ k s' = some r ∧ (l = [] → fz = [] ∧ s' = s)
  | [], s, k, r, h => ⟨s, [], [], rfl, by simp, h, fun _ => ⟨rfl, rfl⟩⟩
  | (t, sh) :: l, s, k, r, h => by
    simp only [settles3] at h
    split at h
    · rename_i g s1 hs
      cases g with
      | false => cases h
      | true =>
        obtain ⟨x', ob, h1, h2⟩ := settle3_ok (nt := nt) hs rfl
        obtain ⟨s2, fz, ob2, h3, h4, h5, _⟩ := settles3_ok (nt := nt) (l := l) h
        refine ⟨s2, (t, x') :: fz, ob ++ ob2, by simp only [settles, h1, h3], fun p hp => ?_, h5, fun e => by cases e⟩
        rcases List.mem_append.1 hp with hp | hp
        · exact h2 p hp
        · exact h4 p hp
    · cases h

theorem quiet_core {o : Oper} {s : St3} {nt : Nat} {A : Option Sh} {r : R3} (h : core3 T A o s = some r) (hg : r.g = true) (he : r.eff = .none) :
    ∃ D obs, (∀ p ∈ obs, p) ∧ quiet P T o D (s.st nt) = some (r.val.s (lens s.boxes), obs) := by
  obtain ⟨hnt, q, h1, h2, h3⟩ := core3_ok (nt := nt) h hg
  unfold CoreRel at h3
  rw [he] at h3
  refine ⟨{ cells := hnt }, q.ob ++ [], by simpa using h2, ?_⟩
  unfold quiet
  simp only [h1, h3.1, Option.getD_none, h3.2]

theorem step1_fz {K : Cfg} {o : Oper} {D : Dec} {s : St} (fz : List (Nat × V)) : step1 P T K o { D with fz := fz } s = step1 P T K o D s := rfl

/-- one operation that is wanted -/
theorem step3_ok {K : Cfg} {A : OA} {o : Oper} {s : St3} {nt : Nat} {k : St3 → Option α} {r : α} (h : step3 T K A o s k = some r) (hE : ∀ E, A.ent = some E → E.Sound P) :
    ∃ s' D obs, step1 P T K o D (s.st nt) = some (s'.st nt, obs) ∧ (∀ p ∈ obs, p) ∧ k s' = some r := by
  unfold step3 at h
  split at h
  · rename_i E hent
    split at h
    · rename_i g x hc
      cases g with
      | false => cases h
      | true =>
        simp only [cond, ob] at h
        split at h
        · rename_i y hm
          split at h
          · rename_i s' hp
            obtain ⟨obs, h1, h2⟩ := call3_ok (T := T) (nt := nt) hc hm (hE E hent)
            have := put3_ok (nt := nt) hp
            rw [resSV_s] at this
            obtain ⟨D', obs', h3, h4⟩ := quiet_step h2 this
            exact ⟨s', D', obs', h3, h4 h1, h⟩
          · cases h
        · cases h
    · cases h
  · split at h
    · rename_i q hq
      cases hg : q.g with
      | false => rw [hg] at h; cases h
      | true =>
        rw [hg] at h
        simp only [cond] at h
        split at h
        · rename_i s1 he
          split at h
          · rename_i s' hp
            obtain ⟨hnt, r1, h1, h2, h3⟩ := core3_ok (nt := nt) hq hg
            obtain ⟨h4, h5⟩ := eff3_ok (nt := nt) he h3
            have h6 := put3_ok (nt := nt) hp
            rw [← h5] at h6
            refine ⟨s', { cells := hnt }, r1.ob ++ [] ++ [], ?_, by simpa using h2, h⟩
            unfold step1
            simp only [h1, h4, Option.getD_none, h6, Option.map_some]
          · cases h
        · cases h
    · cases h

theorem quiet3_ok {K : Cfg} {A : OA} {o : Oper} {s : St3} {nt : Nat} {k : St3 → Option α} {r : α} (h : step3 T K A o s k = some r) (hq : A.quiet T o s = true) (hE : ∀ E, A.ent = some E → E.Sound P) :
    ∃ t s' D x obs, o.dst = some t ∧ Nat.blt t K.N = true ∧ quiet P T o D (s.st nt) = some (x, obs) ∧ (∀ p ∈ obs, p) ∧ k s' = some r ∧ s'.st nt = { s.st nt with slots := ins t x (s.st nt).slots } := by
  unfold OA.quiet at hq
  simp only [Bool.and_eq_true] at hq
  obtain ⟨⟨_, hq1⟩, hq2⟩ := hq
  have putI : ∀ {s s' : St3} {y : SV}, s.put3 K o.dst y = some s' → ∃ t, o.dst = some t ∧ Nat.blt t K.N = true ∧ s'.st nt = { s.st nt with slots := ins t (y.s (lens s.boxes)) (s.st nt).slots } := by
    intro s s' y hp
    unfold St3.put3 at hp
    cases hd : o.dst with
    | none => rw [hd] at hq1; cases hq1
    | some t =>
      rw [hd] at hp
      simp only at hp
      cases hb : Nat.blt t K.N with
      | false => rw [hb] at hp; cases hp
      | true =>
        rw [hb] at hp
        obtain rfl := Option.some.inj hp
        exact ⟨t, rfl, hb, by simp only [St3.st, ins_mapV]⟩
  unfold step3 at h
  split at h
  · rename_i E hent
    split at h
    · rename_i g x hc
      cases g with
      | false => cases h
      | true =>
        simp only [cond, ob] at h
        split at h
        · rename_i y hm
          split at h
          · rename_i s' hp
            obtain ⟨obs, h1, h2⟩ := call3_ok (T := T) (nt := nt) hc hm (hE E hent)
            obtain ⟨t, p1, p2, p3⟩ := putI hp
            rw [resSV_s] at p3
            exact ⟨t, s', _, _, obs, p1, p2, h2, h1, h, p3⟩
          · cases h
        · cases h
    · cases h
  · rename_i hent
    split at h
    · rename_i q hcq
      cases hg : q.g with
      | false => rw [hg] at h; cases h
      | true =>
        rw [hg] at h
        simp only [cond] at h
        rw [hent, hcq] at hq2
        simp only at hq2
        have he : q.eff = .none := by
          cases e : q.eff <;> first | rfl | (rw [e] at hq2; cases hq2)
        rw [he] at h
        simp only [St3.eff3] at h
        split at h
        · rename_i s' hp
          obtain ⟨D, obs, h1, h2⟩ := quiet_core (P := P) (nt := nt) hcq hg he
          obtain ⟨t, p1, p2, p3⟩ := putI hp
          exact ⟨t, s', D, _, obs, p1, p2, h2, h1, h, p3⟩
        · cases h
    · cases h

theorem slot_bool {s : St3} {nt t : Nat} {b : Bool} (h : look t s.slots = some (.d .bool b)) : look t (s.st nt).slots = some (.v (.one (.i (.lit (.bool b))))) := by
  simp only [St3.st, look_mapV, h]; rfl

theorem slot_set {s : St3} {nt t : Nat} {b : Bool} (h : look t s.slots = some (.d .bool b)) : (({ s with slots := upd t (.d .bool b) s.slots } : St3).st nt) = s.st nt := by
  simp only [St3.st]
  rw [upd_ok rfl h]

/-- with its guard: wanted or not -/
theorem guard3_ok {ops : List Oper} {o : Oper} {s : St3} {nt : Nat} {f g : St3 → Option α} {r : α} (h : guard3 ops o s f g = some r) :
    ∃ s0, s0.st nt = s.st nt ∧ ((guardD (s.st nt) ops o = some true ∧ f s0 = some r) ∨ (guardD (s.st nt) ops o = some false ∧ g s0 = some r)) := by
  unfold guard3 at h
  unfold guardD
  split at h
  · rename_i hg
    rw [hg]
    exact ⟨s, rfl, .inl ⟨by first | rfl | trivial, h⟩⟩
  · rename_i j want hg
    rw [hg]
    simp only
    split at h
    · rename_i p hp
      simp only [hp]
      split at h
      · rename_i t ht
        simp only [ht]
        split at h
        · rename_i b hl
          simp only [slot_bool (nt := nt) hl]
          cases b <;> cases want <;> simp only [cond] at h
          · exact ⟨_, slot_set hl, .inl ⟨by first | rfl | trivial, h⟩⟩
          · exact ⟨_, slot_set hl, .inr ⟨by first | rfl | trivial, h⟩⟩
          · exact ⟨_, slot_set hl, .inr ⟨by first | rfl | trivial, h⟩⟩
          · exact ⟨_, slot_set hl, .inl ⟨by first | rfl | trivial, h⟩⟩
        · rename_i hl
          have : look t (s.st nt).slots = some (.tup []) := by
            simp only [St3.st, look_mapV, hl]; rfl
          simp only [this]
          exact ⟨s, rfl, .inr ⟨by first | rfl | trivial, h⟩⟩
        · cases h
      · cases h
    · cases h

theorem skip3_ok {K : Cfg} {o : Oper} {s : St3} {nt : Nat} {k : St3 → Option α} {r : α} (h : skip3 K o s k = some r) : ∃ s', (s.st nt).putD K o.dst (.tup []) = some (s'.st nt) ∧ k s' = some r := by
  unfold skip3 at h
  split at h
  · rename_i s' hp
    exact ⟨s', put3_ok (nt := nt) hp, h⟩
  · cases h

theorem runOps_congr {K : Cfg} {ops : List Oper} {Ds Ds' : List (Nat × Dec)} : ∀ (l : List (Nat × Oper)) (s : St), (∀ p ∈ l, look p.1 Ds = look p.1 Ds') → runOps P T K ops Ds l s = runOps P T K ops Ds' l s
  | [], _, _ => rfl
  | (i, o) :: r, s, h => by
    have h0 := h (i, o) (by simp)
    have ih := fun s => runOps_congr (K := K) (ops := ops) r s fun p hp => h p (by simp [hp])
    simp only [runOps]
    rw [show look i Ds = look i Ds' from h0]
    simp only [ih]

theorem runPre_congr {K : Cfg} {ops : List Oper} {Ds Ds' : List (Nat × Dec)} : ∀ (l : List (Nat × Oper)) (xs : List (Nat × Nat × S)) (s : St), (∀ p ∈ l, look p.1 Ds = look p.1 Ds') → runPre P T K ops Ds l xs s = runPre P T K ops Ds' l xs s
  | [], _, _, _ => rfl
  | (i, o) :: r, xs, s, h => by
    have h0 := h (i, o) (by simp)
    have ih := fun xs s => runPre_congr (K := K) (ops := ops) r xs s fun p hp => h p (by simp [hp])
    simp only [runPre]
    rw [show look i Ds = look i Ds' from h0]
    simp only [ih]

theorem look_cons_ne {β : Type} {i j : Nat} {x : β} {l : List (Nat × β)} (h : i ≠ j) : look j ((i, x) :: l) = look j l := by
  simp only [look]
  have : Nat.beq i j = false := by cases e : Nat.beq i j with | false => rfl | true => exact absurd (Nat.eq_of_beq_eq_true e) h
  rw [this]; rfl
theorem look_cons_self {β : Type} {i : Nat} {x : β} {l : List (Nat × β)} : look i ((i, x) :: l) = some x := by
  simp only [look, Nat.beq_refl]; rfl

theorem ops3_ok {K : Cfg} {ops : List Oper} {A : List (Nat × OA)} {nt : Nat} (hE : ∀ i a, look i A = some a → ∀ E, a.ent = some E → E.Sound P) : ∀ (l : List (Nat × Oper)) (s : St3) (k : St3 → Option α) (r : α), (l.map (·.1)).Nodup → ops3 T K ops A l s k = some r →
    ∃ s' Ds obs, k s' = some r ∧ runOps P T K ops Ds l (s.st nt) = some (s'.st nt, obs) ∧ ∀ p ∈ obs, p
  | [], s, k, r, _, h => ⟨s, [], [], h, rfl, by simp⟩
  | (i, o) :: l, s, k, r, hn, h => by
    simp only [List.map_cons, List.nodup_cons] at hn
    simp only [ops3] at h
    obtain ⟨s0, fz, ob0, h1, h2, h3, _⟩ := settles3_ok (nt := nt) h
    obtain ⟨s00, e1, hg⟩ := guard3_ok (nt := nt) h3
    have hEi : ∀ E, ((look i A).getD {}).ent = some E → E.Sound P := by
      intro E hE'
      cases hl : look i A with
      | none => rw [hl] at hE'; cases hE'
      | some a => rw [hl] at hE'; exact hE i a hl E hE'
    rcases hg with ⟨g1, g2⟩ | ⟨g1, g2⟩
    · obtain ⟨s1, D, ob1, h4, h5, h6⟩ := step3_ok (P := P) (nt := nt) g2 hEi
      obtain ⟨s', Ds, ob2, h7, h8, h9⟩ := ops3_ok hE l s1 k r hn.2 h6
      refine ⟨s', (i, { D with fz := fz }) :: Ds, ob0 ++ (ob1 ++ ob2), h7, ?_, fun p hp => ?_⟩
      · simp only [runOps, look_cons_self, Option.getD_some, h1]
        rw [e1] at h4
        simp only [stepG, g1, step1_fz, h4]
        rw [runOps_congr (Ds' := Ds) l _ fun p hp => look_cons_ne fun e => hn.1 (by rw [e]; exact List.mem_map.2 ⟨p, hp, rfl⟩), h8]
      · rcases List.mem_append.1 hp with hp | hp
        · exact h2 p hp
        · rcases List.mem_append.1 hp with hp | hp
          · exact h5 p hp
          · exact h9 p hp
    · obtain ⟨s1, h4, h6⟩ := skip3_ok (nt := nt) g2
      obtain ⟨s', Ds, ob2, h7, h8, h9⟩ := ops3_ok hE l s1 k r hn.2 h6
      refine ⟨s', (i, { fz := fz }) :: Ds, ob0 ++ ([] ++ ob2), h7, ?_, fun p hp => ?_⟩
      · simp only [runOps, look_cons_self, Option.getD_some, h1]
        rw [e1] at h4
        simp only [stepG, g1, h4, Option.map_some]
        rw [runOps_congr (Ds' := Ds) l _ fun p hp => look_cons_ne fun e => hn.1 (by rw [e]; exact List.mem_map.2 ⟨p, hp, rfl⟩), h8]
      · rcases List.mem_append.1 hp with hp | hp
        · exact h2 p hp
        · exact h9 p (by simpa using hp)

theorem look_keys {β : Type} {i : Nat} {d : β} {Ds : List (Nat × β)} {ks : List Nat} (h : ∀ j, (look j Ds).isSome = true ↔ j ∈ ks) : ∀ j, (look j ((i, d) :: Ds)).isSome = true ↔ j ∈ i :: ks := by
  intro j
  by_cases e : i = j
  · subst e
    rw [look_cons_self]
    simp
  · rw [look_cons_ne e, h j]
    simp [Ne.symm e]

theorem look_app_some {β : Type} {j : Nat} : ∀ {a b : List (Nat × β)}, (look j a).isSome = true → look j (a ++ b) = look j a
  | [], _, h => by cases h
  | (i, x) :: r, b, h => by
    by_cases e : i = j
    · subst e
      rw [List.cons_append, look_cons_self, look_cons_self]
    · rw [look_cons_ne e] at h
      rw [List.cons_append, look_cons_ne e, look_cons_ne e, look_app_some h]
theorem look_app_none {β : Type} {j : Nat} : ∀ {a b : List (Nat × β)}, look j a = none → look j (a ++ b) = look j b
  | [], _, _ => rfl
  | (i, x) :: r, b, h => by
    by_cases e : i = j
    · subst e
      rw [look_cons_self] at h
      cases h
    · rw [look_cons_ne e] at h
      rw [List.cons_append, look_cons_ne e, look_app_none h]

theorem pre3_ok {K : Cfg} {ops : List Oper} {A : List (Nat × OA)} {nt : Nat} (hE : ∀ i a, look i A = some a → ∀ E, a.ent = some E → E.Sound P) : ∀ (l : List (Nat × Oper)) (s : St3) (k : St3 → Option α) (r : α), (l.map (·.1)).Nodup → pre3 T K ops A l s k = some r →
    ∃ s' Ds obs, k s' = some r ∧ (∀ xs, ∃ ys, runPre P T K ops Ds l xs (s.st nt) = some (ys, s'.st nt, obs)) ∧ (∀ p ∈ obs, p) ∧ ∀ j, (look j Ds).isSome = true ↔ j ∈ l.map (·.1)
  | [], s, k, r, _, h => ⟨s, [], [], h, fun xs => ⟨xs, rfl⟩, by simp, fun j => by simp [look]⟩
  | (i, o) :: l, s, k, r, hn, h => by
    simp only [List.map_cons, List.nodup_cons] at hn
    simp only [pre3] at h
    have hEi : ∀ E, ((look i A).getD {}).ent = some E → E.Sound P := by
      intro E hE'
      cases hl : look i A with
      | none => rw [hl] at hE'; cases hE'
      | some a => rw [hl] at hE'; exact hE i a hl E hE'
    obtain ⟨s00, e1, hg⟩ := guard3_ok (nt := nt) h
    rcases hg with ⟨g1, g2⟩ | ⟨g1, g2⟩
    · cases hq : OA.quiet T ((look i A).getD {}) o s00 with
      | false => rw [hq] at g2; cases g2
      | true =>
        rw [hq] at g2
        simp only [cond] at g2
        obtain ⟨t, s1, D, x, ob1, d1, d2, d3, d4, d5, d6⟩ := quiet3_ok (P := P) (nt := nt) g2 hq hEi
        obtain ⟨s', Ds, ob2, h7, h8, h9, h10⟩ := pre3_ok hE l s1 k r hn.2 d5
        refine ⟨s', (i, D) :: Ds, ob1 ++ ob2, h7, fun xs => ?_, fun p hp => ?_, look_keys h10⟩
        · obtain ⟨ys, h8⟩ := h8 ((i, t, x) :: xs)
          refine ⟨ys, ?_⟩
          rw [e1] at d3 d6
          simp only [runPre, d1, look_cons_self, Option.getD_some, qres, g1, d3, d2, cond]
          rw [← d6, runPre_congr (Ds' := Ds) l _ _ fun p hp => look_cons_ne fun e => hn.1 (by rw [e]; exact List.mem_map.2 ⟨p, hp, rfl⟩), h8]
        · rcases List.mem_append.1 hp with hp | hp
          · exact d4 p hp
          · exact h9 p hp
    · cases hd : o.dst with
      | none => rw [hd] at g2; cases g2
      | some t =>
        rw [hd] at g2
        simp only [Option.isSome_some, cond] at g2
        obtain ⟨s1, h4, h6⟩ := skip3_ok (nt := nt) g2
        rw [hd] at h4
        simp only [St.putD] at h4
        cases hb : Nat.blt t K.N with
        | false => rw [hb] at h4; cases h4
        | true =>
          rw [hb] at h4
          simp only [cond, Option.some.injEq] at h4
          obtain ⟨s', Ds, ob2, h7, h8, h9, h10⟩ := pre3_ok hE l s1 k r hn.2 h6
          refine ⟨s', (i, {}) :: Ds, [] ++ ob2, h7, fun xs => ?_, fun p hp => h9 p (by simpa using hp), look_keys h10⟩
          obtain ⟨ys, h8⟩ := h8 ((i, t, .tup []) :: xs)
          refine ⟨ys, ?_⟩
          rw [e1] at h4
          simp only [runPre, hd, look_cons_self, Option.getD_some, qres, g1, hb, cond]
          rw [h4, runPre_congr (Ds' := Ds) l _ _ fun p hp => look_cons_ne fun e => hn.1 (by rw [e]; exact List.mem_map.2 ⟨p, hp, rfl⟩), h8]

theorem swapIdx_nodup (l : List Oper) : ((swapIdx l).map (·.1)).Nodup := by
  have : (swapIdx l).map (·.1) = List.range l.length := by
    apply List.ext_getElem?
    intro j
    simp only [swapIdx, List.map_map, List.getElem?_map, List.getElem?_zipIdx]
    by_cases hj : j < l.length
    · simp [hj]
    · simp [hj]
  rw [this]
  exact List.nodup_range

theorem reg3_ok (hT : TyOK P T) (hfol : P.follows .mixedOrders = true) {K : Cfg} {A : RA} {id : Nat} {ops : Array Oper} {draw : Bool} {s : St3} {nt : Nat} {k : St3 → Option α} {r : α}
    (hE : ∀ i a, look i A.ops = some a → ∀ E, a.ent = some E → E.Sound P) (h : reg3 P T K A ops draw s k = some r) :
    ∃ s', Code.Den P K (.region id ops draw) (s.st nt) .normal (s'.st nt) ∧ k s' = some r := by
  unfold reg3 at h
  cases draw with
  | true =>
    simp only [cond] at h
    cases hok : drawOK ops A.m with
    | false => rw [hok] at h; cases h
    | true =>
      rw [hok] at h
      obtain ⟨s0, fz, ob0, h1, h2, h3, _⟩ := settles3_ok (nt := nt) h
      obtain ⟨s1, Ds1, ob1, h4, h5, h6, h6'⟩ := pre3_ok (P := P) (nt := nt) hE _ s0 _ _ ((swapIdx_nodup ops.toList).sublist ((List.take_sublist _ _).map _)) h3
      obtain ⟨s2, Ds2, ob2, h7, h8, h9⟩ := ops3_ok (P := P) (nt := nt) hE _ s1 _ _ ((swapIdx_nodup ops.toList).sublist ((List.drop_sublist _ _).map _)) h4
      refine ⟨s2, ?_, h7⟩
      have hnd := swapIdx_nodup ops.toList
      have e1 : ∀ p ∈ (swapIdx ops.toList).take A.m, look p.1 (Ds1 ++ Ds2) = look p.1 Ds1 := fun p hp => by
        have := (h6' p.1).2 (List.mem_map.2 ⟨p, hp, rfl⟩)
        exact look_app_some this
      have e2 : ∀ p ∈ (swapIdx ops.toList).drop A.m, look p.1 (Ds1 ++ Ds2) = look p.1 Ds2 := fun p hp => by
        refine look_app_none ?_
        cases hl : look p.1 Ds1 with
        | none => rfl
        | some d =>
          exfalso
          have hm := (h6' p.1).1 (by rw [hl]; rfl)
          have hd : p.1 ∈ ((swapIdx ops.toList).drop A.m).map (·.1) := List.mem_map.2 ⟨p, hp, rfl⟩
          rw [← List.take_append_drop A.m (swapIdx ops.toList), List.map_append, List.nodup_append] at hnd
          exact hnd.2.2 _ hm _ hd rfl
      obtain ⟨ys, h5⟩ := h5 []
      have : runAny P T K ops A.m (Ds1 ++ Ds2) fz (s.st nt) = some (s2.st nt, (P.follows .mixedOrders = true) :: (ob0 ++ (ob1 ++ ob2))) := by
        unfold runAny
        rw [hok]
        simp only [cond, h1]
        rw [runPre_congr _ _ _ e1, h5]
        simp only
        rw [runOps_congr _ _ e2, h8]
      refine runAny_sound hT this fun p hp => ?_
      rcases List.mem_cons.1 hp with rfl | hp
      · exact hfol
      · rcases List.mem_append.1 hp with hp | hp
        · exact h2 p hp
        · rcases List.mem_append.1 hp with hp | hp
          · exact h6 p hp
          · exact h9 p hp
  | false =>
    simp only [cond] at h
    obtain ⟨s2, Ds2, ob2, h7, h8, h9⟩ := ops3_ok (P := P) (nt := nt) hE _ s _ _ (swapIdx_nodup ops.toList) h
    refine ⟨s2, ?_, h7⟩
    have : runRegion P T K ops { ds := Ds2, drop := [] } (s.st nt) = some ((s2.st nt).forget [], ob2) := by
      unfold runRegion
      simp only [h8]
    have := region_sound (id := id) hT this h9
    have e : (s2.st nt).forget [] = s2.st nt := by
      have : dropS [] (s2.st nt).slots = (s2.st nt).slots := List.filter_eq_self.2 fun _ _ => rfl
      unfold St.forget
      rw [this]
    rw [e] at this
    exact this

end Go.Ev

/- DERIVED. Code, loops and functions over shapes. -/
namespace Go.Ev
open Go

variable {P : Program} {T : Ty} {α : Type}

/-- a loop's model says what the loop does -/
def LO.Sound (P : Program) (K : Cfg) (L : LO α) (c : Code) : Prop :=
  ∀ (nt : Nat) (v : L.H.den) (k : Exit → St3 → Option α) (r : α), L.run v (ksOf k L.outs) = some r → ∃ x s', Code.Den P K c ((L.H.enc v).st nt) x (s'.st nt) ∧ k x s' = some r

/-- the loops of a piece of code, outermost ones -/
def loopsOf : Code → List (Nat × Code)
  | .seq c d => loopsOf c ++ loopsOf d
  | .cond _ c d => loopsOf c ++ loopsOf d
  | .block _ c => loopsOf c
  | .loop c => [(firstReg c, .loop c)]
  | .rangeFunc f ps a b => [(match firstReg a with | 0 => firstReg b | n + 1 => n + 1, .rangeFunc f ps a b)]
  | _ => []

structure D3.OK (P : Program) (K : Cfg) (D : D3 α) (c : Code) : Prop where
  ent : ∀ id A, look id D.reg = some A → ∀ i a, look i A.ops = some a → ∀ E, a.ent = some E → E.Sound P
  loop : ∀ p ∈ loopsOf c, ∀ L, look p.1 D.loop = some L → L.Sound P K p.2

/-- the callees that are named -/
def entsOps : List (Nat × OA) → List Ent
  | [] => []
  | (_, a) :: r => match a.ent with
    | some E => E :: entsOps r
    | none => entsOps r
def entsOf : List (Nat × RA) → List Ent
  | [] => []
  | (_, A) :: r => entsOps A.ops ++ entsOf r
def AllS (P : Program) : List Ent → Prop
  | [] => True
  | E :: r => E.Sound P ∧ AllS P r
def AllL (P : Program) (K : Cfg) (D : D3 α) : List (Nat × Code) → Prop
  | [] => True
  | p :: r => (∀ L, look p.1 D.loop = some L → L.Sound P K p.2) ∧ AllL P K D r

theorem AllS.mem : ∀ {l : List Ent}, AllS P l → ∀ E ∈ l, E.Sound P
  | [], _, E, h => by cases h
  | F :: r, hs, E, h => by
    rcases List.mem_cons.1 h with rfl | h
    · exact hs.1
    · exact AllS.mem hs.2 E h
theorem AllL.mem {K : Cfg} {D : D3 α} : ∀ {l : List (Nat × Code)}, AllL P K D l → ∀ p ∈ l, ∀ L, look p.1 D.loop = some L → L.Sound P K p.2
  | [], _, p, h => by cases h
  | q :: r, hs, p, h => by
    rcases List.mem_cons.1 h with rfl | h
    · exact hs.1
    · exact AllL.mem hs.2 p h

theorem entsOps_mem : ∀ {l : List (Nat × OA)} {i : Nat} {a : OA} {E : Ent}, look i l = some a → a.ent = some E → E ∈ entsOps l
  | [], _, _, _, h, _ => by cases h
  | (j, b) :: r, i, a, E, h, he => by
    simp only [look] at h
    cases hb : Nat.beq j i with
    | true =>
      rw [hb] at h
      obtain rfl := Option.some.inj h
      simp only [entsOps, he]
      exact List.mem_cons_self
    | false =>
      rw [hb] at h
      have := entsOps_mem h he
      simp only [entsOps]
      split
      · exact List.mem_cons_of_mem _ this
      · exact this
theorem entsOf_mem : ∀ {l : List (Nat × RA)} {id : Nat} {A : RA} {E : Ent}, look id l = some A → E ∈ entsOps A.ops → E ∈ entsOf l
  | [], _, _, _, h, _ => by cases h
  | (j, B) :: r, id, A, E, h, he => by
    simp only [look] at h
    simp only [entsOf, List.mem_append]
    cases hb : Nat.beq j id with
    | true =>
      rw [hb] at h
      obtain rfl := Option.some.inj h
      exact .inl he
    | false =>
      rw [hb] at h
      exact .inr (entsOf_mem h he)

theorem D3.OK.mk3 {K : Cfg} {D : D3 α} {c : Code} {ls : List (Nat × Code)} (he : AllS P (entsOf D.reg)) (hl : loopsOf c = ls) (h : AllL P K D ls) : D3.OK P K D c :=
  ⟨fun _ _ hA _ _ ha _ hE => he.mem _ (entsOf_mem hA (entsOps_mem ha hE)), fun p hp => h.mem p (by rw [← hl]; exact hp)⟩

theorem look_sound {K : Cfg} {i : Nat} {l : List (Nat × LO α)} {L0 : LO α} {c : Code} (h : look i l = some L0) (hs : L0.Sound P K c) : ∀ L, look i l = some L → L.Sound P K c := fun L hL => by
  rw [h] at hL
  obtain rfl := Option.some.inj hL
  exact hs

theorem Den.weakT {K : Cfg} {c : Code} {s : St} {s1 : St3} {x : Exit} {X : Tm} {w : X.den} {nt : Nat} (h : Code.Den P K c s x (s1.st nt)) (hd : X.dec s1 = some w) : Code.Den P K c s x ((X.enc w).st nt) :=
  Den.weak h fun _ _ _ _ hs => Tm.dec_ok hd hs

theorem Den.weakIn {K : Cfg} {c : Code} {s : St3} {s' : St} {x : Exit} {X : Tm} {w : X.den} {nt : Nat} (h : Code.Den P K c ((X.enc w).st nt) x s') (hd : X.dec s = some w) : Code.Den P K c (s.st nt) x s' := by
  intro Γ wd E a hK hdef hs
  obtain ⟨E', hs'⟩ := Tm.dec_ok hd hs
  exact h Γ wd E' a hK hdef hs'

theorem D3.OK.left {K : Cfg} {D : D3 α} {c d : Code} (h : D3.OK P K D (.seq c d)) : D3.OK P K D c := ⟨h.ent, fun p hp => h.loop p (List.mem_append.2 (.inl hp))⟩
theorem D3.OK.right {K : Cfg} {D : D3 α} {c d : Code} (h : D3.OK P K D (.seq c d)) : D3.OK P K D d := ⟨h.ent, fun p hp => h.loop p (List.mem_append.2 (.inr hp))⟩

theorem exec3_ok (hT : TyOK P T) (hfol : P.follows .mixedOrders = true) {K : Cfg} {D : D3 α} {nt : Nat} : ∀ (c : Code) (s : St3) (k : Exit → St3 → Option α) (r : α), D3.OK P K D c → exec3 P T K D c s k = some r →
    ∃ x s', Code.Den P K c (s.st nt) x (s'.st nt) ∧ k x s' = some r := by
  intro c
  induction c with
  | skip => intro s k r _ h; exact ⟨.normal, s, Den.skip, h⟩
  | region id ops draw =>
    intro s k r hD h
    simp only [exec3] at h
    obtain ⟨s', h1, h2⟩ := reg3_ok (id := id) (nt := nt) hT hfol (fun i a hi E hE => by
      cases hl : look id D.reg with
      | none => rw [hl] at hi; cases hi
      | some A => rw [hl] at hi; exact hD.ent id A hl i a hi E hE) h
    exact ⟨.normal, s', h1, h2⟩
  | seq c d ihc ihd =>
    intro s k r hD h
    simp only [exec3] at h
    split at h
    · obtain ⟨x, s1, h1, h2⟩ := ihc _ _ _ hD.left h
      cases x with
      | normal =>
        obtain ⟨y, s2, h3, h4⟩ := ihd _ _ _ hD.right h2
        exact ⟨y, s2, Den.seq h1 h3, h4⟩
      | _ => exact ⟨_, s1, Den.seqX (by simp) h1, h2⟩
    · rename_i X hX
      obtain ⟨x, s1, h1, h2⟩ := ihc _ _ _ hD.left h
      cases x with
      | normal =>
        simp only at h2
        split at h2
        · rename_i w hw
          obtain ⟨y, s2, h3, h4⟩ := ihd _ _ _ hD.right h2
          exact ⟨y, s2, Den.seq (Den.weakT h1 hw) h3, h4⟩
        · cases h2
      | _ => exact ⟨_, s1, Den.seqX (by simp) h1, h2⟩
  | cond c a b iha ihb =>
    intro s k r hD h
    cases c with
    | tmp t =>
      simp only [exec3] at h
      split at h
      · rename_i y hl
        have hl' := slot_bool (nt := nt) hl
        cases y with
        | true =>
          simp only [cond] at h
          obtain ⟨x, s', h1, h2⟩ := iha _ _ _ (D3.OK.left (d := b) ⟨hD.ent, hD.loop⟩) h
          rw [slot_set hl] at h1
          exact ⟨x, s', Den.cond (b := true) rfl hl' h1, h2⟩
        | false =>
          simp only [cond] at h
          obtain ⟨x, s', h1, h2⟩ := ihb _ _ _ (D3.OK.right (c := a) ⟨hD.ent, hD.loop⟩) h
          rw [slot_set hl] at h1
          exact ⟨x, s', Den.cond (b := false) rfl hl' h1, h2⟩
      · cases h
    | const => simp [exec3] at h
    | global => simp [exec3] at h
    | func => simp [exec3] at h
  | block id c ih =>
    intro s k r hD h
    simp only [exec3] at h
    obtain ⟨x, s', h1, h2⟩ := ih _ _ _ ⟨hD.ent, hD.loop⟩ h
    cases x with
    | exit j =>
      simp only at h2
      cases hb : Nat.beq j id with
      | true =>
        rw [hb] at h2
        obtain rfl := Nat.eq_of_beq_eq_true hb
        exact ⟨.normal, s', Den.blockX h1, h2⟩
      | false =>
        rw [hb] at h2
        exact ⟨.exit j, s', Den.block h1 (by intro e; injection e with e; subst e; simp at hb), h2⟩
    | _ => exact ⟨_, s', Den.block h1 (by simp), h2⟩
  | loop c ih =>
    intro s k r hD h
    simp only [exec3] at h
    split at h
    · rename_i L hL
      split at h
      · rename_i v hv
        obtain ⟨x, s', h1, h2⟩ := hD.loop _ (List.mem_singleton.2 rfl) L hL nt v k r h
        exact ⟨x, s', Den.weakIn h1 hv, h2⟩
      · cases h
    · cases h
  | rangeFunc f ps a b _ _ =>
    intro s k r hD h
    simp only [exec3] at h
    split at h
    · rename_i L hL
      split at h
      · rename_i v hv
        obtain ⟨x, s', h1, h2⟩ := hD.loop _ (List.mem_singleton.2 rfl) L hL nt v k r h
        exact ⟨x, s', Den.weakIn h1 hv, h2⟩
      · cases h
    · cases h
  | exit id => intro s k r _ h; exact ⟨.exit id, s, Den.exit, h⟩
  | ret => intro s k r _ h; exact ⟨.ret, s, Den.ret, h⟩
  | scope c _ => intro s k r _ h; simp [exec3] at h
  | label l => intro s k r _ h; simp [exec3] at h
  | goto l => intro s k r _ h; simp [exec3] at h
  | refuse w => intro s k r _ h; simp [exec3] at h

theorem pickK_ok {k : Exit → St3 → Option α} {y : Exit} {s : St3} {r : α} : ∀ {l : List (Exit × Tm)}, pickK l (ksOf k l) y s = some r → ∃ (X : Tm) (w : X.den), X.dec s = some w ∧ k y (X.enc w) = some r
  | [], h => by cases h
  | (x, X) :: l, h => by
    simp only [pickK] at h
    cases hb : Exit.eqb x y with
    | true =>
      rw [hb] at h
      obtain rfl := Exit.eqb_eq hb
      simp only [cond] at h
      split at h
      · rename_i w hw; exact ⟨X, w, hw, h⟩
      · cases h
    | false =>
      rw [hb] at h
      exact pickK_ok h

/-- THE USE for a loop -/
theorem loop_ok (hT : TyOK P T) (hfol : P.follows .mixedOrders = true) {K : Cfg} {D : D3 α} {c : Code} {H : Tm} {outs : List (Exit × Tm)} (B : H.den → (H.den → Option α) → KS α outs → Option α) (hD : D3.OK P K D c)
    (hB : ∀ v f ks, exec3 P T K D c (H.enc v) (around H outs f ks) = B v f ks) (n : Nat) : (⟨H, outs, rounds B n⟩ : LO α).Sound P K (.loop c) := by
  intro nt v k r h
  have key : ∀ (n : Nat) (v : H.den), rounds B n v (ksOf k outs) = some r → ∃ x s', LoopDen P K c ((H.enc v).st nt) x (s'.st nt) ∧ k x s' = some r := by
    intro n
    induction n with
    | zero => intro v h; cases h
    | succ n ih =>
      intro v h
      simp only [rounds] at h
      rw [← hB] at h
      obtain ⟨x, s1, h1, h2⟩ := exec3_ok hT hfol (nt := nt) _ _ _ _ hD h
      have out : ∀ x, x ≠ .normal → Code.Den P K c ((H.enc v).st nt) x (s1.st nt) → pickK outs (ksOf k outs) x s1 = some r → ∃ x s', LoopDen P K c ((H.enc v).st nt) x (s'.st nt) ∧ k x s' = some r := by
        intro x hx hd hp
        obtain ⟨X, w, hw, hk⟩ := pickK_ok hp
        exact ⟨x, X.enc w, .last hx (Den.weakT hd hw), hk⟩
      cases x with
      | normal =>
        simp only [around] at h2
        split at h2
        · rename_i v' hv
          obtain ⟨y, s2, h3, h4⟩ := ih v' h2
          exact ⟨y, s2, .round (Den.weakT h1 hv) h3, h4⟩
        · cases h2
      | _ => exact out _ (by simp) h1 h2
  obtain ⟨x, s', h1, h2⟩ := key n v h
  exact ⟨x, s', Den.loop h1, h2⟩

/-! functions -/
theorem raw3_ok {s : St3} {nt : Nat} {rv : ResultVar} {v : SV} {t : Sh} {q} (h : raw3 T s rv = some v) (hc : convV3 s.boxes t v = some (true, q)) : ∃ obs, resRaw T (s.st nt) rv = some (v.v (lens s.boxes), obs) ∧ ∀ p ∈ obs, p := by
  obtain ⟨x, ks⟩ := q
  obtain ⟨hs, _, _⟩ := convV3_ok hc rfl
  unfold raw3 at h
  split at h
  · rename_i t
    refine ⟨[], ?_, by simp⟩
    simp only [resRaw, St3.st, look_mapV, h, Option.map_some, hs]
  · rename_i a ty
    split at h
    · rename_i hh row col ha
      split at h
      · rename_i e hf fz cs hl
        split at h
        · rename_i r hr
          obtain rfl := Option.some.inj h
          have hv : (s.st nt).val (.tmp a) = .v (.one (.hp hh row col)) := val3 ha rfl
          unfold load3 at hr
          split at hr
          · cases hr
          · rename_i ti hti
            simp only [hl] at hr
            cases hb : (Nat.beq row 0 && Nat.ble (col + ti.size) cs.length && cs.all SV.cellB) with
            | false => rw [hb] at hr; cases hr
            | true =>
              rw [hb] at hr
              simp only [Bool.and_eq_true] at hb
              obtain rfl := Nat.eq_of_beq_eq_true hb.1.1
              simp only [cond, Option.map_eq_some_iff] at hr
              obtain ⟨z, hz, rfl⟩ := hr
              obtain ⟨h1, h2⟩ := ofCells3_ok (L := lens s.boxes) hz (all_drop _ hb.2)
              rw [List.map_drop] at h1
              have hbx : (s.st nt).box hh = some ((B3.var e hf fz cs).box (lens s.boxes)) := by
                show look hh (mapV (B3.box (lens s.boxes)) s.boxes) = _
                rw [box_at, hl]; rfl
              refine ⟨[], ?_, by simp⟩
              simp only [resRaw, hv, evLoad, hti, hbx, B3.box, List.length_map, hb.1.2, cond, h1, Option.bind_some]
        · cases h
      · cases h
    · cases h

theorem rets3_ok {s : St3} {nt : Nat} : ∀ {ts : List Sh} {rvs : List ResultVar} {x : HL ts} {g : Bool}, rets3 T s ts rvs = some (g, x) → g = true →
    ∃ obs ks, resAll T (s.st nt) rvs ((valsV ts x).map some) = some (valsV ts x, obs, ks) ∧ (∀ p ∈ obs, p) ∧ ∀ k ∈ ks, k < 1000 ∧ (look k s.boxes).isSome = true := by
  have one : ∀ {t : Sh} {rv : ResultVar} {g : Bool} {x : t.den} {ks : List Nat}, one3 T s rv t = some (g, x, ks) → g = true →
      ∃ obs, resOne T (s.st nt) rv (some (t.v x)) = some (t.v x, obs, ks) ∧ (∀ p ∈ obs, p) ∧ ∀ k ∈ ks, k < 1000 ∧ (look k s.boxes).isSome = true := by
    intro t rv g x ks h hg
    subst hg
    unfold one3 at h
    split at h
    · rename_i v hv
      obtain ⟨obs, h1, h2⟩ := raw3_ok (nt := nt) hv h
      obtain ⟨_, ⟨ob, h3, h4⟩, h5⟩ := convV3_ok h rfl
      have h3' : convV (s.st nt).box (v.v (lens s.boxes)) (t.v x) = some (ob, ks) := h3
      refine ⟨obs ++ ob, ?_, fun p hp => ?_, h5⟩
      · simp only [resOne, h1, h3']
      · rcases List.mem_append.1 hp with hp | hp
        · exact h2 p hp
        · exact h4 p hp
    · cases h
  intro ts
  induction ts with
  | nil =>
    intro rvs x g h hg
    cases rvs with
    | nil => exact ⟨[], [], rfl, by simp, by simp⟩
    | cons => simp [rets3] at h
  | cons t ts ih =>
    intro rvs x g h hg
    cases ts with
    | nil =>
      cases rvs with
      | nil => simp [rets3] at h
      | cons rv rvs =>
        cases rvs with
        | nil =>
          simp only [rets3] at h
          split at h
          · rename_i g1 y ks h1
            simp only [Option.some.injEq, Prod.mk.injEq] at h
            obtain ⟨rfl, rfl⟩ := h
            obtain ⟨obs, o1, o2, o3⟩ := one h1 hg
            refine ⟨obs ++ [], ks ++ [], ?_, by simpa using o2, by simpa using o3⟩
            simp only [valsV, List.map_cons, List.map_nil, resAll, List.headD_cons, o1]
          · cases h
        | cons => simp [rets3] at h
    | cons u r =>
      cases rvs with
      | nil => simp [rets3] at h
      | cons rv rvs =>
        simp only [rets3] at h
        split at h
        · rename_i g1 y ks g2 ys h1 h2
          simp only [Option.some.injEq, Prod.mk.injEq] at h
          obtain ⟨rfl, rfl⟩ := h
          simp only [Bool.and_eq_true] at hg
          obtain ⟨obs, o1, o2, o3⟩ := one h1 hg.1
          obtain ⟨obs', ks', p1, p2, p3⟩ := ih h2 hg.2
          refine ⟨obs ++ obs', ks ++ ks', ?_, fun p hp => ?_, fun k hk => ?_⟩
          · simp only [valsV, List.map_cons, resAll, List.headD_cons, List.tail_cons, o1]
            have : resAll T (s.st nt) rvs ((valsV (u :: r) ys).map some) = _ := p1
            rw [this]
          · rcases List.mem_append.1 hp with hp | hp
            · exact o2 p hp
            · exact p2 p hp
          · rcases List.mem_append.1 hk with hk | hk
            · exact o3 k hk
            · exact p3 k hk
        · cases h

theorem params_st : ∀ (vs : List SV) (L : Nat → Nat) (i : Nat), (∀ v ∈ vs, v.s L = .v (v.v L)) → mapV (SV.s L) (paramsSV i vs) = params i (vs.map (SV.v L))
  | [], _, _, _ => rfl
  | v :: r, L, i, h => by
    have ih := params_st r L (i + 1) fun x hx => h x (by simp [hx])
    simp only [paramsSV, mapV, List.map_cons, params] at ih ⊢
    rw [h v (by simp), ih]

theorem vals_s {L : Nat → Nat} : ∀ (ts : List Sh) (x : HL ts), ∀ v ∈ valsSV ts x, v.s L = .v (v.v L)
  | [], _, v, h => by cases h
  | [t], x, v, h => by
    simp only [valsSV, List.mem_singleton] at h
    subst h
    rw [(sv_v t x).2, (sv_v t x).1]
  | t :: u :: r, x, v, h => by
    simp only [valsSV, List.mem_cons] at h
    rcases h with rfl | h
    · rw [(sv_v t x.1).2, (sv_v t x.1).1]
    · exact vals_s (u :: r) x.2 v (by simpa [valsSV] using h)

theorem entry3_st (ts : List Sh) (x : HL ts) (nt : Nat) : (entry3 ts x).st nt = { slots := params 0 (valsV ts x), boxes := [], nt := nt } := by
  simp only [entry3, St3.st]
  rw [params_st _ _ _ (vals_s ts x), valsSV_v]
  rfl

/-- THE USE for a function -/
theorem fn_ok (hT : TyOK P T) (hfol : P.follows .mixedOrders = true) {f : Nat} {fn : Func} {c : Code} {K : Cfg} {ts rs : List Sh} {m : HL ts → Option (HL rs)} (D : D3 (HL rs))
    (hf : P.funcs[f]? = some fn) (hname : (fn.name == "runtime.NumGoroutine") = false) (hb : fn.body = some c) (hN : fn.ntmps = K.N) (hmv : K.mv = []) (hargs : ts.length ≤ K.N) (hD : D3.OK P K D c)
    (h : ∀ x, exec3 P T K D c (entry3 ts x) (fin3 T rs fn.results.toList) = m x) : (⟨f, ts, rs, m⟩ : Ent).Sound P := by
  intro nt x r hm
  have hm : m x = some r := hm
  rw [← h] at hm
  obtain ⟨e, s', h1, h2⟩ := exec3_ok hT hfol (nt := nt) _ _ _ _ hD hm
  rw [entry3_st] at h1
  have key : ∀ e, e = .normal ∨ e = .ret → Code.Den P K c { slots := params 0 (valsV ts x), boxes := [], nt := nt } e (s'.st nt) → (match rets3 T s' rs fn.results.toList with | some (g, y) => bif g then some y else none | none => none) = some r → FDen P f nt [] [] (valsV ts x) (resS rs r) nt [] := by
    intro e he hd h2
    split at h2
    · rename_i g y hy
      cases g with
      | false => cases h2
      | true =>
        obtain rfl := Option.some.inj h2
        obtain ⟨obs, ks, o1, o2, o3⟩ := rets3_ok (nt := nt) hy rfl
        exact fden_pure hT hf hname hb hN hmv (by rw [valsV_len]; exact hargs) he hd o1 o2 (canFz_ok o3) (vals_noH rs y)
    · cases h2
  cases e with
  | normal => exact key _ (.inl rfl) h1 h2
  | ret => exact key _ (.inr rfl) h1 h2
  | _ => cases h2

end Go.Ev
