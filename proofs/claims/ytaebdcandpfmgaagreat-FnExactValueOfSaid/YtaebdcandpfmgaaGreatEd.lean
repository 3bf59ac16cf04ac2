/- DERIVED. The evaluator over shapes of data: calls, trees, all paths. -/
import Derived.Test.YtaebdcandpfmgaaGreatEc

set_option linter.all false
set_option linter.unusedVariables false
set_option linter.unusedSimpArgs false

/- DERIVED. What is settled, and results, over shapes; templates of states. -/
namespace Go.Ev
open Go
variable {P : Program} {T : Ty}
theorem A9f {bs : List (Nat × B3)} {t : Sh} {v : SV} {g : Bool} {x : t.den} {ks : List Nat} (ht : t.one = true) (h : F0 bs t v = some (g, x, ks)) (hg : g = true) :
  v.cellB = true /\ (∃ ob, Nh (A0 · (Ag (B3.box (A3 bs)) bs)) (v.c (A3 bs)) (.i (hd1 (t.cells x))) = some (ob, ks) /\ ∀ p ∈ ob, p) /\ ∀ k ∈ ks, k < 1000 /\ (A0 k bs).isSome = true := by
 unfold F0 at h; split at h
 . rename_i hh; split at h
   . rename_i t0; split at h
     . rename_i e sh fz xs hl
       cases hk : Nat.blt hh 1000 with
       | false => rw [hk] at h; cases h
       | true =>
        rw [hk] at h; simp only [cond, QB, QG] at h; obtain ⟨y, hy, rfl, rfl, rfl⟩ := h; obtain ⟨rfl, rfl⟩ := Dg hy
        have hle : A3 bs hh = xs.length := by simp [A3, hl, B3.len]
        refine ⟨rfl, ⟨[0 + A3 bs hh <= (xs.map fun y => (sh.cells y).map C.i).length, ((xs.map fun y => (sh.cells y).map C.i).drop 0).take (A3 bs hh) = (xs.map sh.cells).map (·.map .i)], ?_, ?_⟩, ?_⟩
        . simp only [Nh, SV.c, Bh, hl, QR, B3.box, Sh.cells, hd1, XD, ZY, XT, ZF, cond]
        . simp only [QT, YD, or_false, forall_eq_or_imp, forall_eq]
          refine ⟨by simp [hle], ?_⟩
          rw [XE, hle, XV (by simp), XF]
          rfl
        . intro k hk'; simp only [QO] at hk'; subst hk'
          exact ⟨by simpa [ZQ] using hk, by rw [hl]; rfl⟩
     . cases h
   . cases h
 . rename_i hh off len; split at h
   . rename_i t0; split at h
     . rename_i e sh fz xs hl
       cases hk : Nat.blt hh 1000 with
       | false => rw [hk] at h; cases h
       | true =>
        rw [hk] at h; simp only [cond, QB, QG] at h; obtain ⟨y, hy, rfl, rfl, rfl⟩ := h; obtain ⟨rfl, rfl⟩ := Dg hy; simp only [QQ] at hg; refine ⟨rfl, ⟨[off + len <= (xs.map fun y => (sh.cells y).map C.i).length, ((xs.map fun y => (sh.cells y).map C.i).drop off).take len = (((xs.drop off).take len).map sh.cells).map (·.map .i)], ?_, ?_⟩, ?_⟩
        . simp only [Nh, SV.c, Bh, hl, QR, B3.box, Sh.cells, hd1, XD, ZY, XT, ZF, cond]
        . simp only [QT, YD, or_false, forall_eq_or_imp, forall_eq]
          refine ⟨by simpa using hg, ?_⟩
          rw [XF, JD, KE]; rfl
        . intro k hk'; simp only [QO] at hk'; subst hk'
          exact ⟨by simpa [ZQ] using hk, by rw [hl]; rfl⟩
     . cases h
   . cases h
 . rename_i cs; split at h
   . rename_i t0
     cases hd : cs.all SV.isD with
     | false => rw [hd] at h; cases h
     | true =>
      rw [hd] at h; simp only [cond, QB, QG] at h; obtain ⟨y, hy, rfl, rfl, rfl⟩ := h; obtain ⟨_, _, h3, _⟩ := C9 hy
      refine ⟨hd, ⟨[C.i (.ref 0 (cs.map SV.i0)) = C.i (.ref 0 (t0.cells y))], rfl, by simp [h3 hd]⟩, by simp⟩
   . cases h
 . rename_i h1 h2 h3; rw [ht] at h; simp only [cond, QB, QG] at h; obtain ⟨y, hy, rfl, rfl, rfl⟩ := h; obtain ⟨q1, ob, q2, q3⟩ := Ph (L := A3 bs) ht hy
   refine ⟨Mz q1, ⟨ob, ?_, q3⟩, by simp⟩
   have hI : Br (v.c (A3 bs)) = true := L7 (A50 q1); unfold Nh; split
   . rename_i he _; rw [he] at hI; cases hI
   . rw [q2]; rfl
def Mo (bs : List (Nat × B3)) (cs : List SV) (ds : List I) (ks : List Nat) : Prop :=
 (∃ ob, Eg (A0 · (Ag (B3.box (A3 bs)) bs)) (cs.map (SV.c (A3 bs))) (ds.map .i) = some (ob, ks) /\ ∀ p ∈ ob, p) /\ ∀ k ∈ ks, k < 1000 /\ (A0 k bs).isSome = true
theorem Mo.app {bs : List (Nat × B3)} : ∀ {cs cs' : List SV} {ds ds' : List I} {ks ks' : List Nat}, Mo bs cs ds ks -> Mo bs cs' ds' ks' -> Mo bs (cs ++ cs') (ds ++ ds') (ks ++ ks')
 | [], cs', [], ds', ks, ks', h, h' => by
  obtain ⟨⟨ob, h, _⟩, _⟩ := h; simp only [YO, Eg, QD, QG] at h; obtain ⟨_, rfl⟩ := h; exact h'
 | [], cs', d :: ds, ds', _, _, h, _ => by obtain ⟨⟨ob, h, _⟩, _⟩ := h; simp [Eg] at h
 | c :: cs, cs', [], ds', _, _, h, _ => by obtain ⟨⟨ob, h, _⟩, _⟩ := h; simp [Eg] at h
 | c :: cs, cs', d :: ds, ds', ks, ks', h, h' => by
  obtain ⟨⟨ob, h, ho⟩, hk⟩ := h; simp only [QV, Eg] at h; split at h
  . rename_i p k q l h1 h2; simp only [QD, QG] at h; obtain ⟨rfl, rfl⟩ := h; obtain ⟨⟨ob2, h3, ho2⟩, hk2⟩ := Mo.app (cs := cs) (ds := ds) (ks := l) ⟨⟨q, h2, fun x hx => ho x (QF.2 (.inr hx))⟩, fun k hk' => hk k (QF.2 (.inr hk'))⟩ h'; refine ⟨⟨p ++ ob2, ?_, fun x hx => ?_⟩, fun j hj => ?_⟩
    . simp only [YI, QV, Eg, h1, h3, ZO]
    . rcases QF.1 hx with hx | hx
      . exact ho x (QF.2 (.inl hx))
      . exact ho2 x hx
    . rw [ZO] at hj; rcases QF.1 hj with hj | hj
      . exact hk j (QF.2 (.inl hj))
      . exact hk2 j hj
  . cases h
theorem Ayk {bs : List (Nat × B3)} : ∀ (t : Sh) (cs : List SV) (g : Bool) (x : t.den) (ks : List Nat) (r : List SV), t.impB bs cs = some (g, x, ks, r) -> g = true -> ∃ pre, cs = pre ++ r /\ Mo bs pre (t.cells x) ks /\ pre.all SV.cellB = true := by
 have cell : ∀ (t : Sh) (c : SV) (r q : List SV) (g : Bool) (x : t.den) (ks : List Nat), t.one = true -> (F0 bs t c).map (fun p => (p.1, p.2.1, p.2.2, r)) = some (g, x, ks, q) -> g = true -> ∃ pre, c :: r = pre ++ q /\ Mo bs pre (t.cells x) ks /\ pre.all SV.cellB = true := by
  intro t c r q g x ks ht h hg; simp only [QB, QG] at h; obtain ⟨⟨g', x', k'⟩, h1, rfl, rfl, rfl, rfl⟩ := h; obtain ⟨hc, ⟨ob, h2, h3⟩, h4⟩ := A9f ht h1 hg
  refine ⟨[c], rfl, ⟨⟨ob ++ [], ?_, by simpa using h3⟩, h4⟩, by simp [hc]⟩
  rw [Pc t x' ht]; simp only [QV, YO, Eg, h2, XB]
 intro t
 induction t with
 | pair a b iha ihb =>
  intro cs g x ks r h hg; simp only [Sh.impB] at h; split at h
  . rename_i g1 y k1 q h1; split at h
    . rename_i g2 z k2 q' h2; simp only [QD, QG] at h; obtain ⟨rfl, rfl, rfl, rfl⟩ := h; simp only [QE] at hg; obtain ⟨p1, e1, c1, i1⟩ := iha _ _ _ _ _ h1 hg.1; obtain ⟨p2, e2, c2, i2⟩ := ihb _ _ _ _ _ h2 hg.2
      exact ⟨p1 ++ p2, by rw [e1, e2, ZO], c1.app c2, by simp [i1, i2]⟩
    . cases h
  . cases h
 | st t ih => intro cs g x ks r h hg; exact ih _ _ _ _ _ h hg
 | unit =>
  intro cs g x ks r h _; simp only [Sh.impB, QD, QG] at h; obtain ⟨_, _, rfl, rfl⟩ := h
  exact ⟨[], rfl, ⟨⟨[], rfl, by simp⟩, by simp⟩, rfl⟩
 | int k => intro cs g x ks r h hg; cases cs with | nil => simp [Sh.impB] at h | cons c cs => exact cell _ _ _ _ _ _ _ rfl h hg
 | bool => intro cs g x ks r h hg; cases cs with | nil => simp [Sh.impB] at h | cons c cs => exact cell _ _ _ _ _ _ _ rfl h hg
 | str => intro cs g x ks r h hg; cases cs with | nil => simp [Sh.impB] at h | cons c cs => exact cell _ _ _ _ _ _ _ rfl h hg
 | nil => intro cs g x ks r h hg; cases cs with | nil => simp [Sh.impB] at h | cons c cs => exact cell _ _ _ _ _ _ _ rfl h hg
 | fn f => intro cs g x ks r h hg; cases cs with | nil => simp [Sh.impB] at h | cons c cs => exact cell _ _ _ _ _ _ _ rfl h hg
 | sl t _ => intro cs g x ks r h hg; cases cs with | nil => simp [Sh.impB] at h | cons c cs => exact cell _ _ _ _ _ _ _ rfl h hg
 | ref t _ => intro cs g x ks r h hg; cases cs with | nil => simp [Sh.impB] at h | cons c cs => exact cell _ _ _ _ _ _ _ rfl h hg
 | clo f c _ => intro cs g x ks r h hg; cases cs with | nil => simp [Sh.impB] at h | cons v cs => exact cell _ _ _ _ _ _ _ rfl h hg
theorem F8 {L : Nat -> Nat} {v : SV} (h : v.cellB = true) : v.s L = .v (.one (v.c L)) /\ v.v L = .one (v.c L) := by cases v <;> first | exact ⟨rfl, rfl⟩ | cases h
theorem Ng {bs : List (Nat × B3)} {t : Sh} {v : SV} {g : Bool} {x : t.den} {ks : List Nat} (h : Vg bs t v = some (g, x, ks)) (hg : g = true) :
  v.s (A3 bs) = .v (v.v (A3 bs)) /\ (∃ ob, I6 (A0 · (Ag (B3.box (A3 bs)) bs)) (v.v (A3 bs)) (t.v x) = some (ob, ks) /\ ∀ p ∈ ob, p) /\ ∀ k ∈ ks, k < 1000 /\ (A0 k bs).isSome = true := by
 unfold Vg at h
 cases ht : t.one with
 | true =>
  rw [ht] at h; obtain ⟨hc, ⟨ob, h1, h2⟩, h3⟩ := A9f ht h hg; obtain ⟨e1, e2⟩ := F8 (L := A3 bs) hc
  refine ⟨by rw [e1, e2], ⟨ob, ?_, h2⟩, h3⟩
  simp only [e2, Sh.v, ht, cond, I6, h1]
 | false =>
  rw [ht] at h; simp only [cond] at h; split at h
  . rename_i cs; split at h
    . rename_i g1 y k1 hi; simp only [QD, QG] at h; obtain ⟨rfl, rfl, rfl⟩ := h; obtain ⟨pre, e, ⟨⟨ob, h1, h2⟩, h3⟩, _⟩ := Ayk _ _ _ _ _ _ hi hg; rw [XB] at e; subst e; refine ⟨rfl, ⟨ob, ?_, h2⟩, h3⟩; simp only [SV.v, Sh.v, ht, cond, I6, h1]
    . cases h
  . cases h
theorem A22 {bs : List (Nat × B3)} {L : Nat -> Nat} {ks : List Nat} (h : ∀ k ∈ ks, k < 1000 /\ (A0 k bs).isSome = true) : Gu (Ag (B3.box L) bs) ks = true := by
 unfold Gu; refine QM.2 fun k hk => ?_; obtain ⟨h1, h2⟩ := h k hk; rw [Ae, KT, h2]; simpa [ZQ] using h1
theorem Pp {s s' : St3} {nt : Nat} {t : Nat} {sh : Sh} {g : Bool} (h : L4 s t sh = some (g, s')) (hg : g = true) :
  ∃ (x' : V) (ob : List Prop), Td (s.st nt) t x' = some (s'.st nt, ob) /\ ∀ p ∈ ob, p := by
 unfold L4 at h; split at h
 . rename_i v hv; split at h
   . rename_i g1 x ks hc; simp only [QD, QG] at h; obtain ⟨rfl, rfl⟩ := h; obtain ⟨h1, ⟨ob, h2, h3⟩, h4⟩ := Ng hc hg; refine ⟨sh.v x, ob, ?_, h3⟩
     have hl : A0 t (s.st nt).slots = some (.v (v.v (A3 s.boxes))) := by
      simp only [St3.st, Ae, hv, QR, h1]
     have h2' : I6 (A0 · (s.st nt).boxes) (v.v (A3 s.boxes)) (sh.v x) = some (ob, ks) := h2; have hz : Gu (s.st nt).boxes ks = true := A22 h4; simp only [Td, hl, h2', hz, cond, QD, QG, and_true]; simp only [St3.st]; congr 1
     . rw [Ed, <- (Hl (L := A3 s.boxes) sh x).2, Ct]
     . rw [Ed]; exact Hw _ _ _
   . cases h
 . cases h
inductive TS where
 | d (t : Sh)
 | ag (t : Sh)
 | k (v : SV)
 | hs (h : Nat)
@[reducible] def TS.den : TS -> Type
 | .d t => t.den
 | .ag t => t.den
 | .k _ => Unit
 | .hs _ => Nat × Nat
def TS.enc : (t : TS) -> t.den -> SV
 | .d t, x => .d t x
 | .ag t, x => .agg (t.exp x)
 | .k v, _ => v
 | .hs h, x => .hs h x.1 x.2
def SV.same : SV -> SV -> Bool
 | .hw h, .hw h' => Nat.beq h h'
 | .hp h r c, .hp h' r' c' => Nat.beq h h' && Nat.beq r r' && Nat.beq c c'
 | .dead, _ => true
 | .d t _, .d t' _ => (match t with
  | .nil => true
  | .fn _ => true
  | _ => false) && t.eqb t'
 | _, _ => false
def TS.dec : (t : TS) -> SV -> Option t.den
 | .d t, v => match v with
  | .rf cs => match t with
   | .ref t0 => bif cs.all SV.isD then t0.all false cs else none
   | _ => none
  | v => bif t.one then v.as true t else none
 | .ag t, v => match v with
  | .agg cs => t.all true cs
  | _ => none
 | .k c, v => bif c.same v then some () else none
 | .hs h, v => match v with
  | .hs h' o l => bif Nat.beq h h' then some (o, l) else none
  | _ => none
inductive TB where
 | arr (e : TypeId) (t : Sh) (fz : Bool)
 | var (e : TypeId) (hf fz : Bool) (cs : List TS)
 | tree (e : TypeId) (t : Sh) (fz : Bool)
@[reducible] def DL : List TS -> Type
 | [] => Unit
 | t :: r => t.den × DL r
def I4 : (l : List TS) -> DL l -> List SV
 | [], _ => []
 | t :: r, x => t.enc x.1 :: I4 r x.2
def A6q : (l : List TS) -> List SV -> Option (DL l)
 | [], [] => some ()
 | t :: r, v :: vs => match t.dec v, A6q r vs with
  | some x, some xs => some (x, xs)
  | _, _ => none
 | _, _ => none
@[reducible] def TB.den : TB -> Type
 | .arr _ t _ => List t.den
 | .var _ _ _ cs => DL cs
 | .tree _ t _ => List t.den
def TB.enc : (b : TB) -> b.den -> B3
 | .arr e t fz, xs => .arr e t fz xs
 | .var e hf fz cs, xs => .var e hf fz (I4 cs xs)
 | .tree e t fz, xs => .tree e t fz xs
def TB.dec : (b : TB) -> B3 -> Option b.den
 | .arr e t fz, b => match b with
  | .arr e' t' fz' xs => bif Nat.beq e e' && (fz == fz') then (Sh.sl t').to (.sl t) xs else none
  | .rep e' fz' n cs => bif Nat.beq e e' && (fz == fz') then (t.all true cs).map fun x => List.replicate n x else none
  | _ => none
 | .var e hf fz cs, b => match b with
  | .var e' hf' fz' vs => bif Nat.beq e e' && (hf == hf') && (fz == fz') && vs.all SV.cellB then (match A6q cs vs with
   | some x => bif (I4 cs x).all SV.cellB && (!hf || (I4 cs x).all SV.imm) then some x else none
   | none => none) else none
  | _ => none
 | .tree e t fz, b => match b with
  | .tree e' t' fz' xs => bif Nat.beq e e' && (fz == fz') then (Sh.sl t').to (.sl t) xs else none
  | _ => none
@[reducible] def DK (β : Type) (den : β -> Type) : List (Nat × β) -> Type
 | [] => Unit
 | (_, t) :: r => den t × DK β den r
def Aei : (l : List (Nat × TS)) -> DK TS TS.den l -> List (Nat × SV)
 | [], _ => []
 | (k, t) :: r, x => (k, t.enc x.1) :: Aei r x.2
def A6p : (l : List (Nat × TS)) -> List (Nat × SV) -> Option (DK TS TS.den l)
 | [], [] => some ()
 | (k, t) :: r, (j, v) :: vs => bif Nat.beq k j then (match t.dec v, A6p r vs with
  | some x, some xs => some (x, xs)
  | _, _ => none) else none
 | _, _ => none
def Rx : (l : List (Nat × TB)) -> DK TB TB.den l -> List (Nat × B3)
 | [], _ => []
 | (k, t) :: r, x => (k, t.enc x.1) :: Rx r x.2
def A6r : (l : List (Nat × TB)) -> List (Nat × B3) -> Option (DK TB TB.den l)
 | [], [] => some ()
 | (k, t) :: r, (j, v) :: vs => bif Nat.beq k j then (match t.dec v, A6r r vs with
  | some x, some xs => some (x, xs)
  | _, _ => none) else none
 | _, _ => none
structure Tm where
 slots : List (Nat × TS)
 boxes : List (Nat × TB) := []
 drop : List Nat := []
 fz : List (Nat × Sh) := []
@[reducible] def Tm.den (X : Tm) : Type := DK TS TS.den X.slots × DK TB TB.den X.boxes
def Tm.enc (X : Tm) (x : X.den) : St3 := ⟨Aei X.slots x.1, Rx X.boxes x.2⟩
def Py : List (Nat × TS) -> List (Nat × SV) -> List (Nat × SV)
 | X, sl => sl.filter fun p => X.any fun q => Nat.beq q.1 p.1
def Aah : List Nat -> St3 -> Option St3
 | [], s => some s
 | h :: r, s => bif Nat.blt h 1000 && s.clean h then Aah r { s with boxes := Cr h s.boxes } else none
def Ij : List (Nat × Sh) -> St3 -> Option St3
 | [], s => some s
 | (t, sh) :: r, s => match A0 t s.slots with
  | some (.d _ _) => Ij r s
  | _ => match L4 s t sh with
   | some (g, s1) => bif g then Ij r s1 else none
   | none => none
def Tm.dec1 (X : Tm) (s : St3) : Option X.den :=
 match Aah X.drop { s with slots := Py X.slots s.slots } with
 | some s2 => match A6p X.slots s2.slots, A6r X.boxes s2.boxes with
  | some x, some y => some (x, y)
  | _, _ => none
 | none => none
def Tm.dec (X : Tm) (s : St3) : Option X.den :=
 match Ij X.fz s with
 | some s1 => X.dec1 s1
 | none => none
end Go.Ev

/- DERIVED. Calls that are handed boxes or hand out boxes, over shapes. -/
namespace Go.Ev
open Go
variable {P : Program} {T : Ty}
inductive CK where
 | im (t : Sh)
 | own (e : TypeId) (t : Sh)
 | ptr (e : TypeId) (t : Sh)
 | back (k : Nat)
 | win (e : TypeId) (t : Sh)
 | tree (e : TypeId) (t : Sh)
 | emp (t : Sh)
@[reducible] def CK.den : CK -> Type
 | .im t => t.den
 | .own _ t => List t.den
 | .ptr _ t => t.den
 | .back _ => Unit
 | .win _ t => List t.den × Nat × Nat
 | .tree _ t => List t.den
 | .emp _ => Unit
@[reducible] def DC : List CK -> Type
 | [] => Unit
 | [c] => c.den
 | c :: d :: r => c.den × DC (d :: r)
inductive PK where
 | im (t : Sh)
 | one (c : CK)
 | mix (cs : List CK)
@[reducible] def PK.den : PK -> Type
 | .im t => t.den
 | .one c => c.den
 | .mix cs => DC cs
@[reducible] def HP : List PK -> Type
 | [] => Unit
 | [p] => p.den
 | p :: q :: r => p.den × HP (q :: r)
def CK.sv (k : Nat) : (c : CK) -> c.den -> SV
 | .im t, x => .d t x
 | .own _ _, _ => .hw k
 | .ptr _ _, _ => .hp k 0 0
 | .back j, _ => .hw j
 | .win _ _, x => .hs k x.2.1 x.2.2
 | .tree _ _, _ => .hw k
 | .emp t, _ => .d (.sl t) []
def CK.bx (k : Nat) : (c : CK) -> c.den -> List (Nat × B3)
 | .own e t, xs => [(k, .arr e t false xs)]
 | .ptr e t, x => [(k, .var e true false (t.exp x))]
 | .win e t, x => [(k, .arr e t false x.1)]
 | .tree e t, xs => [(k, .tree e t false xs)]
 | _, _ => []
def T9 (k : Nat) : (cs : List CK) -> DC cs -> List SV
 | [], _ => []
 | [c], x => [c.sv k x]
 | c :: d :: r, x => c.sv k x.1 :: T9 (k + 1) (d :: r) x.2
def Kc (k : Nat) : (cs : List CK) -> DC cs -> List (Nat × B3)
 | [], _ => []
 | [c], x => c.bx k x
 | c :: d :: r, x => c.bx k x.1 ++ Kc (k + 1) (d :: r) x.2
def PK.n : PK -> Nat
 | .mix cs => cs.length
 | _ => 1
def PK.isIm : PK -> Bool
 | .im _ => true
 | _ => false
def PK.sv (k : Nat) : (p : PK) -> p.den -> SV
 | .im t, x => t.sv x
 | .one c, x => c.sv k x
 | .mix cs, x => .agg (T9 k cs x)
def PK.bx (k : Nat) : (p : PK) -> p.den -> List (Nat × B3)
 | .im _, _ => []
 | .one c, x => c.bx k x
 | .mix cs, x => Kc k cs x
def Bl (k : Nat) : (ps : List PK) -> HP ps -> List SV
 | [], _ => []
 | [p], x => [p.sv k x]
 | p :: q :: r, x => p.sv k x.1 :: Bl (k + p.n) (q :: r) x.2
def Cm (k : Nat) : (ps : List PK) -> HP ps -> List (Nat × B3)
 | [], _ => []
 | [p], x => p.bx k x
 | p :: q :: r, x => p.bx k x.1 ++ Cm (k + p.n) (q :: r) x.2
def CK.owns (k : Nat) : CK -> List (Nat × CK)
 | .own e t => [(k, .own e t)]
 | .ptr e t => [(k, .ptr e t)]
 | .win e t => [(k, .own e t)]
 | .tree e t => [(k, .tree e t)]
 | _ => []
def Ajc (k : Nat) : List CK -> List (Nat × CK)
 | [] => []
 | c :: r => c.owns k ++ Ajc (k + 1) r
def PK.owns (k : Nat) : PK -> List (Nat × CK)
 | .im _ => []
 | .one c => c.owns k
 | .mix cs => Ajc k cs
def Aj (k : Nat) : List PK -> List (Nat × CK)
 | [] => []
 | p :: r => p.owns k ++ Aj (k + p.n) r
@[reducible] def DO : List (Nat × CK) -> Type
 | [] => Unit
 | [p] => p.2.den
 | p :: q :: r => p.2.den × DO (q :: r)
def bxO : (os : List (Nat × CK)) -> DO os -> List (Nat × B3)
 | [], _ => []
 | [p], x => p.2.bx p.1 x
 | p :: q :: r, x => p.2.bx p.1 x.1 ++ bxO (q :: r) x.2
@[reducible] def HR (rs : List PK) : List (Nat × CK) -> Type
 | [] => HP rs
 | p :: r => HP rs × DO (p :: r)
def Km {rs : List PK} : {os : List (Nat × CK)} -> HR rs os -> HP rs
 | [], y => y
 | _ :: _, y => y.1
def Awy {rs : List PK} : {os : List (Nat × CK)} -> HR rs os -> DO os
 | [], _ => ()
 | _ :: _, y => y.2
structure If where
 f : Nat
 ts : List PK
 rs : List PK
def Ir (E : If) (x : HP E.ts) : List (Nat × B3) := Cm 1000 E.ts x
def Av (E : If) (y : HR E.rs (Aj 1000 E.ts)) : List (Nat × B3) := Cm 0 E.rs (Km y) ++ bxO (Aj 1000 E.ts) (Awy y)
def Bm (bs : List (Nat × B3)) : List (Nat × Box) := Ag (B3.box (A3 bs)) bs
def If.Den (P : Program) (E : If) (nt : Nat) (x : HP E.ts) (y : HR E.rs (Aj 1000 E.ts)) : Prop :=
 Ie P E.f nt [] (Bm (Ir E x)) ((Bl 1000 E.ts x).map (SV.v (A3 (Ir E x)))) ((Gd (Bl 0 E.rs (Km y))).s (A3 (Av E y))) nt (Bm (Av E y))
@[reducible] def HF (os : List (Nat × CK)) : List (List PK) -> Type
 | [] => Unit
 | [rs] => HR rs os
 | rs :: r :: q => HR rs os ⊕ HF os (r :: q)
def Nj {A B α : Type} (z : A ⊕ B) (f : A -> Option α) (g : B -> Option α) : Option α := match z with
 | .inl a => f a
 | .inr b => g b
def I9 {α : Type} (os : List (Nat × CK)) : (fs : List (List PK)) -> HF os fs -> ((rs : List PK) -> HR rs os -> Option α) -> Option α
 | [], _, _ => none
 | [rs], y, k => k rs y
 | rs :: r :: q, z, k => Nj z (fun y => k rs y) (fun z => I9 os (r :: q) z k)
def A73 (os : List (Nat × CK)) : (fs : List (List PK)) -> HF os fs -> ((rs : List PK) -> HR rs os -> Prop) -> Prop
 | [], _, _ => True
 | [rs], y, k => k rs y
 | rs :: _ :: _, .inl y, k => k rs y
 | _ :: r :: q, .inr z, k => A73 os (r :: q) z k
theorem Kw {α : Type} {os : List (Nat × CK)} {p : (rs : List PK) -> HR rs os -> Prop} : ∀ {fs : List (List PK)} {z : HF os fs} {k : (rs : List PK) -> HR rs os -> Option α} {r : α}, I9 os fs z k = some r -> A73 os fs z p -> ∃ rs y, k rs y = some r /\ p rs y
 | [], _, _, _, h, _ => by cases h
 | [rs], y, k, r, h, hp => ⟨rs, y, h, hp⟩
 | rs :: _ :: _, .inl y, k, r, h, hp => ⟨rs, y, h, hp⟩
 | _ :: r :: q, .inr z, k, _, h, hp => Kw (fs := r :: q) h hp
structure Ent3 where
 f : Nat
 ts : List PK
 forms : List (List PK)
 m : HP ts -> Option (HF (Aj 1000 ts) forms)
def Ent3.Sound (P : Program) (E : Ent3) : Prop := ∀ (nt : Nat) (x : HP E.ts) (z : HF (Aj 1000 E.ts) E.forms), E.m x = some z -> A73 (Aj 1000 E.ts) E.forms z fun rs y => If.Den P ⟨E.f, E.ts, rs⟩ nt x y
def Hv (rn : List (Nat × Nat)) (k : Nat) : Nat := match A0 k rn with
 | some h => h
 | none => 0
def Ib : List (Nat × Nat) -> Nat -> Option Nat
 | [], _ => none
 | (k, h') :: r, h => bif Nat.beq h' h then some k else Ib r h
def Eb : List (Nat × Nat) -> Bool
 | [] => true
 | (k, h) :: r => r.all (fun p => !Nat.beq p.1 k && !Nat.beq p.2 h) && Eb r
def Bp {β : Type} : List (Nat × β) -> List (Nat × Nat) -> Bool
 | [], [] => true
 | (k, _) :: B, (k', _) :: R => Nat.beq k k' && Bp B R
 | _, _ => false
def U0 : List (Nat × B3) -> List (Nat × Nat) -> List (Nat × B3) -> List (Nat × B3)
 | (_, b) :: B, (_, h) :: R, bs => Af h b (U0 B R bs)
 | _, _, bs => bs
theorem Pg {a b : Nat} (h : Nat.beq a b = false) : a ≠ b := fun e => by subst e; simp at h
theorem Gb {a b : Nat} (h : a ≠ b) : Nat.beq a b = false := by cases hb : Nat.beq a b with | false => rfl | true => exact absurd (QC hb) h
theorem Ji {k h : Nat} {r : List (Nat × Nat)} (hg : Eb ((k, h) :: r) = true) : (∀ p ∈ r, p.1 ≠ k /\ p.2 ≠ h) /\ Eb r = true := by
 simp only [Eb, QE, QM, ZL] at hg; exact ⟨fun p hp => ⟨Pg (hg.1 p hp).1, Pg (hg.1 p hp).2⟩, hg.2⟩
theorem C7 {β : Type} : ∀ {rn : List (Nat × β)} {k : Nat} {h : β}, A0 k rn = some h -> (k, h) ∈ rn
 | [], _, _, e => by cases e
 | (k', h') :: r, k, h, e => by
  simp only [A0] at e
  cases hb : Nat.beq k' k with
  | true => rw [hb] at e; obtain rfl := QA e; rw [QC hb]; exact YK
  | false => rw [hb] at e; exact ZU _ (C7 e)
theorem Xi : ∀ {rn : List (Nat × Nat)} {k h : Nat}, Ib rn h = some k -> (k, h) ∈ rn
 | [], _, _, e => by cases e
 | (k', h') :: r, k, h, e => by
  simp only [Ib] at e
  cases hb : Nat.beq h' h with
  | true => rw [hb] at e; obtain rfl := QA e; rw [QC hb]; exact YK
  | false => rw [hb] at e; exact ZU _ (Xi e)
theorem Ls : ∀ {rn : List (Nat × Nat)} {k h : Nat}, Eb rn = true -> (k, h) ∈ rn -> A0 k rn = some h /\ Ib rn h = some k
 | [], _, _, _, e => by cases e
 | (k', h') :: r, k, h, hg, e => by
  obtain ⟨h1, h2⟩ := Ji hg; simp only [A0, Ib]; rcases QT.1 e with e | e
  . obtain ⟨rfl, rfl⟩ := YZ e; simp only [XD, cond]; exact ⟨trivial, trivial⟩
  . obtain ⟨e1, e2⟩ := Ls h2 e; rw [Gb (h1 _ e).1.symm, Gb (h1 _ e).2.symm]; exact ⟨e1, e2⟩
theorem Em {β : Type} : ∀ {B : List (Nat × β)} {R : List (Nat × Nat)}, Bp B R = true -> ∀ k, (A0 k B).isSome = (A0 k R).isSome
 | [], [], _, _ => rfl
 | (k1, b) :: B, (k2, h) :: R, e, k => by
  simp only [Bp, QE] at e; obtain rfl := QC e.1; simp only [A0]
  cases Nat.beq k1 k with
  | true => rfl
  | false => exact Em e.2 k
 | [], _ :: _, e, _ => by simp [Bp] at e
 | _ :: _, [], e, _ => by simp [Bp] at e
theorem Tr {β : Type} : ∀ {B : List (Nat × β)} {R : List (Nat × Nat)} {k : Nat} {b : β}, Bp B R = true -> Eb R = true -> (k, b) ∈ B -> A0 k B = some b
 | [], _, _, _, _, _, e => by cases e
 | (k1, b1) :: B, (k2, h) :: R, k, b, hs, hg, e => by
  simp only [Bp, QE] at hs; obtain rfl := QC hs.1; obtain ⟨h1, h2⟩ := Ji hg; simp only [A0]; rcases QT.1 e with e | e
  . obtain ⟨rfl, rfl⟩ := YZ e; simp only [XD, cond]
  . have := Tr hs.2 h2 e
    have hk : (A0 k R).isSome = true := by rw [<- Em hs.2 k, this]; rfl
    obtain ⟨h', hh⟩ := ZB.1 hk; rw [Gb (h1 _ (C7 hh)).1.symm]; exact this
 | _ :: _, [], _, _, hs, _, _ => by simp [Bp] at hs
theorem Y7 : ∀ {B : List (Nat × B3)} {R : List (Nat × Nat)} {bs : List (Nat × B3)}, Bp B R = true -> Eb R = true -> ∀ h, A0 h (U0 B R bs) = match Ib R h with | some k => A0 k B | none => A0 h bs
 | [], [], _, _, _, h => rfl
 | (k1, b) :: B, (k2, h2) :: R, bs, hs, hg, h => by
  simp only [Bp, QE] at hs; obtain rfl := QC hs.1; obtain ⟨g1, g2⟩ := Ji hg; simp only [U0, Ib]
  cases hb : Nat.beq h2 h with
  | true =>
   obtain rfl := QC hb; simp only [cond, A7, A0, XD]
  | false =>
   simp only [cond]; rw [A9 _ _ (Pg hb).symm, Y7 hs.2 g2 h]
   cases hw : Ib R h with
   | none => rfl
   | some k =>
    simp only [A0]; rw [Gb (g1 _ (Xi hw)).1.symm]; rfl
 | [], _ :: _, _, e, _, _ => by simp [Bp] at e
 | _ :: _, [], _, e, _, _ => by simp [Bp] at e
def Pf (bs : List (Nat × B3)) (k : Nat) : (c : CK) -> SV -> Option (c.den × List (Nat × Nat))
 | .im t, v => bif t.one then (v.as true t).map fun x => (x, []) else none
 | .own e t, .hw h => match A0 h bs with
  | some (.arr e' sh false xs) => bif Nat.beq e e' then ((Sh.sl sh).to (.sl t) xs).map fun x => (x, [(k, h)]) else none
  | _ => none
 | .ptr e t, .hp h 0 0 => match A0 h bs with
  | some (.var e' true false cs) => bif Nat.beq e e' && cs.all SV.isD then (t.all false cs).map fun x => (x, [(k, h)]) else none
  | _ => none
 | .tree e t, .hw h => match A0 h bs with
  | some (.tree e' sh false xs) => bif Nat.beq e e' then ((Sh.sl sh).to (.sl t) xs).map fun x => (x, [(k, h)]) else none
  | _ => none
 | .win e t, .hs h off len => match A0 h bs with
  | some (.arr e' sh false xs) => bif Nat.beq e e' then ((Sh.sl sh).to (.sl t) xs).map fun x => ((x, off, len), [(k, h)]) else none
  | _ => none
 | _, _ => none
def Fn (bs : List (Nat × B3)) (k : Nat) : (cs : List CK) -> List SV -> Option (DC cs × List (Nat × Nat))
 | [], [] => some ((), [])
 | [c], [v] => Pf bs k c v
 | c :: d :: r, v :: vs => match Pf bs k c v, Fn bs (k + 1) (d :: r) vs with
  | some (x, q), some (y, q') => some ((x, y), q ++ q')
  | _, _ => none
 | _, _ => none
def A6t (bs : List (Nat × B3)) (k : Nat) : (p : PK) -> SV -> Option (Bool × p.den × List Nat × List (Nat × Nat))
 | .im t, v => (A28 bs t v).map fun q => (q.1, q.2.1, q.2.2, [])
 | .one c, v => (Pf bs k c v).map fun q => (true, q.1, [], q.2)
 | .mix cs, .agg vs => (Fn bs k cs vs).map fun q => (true, q.1, [], q.2)
 | _, _ => none
def Ky (bs : List (Nat × B3)) (k : Nat) : (ps : List PK) -> List SV -> Option (Bool × HP ps × List Nat × List (Nat × Nat))
 | [], [] => some (true, (), [], [])
 | [p], [v] => A6t bs k p v
 | p :: q :: r, v :: vs => match A6t bs k p v, Ky bs (k + p.n) (q :: r) vs with
  | some (g, x, l, n), some (g', y, l', n') => some (g && g', (x, y), l ++ l', n ++ n')
  | _, _ => none
 | _, _ => none
def Fw (bs B : List (Nat × B3)) (q : List (Nat × Nat)) : Prop :=
 ∀ k b, (k, b) ∈ B -> ∃ h b', (k, h) ∈ q /\ A0 h bs = some b' /\ b'.len = b.len /\ (∀ L L', b'.box L = b.box L') /\ ∀ L, (b.box L).fz = false /\ (b.box L).hf = true
theorem Fw.app {bs B B' : List (Nat × B3)} {q q' : List (Nat × Nat)} (h : Fw bs B q) (h' : Fw bs B' q') : Fw bs (B ++ B') (q ++ q') := by
 intro k b hb; rcases QF.1 hb with hb | hb
 . obtain ⟨x, y, h1, h2⟩ := h k b hb; exact ⟨x, y, QF.2 (.inl h1), h2⟩
 . obtain ⟨x, y, h1, h2⟩ := h' k b hb; exact ⟨x, y, QF.2 (.inr h1), h2⟩
theorem Sb {bs : List (Nat × B3)} {hd : Nat -> Nat -> Bool} {L : Nat -> Nat} {k : Nat} {c : CK} {v : SV} {x : c.den} {q : List (Nat × Nat)} (h : Pf bs k c v = some (x, q))
  (hq : ∀ p ∈ q, hd p.1 p.2 = true) (hL : ∀ k' b, (k', b) ∈ c.bx k x -> L k' = b.len) :
  v.cellB = true /\ (∃ ob, Nw hd (A0 · (Ag (B3.box (A3 bs)) bs)) (v.c (A3 bs)) ((c.sv k x).c L) = some (ob, []) /\ ∀ p ∈ ob, p) /\ (c.sv k x).cellB = true /\ Fw bs (c.bx k x) q := by
 unfold Pf at h; split at h
 . rename_i t
   cases ht : t.one with
   | false => rw [ht] at h; cases h
   | true =>
    rw [ht] at h; simp only [cond, QB, QG] at h; obtain ⟨y, hy, rfl, rfl⟩ := h; obtain ⟨q1, ob, q2, q3⟩ := Ph (L := A3 bs) ht hy
    refine ⟨Mz q1, ⟨ob, ?_, q3⟩, ht, fun k b hb => by cases hb⟩
    have hc := Ax6 (L := A3 bs) q1; rw [hc] at q2 ⊢; simp only [CK.sv, SV.c, Nw, G7, V.noH, Br, ZF, cond, Yq, q2, QR]
 . rename_i e t hh; split at h
   . rename_i e' sh xs hl
     cases he : Nat.beq e e' with
     | false => rw [he] at h; cases h
     | true =>
      rw [he] at h; simp only [cond, QB, QG] at h; obtain ⟨y, hy, rfl, rfl⟩ := h; obtain ⟨rfl, rfl⟩ := Dg hy; obtain rfl := QC he
      have hle : A3 bs hh = xs.length := by simp [A3, hl, B3.len]
      have hk : L k = xs.length := hL k (.arr e sh false xs) (by simp [CK.bx])
      refine ⟨rfl, ⟨[0 = 0, A3 bs hh = L k], ?_, by simp [hle, hk]⟩, rfl, fun k' b hb => ?_⟩
      . simp only [CK.sv, SV.c, Nw, hq (k, hh) (by simp), cond]
      . simp only [CK.bx, QO, QG] at hb; obtain ⟨rfl, rfl⟩ := hb
        exact ⟨hh, _, by simp, hl, rfl, fun _ _ => rfl, fun _ => ⟨rfl, rfl⟩⟩
   . cases h
 . rename_i e t hh; split at h
   . rename_i e' cs hl
     cases he : (Nat.beq e e' && cs.all SV.isD) with
     | false => rw [he] at h; cases h
     | true =>
      rw [he] at h; simp only [cond, QB, QG] at h; obtain ⟨y, hy, rfl, rfl⟩ := h; simp only [QE] at he; obtain rfl := QC he.1; obtain ⟨a1, _, _, a4⟩ := C9 hy
      refine ⟨rfl, ⟨[0 = 0, 0 = 0], ?_, by simp⟩, rfl, fun k' b hb => ?_⟩
      . simp only [CK.sv, SV.c, Nw, hq (k, hh) (by simp), cond]
      . simp only [CK.bx, QO, QG] at hb; obtain ⟨rfl, rfl⟩ := hb
        refine ⟨hh, _, by simp, hl, rfl, fun L1 L2 => ?_, fun _ => ⟨rfl, rfl⟩⟩
        simp only [B3.box, a1, I3, A6m, a4]
   . cases h
 . rename_i e t hh; split at h
   . rename_i e' sh xs hl
     cases he : Nat.beq e e' with
     | false => rw [he] at h; cases h
     | true =>
      rw [he] at h; simp only [cond, QB, QG] at h; obtain ⟨y, hy, rfl, rfl⟩ := h; obtain ⟨rfl, rfl⟩ := Dg hy; obtain rfl := QC he
      have hle : A3 bs hh = xs.length := by simp [A3, hl, B3.len]
      have hk : L k = xs.length := hL k (.tree e sh false xs) (by simp [CK.bx])
      refine ⟨rfl, ⟨[0 = 0, A3 bs hh = L k], ?_, by simp [hle, hk]⟩, rfl, fun k' b hb => ?_⟩
      . simp only [CK.sv, SV.c, Nw, hq (k, hh) (by simp), cond]
      . simp only [CK.bx, QO, QG] at hb; obtain ⟨rfl, rfl⟩ := hb
        exact ⟨hh, _, by simp, hl, rfl, fun _ _ => rfl, fun _ => ⟨rfl, rfl⟩⟩
   . cases h
 . rename_i e t hh off len; split at h
   . rename_i e' sh xs hl
     cases he : Nat.beq e e' with
     | false => rw [he] at h; cases h
     | true =>
      rw [he] at h; simp only [cond, QB, QG] at h; obtain ⟨y, hy, rfl, rfl⟩ := h; obtain ⟨rfl, rfl⟩ := Dg hy; obtain rfl := QC he
      refine ⟨rfl, ⟨[off = off, len = len], ?_, by simp⟩, rfl, fun k' b hb => ?_⟩
      . simp only [CK.sv, SV.c, Nw, hq (k, hh) (by simp), cond]
      . simp only [CK.bx, QO, QG] at hb; obtain ⟨rfl, rfl⟩ := hb
        exact ⟨hh, _, by simp, hl, rfl, fun _ _ => rfl, fun _ => ⟨rfl, rfl⟩⟩
   . cases h
 . cases h
theorem Ye {bs : List (Nat × B3)} {hd : Nat -> Nat -> Bool} {L : Nat -> Nat} : ∀ {cs : List CK} {k : Nat} {vs : List SV} {x : DC cs} {q : List (Nat × Nat)}, Fn bs k cs vs = some (x, q) ->
  (∀ p ∈ q, hd p.1 p.2 = true) -> (∀ k' b, (k', b) ∈ Kc k cs x -> L k' = b.len) ->
  (∃ ob, Kz hd (A0 · (Ag (B3.box (A3 bs)) bs)) (vs.map (SV.c (A3 bs))) ((T9 k cs x).map (SV.c L)) = some (ob, []) /\ ∀ p ∈ ob, p) /\ Fw bs (Kc k cs x) q
 | [], k, [], x, q, h, _, _ => ⟨⟨[], rfl, by simp⟩, fun k b hb => by cases hb⟩
 | [], k, _ :: _, _, _, h, _, _ => by simp [Fn] at h
 | [c], k, [], _, _, h, _, _ => by simp [Fn] at h
 | [c], k, [v], x, q, h, hq, hL => by
  obtain ⟨_, ⟨ob, h1, h2⟩, _, h3⟩ := Sb (hd := hd) (L := L) (x := x) h hq hL
  refine ⟨⟨ob ++ [], ?_, by simpa using h2⟩, h3⟩
  simp only [T9, QV, YO, Kz, h1, XB]
 | [c], k, v :: w :: r, _, _, h, _, _ => by simp [Fn] at h
 | c :: d :: r, k, [], _, _, h, _, _ => by simp [Fn] at h
 | c :: d :: r, k, v :: vs, x, q, h, hq, hL => by
  simp only [Fn] at h; split at h
  . rename_i x1 q1 y1 q2 h1 h2; simp only [QD, QG] at h; obtain ⟨rfl, rfl⟩ := h
    obtain ⟨_, ⟨ob, a1, a2⟩, _, a3⟩ := Sb (hd := hd) (L := L) h1 (fun p hp => hq p (QF.2 (.inl hp))) (fun k' b hb => hL k' b (by simp only [Kc]; exact QF.2 (.inl hb)))
    obtain ⟨⟨ob', b1, b2⟩, b3⟩ := Ye (hd := hd) (L := L) h2 (fun p hp => hq p (QF.2 (.inr hp))) (fun k' b hb => hL k' b (by simp only [Kc]; exact QF.2 (.inr hb)))
    refine ⟨⟨ob ++ ob', ?_, fun p hp => (QF.1 hp).elim (a2 p) (b2 p)⟩, a3.app b3⟩; simp only [T9, QV, Kz, a1, b1, XB]
  . cases h
theorem Air {bs : List (Nat × B3)} {hd : Nat -> Nat -> Bool} {L : Nat -> Nat} {k : Nat} {p : PK} {v : SV} {g : Bool} {x : p.den} {bor : List Nat} {q : List (Nat × Nat)} (h : A6t bs k p v = some (g, x, bor, q)) (hg : g = true)
  (hq : ∀ p ∈ q, hd p.1 p.2 = true) (hL : ∀ k' b, (k', b) ∈ p.bx k x -> L k' = b.len) :
  (∃ ob, A27 hd (A0 · (Ag (B3.box (A3 bs)) bs)) p.isIm (v.s (A3 bs)) ((p.sv k x).v L) = some (ob, bor) /\ ∀ p ∈ ob, p) /\ (∀ k ∈ bor, ∃ b, A0 k (Ag (B3.box (A3 bs)) bs) = some b /\ b.fz = false) /\ Fw bs (p.bx k x) q /\ v.alive = true := by
 cases p with
 | im t =>
  simp only [A6t, QB, QG] at h; obtain ⟨⟨g', y, b⟩, h1, rfl, rfl, rfl, rfl⟩ := h; obtain ⟨ob, a1, a2, a3⟩ := A6u h1 hg
  refine ⟨⟨ob, ?_, a2⟩, a3, (fun k b hb => by cases hb), Si h1⟩
  simp only [A27, PK.isIm, cond, PK.sv, (Hl t y).1]; exact a1
 | one c =>
  simp only [A6t, QB, QG] at h; obtain ⟨⟨y, b⟩, h1, rfl, rfl, rfl, rfl⟩ := h; obtain ⟨c1, ⟨ob, a1, a2⟩, c2, a3⟩ := Sb (hd := hd) (L := L) h1 hq hL
  refine ⟨⟨ob, ?_, a2⟩, by simp, a3, B0 fun e => by subst e; cases c1⟩
  simp only [A27, PK.isIm, cond, PK.sv, (F8 c1).1, (F8 c2).2]; exact a1
 | mix cs =>
  cases v with
  | agg vs =>
   simp only [A6t] at h; simp only [QB, QG] at h; obtain ⟨⟨y, b⟩, h1, rfl, rfl, rfl, rfl⟩ := h; obtain ⟨⟨ob, a1, a2⟩, a3⟩ := Ye (hd := hd) (L := L) h1 hq hL
   refine ⟨⟨ob, ?_, a2⟩, by simp, a3, rfl⟩
   simp only [A27, PK.isIm, cond, PK.sv, SV.s, SV.v]; exact a1
  | _ => cases h
theorem Af1 {bs : List (Nat × B3)} {hd : Nat -> Nat -> Bool} {L : Nat -> Nat} : ∀ {ps : List PK} {k : Nat} {vs : List SV} {g : Bool} {x : HP ps} {bor : List Nat} {q : List (Nat × Nat)}, Ky bs k ps vs = some (g, x, bor, q) -> g = true ->
  (∀ p ∈ q, hd p.1 p.2 = true) -> (∀ k' b, (k', b) ∈ Cm k ps x -> L k' = b.len) ->
  (∃ ob, Gw hd (A0 · (Ag (B3.box (A3 bs)) bs)) (ps.map PK.isIm) (vs.map (SV.s (A3 bs))) ((Bl k ps x).map (SV.v L)) = some (ob, bor) /\ ∀ p ∈ ob, p) /\ (∀ k ∈ bor, ∃ b, A0 k (Ag (B3.box (A3 bs)) bs) = some b /\ b.fz = false) /\ Fw bs (Cm k ps x) q /\ ∀ v ∈ vs, v.alive = true
 | [], k, [], g, x, bor, q, h, _, _, _ => by
  simp only [Ky, QD, QG] at h; obtain ⟨_, _, rfl, rfl⟩ := h
  exact ⟨⟨[], rfl, by simp⟩, by simp, (fun k b hb => by cases hb), by simp⟩
 | [], k, _ :: _, _, _, _, _, h, _, _, _ => by simp [Ky] at h
 | [p], k, [], _, _, _, _, h, _, _, _ => by simp [Ky] at h
 | [p], k, [v], g, x, bor, q, h, hg, hq, hL => by
  obtain ⟨⟨ob, h1, h2⟩, h3, h4, h5⟩ := Air (hd := hd) (L := L) (x := x) h hg hq hL
  refine ⟨⟨ob ++ [], ?_, by simpa using h2⟩, h3, h4, by simpa using h5⟩
  simp only [Bl, QV, YO, Gw, h1, XB]
 | [p], k, v :: w :: r, _, _, _, _, h, _, _, _ => by simp [Ky] at h
 | p :: p2 :: r, k, [], _, _, _, _, h, _, _, _ => by simp [Ky] at h
 | p :: p2 :: r, k, v :: vs, g, x, bor, q, h, hg, hq, hL => by
  simp only [Ky] at h; split at h
  . rename_i g1 x1 l1 q1 g2 y1 l2 q2 h1 h2; simp only [QD, QG] at h; obtain ⟨rfl, rfl, rfl, rfl⟩ := h; simp only [QE] at hg
    obtain ⟨⟨ob, a1, a2⟩, a3, a4, a5⟩ := Air (hd := hd) (L := L) h1 hg.1 (fun p hp => hq p (QF.2 (.inl hp))) (fun k' b hb => hL k' b (by simp only [Cm]; exact QF.2 (.inl hb)))
    obtain ⟨⟨ob', b1, b2⟩, b3, b4, b5⟩ := Af1 (hd := hd) (L := L) h2 hg.2 (fun p hp => hq p (QF.2 (.inr hp))) (fun k' b hb => hL k' b (by simp only [Cm]; exact QF.2 (.inr hb)))
    refine ⟨⟨ob ++ ob', ?_, fun p hp => (QF.1 hp).elim (a2 p) (b2 p)⟩, fun j hj => (QF.1 hj).elim (a3 j) (b3 j), a4.app b4, by simpa using ⟨a5, b5⟩⟩
    simp only [QV] at b1; simp only [Bl, QV, Gw, a1, b1]
  . cases h
end Go.Ev

/- DERIVED. A state that a template takes may be read as the template's. -/
namespace Go.Ev
open Go
variable {P : Program} {T : Ty}
def G8 (x x' : S) : Prop := ∀ (w : World) (E : Env) (v : Value), Rs w E v x -> Rs w E v x'
def Ei (c c' : C) : Prop := ∀ (w : World) (E : Env) (v : Value), Rc w E v c -> Rc w E v c'
structure Af8 (b b' : Box) : Prop where
 e : b'.e = b.e
 sz : b'.sz = b.sz
 fz : b'.fz = b.fz
 tr : b'.tr = b.tr
 trr : b'.tr = true -> b'.rows = b.rows
 len : b'.rows.length = b.rows.length
 rows : ∀ (i : Nat) (r' : List C), b'.rows[i]? = some r' -> ∃ r, b.rows[i]? = some r /\ r'.length = r.length /\ ∀ (j : Nat) (c' : C), r'[j]? = some c' -> ∃ c, r[j]? = some c /\ Ei c c'
 hf : b'.hf = true -> ∀ (i : Nat) (r : List C) (j : Nat) (c : C), b'.rows[i]? = some r -> r[j]? = some c -> ∃ x, c = .i x
theorem Bu.sub {w : World} {E : Env} {b b' : Box} {g cap : Nat} (h : Bu w E b g cap) (hb : Af8 b b') : Bu w E b' g cap := by
 obtain ⟨arr, a1, a2, a3, a4, a5, a6, a7, a8, a9⟩ := h
 refine ⟨arr, by rw [hb.e]; exact a1, by rw [hb.sz]; exact a2, by rw [hb.len]; exact a3, a4, fun i r hi => ?_, fun i r j c hi hj => ?_, fun hf i r j c hi hj => hb.hf hf i r j c hi hj, fun hf => a8 (by rw [<- hb.fz]; exact hf), a9⟩
 . obtain ⟨r0, h1, h2, _⟩ := hb.rows i r hi; rw [h2, hb.sz]; exact a5 i r0 h1
 . obtain ⟨r0, h1, _, h3⟩ := hb.rows i r hi; obtain ⟨c0, h4, h5⟩ := h3 j c hj; obtain ⟨v, h6, h7⟩ := a6 i r0 j c0 h1 h4
   exact ⟨v, by rw [hb.sz]; exact h6, h5 _ _ _ h7⟩
theorem A6.sub {Γ : Ctx} {w : World} {E : Env} {s s' : St} {tmps : Array Value} (hs : A6 Γ w E s tmps) (hnt : s'.nt = s.nt)
  (h1 : ∀ t x', A0 t s'.slots = some x' -> ∃ x, A0 t s.slots = some x /\ G8 x x')
  (h2 : ∀ h b', A0 h s'.boxes = some b' -> ∃ b, A0 h s.boxes = some b /\ Af8 b b')
  (h3 : ∀ h b, A0 h s.boxes = some b -> (A0 h s'.boxes).isSome = true) : A6 Γ w E s' tmps where
 fr := hs.fr
 held := hs.held
 tow := hs.tow
 wf := by rw [hnt]; exact hs.wf
 old := hs.old
 nt := by rw [hnt]; exact hs.nt
 tag := hs.tag
 new := hs.new
 boxes := fun h b' hb' => by
  obtain ⟨b, hb, hsub⟩ := h2 h b' hb'; obtain ⟨g, cap, hβ, hat, hω, hS⟩ := hs.boxes h b hb
  refine ⟨g, cap, by rw [hsub.sz]; exact hβ, by rw [hsub.tr]; exact hat.sub hsub, hω, fun e => ?_⟩
  have h5 := hS (by rw [<- hsub.tr]; exact e)
  unfold Sep at h5 ⊢; rw [hsub.trr e, hsub.sz]; exact h5
 inj := fun h h' b b' g g' z z' hb hb' hz hz' hne => by
  obtain ⟨b0, hb0, _⟩ := h2 h b hb; obtain ⟨b1, hb1, _⟩ := h2 h' b' hb'; exact hs.inj h h' b0 b1 g g' z z' hb0 hb1 hz hz' hne
 own := fun h b' g z hb' hz => by
  obtain ⟨b, hb, hsub⟩ := h2 h b' hb'; rw [hsub.fz]; exact hs.own h b g z hb hz
 slots := fun t x' hx' => by
  obtain ⟨x, hx, hsub⟩ := h1 t x' hx'; exact hsub _ _ _ (hs.slots t x hx)
 tsize := hs.tsize
 dom := fun h x hx => by
  obtain ⟨b, hb⟩ := ZB.1 (hs.dom h x hx); exact h3 h b hb
 stay := hs.stay
 fzn := fun h b' g z hb' hz hf => by
  obtain ⟨b, hb, hsub⟩ := h2 h b' hb'
  exact hs.fzn h b g z hb hz (by rw [<- hsub.fz]; exact hf)
theorem Ei.refl (c : C) : Ei c c := fun _ _ _ h => h
theorem G8.refl (x : S) : G8 x x := fun _ _ _ h => h
theorem G8.dead (x : S) : G8 x .dead := fun _ _ _ _ => .dead
theorem Aat {c c' : C} (h : ∃ ob, Pm c c' = some ob /\ ∀ p ∈ ob, p) : Ei c c' := by
 obtain ⟨ob, h1, h2⟩ := h; exact fun w E v hv => Kj hv h1 h2
def Af7 (cs cs' : List C) : Prop := cs'.length = cs.length /\ ∀ (j : Nat) (c' : C), cs'[j]? = some c' -> ∃ c, cs[j]? = some c /\ Ei c c'
theorem A76 : ∀ (cs cs' : List C) (ob : List Prop), E6 cs cs' = some ob -> (∀ p ∈ ob, p) -> Af7 cs cs'
 | [], [], _, _, _ => ⟨rfl, fun j c hj => by simp at hj⟩
 | [], _ :: _, _, h, _ => by simp [E6] at h
 | _ :: _, [], _, h, _ => by simp [E6] at h
 | c :: cs, c' :: cs', ob, h, ho => by
  simp only [E6] at h; split at h
  . rename_i p q h1 h2; obtain rfl := QA h; obtain ⟨i1, i2⟩ := A76 cs cs' q h2 (fun x hx => ho x (QF.2 (.inr hx)))
    refine ⟨by simp [i1], fun j d hj => ?_⟩
    cases j with
    | zero =>
     simp at hj; subst hj; exact ⟨c, rfl, Aat ⟨p, h1, fun x hx => ho x (QF.2 (.inl hx))⟩⟩
    | succ j => exact i2 j d (by simpa using hj)
  . cases h
theorem Fb.subL {L : Nat -> Nat} {cs : List SV} {ds : List I} (h : Fb L cs ds) : Af7 (cs.map (SV.c L)) (ds.map .i) := by
 obtain ⟨ob, h1, h2⟩ := h; exact A76 _ _ _ h1 h2
theorem Af7.agg {cs cs' : List C} (h : Af7 cs cs') : G8 (.v (.agg cs)) (.v (.agg cs')) := by
 intro w E v hv
 cases hv with
 | v hv =>
  cases hv with
  | agg hv =>
   refine .v (.agg ⟨by rw [h.1]; exact hv.1, fun j v c hv' hc => ?_⟩)
   obtain ⟨c0, h1, h2⟩ := h.2 j c hc; exact h2 _ _ _ (hv.2 j v c0 hv' h1)
theorem Ei.one {c c' : C} (h : Ei c c') : G8 (.v (.one c)) (.v (.one c')) := by
 intro w E v hv
 cases hv with
 | v hv => cases hv with | one hv => exact .v (.one (h _ _ _ hv))
theorem Aim {L : Nat -> Nat} {t : TS} {v : SV} {x : t.den} (h : t.dec v = some x) : G8 (v.s L) ((t.enc x).s L) /\ (v.cellB = true -> (t.enc x).cellB = true -> Ei (v.c L) ((t.enc x).c L)) := by
 cases t with
 | d t =>
  simp only [TS.dec] at h; split at h
  . rename_i cs; split at h
    . rename_i t0
      cases hd : cs.all SV.isD with
      | false => rw [hd] at h; cases h
      | true =>
       rw [hd] at h; simp only [cond] at h; obtain ⟨_, _, h3, _⟩ := C9 h
       have e : (SV.rf cs).c L = (SV.d (.ref t0) x).c L := by
        simp only [SV.c, h3 hd, Sh.cells, hd1]
       have hc : Ei ((SV.rf cs).c L) ((TS.enc (.d (.ref t0)) x).c L) := by
        show Ei _ ((SV.d (.ref t0) x).c L); rw [<- e]; exact Ei.refl _
       exact ⟨hc.one, fun _ _ => hc⟩
    . cases h
  . rename_i hnr
    cases ht : t.one with
    | false => rw [ht] at h; cases h
    | true =>
     rw [ht] at h; obtain ⟨q1, q2⟩ := Ph (L := L) ht h; have hc : Ei (v.c L) ((TS.enc (.d t) x).c L) := Aat q2
     have e : v.s L = .v (.one (v.c L)) := by cases v <;> first | rfl | cases q1
     refine ⟨?_, fun _ _ => hc⟩; rw [e]; exact hc.one
 | ag t =>
  simp only [TS.dec] at h; split at h
  . rename_i cs; obtain ⟨h1, h2⟩ := A2b (L := L) h
    refine ⟨?_, fun hc => by cases hc⟩
    show G8 (.v (.agg (cs.map (SV.c L)))) (.v (.agg ((t.exp x).map (SV.c L)))); rw [I3]; exact h1.subL.agg
  . cases h
 | k c =>
  simp only [TS.dec] at h
  cases hs : c.same v with
  | false => rw [hs] at h; cases h
  | true =>
   show G8 (v.s L) (c.s L) /\ (v.cellB = true -> c.cellB = true -> Ei (v.c L) (c.c L)); unfold SV.same at hs; split at hs
   . obtain rfl := QC hs; exact ⟨G8.refl _, fun _ _ => Ei.refl _⟩
   . simp only [QE] at hs; obtain rfl := QC hs.1.1; obtain rfl := QC hs.1.2; obtain rfl := QC hs.2; exact ⟨G8.refl _, fun _ _ => Ei.refl _⟩
   . exact ⟨G8.dead _, fun _ h => by cases h⟩
   . rename_i t x' t' y; simp only [QE] at hs; obtain rfl := Sh.eqb_eq hs.2
     have : SV.d t x' = SV.d t y := by
      split at hs
      . rfl
      . rfl
      . exact absurd hs.1 (by simp)
     rw [this]; exact ⟨G8.refl _, fun _ _ => Ei.refl _⟩
   . cases hs
 | hs h' =>
  simp only [TS.dec] at h; split at h
  . rename_i k o l
    cases hk : Nat.beq h' k with
    | false => rw [hk] at h; cases h
    | true =>
     rw [hk] at h; obtain rfl := QC hk; simp only [cond, QD] at h; subst h; exact ⟨G8.refl _, fun _ _ => Ei.refl _⟩
  . cases h
theorem Aeq : ∀ {l : List (Nat × TS)} {sl : List (Nat × SV)} {x : DK TS TS.den l}, A6p l sl = some x -> ∀ (L : Nat -> Nat) (k : Nat) (y : S), A0 k (Ag (SV.s L) (Aei l x)) = some y -> ∃ z, A0 k (Ag (SV.s L) sl) = some z /\ G8 z y
 | [], [], _, _, _, k, y, h => by simp [Aei, Ag, A0] at h
 | [], _ :: _, _, h, _, _, _, _ => by simp [A6p] at h
 | _ :: _, [], _, h, _, _, _, _ => by simp [A6p] at h
 | (k, t) :: r, (j, v) :: vs, x, h, L, i, y, hy => by
  simp only [A6p] at h
  cases hk : Nat.beq k j with
  | false => rw [hk] at h; cases h
  | true =>
   rw [hk] at h; obtain rfl := QC hk; simp only [cond] at h; split at h
   . rename_i a as h1 h2; obtain rfl := QA h; simp only [Aei, Ag, QV, A0] at hy ⊢
     cases hb : Nat.beq k i with
     | true =>
      rw [hb] at hy; simp only [cond, QD] at hy; subst hy; exact ⟨_, rfl, (Aim h1).1⟩
     | false =>
      rw [hb] at hy; exact Aeq h2 L i y hy
   . cases h
theorem Aer {L : Nat -> Nat} : ∀ {l : List TS} {vs : List SV} {x : DL l}, A6q l vs = some x -> vs.all SV.cellB = true -> (I4 l x).all SV.cellB = true -> Af7 (vs.map (SV.c L)) ((I4 l x).map (SV.c L))
 | [], [], _, _, _, _ => ⟨rfl, fun j c h => by simp [I4] at h⟩
 | [], _ :: _, _, h, _, _ => by simp [A6q] at h
 | _ :: _, [], _, h, _, _ => by simp [A6q] at h
 | t :: r, v :: vs, x, h, hc, hc' => by
  simp only [A6q] at h; split at h
  . rename_i a as h1 h2; obtain rfl := QA h; simp only [XZ, QE, I4] at hc hc'; obtain ⟨i1, i2⟩ := Aer (L := L) h2 hc.2 hc'.2
    refine ⟨by simpa [I4] using i1, fun j c hj => ?_⟩
    cases j with
    | zero =>
     simp [I4] at hj; subst hj; exact ⟨_, rfl, (Aim h1).2 hc.1 hc'.1⟩
    | succ j => exact i2 j c (by simpa [I4] using hj)
  . cases h
theorem A4a {L : Nat -> Nat} {t : TB} {b : B3} {x : t.den} (h : t.dec b = some x) : Af8 (b.box L) ((t.enc x).box L) /\ (t.enc x).len = b.len := by
 cases t with
 | tree e t fz =>
  simp only [TB.dec] at h; split at h
  . rename_i e' t' fz' xs
    cases hc : (Nat.beq e e' && (fz == fz')) with
    | false => rw [hc] at h; cases h
    | true =>
     rw [hc] at h; simp only [QE] at hc; obtain rfl := QC hc.1; obtain rfl := eq_of_beq hc.2; obtain ⟨rfl, rfl⟩ := Dg h; refine ⟨⟨rfl, rfl, rfl, rfl, fun _ => rfl, rfl, fun i r hi => ⟨r, hi, rfl, fun j c hj => ⟨c, hj, Ei.refl c⟩⟩, fun _ i r j c hi hj => ?_⟩, rfl⟩; simp only [TB.enc, B3.box, QK] at hi; obtain ⟨x, _, rfl⟩ := QB.1 hi; rw [QK] at hj; obtain ⟨y, _, rfl⟩ := QB.1 hj; exact ⟨y, rfl⟩
  . cases h
 | arr e t fz =>
  simp only [TB.dec] at h; split at h
  . rename_i e' t' fz' xs
    cases hc : (Nat.beq e e' && (fz == fz')) with
    | false => rw [hc] at h; cases h
    | true =>
     rw [hc] at h; simp only [QE] at hc; obtain rfl := QC hc.1; obtain rfl := eq_of_beq hc.2; obtain ⟨rfl, rfl⟩ := Dg h; refine ⟨⟨rfl, rfl, rfl, rfl, fun _ => rfl, rfl, fun i r hi => ⟨r, hi, rfl, fun j c hj => ⟨c, hj, Ei.refl c⟩⟩, fun _ i r j c hi hj => ?_⟩, rfl⟩; simp only [TB.enc, B3.box, QK] at hi; obtain ⟨y, _, rfl⟩ := QB.1 hi; rw [QK] at hj; obtain ⟨z, _, rfl⟩ := QB.1 hj; exact ⟨z, rfl⟩
  . rename_i e' fz' n cs
    cases hc : (Nat.beq e e' && (fz == fz')) with
    | false => rw [hc] at h; cases h
    | true =>
     rw [hc] at h; simp only [cond, QB] at h; obtain ⟨y, hy, rfl⟩ := h; simp only [QE] at hc; obtain rfl := QC hc.1; obtain rfl := eq_of_beq hc.2; obtain ⟨h1, h2⟩ := A2b (L := L) hy; have hL := h1.subL
     have hz : cs.length = t.size := by have := hL.1; simp [Sh.cells_len] at this; omega
     refine ⟨⟨rfl, by simp [TB.enc, B3.box, hz], rfl, rfl, fun e => (by cases e), by simp [TB.enc, B3.box], fun i r hi => ?_, fun _ i r j c hi hj => ?_⟩, by simp [TB.enc, B3.len]⟩
     . simp only [TB.enc, B3.box, List.map_replicate, XN] at hi; split at hi
       . rename_i hlt; obtain rfl := QA hi
         exact ⟨cs.map (SV.c L), by simp [B3.box, XN, hlt], hL.1, hL.2⟩
       . cases hi
     . simp only [TB.enc, B3.box, List.map_replicate, XN] at hi; split at hi
       . obtain rfl := QA hi; rw [QK] at hj; obtain ⟨z, _, rfl⟩ := QB.1 hj; exact ⟨z, rfl⟩
       . cases hi
  . cases h
 | var e hf fz cs =>
  simp only [TB.dec] at h; split at h
  . rename_i e' hf' fz' vs
    cases hc : (Nat.beq e e' && (hf == hf') && (fz == fz') && vs.all SV.cellB) with
    | false => rw [hc] at h; cases h
    | true =>
     rw [hc] at h; simp only [cond] at h; simp only [QE] at hc; obtain rfl := QC hc.1.1.1; obtain rfl := eq_of_beq hc.1.1.2; obtain rfl := eq_of_beq hc.1.2; split at h
     . rename_i y hy
       cases he : ((I4 cs y).all SV.cellB && (!hf || (I4 cs y).all SV.imm)) with
       | false => rw [he] at h; cases h
       | true =>
        rw [he] at h; obtain rfl := QA h; simp only [QE, XM, ZL] at he; have hL := Aer (L := L) hy hc.2 he.1
        refine ⟨⟨rfl, by have := hL.1; simpa [TB.enc, B3.box] using this, rfl, rfl, fun e => (by cases e), rfl, fun i r hi => ?_, fun hf' i r j c hi hj => ?_⟩, rfl⟩
        . cases i with
          | zero =>
           simp [TB.enc, B3.box] at hi; subst hi; exact ⟨vs.map (SV.c L), rfl, hL.1, hL.2⟩
          | succ i => simp [TB.enc, B3.box] at hi
        . have hf'' : hf = true := hf'
          have hi' : (I4 cs y).all SV.imm = true := by
           rcases he.2 with h0 | h0
           . rw [hf''] at h0; cases h0
           . exact h0
          cases i with
          | zero =>
           simp [TB.enc, B3.box] at hi; subst hi; rw [QK] at hj; obtain ⟨z, hz, rfl⟩ := QB.1 hj; have := L7 (L := L) (QM.1 hi' z (QW hz))
           cases hzc : z.c L with
           | i q => exact ⟨q, rfl⟩
           | hs => rw [hzc] at this; cases this
           | hp => rw [hzc] at this; cases this
          | succ i => simp [TB.enc, B3.box] at hi
     . cases h
  . cases h
theorem Aes {L : Nat -> Nat} : ∀ {l : List (Nat × TB)} {bs : List (Nat × B3)} {x : DK TB TB.den l}, A6r l bs = some x ->
  (∀ k b', A0 k (Ag (B3.box L) (Rx l x)) = some b' -> ∃ b, A0 k (Ag (B3.box L) bs) = some b /\ Af8 b b') /\ (∀ k b, A0 k (Ag (B3.box L) bs) = some b -> (A0 k (Ag (B3.box L) (Rx l x))).isSome = true) /\ A3 (Rx l x) = A3 bs
 | [], [], _, _ => ⟨fun k b h => by simp [Rx, Ag, A0] at h, fun k b h => by simp [Ag, A0] at h, rfl⟩
 | [], _ :: _, _, h => by simp [A6r] at h
 | _ :: _, [], _, h => by simp [A6r] at h
 | (k, t) :: r, (j, v) :: vs, x, h => by
  simp only [A6r] at h
  cases hk : Nat.beq k j with
  | false => rw [hk] at h; cases h
  | true =>
   rw [hk] at h; obtain rfl := QC hk; simp only [cond] at h; split at h
   . rename_i a as h1 h2; obtain rfl := QA h; obtain ⟨i1, i2, i3⟩ := Aes (L := L) h2; obtain ⟨b1, b2⟩ := A4a (L := L) h1; refine ⟨fun i b hb => ?_, fun i b hb => ?_, ?_⟩
     . simp only [Rx, Ag, QV, A0] at hb ⊢
       cases hc : Nat.beq k i with
       | true => rw [hc] at hb; simp only [cond, QD] at hb; subst hb; exact ⟨_, rfl, b1⟩
       | false => rw [hc] at hb; exact i1 i b hb
     . simp only [Rx, Ag, QV, A0] at hb ⊢
       cases hc : Nat.beq k i with
       | true => rfl
       | false => rw [hc] at hb; exact i2 i b hb
     . funext i; have e := congrFun i3 i; simp only [A3, Rx, A0] at e ⊢
       cases hc : Nat.beq k i with
       | true => exact b2
       | false => exact e
   . cases h
theorem Tx {X : List (Nat × TS)} : ∀ {sl : List (Nat × SV)} {k : Nat} {x : SV}, A0 k (Py X sl) = some x -> A0 k sl = some x
 | [], k, x, h => by cases h
 | (j, y) :: r, k, x, h => by
  simp only [Py, YN] at h
  have gone : (X.any fun q => Nat.beq q.1 j) = false -> ∀ q : List (Nat × SV), A0 j (q.filter fun p => X.any fun z => Nat.beq z.1 p.1) = none := by
   intro hc q
   induction q with
   | nil => rfl
   | cons p' r' ih' =>
    simp only [YN]; split
    . rename_i hc'; simp only [A0]
      cases hb' : Nat.beq p'.1 j with
      | true => have := QC hb'; rw [this, hc] at hc'; cases hc'
      | false => exact ih'
    . exact ih'
  simp only [A0]
  cases hb : Nat.beq j k with
  | true =>
   have := QC hb; subst this
   cases hc : (X.any fun q => Nat.beq q.1 j) with
   | true =>
    rw [QL hc] at h; simp only [A0, hb, cond] at h; exact h
   | false =>
    rw [QJ (by rw [hc]; exact Bool.false_ne_true), gone hc] at h
    cases h
  | false =>
   simp only [cond]; split at h
   . simp only [A0, hb, cond] at h; exact Tx h
   . exact Tx h
theorem Aep {α β : Type} (f : α -> β) (h : Nat) : ∀ l : List (Nat × α), Cr h (Ag f l) = Ag f (Cr h l)
 | [] => rfl
 | (j, x) :: r => by
  have ih := Aep f h r
  show (bif Nat.beq j h then Cr h (Ag f r) else (j, f x) :: Cr h (Ag f r)) = Ag f (bif Nat.beq j h then Cr h r else (j, x) :: Cr h r)
  cases Nat.beq j h with
  | true => exact ih
  | false =>
   show (j, f x) :: Cr h (Ag f r) = (j, f x) :: Ag f (Cr h r); rw [ih]
theorem Aeo {nt : Nat} : ∀ (l : List Nat) {s s' : St3}, Aah l s = some s' -> J8 l (s.st nt) = some (s'.st nt)
 | [], s, s', h => by obtain rfl := QA h; rfl
 | k :: r, s, s', h => by
  simp only [Aah] at h
  cases hc : (Nat.blt k 1000 && s.clean k) with
  | false => rw [hc] at h; cases h
  | true =>
   rw [hc] at h; simp only [cond] at h; simp only [QE] at hc; have hcl := hc.2; unfold St3.clean at hcl; simp only [QE, QM] at hcl; have ih := Aeo (nt := nt) r h
   have hd : (s.st nt).delBox k = some (({ s with boxes := Cr k s.boxes } : St3).st nt) := by
    unfold St.delBox
    have h1 : (s.st nt).slots.all (fun p => !p.2.men k) = true := by
     simp only [St3.st, Ag, YL, QM, Function.comp, Vp]; exact hcl.1
    have h2 : Ml k (s.st nt).boxes = true := by
     simp only [Ml, St3.st, Ag, YL, QM, Function.comp, XM, ZL]; intro p hp
     exact .inr (Ain (by simpa using hcl.2 p hp))
    rw [hc.1, h1, h2]
    have hL : ∀ j, j ≠ k -> A3 s.boxes j = A3 (Cr k s.boxes) j := fun j hj => by
     unfold A3; rw [Bc hj]
    simp only [ZF, cond, QD, St3.st]; congr 1
    . exact Ko fun p hp => Vm hL (by simpa using hcl.1 p hp)
    . rw [<- Aep]; congr 1
      exact Ko fun p hp => K5 hL (by simpa using hcl.2 p hp)
   simp only [J8, hd]; exact ih
theorem Tm.dec1_ok {X : Tm} {s : St3} {x : X.den} (h : X.dec1 s = some x) {nt : Nat} {Γ : Ctx} {w : World} {E : Env} {tmps : Array Value} (hs : A6 Γ w E (s.st nt) tmps) : ∃ E', A6 Γ w E' ((X.enc x).st nt) tmps := by
 unfold Tm.dec1 at h; split at h
 . rename_i s2 hd; split at h
   . rename_i a b h1 h2; obtain rfl := QA h
     have hs1 : A6 Γ w E (({ s with slots := Py X.slots s.slots } : St3).st nt) tmps := hs.less fun t y hy => by
      simp only [St3.st, Ae] at hy ⊢; obtain ⟨z, hz, rfl⟩ := QB.1 hy; rw [Tx hz]; rfl
     obtain ⟨E', hs2⟩ := Pa _ hs1 (Aeo _ hd); obtain ⟨b1, b2, b3⟩ := Aes (L := A3 s2.boxes) h2; refine ⟨E', hs2.sub rfl (fun t y hy => ?_) (fun k b' hb => ?_) (fun k b hb => ?_)⟩
     . simp only [Tm.enc, St3.st] at hy; rw [b3] at hy; exact Aeq h1 _ t y hy
     . simp only [Tm.enc, St3.st] at hb; rw [b3] at hb; exact b1 k b' hb
     . simp only [Tm.enc, St3.st]; rw [b3]; exact b2 k b hb
   . cases h
 . cases h
theorem Po {nt : Nat} {Γ : Ctx} {w : World} {tmps : Array Value} : ∀ {l : List (Nat × Sh)} {s s' : St3} {E : Env}, Ij l s = some s' -> A6 Γ w E (s.st nt) tmps -> ∃ E', A6 Γ w E' (s'.st nt) tmps
 | [], s, s', E, h, hs => by
  simp only [Ij, QD] at h; subst h; exact ⟨E, hs⟩
 | (t, sh) :: r, s, s', E, h, hs => by
  have go : ∀ {q}, L4 s t sh = some q -> (bif q.1 then Ij r q.2 else none) = some s' -> ∃ E', A6 Γ w E' (s'.st nt) tmps := by
   rintro ⟨g, s1⟩ h1 h2
   cases g with
   | false => cases h2
   | true =>
    obtain ⟨x', ob, q1, q2⟩ := Pp (nt := nt) h1 rfl
    obtain ⟨E1, hs1⟩ := Dd [(t, x')] (s' := s1.st nt) (obs := ob ++ []) hs (by simp only [E9, q1]) (fun p hp => by simp only [XB] at hp; exact q2 p hp)
    exact Po (l := r) h2 hs1
  simp only [Ij] at h; split at h
  . exact Po (l := r) h hs
  . split at h
    . rename_i hq; exact go hq h
    . cases h
theorem Tm.dec_ok {X : Tm} {s : St3} {x : X.den} (h : X.dec s = some x) {nt : Nat} {Γ : Ctx} {w : World} {E : Env} {tmps : Array Value} (hs : A6 Γ w E (s.st nt) tmps) : ∃ E', A6 Γ w E' ((X.enc x).st nt) tmps := by
 unfold Tm.dec at h; split at h
 . rename_i s1 h1; obtain ⟨E1, hs1⟩ := Po h1 hs; exact Tm.dec1_ok h hs1
 . cases h
end Go.Ev

/- DERIVED. A call that is handed boxes or hands out boxes, decided. -/
namespace Go.Ev
open Go
variable {P : Program} {T : Ty}
def SV.renC (σ : Nat -> Nat) : SV -> SV
 | .hw h => .hw (σ h)
 | .hs h o l => .hs (σ h) o l
 | .hp h r c => .hp (σ h) r c
 | x => x
def SV.renV (σ : Nat -> Nat) : SV -> SV
 | .agg cs => .agg (cs.map (SV.renC σ))
 | x => x.renC σ
def SV.ren3 (σ : Nat -> Nat) : SV -> SV
 | .tup cs => .tup (cs.map (SV.renV σ))
 | x => x.renV σ
def SV.okC (p : Nat -> Bool) : SV -> Bool
 | .hw h => p h
 | .hs h _ _ => p h
 | .hp h _ _ => p h
 | _ => true
def SV.okV (p : Nat -> Bool) : SV -> Bool
 | .agg cs => cs.all (SV.okC p)
 | x => x.okC p
def SV.ok3 (p : Nat -> Bool) : SV -> Bool
 | .tup cs => cs.all (SV.okV p)
 | x => x.okV p
def SV.clC : SV -> Bool
 | .d (.sl _) [] => true
 | .d t _ => t.closed
 | .rf _ => false
 | .dead => false
 | _ => true
def SV.clV : SV -> Bool
 | .agg cs => cs.all SV.clC
 | x => x.clC
def SV.cl3 : SV -> Bool
 | .tup cs => cs.all SV.clV
 | x => x.clV
def B3.cl : B3 -> Bool
 | .arr _ t _ _ => t.closed
 | .rep _ _ _ cs => cs.all SV.clC
 | .var _ _ _ cs => cs.all SV.clC
 | .tree _ t _ _ => t.flat
 | .hole _ _ _ _ _ _ _ => false
def B3.plain : B3 -> Bool
 | .arr _ _ _ _ => true
 | .var _ hf _ cs => hf && cs.all SV.isD
 | .tree _ _ _ _ => true
 | _ => false
section
variable {L L' : Nat -> Nat} {σ : Nat -> Nat} {p : Nat -> Bool}
theorem An1 (hL : ∀ k, p k = true -> L (σ k) = L' k) {x : SV} (ho : x.okC p = true) : (x.renC σ).c L = (x.c L').ren σ := by
 cases x <;> first | rfl | skip; simp only [SV.renC, SV.c, C.ren]; rw [hL _ ho]
theorem Ab8 (hL : ∀ k, p k = true -> L (σ k) = L' k) {x : SV} (ho : x.okV p = true) : (x.renV σ).v L = (x.v L').ren σ := by
 cases x with
 | agg cs =>
  simp only [SV.renV, SV.v, V.ren, XF]; congr 1; exact ZD fun y hy => An1 hL (QM.1 ho y hy)
 | hw h => exact XU V.one (An1 (x := .hw h) hL ho)
 | _ => rfl
theorem B2r (hL : ∀ k, p k = true -> L (σ k) = L' k) {x : SV} (ho : x.ok3 p = true) : (x.ren3 σ).s L = (x.s L').ren σ := by
 cases x with
 | tup cs =>
  simp only [SV.ren3, SV.s, S.ren, XF]; congr 1; exact ZD fun y hy => Ab8 hL (QM.1 ho y hy)
 | hw h => exact XU S.v (Ab8 (x := .hw h) hL ho)
 | agg cs => exact XU S.v (Ab8 (x := .agg cs) hL ho)
 | _ => rfl
theorem B7b {x : SV} (ho : x.okC p = true) : (x.c L).okH p = true := by cases x <;> first | rfl | exact ho
theorem Awz {x : SV} (ho : x.okV p = true) : (x.v L).okH p = true := by
 cases x with
 | agg cs =>
  simp only [SV.v, V.okH, YL, QM, Function.comp]; exact fun y hy => B7b (QM.1 ho y hy)
 | hw h => exact ho
 | hs h o l => exact ho
 | hp h r c => exact ho
 | _ => rfl
theorem B7c {x : SV} (ho : x.ok3 p = true) : (x.s L).okH p = true := by
 cases x with
 | tup cs =>
  simp only [SV.s, S.okH, YL, QM, Function.comp]; exact fun y hy => Awz (QM.1 ho y hy)
 | agg cs => exact Awz (x := .agg cs) ho
 | hw h => exact ho
 | hs h o l => exact ho
 | hp h r c => exact ho
 | _ => rfl
theorem hd1_closed {l : List I} (h : ∀ c ∈ l, IClosed c) : IClosed (hd1 l) := by
 cases l with
 | nil => exact .lit _
 | cons c r => exact h c (by simp)
theorem Jo {x : SV} (h : x.clC = true) : (x.c L).allI IClosed := by
 cases x with
 | d t y =>
  cases t with
  | sl t =>
   cases y with
   | nil => exact .nil _ _ _
   | cons a b => exact hd1_closed (Mk (.sl t) (a :: b) h)
  | _ => exact hd1_closed (Mk _ y h)
 | rf => cases h
 | dead => cases h
 | hw => trivial
 | hs => trivial
 | hp => trivial
 | _ => exact .lit _
theorem S9 {x : SV} (h : x.clV = true) : (x.v L).allI IClosed := by
 cases x with
 | agg cs =>
  simp only [SV.v, V.allI, QK]; intro j c hc; obtain ⟨y, hy, rfl⟩ := QB.1 hc; exact Jo (Eh h hy)
 | d t y => exact Jo (L := L) (x := .d t y) h
 | rf cs => exact Jo (L := L) (x := .rf cs) h
 | hw k => exact Jo (L := L) (x := .hw k) h
 | hs k o l => exact Jo (L := L) (x := .hs k o l) h
 | hp k o l => exact Jo (L := L) (x := .hp k o l) h
 | tup cs => exact Jo (L := L) (x := .tup cs) h
 | dead => exact Jo (L := L) (x := .dead) h
theorem B8i {x : SV} (h : x.cl3 = true) : (x.s L).allI IClosed := by
 cases x with
 | tup cs =>
  simp only [SV.s, S.allI, QK]; intro j c hc; obtain ⟨y, hy, rfl⟩ := QB.1 hc; exact S9 (Eh h hy)
 | dead => trivial
 | d t y => exact S9 (L := L) (x := .d t y) h
 | rf cs => exact S9 (L := L) (x := .rf cs) h
 | hw k => exact S9 (L := L) (x := .hw k) h
 | hs k o l => exact S9 (L := L) (x := .hs k o l) h
 | hp k o l => exact S9 (L := L) (x := .hp k o l) h
 | agg cs => exact S9 (L := L) (x := .agg cs) h
theorem B6x {b : B3} (h : b.cl = true) : ∀ (i : Nat) (q : List C) (j : Nat) (c : C), (b.box L).rows[i]? = some q -> q[j]? = some c -> c.allI fun y => IClosed y \/ ((b.box L).tr = true /\ Sl y) := by
 intro i q j c hq hc
 cases b with
 | hole => cases h
 | tree e t fz xs =>
  simp only [B3.box, QK] at hq; obtain ⟨y, hy, rfl⟩ := QB.1 hq; rw [QK] at hc; obtain ⟨z, hz, rfl⟩ := QB.1 hc; exact .inr ⟨rfl, Anx t y h z (QW hz)⟩
 | arr e t fz xs =>
  simp only [B3.box, QK] at hq; obtain ⟨y, hy, rfl⟩ := QB.1 hq; rw [QK] at hc; obtain ⟨z, hz, rfl⟩ := QB.1 hc; exact .inl (Mk t y h z (QW hz))
 | rep e fz n cs =>
  simp only [B3.box, XN] at hq; split at hq
  . obtain rfl := QA hq; rw [QK] at hc; obtain ⟨z, hz, rfl⟩ := QB.1 hc; exact C.allI_mono (fun _ h => .inl h) (Jo (Eh h hz))
  . cases hq
 | var e hf fz cs =>
  simp only [B3.box] at hq
  cases i with
  | zero =>
   obtain rfl := QA hq; rw [QK] at hc; obtain ⟨z, hz, rfl⟩ := QB.1 hc; exact C.allI_mono (fun _ h => .inl h) (Jo (Eh h hz))
  | succ i => simp at hq
theorem A7f {b : B3} (h : b.plain = true) : b.box L = b.box L' /\ (b.box L).hf = true := by
 cases b with
 | hole => cases h
 | tree => exact ⟨rfl, rfl⟩
 | arr => exact ⟨rfl, rfl⟩
 | rep => cases h
 | var e hf fz cs =>
  simp only [B3.plain, QE] at h
  exact ⟨by simp only [B3.box]; rw [Anv h.2], h.1⟩
end
theorem Se {L L' : Nat -> Nat} {x : SV} (hL : ∀ k, x.menC k = true -> L k = L' k) : x.c L = x.c L' := by
 cases x <;> first | rfl | skip; rename_i k; simp only [SV.c]
 rw [hL k (by simp [SV.menC])]
theorem Yn {L L' : Nat -> Nat} {x : SV} (hL : ∀ k, x.menV k = true -> L k = L' k) : x.v L = x.v L' := by
 cases x with
 | agg cs =>
  simp only [SV.v]; congr 1; exact ZD fun y hy => Se fun k hk => hL k (ZX.2 ⟨y, hy, hk⟩)
 | hw k => exact XU V.one (Se (x := .hw k) hL)
 | _ => rfl
theorem Ab1 {L L' : Nat -> Nat} {x : SV} (hL : ∀ k, x.men k = true -> L k = L' k) : x.s L = x.s L' := by
 cases x with
 | tup cs =>
  simp only [SV.s]; congr 1; exact ZD fun y hy => Yn fun k hk => hL k (ZX.2 ⟨y, hy, hk⟩)
 | hw k => exact XU S.v (Yn (x := .hw k) hL)
 | agg cs => exact XU S.v (Yn (x := .agg cs) hL)
 | _ => rfl
theorem A4b {L L' : Nat -> Nat} {b : B3} (hL : ∀ k, b.men k = true -> L k = L' k) : b.box L = b.box L' := by
 cases b with
 | hole e t fz xs row col k => simp only [B3.box]; rw [hL k (by simp [B3.men])]
 | tree => rfl
 | arr => rfl
 | rep e fz n cs =>
  simp only [B3.box]; rw [ZD fun y hy => Se fun k hk => hL k (ZX.2 ⟨y, hy, hk⟩)]
 | var e hf fz cs =>
  simp only [B3.box]; rw [ZD fun y hy => Se fun k hk => hL k (ZX.2 ⟨y, hy, hk⟩)]
def CK.backs : CK -> List Nat
 | .back j => [j]
 | _ => []
def PK.backs : PK -> List Nat
 | .im _ => []
 | .one c => c.backs
 | .mix cs => cs.flatMap CK.backs
def Ia (f0 : Nat) (ts : List PK) (o : Oper) (s : St3) : Option (Bool × HP ts × List Nat × List (Nat × Nat)) :=
 match o.op with
 | .call c => match c.callee with
  | .value f => match Xh (s.val f) with
   | some (fid, caps) => bif Nat.beq fid f0 then Ky s.boxes 1000 ts (c.args.toList.map s.val ++ caps) else none
   | none => none
  | _ => none
 | _ => none
def Vt (rs : List PK) : List Nat := (Aj 0 rs).map (·.1)
def Ho (E : If) (hb : Nat) (q : List (Nat × Nat)) : List (Nat × Nat) := (Vt E.rs).map (fun k => (k, hb + k)) ++ q
def Cy (E : If) (rn : List (Nat × Nat)) : List Nat := (E.rs.flatMap PK.backs).map (Hv rn)
def Fa (B bs : List (Nat × B3)) (kill : List Nat) : List (Nat × Nat) -> Bool
 | [] => true
 | p :: r => bif kill.any (Nat.beq p.2) then Fa B bs kill r else Nat.beq (A3 B p.1) (A3 bs p.2) && Fa B bs kill r
def Fl (E : If) (hb : Nat) (s : St3) (x : HP E.ts) (bor : List Nat) (q : List (Nat × Nat)) (y : HR E.rs (Aj 1000 E.ts)) : Bool :=
 Eb (Ho E hb q) && Bp (Av E y) (Ho E hb q) && Bp (Ir E x) q && (Ir E x).all (fun p => Nat.ble 1000 p.1) && (Av E y).all (fun p => p.2.plain) &&
 (Vt E.rs).all (fun k => Nat.blt (hb + k) 1000 && (A0 (hb + k) s.boxes).isNone && s.clean (hb + k)) && q.all (fun p => !bor.any (Nat.beq p.2)) &&
 (bor.isEmpty || ((Gd (Bl 0 E.rs (Km y))).cl3 && (Av E y).all (fun p => p.2.cl))) && (Gd (Bl 0 E.rs (Km y))).ok3 (fun k => (A0 k (Av E y)).isSome) &&
 (Cy E (Ho E hb q)).all (fun h => s.boxes.all (fun p => !p.2.men h))
def B1 (E : If) (hb : Nat) (s : St3) (q : List (Nat × Nat)) (y : HR E.rs (Aj 1000 E.ts)) : SV × St3 :=
 ((Gd (Bl 0 E.rs (Km y))).ren3 (Hv (Ho E hb q)),
  ⟨Ag (fun x => bif (Cy E (Ho E hb q)).any (fun h => x.men h) then .dead else x) s.slots, U0 (Av E y) (Ho E hb q) s.boxes⟩)
theorem U3 : ∀ {a b : List (Nat × Nat)}, Eb (a ++ b) = true -> Eb b = true
 | [], _, h => h
 | (k, h') :: r, b, h => U3 (Ji h).2
theorem Tv {B bs : List (Nat × B3)} {kill : List Nat} : ∀ {q : List (Nat × Nat)}, Fa B bs kill q = true -> ∀ p ∈ q, kill.any (Nat.beq p.2) = true \/ A3 B p.1 = A3 bs p.2
 | [], _, p, hp => by cases hp
 | a :: r, h, p, hp => by
  simp only [Fa] at h
  cases hk : kill.any (Nat.beq a.2) with
  | true =>
   rw [hk] at h; rcases QT.1 hp with rfl | hp
   . exact .inl hk
   . exact Tv h p hp
  | false =>
   rw [hk] at h; simp only [cond, QE] at h; rcases QT.1 hp with rfl | hp
   . exact .inr (QC h.1)
   . exact Tv h.2 p hp
theorem C8 {β : Type} {k : Nat} {b : β} {l : List (Nat × β)} (h : A0 k l = some b) : (k, b) ∈ l := C7 h
theorem A9h {E : If} {hb : Nat} {o : Oper} {s s' : St3} {nt : Nat} {x : HP E.ts} {bor : List Nat} {q : List (Nat × Nat)} {y : HR E.rs (Aj 1000 E.ts)} {K : Ai}
  (h : Ia E.f E.ts o s = some (true, x, bor, q)) (hc : Fl E hb s x bor q y = true) (hg : Fa (Av E y) s.boxes (Cy E (Ho E hb q)) q = true) (hF : E.Den P nt x y)
  (hp : (B1 E hb s q y).2.put3 K o.dst (B1 E hb s q y).1 = some s') :
  ∃ D obs, C2 P T K o D (s.st nt) = some (s'.st nt, obs) /\ ∀ p ∈ obs, p := by
 obtain ⟨dst, op, type, pos, aft, guard⟩ := o; unfold Ia at h; simp only at h; split at h
 case h_2 => cases h
 rename_i c; split at h
 case h_2 => cases h
 rename_i f hf; split at h
 case h_2 => cases h
 rename_i fid caps hcal
 cases hcf : Nat.beq fid E.f with
 | false => rw [hcf] at h; cases h
 | true =>
 rw [hcf] at h; simp only [cond] at h; obtain rfl := QC hcf; generalize hrn : Ho E hb q = rn at *; unfold Fl at hc; rw [hrn] at hc; simp only [QE] at hc; obtain ⟨⟨⟨⟨⟨⟨⟨⟨⟨c1, c2⟩, c3⟩, c4⟩, c5⟩, c6⟩, c7⟩, c8⟩, c9⟩, c10⟩ := hc; have hrn' : rn = (Vt E.rs).map (fun k => (k, hb + k)) ++ q := hrn.symm
 have c1q : Eb q = true := U3 (by rw [<- hrn']; exact c1)
 have qrn : ∀ p ∈ q, p ∈ rn := fun p hp => by rw [hrn']; exact QF.2 (.inr hp)
 have fwdm : ∀ k h, (k, h) ∈ rn -> Hv rn k = h /\ Ib rn h = some k /\ A0 k rn = some h := fun k h hm => by
  obtain ⟨e1, e2⟩ := Ls c1 hm
  exact ⟨by unfold Hv; rw [e1], e2, e1⟩
 have outS : ∀ k, (A0 k (Bm (Av E y))).isSome = (A0 k rn).isSome := fun k => by
  unfold Bm; rw [Ae, KT, Em c2 k]
 have inS : ∀ k, (A0 k (Bm (Ir E x))).isSome = (A0 k q).isSome := fun k => by
  unfold Bm; rw [Ae, KT, Em c3 k]
 obtain ⟨⟨ob, a1, a2⟩, a3, a4, a5⟩ := Af1 (hd := fun k h => q.any fun p => Nat.beq p.1 k && Nat.beq p.2 h) (L := A3 (Ir E x)) h rfl
  (fun p hp => ZX.2 ⟨p, hp, by simp⟩) (fun k b hb => by
   have := Tr c3 c1q hb; simp only [A3]
   show (match A0 k (Ir E x) with | some b => b.len | none => 0) = b.len
   rw [this])
 obtain ⟨cs, k1, k2⟩ := A48 (L := A3 s.boxes) hcal
 have hfa : (s.val f).alive = true := B0 fun e => by rw [e] at hcal; cases hcal
 have hfv := B4 (nt := nt) rfl hfa
 have hmap : c.args.toList.map (s.st nt).val ++ cs.map (fun x => S.v (V.one (C.i x))) = (c.args.toList.map s.val ++ caps).map (SV.s (A3 s.boxes)) := by
  rw [JX, k2, XF]; congr 1; exact ZD fun z hz => B4 rfl (a5 _ (QF.2 (.inl (ZP.2 ⟨z, hz, rfl⟩))))
 have blook : ∀ h, A0 h (B1 E hb s q y).2.boxes = match Ib rn h with | some k => A0 k (Av E y) | none => A0 h s.boxes := fun h => by
  have := Y7 (bs := s.boxes) c2 c1 h; rw [<- hrn] at this ⊢; exact this
 have lenk : ∀ k h, (k, h) ∈ rn -> A3 (B1 E hb s q y).2.boxes h = A3 (Av E y) k := fun k h hm => by
  unfold A3; rw [blook h, (fwdm k h hm).2.1]
 have lenS : ∀ h, s.clean h = true \/ (∀ k, Ib rn h = some k -> (k, h) ∈ q /\ (Cy E rn).any (Nat.beq h) = false) -> s.clean h = true \/ A3 (B1 E hb s q y).2.boxes h = A3 s.boxes h := by
  intro h hh; rcases hh with hh | hh
  . exact .inl hh
  . cases hw : Ib rn h with
    | none =>
     right; unfold A3; rw [blook h, hw]
    | some k =>
     obtain ⟨h1, h2⟩ := hh k hw; right; rw [lenk k h (qrn _ h1)]; rcases Tv hg _ h1 with h3 | h3
     . rw [h3] at h2; cases h2
     . exact h3
 have newC : ∀ k h, (k, h) ∈ rn -> (k, h) ∈ q \/ (h < 1000 /\ A0 h s.boxes = none /\ s.clean h = true) := fun k h hm => by
  rw [hrn'] at hm; rcases QF.1 hm with hm | hm
  . obtain ⟨k', hk', e⟩ := ZP.1 hm; obtain ⟨rfl, rfl⟩ := YZ e; have := QM.1 c6 k' hk'; simp only [QE] at this
    exact .inr ⟨by simpa [ZQ] using this.1.1, by simpa using this.1.2, this.2⟩
  . exact .inl hm
 have lenM : ∀ h, (Cy E rn).any (Nat.beq h) = false -> s.clean h = true \/ A3 (B1 E hb s q y).2.boxes h = A3 s.boxes h := fun h hk => by
  cases hw : Ib rn h with
  | none => exact lenS h (.inr fun k e => by rw [hw] at e; cases e)
  | some k =>
   rcases newC k h (Xi hw) with h1 | h1
   . exact lenS h (.inr fun k' e => by rw [hw] at e; obtain rfl := QA e; exact ⟨h1, hk⟩)
   . exact .inl h1.2.2
 have cleanS : ∀ {t : Nat} {z : SV} {h : Nat}, A0 t s.slots = some z -> s.clean h = true -> z.men h = false := fun {t z h} hz hcl => by
  unfold St3.clean at hcl; simp only [QE, QM, ZL] at hcl; exact hcl.1 _ (C8 hz)
 have Ml : ∀ {t : Nat} {z : B3} {h : Nat}, A0 t s.boxes = some z -> s.clean h = true -> z.men h = false := fun {t z h} hz hcl => by
  unfold St3.clean at hcl; simp only [QE, QM, ZL] at hcl; exact hcl.2 _ (C8 hz)
 have hval : (B1 E hb s q y).1.s (A3 (B1 E hb s q y).2.boxes) = ((Gd (Bl 0 E.rs (Km y))).s (A3 (Av E y))).ren (Hv rn) := by
  have : (B1 E hb s q y).1 = (Gd (Bl 0 E.rs (Km y))).ren3 (Hv rn) := by rw [<- hrn]; rfl
  rw [this]; refine B2r (p := fun k => (A0 k (Av E y)).isSome) (fun k hk => ?_) c9; rw [Em c2 k] at hk; obtain ⟨h', hh'⟩ := ZB.1 hk; have hm' := C7 hh'; rw [(fwdm k h' hm').1, lenk k h' hm']
 have hput := O4 (nt := nt) hp; rw [hval] at hput
 let cb : CallB := ⟨E.ts.map PK.isIm, (Bl 1000 E.ts x).map (SV.v (A3 (Ir E x))), (Gd (Bl 0 E.rs (Km y))).s (A3 (Av E y)), Bm (Ir E x), Bm (Av E y), Hv rn, Ib rn, fun k h => q.any fun p => Nat.beq p.1 k && Nat.beq p.2 h, (B1 E hb s q y).2.st nt⟩
 have hok : cb.OK P E.f (s.st nt) bor := by
  refine ⟨hF, fun k h hq => ?_, fun k hk => ?_, fun h k hk => ?_, fun k b hb => ?_, fun k b hb => ?_, ?_, ?_, a3, fun h => ?_, fun t z hz => ?_⟩
  . obtain ⟨p, hp1, hp2⟩ := ZX.1 hq; simp only [QE] at hp2; have e1 := QC hp2.1; have e2 := QC hp2.2
    have hm' : (k, h) ∈ q := by rw [<- e1, <- e2]; exact hp1
    refine ⟨(fwdm k h (qrn _ hm')).1, ?_⟩; show (A0 k (Bm (Ir E x))).isSome = true; rw [inS k, (Ls c1q hm').1]; rfl
  . have hk : (A0 k (Bm (Av E y))).isSome = true := hk; rw [outS k] at hk; obtain ⟨h', hh'⟩ := ZB.1 hk; obtain ⟨e1, e2, _⟩ := fwdm k h' (C7 hh'); show Ib rn (Hv rn k) = some k; rw [e1, e2]
  . have hk : Ib rn h = some k := hk; obtain ⟨e1, e2, e3⟩ := fwdm k h (Xi hk); refine ⟨e1, ?_⟩; show (A0 k (Bm (Av E y))).isSome = true; rw [outS k, e3]; rfl
  . have hb : A0 k (Bm (Ir E x)) = some b := hb; unfold Bm at hb; rw [Ae] at hb; obtain ⟨b3, hb3, rfl⟩ := QB.1 hb; have hmem := C8 hb3; obtain ⟨h', b', i1, i2, i3, i4, i5⟩ := a4 k b3 hmem; obtain ⟨e1, e2, e3⟩ := fwdm k h' (qrn _ i1); have hk := QM.1 c4 _ hmem; have hnb := QM.1 c7 _ i1
    refine ⟨by simpa using hk, ?_, (i5 _).1, (i5 _).2, ?_, ?_⟩
    . show A0 (Hv rn k) (Ag (B3.box (A3 s.boxes)) s.boxes) = _; rw [e1, Ae, i2]; exact XU some (i4 _ _)
    . show Hv rn k ∉ bor; rw [e1]; intro hmb
      have : (bor.any (Nat.beq h')) = true := ZX.2 ⟨h', hmb, by simp⟩
      simp only [this, ZT] at hnb
      cases hnb
    . show (A0 k (Bm (Av E y))).isSome = true; rw [outS k, e3]; rfl
  . have hb : A0 k (Bm (Av E y)) = some b := hb
    have hS : (A0 k (Bm (Av E y))).isSome = true := by rw [hb]; rfl
    rw [outS k] at hS; obtain ⟨h', hh'⟩ := ZB.1 hS; obtain ⟨e1, e2, e3⟩ := fwdm k h' (C7 hh'); unfold Bm at hb; rw [Ae] at hb; obtain ⟨b3, hb3, rfl⟩ := QB.1 hb; refine ⟨(A7f (L' := fun _ => 0) (QM.1 c5 _ (C8 hb3))).2, fun hn => ?_⟩; have hn : A0 k (Bm (Ir E x)) = none := hn; rcases newC k h' (C7 hh') with h1 | ⟨h1, h2, _⟩
    . have : (A0 k (Bm (Ir E x))).isSome = true := by rw [inS k, (Ls c1q h1).1]; rfl
      rw [hn] at this; cases this
    . show A0 (Hv rn k) (Ag _ s.boxes) = none /\ Hv rn k < 1000; rw [e1, Ae, h2]; exact ⟨rfl, h1⟩
  . simp only [XM, YE, QE] at c8; rcases c8 with c8 | ⟨c8, c8'⟩
    . exact .inl c8
    . refine .inr ⟨B8i c8, fun k b hb => ?_⟩; have hb : A0 k (Bm (Av E y)) = some b := hb; unfold Bm at hb; rw [Ae] at hb; obtain ⟨b3, hb3, rfl⟩ := QB.1 hb; exact B6x (QM.1 c8' _ (C8 hb3))
  . have : (fun k => (A0 k (Bm (Av E y))).isSome) = fun k => (A0 k (Av E y)).isSome := by
     funext k; unfold Bm; rw [Ae, KT]
    show S.okH (fun k => (A0 k (Bm (Av E y))).isSome) _ = true; rw [this]; exact B7c c9
  . show A0 h (Ag (B3.box (A3 (B1 E hb s q y).2.boxes)) (B1 E hb s q y).2.boxes) = match Ib rn h with | some k => A0 k (Bm (Av E y)) | none => A0 h (Ag (B3.box (A3 s.boxes)) s.boxes)
    rw [Ae, blook h]
    cases hw : Ib rn h with
    | some k =>
     simp only; unfold Bm; rw [Ae]
     cases hb : A0 k (Av E y) with
     | none => rfl
     | some b3 => exact XU some (A7f (QM.1 c5 _ (C8 hb))).1
    | none =>
     simp only; rw [Ae]
     cases hb : A0 h s.boxes with
     | none => rfl
     | some b3 =>
      refine XU some (A4b fun k hk => ?_)
      cases hki : (Cy E rn).any (Nat.beq k) with
      | true =>
       obtain ⟨k2, hk2, hk3⟩ := ZX.1 hki; obtain rfl := QC hk3; have := QM.1 (QM.1 c10 _ hk2) _ (C8 hb); simp only [hk, ZT] at this
       cases this
      | false =>
       rcases lenM k hki with h1 | h1
       . rw [Ml hb h1] at hk; cases hk
       . exact h1
  . have hz : A0 t (Ag (SV.s (A3 (B1 E hb s q y).2.boxes)) (Ag (fun x => bif (Cy E (Ho E hb q)).any (fun h => x.men h) then .dead else x) s.slots)) = some z := hz
    rw [hrn, Ae, Ae, Option.map_map] at hz; obtain ⟨z0, hz0, rfl⟩ := QB.1 hz; simp only [Function.comp]
    cases hki : (Cy E rn).any (fun h => z0.men h) with
    | true => exact .inl rfl
    | false =>
     right; show A0 t (Ag (SV.s (A3 s.boxes)) s.slots) = _; rw [Ae, hz0]; refine XU some (Ab1 fun k hk => ?_)
     cases hki' : (Cy E rn).any (Nat.beq k) with
     | true =>
      obtain ⟨k2, hk2, hk3⟩ := ZX.1 hki'; obtain rfl := QC hk3; have := XK.1 hki _ hk2; rw [hk] at this; exact absurd rfl this
     | false =>
      rcases lenM k hki' with h1 | h1
      . rw [cleanS hz0 h1] at hk; cases hk
      . exact h1.symm
 refine ⟨{ callB := some cb }, cb.OK P E.f (s.st nt) bor :: ob, ?_, fun p hp => ?_⟩
 . have a1' : Gw cb.hd (s.st nt).box cb.ims (c.args.toList.map (s.st nt).val ++ cs.map fun x => S.v (V.one (C.i x))) cb.args = some (ob, bor) := by
    rw [hmap]; exact a1
   simp only [C2, Aa1, hf, hfv, k1, a1']; have : cb.s'.putD K dst (cb.r.ren cb.σ) = some (s'.st nt) := hput; rw [this]; rfl
 . rcases QT.1 hp with rfl | hp
   . exact hok
   . exact a2 p hp
def onB {α : Type} (K : Ai) (E : If) (hb : Nat) (o : Oper) (s : St3) (x : HP E.ts) (bor : List Nat) (q : List (Nat × Nat)) (y : HR E.rs (Aj 1000 E.ts)) (k : St3 -> Option α) : Option α :=
 bif Fl E hb s x bor q y then bif Fa (Av E y) s.boxes (Cy E (Ho E hb q)) q then (match (B1 E hb s q y).2.put3 K o.dst (B1 E hb s q y).1 with
  | some s' => k s'
  | none => none) else none else none
def O2 {α : Type} (K : Ai) (E : Ent3) (hb : Nat) (o : Oper) (s : St3) (k : St3 -> Option α) : Option α :=
 match Ia E.f E.ts o s with
 | some (g, x, bor, q) => bif g then (match E.m x with
  | some z => I9 (Aj 1000 E.ts) E.forms z fun rs y => onB K ⟨E.f, E.ts, rs⟩ hb o s x bor q y k
  | none => none) else none
 | none => none
theorem Tb {α : Type} {K : Ai} {E : Ent3} {hb : Nat} {o : Oper} {s : St3} {nt : Nat} {k : St3 -> Option α} {r : α} (h : O2 K E hb o s k = some r) (hE : E.Sound P) :
  ∃ s' D obs, C2 P T K o D (s.st nt) = some (s'.st nt, obs) /\ (∀ p ∈ obs, p) /\ k s' = some r := by
 unfold O2 at h; split at h
 . rename_i g x bor q hc
   cases g with
   | false => cases h
   | true =>
    simp only [cond] at h; split at h
    . rename_i z hm; obtain ⟨rs, y, h1, h2⟩ := Kw h (hE nt x z hm); unfold onB at h1
      cases hck : Fl ⟨E.f, E.ts, rs⟩ hb s x bor q y with
      | false => rw [hck] at h1; cases h1
      | true =>
       rw [hck] at h1; simp only [cond] at h1
       cases hl : Fa (Av ⟨E.f, E.ts, rs⟩ y) s.boxes (Cy ⟨E.f, E.ts, rs⟩ (Ho ⟨E.f, E.ts, rs⟩ hb q)) q with
       | false => rw [hl] at h1; cases h1
       | true =>
        rw [hl] at h1; simp only at h1; split at h1
        . rename_i s' hp; obtain ⟨D, obs, q1, q2⟩ := A9h (T := T) (E := ⟨E.f, E.ts, rs⟩) hc hck hl h2 hp; exact ⟨s', D, obs, q1, q2, h1⟩
        . cases h1
    . cases h
 . cases h
end Go.Ev

/- DERIVED. Trees over shapes: the function's own boxes stored into a tree, or appended to it. -/
namespace Go.Ev
open Go
variable {P : Program} {T : Ty}
def Aix (bs : List (Nat × B3)) (h : Nat) : SV -> Option (Bool × SV × List Nat)
 | .hw k => match A0 k bs with
  | some (.arr e sh false ys) => bif Nat.blt k 1000 && !Nat.beq k h && sh.lits && (Nat.beq e Cz && Nat.beq sh.size 1) then some (true, .d (.sl sh) ys, [k]) else none
  | _ => none
 | .d (.sl sh) ys => some (ys.isEmpty, .d (.sl sh) ys, [])
 | .d t x => bif t.one && t.lits then some (true, .d t x, []) else none
 | _ => none
def Ll (bs : List (Nat × B3)) (h : Nat) : List SV -> Option (Bool × List SV × List Nat)
 | [] => some (true, [], [])
 | c :: r => match Aix bs h c, Ll bs h r with
  | some (g, c', ks), some (g', r', ks') => some (g && g', c' :: r', ks ++ ks')
  | _, _ => none
def A4p (bs : List (Nat × B3)) (k : Nat) : I := match A0 k bs with
 | some (.arr _ sh _ ys) => .sl 0 false sh.size (ys.map sh.cells)
 | _ => .any
structure B6y (bs : List (Nat × B3)) (h k : Nat) : Prop where
 lt : k < 1000
 ne : k ≠ h
 at_ : ∃ e sh ys, A0 k bs = some (.arr e sh false ys) /\ sh.lits = true /\ e = Cz /\ sh.size = 1
theorem Atr {L : Nat -> Nat} {bs : List (Nat × B3)} {h : Nat} {c c' : SV} {g : Bool} {ks : List Nat} (hc : Aix bs h c = some (g, c', ks)) (hg : g = true) :
  (c.c L).okT = true /\ c.cellB = true /\ c'.isD = true /\ (c.c L).men h = false /\ ((ks = [] /\ (∀ k, c.menC k = false) /\ c'.c L = c.c L /\ ∃ y, c.c L = .i y) \/ ∃ k, ks = [k] /\ c = .hw k /\ B6y bs h k /\ c'.c L = .i (A4p bs k)) := by
 unfold Aix at hc; split at hc
 . rename_i k; split at hc
   . rename_i e sh ys hl
     cases hb : (Nat.blt k 1000 && !Nat.beq k h && sh.lits && (Nat.beq e Cz && Nat.beq sh.size 1)) with
     | false => rw [hb] at hc; cases hc
     | true =>
      rw [hb] at hc; simp only [cond, QD, QG] at hc; obtain ⟨_, rfl, rfl⟩ := hc; simp only [QE, ZL] at hb; have hne : k ≠ h := Pg hb.1.1.2
      refine ⟨rfl, rfl, rfl, Gb hne, .inr ⟨k, rfl, rfl, ⟨by have := hb.1.1.1; simpa [ZQ] using this, hne, e, sh, ys, hl, hb.1.2, QC hb.2.1, QC hb.2.2⟩, ?_⟩⟩
      simp only [A4p, hl, SV.c, Sh.cells, hd1]
   . cases hc
 . rename_i sh ys; simp only [QD, QG] at hc; obtain ⟨h1, rfl, rfl⟩ := hc
   have : ys = [] := by rw [<- h1] at hg; simpa using hg
   subst this; exact ⟨rfl, rfl, rfl, rfl, .inl ⟨rfl, fun _ => rfl, rfl, _, rfl⟩⟩
 . rename_i t x _
   cases hb : (t.one && t.lits) with
   | false => rw [hb] at hc; cases hc
   | true =>
    rw [hb] at hc; simp only [cond, QD, QG] at hc; obtain ⟨_, rfl, rfl⟩ := hc; simp only [QE] at hb
    have : ∃ v, hd1 (t.cells x) = .lit v := by
     cases hx : t.cells x with
     | nil => have := t.cells_len x; rw [hx] at this; exact ⟨_, rfl⟩
     | cons y r => obtain ⟨v, hv⟩ := A2r t x hb.2 y (by rw [hx]; simp); exact ⟨v, hv⟩
    obtain ⟨v, hv⟩ := this
    refine ⟨by simp only [SV.c, hv]; rfl, hb.1, hb.1, rfl, .inl ⟨rfl, fun _ => rfl, rfl, _, rfl⟩⟩
 . cases hc
theorem Mq {L : Nat -> Nat} {bs : List (Nat × B3)} {h : Nat} : ∀ {cs cs' : List SV} {g : Bool} {ks : List Nat}, Ll bs h cs = some (g, cs', ks) -> g = true -> ks.Nodup ->
  (cs.map (SV.c L)).all C.okT = true /\ cs.all SV.cellB = true /\ (∀ c ∈ cs.map (SV.c L), c.men h = false) /\ (∀ k ∈ ks, B6y bs h k /\ ∃ col, cs[col]? = some (.hw k) /\ ∀ (j : Nat) (c : SV), cs[j]? = some c -> j ≠ col -> c.menC k = false) /\
  (∀ ks', (∀ k ∈ ks, k ∈ ks') -> (cs.map (SV.c L)).map (Nx ks' (A4p bs)) = cs'.map (SV.c L)) /\ (∀ k, k ∉ ks -> ∀ c ∈ cs, c.menC k = false)
 | [], cs', g, ks, hc, _, _ => by
  simp only [Ll, QD, QG] at hc; obtain ⟨_, rfl, rfl⟩ := hc
  exact ⟨rfl, rfl, fun c h => by simp at h, fun k h => by simp at h, fun _ _ => rfl, fun k _ c h => by simp at h⟩
 | c :: r, cs', g, ks, hc, hg, hn => by
  simp only [Ll] at hc; split at hc
  . rename_i g1 c1 k1 g2 r2 k2 h1 h2; simp only [QD, QG] at hc; obtain ⟨rfl, rfl, rfl⟩ := hc; simp only [QE] at hg; obtain ⟨a1, a2, a3, a4, a5⟩ := Atr (L := L) h1 hg.1; obtain ⟨n1, n2, n3⟩ := List.nodup_append.1 hn; obtain ⟨b1, b2, b3, b4, b5, b6⟩ := Mq (L := L) h2 hg.2 n2
    refine ⟨by simp only [QV, XZ, a1, b1, ZF], by simp only [XZ, a2, b2, ZF], fun x hx => ?_, fun k hk => ?_, fun ks' hks => ?_, fun k hk x hx => ?_⟩
    . rcases QT.1 hx with rfl | hx
      . exact a4
      . exact b3 x hx
    . rcases QF.1 hk with hk1 | hk3
      . rcases a5 with ⟨rfl, _⟩ | ⟨k0, rfl, rfl, t0, _⟩
        . simp at hk1
        . obtain rfl : k = k0 := by simpa using hk1
          refine ⟨t0, 0, rfl, fun j x hj hne => ?_⟩
          cases j with
          | zero => exact absurd rfl hne
          | succ j =>
           have hj : r[j]? = some x := by simpa using hj
           exact b6 k (fun hk2 => n3 k (by simp) k hk2 rfl) x (QW hj)
      . obtain ⟨t0, col, q1, q2⟩ := b4 k hk3
        refine ⟨t0, col + 1, by simpa using q1, fun j x hj hne => ?_⟩
        cases j with
        | zero =>
         obtain rfl : c = x := by simpa using hj
         rcases a5 with ⟨_, hm, _⟩ | ⟨k0, rfl, rfl, _, _⟩
         . exact hm k
         . exact Gb fun e => n3 k0 (by simp) k hk3 e
        | succ j => exact q2 j x (by simpa using hj) (by omega)
    . simp only [QV]
      rw [b5 ks' fun k hk => hks k (by simp [hk])]
      congr 1; rcases a5 with ⟨_, _, e1, y, e2⟩ | ⟨k0, rfl, rfl, _, e1⟩
      . rw [e1, e2]; rfl
      . rw [e1]
        have : ks'.any (Nat.beq k0) = true := ZX.2 ⟨k0, hks k0 (by simp), XD k0⟩
        simp only [SV.c, Nx, this, cond]
    . rcases QT.1 hx with rfl | hx
      . rcases a5 with ⟨_, hm, _⟩ | ⟨k0, rfl, rfl, _, _⟩
        . exact hm k
        . exact Gb fun e => hk (by simp [e])
      . exact b6 k (fun h => hk (by simp [h])) x hx
  . cases hc
def Jw : List Nat -> Bool
 | [] => true
 | k :: r => !r.any (Nat.beq k) && Jw r
theorem Jv : ∀ {l : List Nat}, Jw l = true -> l.Nodup
 | [], _ => List.nodup_nil
 | k :: r, h => by
  simp only [Jw, QE, ZL] at h
  exact YU.2 ⟨fun hk => by have := XK.1 h.1 k hk; simp at this, Jv h.2⟩
def Gc (ks : List Nat) (sl : List (Nat × SV)) : List (Nat × SV) := Ag (fun x => bif ks.any (fun k => x.men k) then .dead else x) sl
def Pb (h : Nat) (skip ks : List Nat) (bs : List (Nat × B3)) : Bool := bs.all fun p => Nat.beq p.1 h || skip.any (Nat.beq p.1) || ks.all fun k => !p.2.men k
def Pk (T : Ty) (o : Oper) (s : St3) : Option (Bool × St3) :=
 match o.op, o.dst with
 | .store t a x, none => match T t, s.val a, s.val x with
  | some ti, .hp h row 0, .agg cs => match A0 h s.boxes with
   | some (.tree e sh false xs) => match Ll s.boxes h cs with
    | some (g, cs', ks) => match sh.all false cs' with
     | some y => bif Nat.beq ti.size sh.size && SV.fits3 ti (.agg cs) && Jw ks && Pb h [] (h :: ([] ++ ks)) s.boxes then
       some (g && decide (row < xs.length), { slots := Gc ks s.slots, boxes := Af h (.tree e sh false (xs.set row y)) (H9 ks s.boxes) }) else none
     | none => none
    | none => none
   | _ => none
  | _, _, _ => none
 | _, _ => none
theorem Nl {L : Nat -> Nat} {b : B3} {k : Nat} (hb : b.men k = false) : ∀ (i : Nat) (r : List C) (j : Nat) (c : C), (b.box L).rows[i]? = some r -> r[j]? = some c -> c.men k = false := by
 have lst : ∀ (cs : List SV), cs.any (SV.menC k) = false -> ∀ (j : Nat) (c : C), (cs.map (SV.c L))[j]? = some c -> c.men k = false := by
  intro cs h j c hj; rw [QK] at hj; obtain ⟨x, hx, rfl⟩ := QB.1 hj; rw [O8]; exact Fp h hx
 intro i r j c hi hj
 cases b with
 | hole e t fz xs row col k0 =>
  have hm : (B3.hole e t fz xs row col k0 |>.box L).men k = false := Ain hb; simp only [Box.men] at hm; have := XK.1 hm r (QW hi); simp only [ZX, not_exists, not_and, Qag] at this; exact this c (QW hj)
 | arr e t fz xs =>
  simp only [B3.box, QK] at hi; obtain ⟨x, _, rfl⟩ := QB.1 hi; rw [QK] at hj; obtain ⟨y, _, rfl⟩ := QB.1 hj; rfl
 | tree e t fz xs =>
  simp only [B3.box, QK] at hi; obtain ⟨x, _, rfl⟩ := QB.1 hi; rw [QK] at hj; obtain ⟨y, _, rfl⟩ := QB.1 hj; rfl
 | rep e fz n cs =>
  simp only [B3.box, XN] at hi; split at hi
  . obtain rfl := QA hi; exact lst cs hb j c hj
  . cases hi
 | var e hf fz cs =>
  simp only [B3.box] at hi
  cases i with
  | zero => obtain rfl := QA hi; exact lst cs hb j c hj
  | succ i => simp at hi
theorem K4 {h : Nat} {skip ks : List Nat} {bs : List (Nat × B3)} (hc : Pb h skip ks bs = true) {j : Nat} {b : B3} (hj : A0 j bs = some b) (h1 : j ≠ h) (h2 : j ∉ skip) : ∀ k ∈ ks, b.men k = false := by
 intro k hk; have := QM.1 hc _ (C8 hj); simp only [XM, QM, ZL] at this; rcases this with (h3 | h3) | h3
 . exact absurd (QC h3) h1
 . obtain ⟨x, hx, he⟩ := ZX.1 h3; exact absurd (QC he ▸ hx) h2
 . exact h3 k hk
theorem Xw {s s' : St3} {nt : Nat} {S1 : St} {h row : Nat} {e : TypeId} {sh : Sh} {xs' : List sh.den} {y : sh.den} {cs cs' : List SV} {g0 : Bool} {ks dl : List Nat} {hf1 : Bool} {rows1 : List (List C)}
  (hn : S1.nt = nt) (hsl : ∀ t x, A0 t (s'.st nt).slots = some x -> x = .dead \/ A0 t S1.slots = some x) (hm : ∀ k ∈ dl ++ ks, ∀ t x, A0 t (s'.st nt).slots = some x -> x.men k = false)
  (hb1 : A0 h S1.boxes = some ⟨e, sh.size, hf1, false, rows1, true⟩) (hrow : rows1[row]? = some (cs.map (SV.c (A3 s.boxes))))
  (hoth : ∀ (i : Nat) (q : List C) (j : Nat) (c : C), i ≠ row -> rows1[i]? = some q -> q[j]? = some c -> ∃ y, c = .i y)
  (hj : ∀ j, j ≠ h -> A0 j S1.boxes = (A0 j s.boxes).map (B3.box (A3 s.boxes)))
  (ht : Ll s.boxes h cs = some (g0, cs', ks)) (hg : g0 = true) (hnd : Jw ks = true) (hy : sh.all false cs' = some y)
  (hdl : ∀ k ∈ dl, k < 1000 /\ k ≠ h /\ k ∉ ks) (hd1 : dl.length <= 1) (hcl : Pb h dl (h :: (dl ++ ks)) s.boxes = true)
  (hs' : s'.boxes = Af h (.tree e sh false xs') (H9 (dl ++ ks) s.boxes)) (hxs : rows1.set row ((sh.cells y).map .i) = xs'.map fun x => (sh.cells x).map .i)
  (hself : ∀ (i : Nat) (r : List C) (j : Nat) (c : C), rows1[i]? = some r -> r[j]? = some c -> ∀ k ∈ dl, c.men k = false) : Cu S1 (s'.st nt) := by
 obtain ⟨f1, f2, f3, f4, f5, f6⟩ := Mq (L := A3 s.boxes) ht hg (Jv hnd); obtain ⟨y1, _, _, _⟩ := C9 hy
 let b1 : Box := ⟨e, sh.size, hf1, false, rows1, true⟩
 let S2 : St := { S1 with slots := (s'.st nt).slots }
 have w1 : Cu S1 S2 := De rfl hsl fun _ => rfl
 have w2 : Cu S2 { S2 with boxes := H9 dl S1.boxes } := by
  rcases dl with _ | ⟨k, _ | ⟨k2, r⟩⟩
  . exact De rfl (fun t x hx => .inr hx) fun _ => rfl
  . refine Atk (s := S2) (hdl k (by simp)).1 (fun t x hx => hm k (by simp) t x hx) (fun j b hjk hb => ?_)
    by_cases e1 : j = h
    . subst e1; rw [show A0 j S2.boxes = some b1 from hb1] at hb; obtain rfl := QA hb
      exact fun i r j' c hi hc => hself i r j' c hi hc k (by simp)
    . rw [show A0 j S2.boxes = _ from hj j e1] at hb; obtain ⟨b3, hb3, rfl⟩ := QB.1 hb
      exact Nl (K4 hcl hb3 e1 (by simpa using hjk) k (by simp))
  . simp at hd1
 let S3 : St := { S2 with boxes := H9 dl S1.boxes }
 have hdl' : ∀ k ∈ dl, ∀ j, j ∈ ks -> j ≠ k := fun k hk j hj e => (hdl k hk).2.2 (e ▸ hj)
 have l3 : ∀ j, A0 j S3.boxes = bif dl.any (Nat.beq j) then none else A0 j S1.boxes := fun j => Dl dl _ j
 have nodl : ∀ j, j ∉ dl -> dl.any (Nat.beq j) = false := fun j hj => XK.2 fun x hx => by
  intro e; exact hj (QC e ▸ hx)
 have hdlh : h ∉ dl := fun hh => (hdl h hh).2.1 rfl
 have ok : Ami S3 h row b1 (cs.map (SV.c (A3 s.boxes))) ks (A4p s.boxes) := by
  refine ⟨by rw [l3, nodl h hdlh]; exact hb1, rfl, hrow, hoth, Jv hnd, fun k hk => ?_, fun k hk => hm k (by simp [hk]), fun k hk i b' h1 h2 hl => ?_⟩
  . obtain ⟨⟨t1, t2, e', sh', ys, t3, t4, t5, t6⟩, col, q1, q2⟩ := f4 k hk; have hkd : k ∉ dl := fun hh => hdl' k hh k hk rfl
    refine ⟨t2, t1, (B3.arr e' sh' false ys).box (A3 s.boxes), ys.map sh'.cells, col, A3 s.boxes k, by rw [l3, nodl k hkd]; show A0 k S1.boxes = _; rw [hj k t2, t3]; rfl, rfl, rfl, by rw [QK, q1]; rfl, by simp [A3, t3, B3.len, B3.box], by simp only [B3.box, XF]; rfl, fun i q j z hi hz => ?_, by simp only [A4p, t3, B3.box], (fun j c hjj hne => ?_), t5, t6⟩
    . rw [QK] at hi; obtain ⟨u, _, rfl⟩ := QB.1 hi; exact A2r sh' u t4 z (QW hz)
    . rw [QK] at hjj; obtain ⟨u, hu, rfl⟩ := QB.1 hjj; rw [O8]; exact q2 j u hu hne
  . rw [l3] at hl; by_cases e1 : i ∈ dl
    . have : dl.any (Nat.beq i) = true := ZX.2 ⟨i, e1, XD i⟩; rw [this] at hl; cases hl
    . rw [nodl i e1] at hl; rw [show A0 i S1.boxes = _ from hj i h2] at hl; obtain ⟨b3, hb3, rfl⟩ := QB.1 hl
      exact Nl (K4 hcl hb3 h2 e1 k (by simp [hk]))
 have w3 := Ait ks ok
 have er : (cs.map (SV.c (A3 s.boxes))).map (Nx ks (A4p s.boxes)) = (sh.cells y).map .i := by rw [f5 ks fun _ h => h, y1 (A3 s.boxes)]
 rw [er] at w3; have hrow' : b1.rows.set row ((sh.cells y).map .i) = xs'.map fun x => (sh.cells x).map .i := hxs; rw [hrow'] at w3
 refine w1.trans (w2.trans (w3.trans ((Axx (h := h) (b := ⟨e, sh.size, bif ks.isEmpty then hf1 else false, false, xs'.map fun x => (sh.cells x).map .i, true⟩) (A7 _ _ _) (fun i r j c hi hc => ?_)).trans (De hn.symm (fun t x hx => .inr hx) fun j => ?_))))
 . rw [QK] at hi; obtain ⟨x, _, rfl⟩ := QB.1 hi; rw [QK] at hc; obtain ⟨z, _, rfl⟩ := QB.1 hc; exact ⟨z, rfl⟩
 . show A0 j (Ag (B3.box (A3 s'.boxes)) s'.boxes) = A0 j (Af h _ (Af h _ (H9 ks S3.boxes))); rw [Ae, hs']; by_cases e1 : j = h
   . subst e1; rw [A7, A7]; rfl
   . rw [A9 _ _ e1, A9 _ _ e1, A9 _ _ e1, Dl, Dl, l3]; rw [List.any_append]
     cases hd : dl.any (Nat.beq j) with
     | true => cases ks.any (Nat.beq j) <;> rfl
     | false =>
      cases hk : ks.any (Nat.beq j) with
      | true => rfl
      | false =>
       show (A0 j s.boxes).map _ = A0 j S1.boxes; rw [hj j e1]
       cases hl : A0 j s.boxes with
       | none => rfl
       | some b3 =>
        simp only [QR]; congr 1
        have hjd : j ∉ dl := fun hh => by
         have := XK.1 hd j hh; simp at this
        refine A4b fun k hk2 => ?_
        have hkn : k ∉ dl ++ ks := fun hh => by rw [K4 hcl hl e1 hjd k (by simp only [QT]; exact .inr hh)] at hk2; cases hk2
        have hka : (dl ++ ks).any (Nat.beq k) = false := XK.2 fun x hx e => hkn (QC e ▸ hx); by_cases e2 : k = h
        . subst e2
          rw [K4 hcl hl e1 hjd k (by simp)] at hk2; cases hk2
        . simp only [A3]; rw [A9 _ _ e2, Dl, hka]; rfl
theorem G0 {L L' : Nat -> Nat} {ks : List Nat} {sl : List (Nat × SV)} (hL : ∀ k, k ∉ ks -> L' k = L k) {t : Nat} {x : S} (h : A0 t (Ag (SV.s L') (Gc ks sl)) = some x) :
  x = .dead \/ ∃ sv, A0 t sl = some sv /\ x = sv.s L /\ ∀ k ∈ ks, sv.men k = false := by
 rw [Ae] at h; obtain ⟨z, hz, rfl⟩ := QB.1 h; unfold Gc at hz; rw [Ae] at hz; obtain ⟨sv, hsv, rfl⟩ := QB.1 hz
 cases hc : ks.any (fun k => sv.men k) with
 | true => exact .inl rfl
 | false =>
  have hno : ∀ k ∈ ks, sv.men k = false := fun k hk => by
   have := XK.1 hc k hk; simpa using this
  refine .inr ⟨sv, hsv, ?_, hno⟩; simp only [cond]
  exact Ab1 fun k hk => hL k fun hh => by rw [hno k hh] at hk; cases hk
theorem Aj1 {r cs : List C} (h : r.length = cs.length) : By r 0 cs = cs := by
 unfold By
 rw [List.take_zero, KJ, XR, ZE (by omega), XB]
theorem A9o (hT : Ap P T) {K : Ai} {o : Oper} {s s' : St3} {nt : Nat} {g : Bool} (h : Pk T o s = some (g, s')) (hg : g = true) : C4 P K o (s.st nt) (s'.st nt) := by
 unfold Pk at h; split at h
 . rename_i t a x hop hdst; split at h
   . rename_i ti hh row cs hti ha hx; split at h
     . rename_i e sh xs hl; split at h
       . rename_i g1 cs' ks ht; split at h
         . rename_i y hy
           cases hc : (Nat.beq ti.size sh.size && SV.fits3 ti (.agg cs) && Jw ks && Pb hh [] (hh :: ([] ++ ks)) s.boxes) with
           | false => rw [hc] at h; cases h
           | true =>
            rw [hc] at h; simp only [cond, QD, QG] at h; obtain ⟨h1, rfl⟩ := h; rw [hg] at h1; simp only [QE, QQ] at h1 hc; obtain ⟨hg1, hrl⟩ := h1; obtain ⟨⟨⟨c1, c2⟩, c3⟩, c4⟩ := hc; have c1 := QC c1; obtain ⟨f1, f2, f3, f4, f5, f6⟩ := Mq (L := A3 s.boxes) ht hg1 (Jv c3); have hva : (s.st nt).val a = .v (.one (.hp hh row 0)) := B4 ha rfl; have hvx : (s.st nt).val x = .v (.agg (cs.map (SV.c (A3 s.boxes)))) := B4 hx rfl
            let r0 : List C := (sh.cells (xs.getD row sh.dflt)).map .i
            have hr0 : ((B3.tree e sh false xs).box (A3 s.boxes)).rows[row]? = some r0 := by
             simp only [B3.box, QK, QN hrl, QR, r0, QH, XO]
            have hbx : (s.st nt).box hh = some ((B3.tree e sh false xs).box (A3 s.boxes)) := by
             show A0 hh (Ag (B3.box (A3 s.boxes)) s.boxes) = _; rw [Ae, hl]; rfl
            have hfit : (V.agg (cs.map (SV.c (A3 s.boxes)))).fits ti = true := by
             have := Lw (L := A3 s.boxes) (ti := ti) (x := .agg cs); rw [c2] at this; exact this
            have hcl : (cs.map (SV.c (A3 s.boxes))).length = sh.size := by
             have := A7r hfit; simp only [V.cells] at this; rw [this, c1]
            have hsp : By r0 0 (cs.map (SV.c (A3 s.boxes))) = cs.map (SV.c (A3 s.boxes)) := Aj1 (by rw [hcl]; simp [r0, Sh.cells_len])
            let b1 : Box := { (B3.tree e sh false xs).box (A3 s.boxes) with hf := ((B3.tree e sh false xs).box (A3 s.boxes)).hf && (cs.map (SV.c (A3 s.boxes))).all Br, rows := ((B3.tree e sh false xs).box (A3 s.boxes)).rows.set row (cs.map (SV.c (A3 s.boxes))) }
            have hcore : Cf T (some r0) o (s.st nt) = some ⟨.dead, .set hh b1, [((B3.tree e sh false xs).box (A3 s.boxes)).rows[row]? = some r0]⟩ := by
             unfold Cf; rw [hop]; simp only [Hh, hti, hva, hvx, hbx]
             have hcnd : (Nat.ble (0 + ti.size) ((B3.tree e sh false xs).box (A3 s.boxes)).sz && (V.agg (cs.map (SV.c (A3 s.boxes)))).fits ti && !((B3.tree e sh false xs).box (A3 s.boxes)).fz && (!((B3.tree e sh false xs).box (A3 s.boxes)).tr || (V.agg (cs.map (SV.c (A3 s.boxes)))).cells.all C.okT)) = true := by
              simp only [hfit, V.cells, f1, B3.box, XR, c1, Nat.ble_eq_true_of_le (ZA _), ZF, ZY, Bool.or_true]
             rw [hcnd]; simp only [cond, V.cells, hsp]; rfl
            have hstep : C2 P T K o { cells := some r0 } (s.st nt) = some ({ s.st nt with boxes := Af hh b1 (s.st nt).boxes }, [((B3.tree e sh false xs).box (A3 s.boxes)).rows[row]? = some r0] ++ [] ++ []) := by
             unfold C2; simp only [hcore, St.eff, St.putD, hdst, QR]
            refine (Ch hT hstep (fun p hp => by
             rcases QF.1 hp with hp | hp
             . rcases QF.1 hp with hp | hp
               . rw [QO.1 hp]; exact hr0
               . cases hp
             . cases hp)).weak ?_
            have hrow : row < ((B3.tree e sh false xs).box (A3 s.boxes)).rows.length := by simpa [B3.box] using hrl
            have hL : ∀ k, k ∉ ks -> A3 (Af hh (.tree e sh false (xs.set row y)) (H9 ks s.boxes)) k = A3 s.boxes k := by
             intro k hk; unfold A3; by_cases e1 : k = hh
             . subst e1; rw [A7, hl]; simp [B3.len]
             . rw [A9 _ _ e1, Dl]; have : ks.any (Nat.beq k) = false := XK.2 fun z hz e2 => hk (QC e2 ▸ hz); rw [this]; rfl
            refine Xw (dl := []) (h := hh) (row := row) (e := e) (sh := sh) (y := y) (cs := cs) (cs' := cs') (ks := ks) (hf1 := b1.hf) (rows1 := b1.rows) (xs' := xs.set row y) rfl (fun t z hz => ?_) (fun k hk t z hz => ?_) (A7 _ _ _) (by show (_ : List (List C))[row]? = _; exact XC hrow) (fun i q j c hi hq hc => ?_) (fun j hj => ?_) ht hg1 c3 hy (fun k hk => by simp at hk) (by simp) c4 rfl ?_ (fun _ _ _ _ _ _ k hk => by simp at hk)
            . rcases G0 hL hz with rfl | ⟨sv, h2, rfl, _⟩
              . exact .inl rfl
              . refine .inr ?_; show A0 t (Ag (SV.s (A3 s.boxes)) s.slots) = _; rw [Ae, h2]; rfl
            . rcases G0 hL hz with rfl | ⟨sv, h2, rfl, h3⟩
              . rfl
              . rw [Vp]; exact h3 k (by simpa using hk)
            . have hq : (((B3.tree e sh false xs).box (A3 s.boxes)).rows.set row (cs.map (SV.c (A3 s.boxes))))[i]? = some q := hq; rw [XG (Ne.symm hi)] at hq; simp only [B3.box, QK] at hq; obtain ⟨u, _, rfl⟩ := QB.1 hq; rw [QK] at hc; obtain ⟨z, _, rfl⟩ := QB.1 hc; exact ⟨z, rfl⟩
            . show A0 j (Af hh b1 (Ag (B3.box (A3 s.boxes)) s.boxes)) = _; rw [A9 _ _ hj, Ae]
            . show (((B3.tree e sh false xs).box (A3 s.boxes)).rows.set row _).set row _ = _; rw [Qam]; simp only [B3.box, Qao]
         . cases h
       . cases h
     . cases h
   . cases h
 . cases h
def B2j : SV -> Option Nat
 | .hs tb 0 1 => some tb
 | .hw tb => some tb
 | _ => none
def Yp (T : Ty) (K : Ai) (o : Oper) (s : St3) : Option (Bool × St3) :=
 match o.op, o.dst with
 | .call c, some kd => match c.callee, c.args.toList, c.argTypes.toList with
  | .builtin .append, [x, y], [t, t'] => match s.val x, B2j (s.val y), Ty.d T t with
   | .hw h, some tb, some (.slice e2) => match A0 h s.boxes, A0 tb s.boxes, T e2 with
    | some (.tree e sh false xs), some (.var _ _ _ cs), some ei => match Ll s.boxes h cs with
     | some (g, cs', ks) => match sh.all false cs' with
      | some z => bif Nat.beq t t' && Nat.beq e e2 && Nat.beq ei.size sh.size && Nat.ble 1 ei.size && Nat.ble 1 ei.bytes && Nat.blt h 1000 && Nat.blt tb 1000 && !Nat.beq tb h && !ks.any (Nat.beq tb) && Jw ks && Nat.beq cs.length sh.size && Pb h [tb] (h :: ([tb] ++ ks)) s.boxes && Nat.blt kd K.N then
        some (g && decide ((xs.length + 1) * ei.bytes <= 140737488355328), { slots := Af kd (.hw h) (Gc (h :: ([tb] ++ ks)) s.slots), boxes := Af h (.tree e sh false (xs ++ [z])) (H9 ([tb] ++ ks) s.boxes) }) else none
      | none => none
     | none => none
    | _, _, _ => none
   | _, _, _ => none
  | _, _, _ => none
 | _, _ => none
theorem A7n {b : Box} {h : Nat} (hb : ∀ (i : Nat) (r : List C) (j : Nat) (c : C), b.rows[i]? = some r -> r[j]? = some c -> c.men h = false) : b.kill h = b := by
 cases hf : b.hf with
 | true => exact In hf
 | false =>
  have e : b.kill h = { b with rows := b.rows.map fun r => r.map fun c => bif c.men h then .i .any else c } := by unfold Box.kill; rw [hf]; rfl
  have : (b.rows.map fun r => r.map fun c => bif c.men h then C.i .any else c) = b.rows := by
   refine (ZD fun r hr => ?_).trans (List.map_id _); refine (ZD fun c hc => ?_).trans (List.map_id _); obtain ⟨i, hi⟩ := Qai.1 hr; obtain ⟨j, hj⟩ := Qai.1 hc; rw [hb i r j c hi hj]; rfl
  rw [e, this]
theorem Ax3 {α : Type} {a : Array α} {x y : α} (h : a.toList = [x, y]) : a = #[x, y] := JL h
theorem Afl (hT : Ap P T) {K : Ai} {o : Oper} {s s' : St3} {nt : Nat} {g : Bool} (h : Yp T K o s = some (g, s')) (hg : g = true) : C4 P K o (s.st nt) (s'.st nt) := by
 unfold Yp at h; split at h
 . rename_i c kd hop hdst; split at h
   . rename_i x y t t' hcal hargs htys; split at h
     . rename_i hh tb e2 hx hsrc hd; split at h
       . rename_i e sh xs e' hf' fz' cs ei hl hlt hei; split at h
         . rename_i g1 cs' ks ht; split at h
           . rename_i z hy
             cases hc : (Nat.beq t t' && Nat.beq e e2 && Nat.beq ei.size sh.size && Nat.ble 1 ei.size && Nat.ble 1 ei.bytes && Nat.blt hh 1000 && Nat.blt tb 1000 && !Nat.beq tb hh && !ks.any (Nat.beq tb) && Jw ks && Nat.beq cs.length sh.size && Pb hh [tb] (hh :: ([tb] ++ ks)) s.boxes && Nat.blt kd K.N) with
             | false => rw [hc] at h; cases h
             | true =>
              rw [hc] at h; simp only [cond, QD, QG] at h; obtain ⟨h1, rfl⟩ := h; rw [hg] at h1; simp only [QE, QQ, ZL] at h1 hc; obtain ⟨hg1, hby⟩ := h1; obtain ⟨⟨⟨⟨⟨⟨⟨⟨⟨⟨⟨⟨k1, k2⟩, k3⟩, k4⟩, k5⟩, k6⟩, k7⟩, k8⟩, k9⟩, k10⟩, k11⟩, k12⟩, k13⟩ := hc; obtain rfl := QC k1; obtain rfl := QC k2; have k3 := QC k3; have k4 := ZV k4; have k5 := ZV k5
              have k6 : hh < 1000 := by simpa [ZQ] using k6
              have k7 : tb < 1000 := by simpa [ZQ] using k7
              have k8 : tb ≠ hh := Pg k8
              have k9 : tb ∉ ks := fun hk => by have := XK.1 k9 tb hk; simp at this
              have k11 := QC k11; obtain ⟨f1, f2, f3, f4, f5, f6⟩ := Mq (L := A3 s.boxes) ht hg1 (Jv k10)
              have hlh : A3 s.boxes hh = xs.length := by simp [A3, hl, B3.len]
              have hlt1 : A3 s.boxes tb = 1 := by simp [A3, hlt, B3.len]
              have hva : (s.st nt).val x = .v (.one (.hs hh 0 xs.length)) := by rw [B4 hx rfl, <- hlh]; rfl
              have hvy : (s.st nt).val y = .v (.one (.hs tb 0 1)) := by
               unfold B2j at hsrc; split at hsrc
               . rename_i hv; obtain rfl := QA hsrc; exact B4 hv rfl
               . rename_i hv; obtain rfl := QA hsrc; rw [B4 hv rfl, <- hlt1]; rfl
               . cases hsrc
              let b : Box := (B3.tree e sh false xs).box (A3 s.boxes)
              let row : List C := cs.map (SV.c (A3 s.boxes))
              let b1 : Box := { b with hf := row.all Br, rows := b.rows ++ [row] }
              have hb : A0 hh (s.st nt).boxes = some b := by
               show A0 hh (Ag (B3.box (A3 s.boxes)) s.boxes) = _; rw [Ae, hl]; rfl
              have hbl : b.rows.length = xs.length := by simp [b, B3.box]
              let X : S := .v (.one (.hs hh 0 (xs.length + 1)))
              let S1 : St := { (s.st nt).app hh b1 with slots := Af kd X ((s.st nt).app hh b1).slots }
              have hput : ((s.st nt).app hh b1).putD K o.dst X = some S1 := by
               rw [hdst]; simp only [St.putD, k13, cond]; rfl
              have hden : C4 P K o (s.st nt) S1 := by
               refine C4.of hput fun Γ w E a hK hs => ?_; have hvv := hs.val_sound x; have hvu := hs.val_sound y; rw [hva] at hvv; rw [hvy] at hvu
               have hbt : A0 tb (s.st nt).boxes = some ((B3.var e' hf' fz' cs).box (A3 s.boxes)) := by
                show A0 tb (Ag (B3.box (A3 s.boxes)) s.boxes) = _; rw [Ae, hlt]; rfl
               obtain ⟨u', w', E', e1, e2, e3⟩ := Awo (P := P) (ty := o.type) hT hs hd hei k4 k5 hvv hb (by show sh.size = _; exact k3.symm) rfl rfl rfl rfl hbl.symm hvu hbt (by show cs.length = _; rw [k11, k3]) rfl (row := row) rfl f1 f3 hby (.inl k6)
               refine ⟨_, u', w', E', ?_, .inl rfl, e2, e3⟩; obtain ⟨dst, op, type, pos, after, guard⟩ := o; simp only at hop; subst hop; obtain ⟨callee, args, argTypes⟩ := c; simp only at hcal hargs htys; subst hcal; obtain rfl := Ax3 hargs; obtain rfl := Ax3 htys; simp [execOp, resolve, invoke, builtin, e1]
              refine hden.weak ?_
              have hL : ∀ k, k ∉ hh :: ([tb] ++ ks) -> A3 (Af hh (.tree e sh false (xs ++ [z])) (H9 ([tb] ++ ks) s.boxes)) k = A3 s.boxes k := by
               intro k hk; simp only [QT, not_or] at hk; unfold A3; rw [A9 _ _ hk.1, Dl]; have : ([tb] ++ ks).any (Nat.beq k) = false := XK.2 fun q hq e2 => hk.2 (QC e2 ▸ hq); rw [this]; rfl
              have hLh : A3 (Af hh (.tree e sh false (xs ++ [z])) (H9 ([tb] ++ ks) s.boxes)) hh = xs.length + 1 := by
               unfold A3; rw [A7]; simp [B3.len]
              have slot : ∀ t' q, A0 t' (Ag (SV.s (A3 (Af hh (.tree e sh false (xs ++ [z])) (H9 ([tb] ++ ks) s.boxes)))) (Af kd (.hw hh) (Gc (hh :: ([tb] ++ ks)) s.slots))) = some q -> (t' = kd /\ q = X) \/ (t' ≠ kd /\ (q = .dead \/ ∃ sv, A0 t' s.slots = some sv /\ q = sv.s (A3 s.boxes) /\ ∀ k ∈ hh :: ([tb] ++ ks), sv.men k = false)) := by
               intro t' q hq; rw [<- Ct] at hq; by_cases e1 : t' = kd
               . subst e1; rw [A7] at hq; refine .inl ⟨rfl, ?_⟩; rw [<- QA hq]; show S.v (.one (.hs hh 0 _)) = _; rw [hLh]
               . rw [A9 _ _ e1] at hq; exact .inr ⟨e1, G0 hL hq⟩
              refine Xw (dl := [tb]) (h := hh) (row := xs.length) (e := e) (sh := sh) (y := z) (cs := cs) (cs' := cs') (ks := ks) (hf1 := row.all Br) (rows1 := b.rows ++ [row]) (xs' := xs ++ [z]) rfl (fun t' q hq => ?_) (fun k hk t' q hq => ?_) (A7 _ _ _) (by rw [QY (by omega), hbl]; simp; rfl) (fun i q j c' hi hq hc' => ?_) (fun j hj => ?_) ht hg1 k10 hy (fun k hk => by obtain rfl := QO.1 hk; exact ⟨k7, k8, k9⟩) (by simp) k12 rfl ?_ (fun i r j c' hi hc' k hk => ?_)
              . rcases slot t' q hq with ⟨rfl, rfl⟩ | ⟨hne, rfl | ⟨sv, h2, rfl, h3⟩⟩
                . exact .inr (A7 _ _ _)
                . exact .inl rfl
                . refine .inr ?_; show A0 t' (Af kd X (My hh (Ag (SV.s (A3 s.boxes)) s.slots))) = _; rw [A9 _ _ hne]; unfold My
                  rw [Yu (fun x => bif S.men hh x then .dead else x), Ae, h2]
                  simp only [QR, Vp, h3 hh (by simp), cond]
              . rcases slot t' q hq with ⟨rfl, rfl⟩ | ⟨hne, rfl | ⟨sv, h2, rfl, h3⟩⟩
                . refine Gb fun e1 => ?_; rcases QF.1 hk with hk | hk
                  . obtain rfl := QO.1 hk; exact k8 e1.symm
                  . exact (f4 k hk).1.ne e1.symm
                . rfl
                . rw [Vp]; exact h3 k (by simp only [QT]; exact .inr hk)
              . have hlt2 : i < b.rows.length := by
                 have := (QP.1 hq).1; simp at this; omega
                rw [QZ hlt2] at hq; simp only [b, B3.box, QK] at hq; obtain ⟨u, _, rfl⟩ := QB.1 hq; rw [QK] at hc'; obtain ⟨u2, _, rfl⟩ := QB.1 hc'; exact ⟨u2, rfl⟩
              . show A0 j (Af hh b1 (killB hh (Ag (B3.box (A3 s.boxes)) s.boxes))) = _; rw [A9 _ _ hj, Dk, Ae]
                cases hb3 : A0 j s.boxes with
                | none => rfl
                | some b3 =>
                 simp only [QR]; congr 1; by_cases e1 : j = tb
                 . subst e1; rw [hlt] at hb3; obtain rfl := QA hb3; refine A7n fun i r j' c' hi hc' => ?_; simp only [B3.box] at hi
                   cases i with
                   | zero =>
                    obtain rfl := QA hi; exact f3 c' (QW hc')
                   | succ i => simp at hi
                 . exact A7n (Nl (K4 k12 hb3 hj (by simpa using e1) hh (by simp)))
              . rw [<- hbl]; simp only [b, B3.box]
                rw [YW _ _ (by simp)]
                simp
              . obtain rfl := QO.1 hk; by_cases hlt2 : i < b.rows.length
                . rw [QZ hlt2] at hi; simp only [b, B3.box, QK] at hi; obtain ⟨u, _, rfl⟩ := QB.1 hi; rw [QK] at hc'; obtain ⟨u2, _, rfl⟩ := QB.1 hc'; rfl
                . rw [QY (by omega)] at hi
                  have hi0 : i - b.rows.length = 0 := by have := (QP.1 hi).1; simp at this; omega
                  rw [hi0] at hi; simp at hi; subst hi; obtain ⟨u, hu, rfl⟩ := ZP.1 (QW hc'); rw [O8]; exact f6 k k9 u hu
           . cases h
         . cases h
       . cases h
     . cases h
   . cases h
 . cases h
def Yo (sh : Sh) (k : Nat) (s : St3) : Option St3 :=
 match A0 k s.boxes with
 | some (.rep e false n cs) => match sh.all true cs with
  | some x => bif (sh.cells x).all (fun c => (C.i c).okT) then some { s with boxes := Af k (.tree e sh false (List.replicate n x)) s.boxes } else none
  | none => none
 | some (.arr e sh' false []) => bif Nat.beq sh.size sh'.size then some { s with boxes := Af k (.tree e sh false []) s.boxes } else none
 | _ => none
theorem Afk {sh : Sh} {k : Nat} {s s' : St3} {nt : Nat} (h : Yo sh k s = some s') : Cu (s.st nt) (s'.st nt) := by
 have fin : ∀ {b : B3} {e : TypeId} {sh0 : Sh} {xs : List sh0.den}, A0 k s.boxes = some b -> xs.length = b.len -> Af8 (b.box (A3 s.boxes)) ((B3.arr e sh0 false xs).box (A3 s.boxes)) ->
   (∀ x ∈ xs, (sh0.cells x).all (fun c => (C.i c).okT) = true) -> s' = { s with boxes := Af k (.tree e sh0 false xs) s.boxes } -> Cu (s.st nt) (s'.st nt) := by
  intro b e sh0 xs hl hlen hsub hok hs'; subst hs'
  have hL : A3 (Af k (.tree e sh0 false xs) s.boxes) = A3 s.boxes := by
   funext j; unfold A3; by_cases e1 : j = k
   . subst e1; rw [A7, hl]; exact hlen
   . rw [A9 _ _ e1]
  let ab : Box := (B3.arr e sh0 false xs).box (A3 s.boxes)
  have hb : A0 k (s.st nt).boxes = some (b.box (A3 s.boxes)) := by
   show A0 k (Ag (B3.box (A3 s.boxes)) s.boxes) = _; rw [Ae, hl]; rfl
  have w1 : Cu (s.st nt) { s.st nt with boxes := Af k ab (s.st nt).boxes } := fun Γ w E tmps hs => by
   refine ⟨E, hs.sub rfl (fun t x hx => ⟨x, hx, fun _ _ _ h => h⟩) (fun j b' hj => ?_) (fun j b' hj => ?_)⟩
   . by_cases e1 : j = k
     . subst e1; have hj : A0 j (Af j ab (s.st nt).boxes) = some b' := hj; rw [A7] at hj; obtain rfl := QA hj; exact ⟨_, hb, hsub⟩
     . have hj : A0 j (Af k ab (s.st nt).boxes) = some b' := hj; rw [A9 _ _ e1] at hj
       exact ⟨b', hj, ⟨rfl, rfl, rfl, rfl, fun _ => rfl, rfl, fun i r hi => ⟨r, hi, rfl, fun j c hj => ⟨c, hj, Ei.refl c⟩⟩, fun hf i r j' c hi hc => by
        obtain ⟨g, cap, _, ⟨arr, _, _, _, _, _, _, hI, _⟩, _⟩ := hs.boxes j b' hj
        exact hI hf i r j' c hi hc⟩⟩
   . by_cases e1 : j = k
     . subst e1; show (A0 j (Af j ab (s.st nt).boxes)).isSome = true; rw [A7]; rfl
     . show (A0 j (Af k ab (s.st nt).boxes)).isSome = true; rw [A9 _ _ e1, hj]; rfl
  have w2 : Cu { s.st nt with boxes := Af k ab (s.st nt).boxes } { s.st nt with boxes := Af k { ab with tr := true } (Af k ab (s.st nt).boxes) } := fun Γ w E tmps hs =>
   ⟨E, A9n hs (A7 _ _ _) rfl fun i r j c hi hc => by
    simp only [ab, B3.box, QK] at hi; obtain ⟨x, hx, rfl⟩ := QB.1 hi; rw [QK] at hc; obtain ⟨y, hy, rfl⟩ := QB.1 hc
    exact QM.1 (hok x (QW hx)) y (QW hy)⟩
  refine w1.trans (w2.trans (De rfl (fun t x hx => .inr ?_) fun j => ?_))
  . have hx : A0 t (Ag (SV.s (A3 (Af k (.tree e sh0 false xs) s.boxes))) s.slots) = some x := hx; rw [hL] at hx; exact hx
  . show A0 j (Ag (B3.box (A3 (Af k (.tree e sh0 false xs) s.boxes))) (Af k (.tree e sh0 false xs) s.boxes)) = A0 j (Af k { ab with tr := true } (Af k ab (Ag (B3.box (A3 s.boxes)) s.boxes))); rw [hL, Ae]; by_cases e1 : j = k
    . subst e1; rw [A7, A7]; rfl
    . rw [A9 _ _ e1, A9 _ _ e1, A9 _ _ e1, Ae]
 unfold Yo at h; split at h
 . rename_i e n cs hl; split at h
   . rename_i x hx
     cases hc : (sh.cells x).all (fun c => (C.i c).okT) with
     | false => rw [hc] at h; cases h
     | true =>
      rw [hc] at h; have hs' := (QA h).symm
      have hdec : (TB.arr e sh false).dec (.rep e false n cs) = some (List.replicate n x) := by
       simp only [TB.dec, XD, BEq.rfl, ZF, cond, hx, QR]
      obtain ⟨q1, q2⟩ := A4a (L := A3 s.boxes) hdec
      refine fin (e := e) (sh0 := sh) (xs := List.replicate n x) hl (by simpa [TB.enc, B3.len] using q2) q1 (fun y hy => ?_) hs'
      rw [List.eq_of_mem_replicate hy]; exact hc
   . cases h
 . rename_i e sh' hl
   cases hc : Nat.beq sh.size sh'.size with
   | false => rw [hc] at h; cases h
   | true =>
    rw [hc] at h; have hs' := (QA h).symm
    exact fin (e := e) (sh0 := sh) (xs := []) hl rfl ⟨rfl, QC hc, rfl, rfl, (fun e => by cases e), rfl, (fun i r hi => by simp [B3.box] at hi), fun _ i r j c hi => by simp [B3.box] at hi⟩ (fun y hy => by cases hy) hs'
 . cases h
end Go.Ev

/- DERIVED. A slice of a tree is taken out to be written, and put back, over shapes. -/
namespace Go.Ev
open Go
variable {P : Program} {T : Ty}
theorem C4.pre {K : Ai} {o : Oper} {s s1 s2 : St} (hw : Cu s s1) (h : C4 P K o s1 s2) : C4 P K o s s2 := fun Γ w E a ro n X hN hX hx hs next Q k => by
 obtain ⟨E', hs'⟩ := hw Γ w E _ hs; exact h Γ w E' a ro n X hN hX hx hs' next Q k
def Awj {α : Type} (T : Ty) (K : Ai) (kk : Nat) (o : Oper) (s : St3) (k : St3 -> Option α) : Option α :=
 match o.op, o.dst with
 | .load t a, some d => match T t, s.val a with
  | some ti, .hp h row col => match A0 h s.boxes with
   | some (.tree e sh false xs) => match (sh.exp (xs.getD row sh.dflt))[col]? with
    | some (.d (.sl t') ys) => bif Nat.beq ti.size 1 && !Do ti.d && Nat.ble (col + ti.size) sh.size && sh.flat && Nat.beq t'.size 1 && Nat.ble 2000 kk && (A0 kk s.boxes).isNone && s.clean kk && Nat.blt d K.N then
      (bif decide (row < xs.length) then (bif ys.isEmpty then k { s with slots := Af d (.d (.sl t') []) s.slots } else
       k { slots := Af d (.hw kk) s.slots, boxes := Af kk (.arr Cz t' false ys) (Af h (.hole e sh false xs row col kk) s.boxes) }) else none) else none
    | _ => none
   | _ => none
  | _, _ => none
 | _, _ => none
theorem Any {y : I} (h : Sl y) : y.flatSl := by
 rcases h with ⟨v, rfl⟩ | ⟨nl, sz, rows, rfl, hl⟩
 . trivial
 . exact ⟨rfl, hl⟩
theorem Fg {sh : Sh} {xs : List sh.den} {row : Nat} (h : row < xs.length) : (xs.map fun x => (sh.cells x).map C.i)[row]? = some ((sh.cells (xs.getD row sh.dflt)).map .i) := by
 simp only [QK, QN h, QR, QH, XO]
theorem Aev {sh : Sh} {x : sh.den} {col : Nat} {t' : Sh} {ys : List t'.den} (h : (sh.exp x)[col]? = some (.d (.sl t') ys)) : ((sh.cells x).map C.i)[col]? = some (.i (.sl 0 false t'.size (ys.map t'.cells))) := by
 rw [<- I3 (fun _ => 0), QK, h]; rfl
theorem Atl {s : St3} {nt h row col kk : Nat} {e : TypeId} {sh : Sh} {xs : List sh.den} {t' : Sh} {ys : List t'.den}
  (hl : A0 h s.boxes = some (.tree e sh false xs)) (hc : (sh.exp (xs.getD row sh.dflt))[col]? = some (.d (.sl t') ys)) (hrow : row < xs.length) (hfl : sh.flat = true) (h1 : t'.size = 1)
  (hk : 2000 <= kk) (hkn : A0 kk s.boxes = none) (hcl : s.clean kk = true) (hne : ys ≠ []) :
  Cu (s.st nt) ((⟨s.slots, Af kk (.arr Cz t' false ys) (Af h (.hole e sh false xs row col kk) s.boxes)⟩ : St3).st nt) := by
 intro Γ w E tmps hs
 have hkh : h ≠ kk := fun e => by subst e; rw [hl] at hkn; cases hkn
 have hcell := Aev hc; rw [h1] at hcell
 have hb : A0 h (s.st nt).boxes = some ((B3.tree e sh false xs).box (A3 s.boxes)) := by
  show A0 h (Ag (B3.box (A3 s.boxes)) s.boxes) = _; rw [Ae, hl]; rfl
 obtain ⟨E', hs'⟩ := A4o hs hb rfl rfl hk (by show A0 kk (Ag _ s.boxes) = _; rw [Ae, hkn]; rfl) (Fg hrow) hcell (by simpa using hne) (fun i q j y hi hj => by
  simp only [B3.box, QK] at hi; obtain ⟨x, _, rfl⟩ := QB.1 hi; rw [QK] at hj; obtain ⟨z, hz, hzy⟩ := QB.1 hj; obtain rfl := C.i.inj hzy
  exact Any (Anx sh x hfl z (QW hz)))
 simp only [St3.clean, QE, QM, ZL] at hcl
 have hL : ∀ k, k ≠ kk -> A3 s.boxes k = A3 (Af kk (.arr Cz t' false ys) (Af h (.hole e sh false xs row col kk) s.boxes)) k := by
  intro k hk; unfold A3; rw [A9 _ _ hk]; by_cases e1 : k = h
  . subst e1; rw [A7, hl]; rfl
  . rw [A9 _ _ e1]
 refine De (s' := ((⟨s.slots, Af kk (.arr Cz t' false ys) (Af h (.hole e sh false xs row col kk) s.boxes)⟩ : St3).st nt)) (by rfl) (fun t x hx => .inr ?_) (fun k => ?_) Γ w E' tmps hs'
 . have hx : A0 t (Ag (SV.s (A3 (Af kk (.arr Cz t' false ys) (Af h (.hole e sh false xs row col kk) s.boxes)))) s.slots) = some x := hx; rw [Ae] at hx; obtain ⟨z, hz, rfl⟩ := QB.1 hx; show A0 t (Ag (SV.s (A3 s.boxes)) s.slots) = _; rw [Ae, hz]; exact XU some (Vm hL (hcl.1 _ (C7 hz)))
 . show A0 k (Ag (B3.box (A3 (Af kk (.arr Cz t' false ys) (Af h (.hole e sh false xs row col kk) s.boxes)))) (Af kk (.arr Cz t' false ys) (Af h (.hole e sh false xs row col kk) s.boxes))) = A0 k (Af kk _ (Af h _ (Ag (B3.box (A3 s.boxes)) s.boxes))); rw [Ae]; by_cases e1 : k = kk
   . subst e1; rw [A7, A7]; simp [B3.box, h1]
   . rw [A9 _ _ e1, A9 _ _ e1]; by_cases e2 : k = h
     . subst e2; rw [A7, A7]
       have hlk : A3 (Af kk (.arr Cz t' false ys) (Af k (.hole e sh false xs row col kk) s.boxes)) kk = ys.length := by
        unfold A3; rw [A7]; rfl
       simp only [QR, B3.box, hlk, Pq, QH, Fg hrow, XO, ZH]
     . rw [A9 _ _ e2, A9 _ _ e2, Ae]
       cases hz : A0 k s.boxes with
       | none => rfl
       | some b => exact XU some (K5 hL (hcl.2 _ (C7 hz))).symm
theorem B25 (hT : Ap P T) {α : Type} {K : Ai} {kk : Nat} {o : Oper} {s : St3} {nt : Nat} {k : St3 -> Option α} {r : α} (h : Awj T K kk o s k = some r) :
  ∃ s' : St3, C4 P K o (s.st nt) (s'.st nt) /\ k s' = some r := by
 unfold Awj at h; split at h
 . rename_i t a d hop hdst; split at h
   . rename_i ti hh row col hti ha; split at h
     . rename_i e sh xs hl; split at h
       . rename_i t' ys hc
         cases hcd : (Nat.beq ti.size 1 && !Do ti.d && Nat.ble (col + ti.size) sh.size && sh.flat && Nat.beq t'.size 1 && Nat.ble 2000 kk && (A0 kk s.boxes).isNone && s.clean kk && Nat.blt d K.N) with
         | false => rw [hcd] at h; cases h
         | true =>
          rw [hcd] at h; simp only [cond] at h; simp only [QE] at hcd; obtain ⟨⟨⟨⟨⟨⟨⟨⟨c1, c2⟩, c3⟩, c4⟩, c5⟩, c6⟩, c7⟩, c8⟩, c9⟩ := hcd
          cases hrow : decide (row < xs.length) with
          | false => rw [hrow] at h; cases h
          | true =>
           rw [hrow] at h; simp only at h; have hrow := KU hrow; have hcell := Aev hc
           cases hem : ys.isEmpty with
           | true =>
            rw [hem] at h; simp only at h; obtain rfl := YE.1 hem; refine ⟨_, ?_, h⟩; have hva : (s.st nt).val a = .v (.one (.hp hh row col)) := B4 ha rfl
            have hbx : (s.st nt).box hh = some ((B3.tree e sh false xs).box (A3 s.boxes)) := by
             show A0 hh (Ag (B3.box (A3 s.boxes)) s.boxes) = _; rw [Ae, hl]; rfl
            have hr0 : ((B3.tree e sh false xs).box (A3 s.boxes)).rows[row]? = some ((sh.cells (xs.getD row sh.dflt)).map .i) := Fg hrow
            have hcore : Cf T (some ((sh.cells (xs.getD row sh.dflt)).map .i)) o (s.st nt) = some ⟨.v (.one (.i (.sl 0 false t'.size []))), .none, [((B3.tree e sh false xs).box (A3 s.boxes)).rows[row]? = some ((sh.cells (xs.getD row sh.dflt)).map .i)]⟩ := by
             unfold Cf; rw [hop]; have hcell : ((sh.cells (xs.getD row sh.dflt)).map C.i)[col]? = some (.i (.sl 0 false t'.size [])) := hcell; have c3' : Nat.ble (col + ti.size) ((B3.tree e sh false xs).box (A3 s.boxes)).sz = true := c3; have c4' : ((B3.tree e sh false xs).box (A3 s.boxes)).tr = true := rfl; simp only [Ey, hti, hva, hbx, hcell, c1, c2, c3', c4', C.okT, ZF, ZT, Bool.and_false, cond]
            have hstep : C2 P T K o { cells := some ((sh.cells (xs.getD row sh.dflt)).map .i) } (s.st nt) = some ((⟨Af d (.d (.sl t') []) s.slots, s.boxes⟩ : St3).st nt, [((B3.tree e sh false xs).box (A3 s.boxes)).rows[row]? = some ((sh.cells (xs.getD row sh.dflt)).map .i)] ++ [] ++ []) := by
             unfold C2; simp only [hcore, St.eff, St.putD, hdst, c9, cond, QR]; simp only [St3.st, <- Ct]; rfl
            exact Ch hT hstep (fun p hp => by
             rcases QF.1 hp with hp | hp
             . rcases QF.1 hp with hp | hp
               . rw [QO.1 hp]; exact hr0
               . cases hp
             . cases hp)
           | false =>
            rw [hem] at h; simp only at h; refine ⟨_, ?_, h⟩
            have hne : ys ≠ [] := fun e => by subst e; cases hem
            have c5 := QC c5
            have c7 : A0 kk s.boxes = none := by simpa using c7
            have hkh : hh ≠ kk := fun e => by subst e; rw [hl] at c7; cases c7
            refine (C4.pre (Atl hl hc hrow c4 c5 (ZV c6) c7 c8 hne) ?_)
            let s1 : St3 := ⟨s.slots, Af kk (.arr Cz t' false ys) (Af hh (.hole e sh false xs row col kk) s.boxes)⟩
            have hva : (s1.st nt).val a = .v (.one (.hp hh row col)) := B4 (s := s1) ha rfl
            have hl1 : A0 hh s1.boxes = some (.hole e sh false xs row col kk) := by
             show A0 hh (Af kk _ (Af hh _ s.boxes)) = _; rw [A9 _ _ hkh, A7]
            have hbx : (s1.st nt).box hh = some ((B3.hole e sh false xs row col kk).box (A3 s1.boxes)) := by
             show A0 hh (Ag (B3.box (A3 s1.boxes)) s1.boxes) = _; rw [Ae, hl1]; rfl
            have hlk : A3 s1.boxes kk = ys.length := by unfold A3; show (match A0 kk (Af kk _ _) with | some b => B3.len b | none => 0) = _; rw [A7]; rfl
            have hr0 : ((B3.hole e sh false xs row col kk).box (A3 s1.boxes)).rows[row]? = some (((sh.cells (xs.getD row sh.dflt)).map .i).set col (.hs kk 0 (A3 s1.boxes kk))) := by
             simp only [B3.box, Pq, QH, Fg hrow, XO]
             rw [XC (by simpa using hrow)]
            have hcl2 : (((sh.cells (xs.getD row sh.dflt)).map C.i).set col (.hs kk 0 (A3 s1.boxes kk)))[col]? = some (.hs kk 0 (A3 s1.boxes kk)) := XC (QP.1 hcell).1
            have hcore : Cf T (some (((sh.cells (xs.getD row sh.dflt)).map .i).set col (.hs kk 0 (A3 s1.boxes kk)))) o (s1.st nt) = some ⟨.v (.one (.hs kk 0 (A3 s1.boxes kk))), .none, [((B3.hole e sh false xs row col kk).box (A3 s1.boxes)).rows[row]? = some (((sh.cells (xs.getD row sh.dflt)).map .i).set col (.hs kk 0 (A3 s1.boxes kk)))]⟩ := by
             unfold Cf; rw [hop]; have c3' : Nat.ble (col + ti.size) ((B3.hole e sh false xs row col kk).box (A3 s1.boxes)).sz = true := c3; have c4' : ((B3.hole e sh false xs row col kk).box (A3 s1.boxes)).tr = true := rfl; simp only [Ey, hti, hva, hbx, hcl2, c1, c2, c3', c4', C.okT, ZF, ZT, Bool.and_false, cond]
            have hstep : C2 P T K o { cells := some (((sh.cells (xs.getD row sh.dflt)).map .i).set col (.hs kk 0 (A3 s1.boxes kk))) } (s1.st nt) = some ((⟨Af d (.hw kk) s1.slots, s1.boxes⟩ : St3).st nt, [((B3.hole e sh false xs row col kk).box (A3 s1.boxes)).rows[row]? = some (((sh.cells (xs.getD row sh.dflt)).map .i).set col (.hs kk 0 (A3 s1.boxes kk)))] ++ [] ++ []) := by
             unfold C2; simp only [hcore, St.eff, St.putD, hdst, c9, cond, QR]; simp only [St3.st, <- Ct]; rfl
            exact Ch hT hstep (fun p hp => by
             rcases QF.1 hp with hp | hp
             . rcases QF.1 hp with hp | hp
               . rw [QO.1 hp]; exact hr0
               . cases hp
             . cases hp)
       . cases h
     . cases h
   . cases h
 . cases h
def holeH (kk : Nat) : List (Nat × B3) -> Option Nat
 | [] => none
 | (h, .hole _ _ _ _ _ _ k) :: r => bif Nat.beq k kk then some h else holeH kk r
 | _ :: r => holeH kk r
def Aj2 (kk : Nat) (s : St3) : Option (Bool × St3) := match holeH kk s.boxes with
 | none => some (true, s)
 | some h => match A0 h s.boxes with
  | some (.hole e sh false xs row col k0) => match A0 kk s.boxes with
   | some (.arr e' t' false ys) => match sh.all false ((sh.exp (xs.getD row sh.dflt)).set col (.d (.sl t') ys)) with
    | some z => bif Nat.beq k0 kk && Nat.beq e' Cz && t'.lits && Nat.beq t'.size 1 && Nat.ble 2000 kk && !Nat.beq h kk && Nat.blt col sh.size && s.boxes.all (fun p => Nat.beq p.1 h || Nat.beq p.1 kk || !p.2.men kk) then
      some (decide (row < xs.length), ⟨Gc [kk] s.slots, Af h (.tree e sh false (xs.set row z)) (Cr kk s.boxes)⟩) else none
    | none => none
   | _ => none
  | _ => none
theorem Atv {kk : Nat} {s s' : St3} {g : Bool} {nt : Nat} (h : Aj2 kk s = some (g, s')) (hg : g = true) : Cu (s.st nt) (s'.st nt) := by
 unfold Aj2 at h; split at h
 . simp only [QD, QG] at h; obtain ⟨_, rfl⟩ := h; exact fun Γ w E tmps hs => ⟨E, hs⟩
 . rename_i hh _; split at h
   . rename_i e sh xs row col k0 hl; split at h
     . rename_i e' t' ys hlk; split at h
       . rename_i z hz
         cases hcd : (Nat.beq k0 kk && Nat.beq e' Cz && t'.lits && Nat.beq t'.size 1 && Nat.ble 2000 kk && !Nat.beq hh kk && Nat.blt col sh.size && s.boxes.all (fun p => Nat.beq p.1 hh || Nat.beq p.1 kk || !p.2.men kk)) with
         | false => rw [hcd] at h; cases h
         | true =>
          rw [hcd] at h; simp only [cond, QD, QG] at h; obtain ⟨h1, rfl⟩ := h; rw [hg] at h1; have hrow := KU h1; simp only [QE, ZL] at hcd; obtain ⟨⟨⟨⟨⟨⟨⟨c1, c2⟩, c3⟩, c4⟩, c5⟩, c6⟩, c7⟩, c8⟩ := hcd; obtain rfl := QC c1; have c2 := QC c2; have c4 := QC c4; have c5 := ZV c5; have hne : hh ≠ k0 := Pg c6
          have c7 : col < sh.size := by simpa [ZQ] using c7
          have nomen : ∀ i b, i ≠ hh -> i ≠ k0 -> A0 i s.boxes = some b -> b.men k0 = false := fun i b e1 e2 hb => by
           have := QM.1 c8 _ (C7 hb); simpa [Gb e1, Gb e2] using this
          intro Γ w E tmps hs
          have hlen0 : A3 s.boxes k0 = ys.length := by unfold A3; rw [hlk]; rfl
          obtain ⟨E1, hs1⟩ := De (s := s.st nt) (s' := ⟨Ag (SV.s (A3 s.boxes)) (Gc [k0] s.slots), Ag (B3.box (A3 s.boxes)) s.boxes, nt⟩) rfl (fun t x hx => by
           rcases G0 (L := A3 s.boxes) (fun _ _ => rfl) hx with rfl | ⟨sv, h2, rfl, _⟩
           . exact .inl rfl
           . exact .inr (by show A0 t (Ag (SV.s (A3 s.boxes)) s.slots) = _; rw [Ae, h2]; rfl)) (fun _ => rfl) Γ w E tmps hs
          have hr0 : ((B3.hole e sh false xs row col k0).box (A3 s.boxes)).rows[row]? = some (((sh.cells (xs.getD row sh.dflt)).map C.i).set col (.hs k0 0 (A3 s.boxes k0))) := by
           simp only [B3.box, Pq, QH, Fg hrow, XO]
           rw [XC (by simpa using hrow)]
          have hcl : col < ((sh.cells (xs.getD row sh.dflt)).map C.i).length := by simpa [Sh.cells_len] using c7
          have oldC : ∀ (i : Nat) (q : List C) (j : Nat) (c : C), (xs.map fun x => (sh.cells x).map C.i)[i]? = some q -> q[j]? = some c -> ∃ y, c = .i y := by
           intro i q j c hi hj; rw [QK] at hi; obtain ⟨x, _, rfl⟩ := QB.1 hi; rw [QK] at hj; obtain ⟨y, _, rfl⟩ := QB.1 hj; exact ⟨y, rfl⟩
          have rows2 : (Pq (xs.map fun x => (sh.cells x).map C.i) row col (.hs k0 0 (A3 s.boxes k0))).set row ((((sh.cells (xs.getD row sh.dflt)).map C.i).set col (.hs k0 0 (A3 s.boxes k0))).set col (.i (.sl 0 false t'.size (ys.map t'.cells)))) = (xs.set row z).map fun x => (sh.cells x).map C.i := by
           have a1 := (C9 hz).1 (A3 s.boxes); rw [Qao, I3] at a1; unfold Pq; rw [Qam, Qam, Qao, <- a1]; rfl
          obtain ⟨E2, hs2⟩ := Vj hs1 (h := hh) (k := k0) (row := row) (col := col) (len := A3 s.boxes k0) (b := (B3.hole e sh false xs row col k0).box (A3 s.boxes)) (bk := (B3.arr e' t' false ys).box (A3 s.boxes))
           (r := ((sh.cells (xs.getD row sh.dflt)).map C.i).set col (.hs k0 0 (A3 s.boxes k0))) (ys := ys.map t'.cells) (hf' := true)
           (by show A0 hh (Ag _ s.boxes) = _; rw [Ae, hl]; rfl) rfl hne (.inr c5) (by show A0 k0 (Ag _ s.boxes) = _; rw [Ae, hlk]; rfl) rfl rfl hr0 (XC hcl)
           (by simp [B3.box, hlen0]) (by simp only [B3.box, XF]; rfl) (fun i q j y hi hj => by
            rw [QK] at hi; obtain ⟨u, _, rfl⟩ := QB.1 hi
            exact A2r t' u c3 y (QW hj)) c2 c4
           (fun t x hx => by
            rcases G0 (L := A3 s.boxes) (fun _ _ => rfl) hx with rfl | ⟨sv, h2, rfl, h3⟩
            . rfl
            . rw [Vp]; exact h3 k0 (by simp))
           (fun i b' h1 h2 hb => by
            have hb : A0 i (Ag (B3.box (A3 s.boxes)) s.boxes) = some b' := hb; rw [Ae] at hb; obtain ⟨b3, hb3, rfl⟩ := QB.1 hb
            exact Nl (nomen i b3 h2 h1 hb3))
           (fun i q j c hi hj hn => by
            simp only [B3.box, Pq, QH, Fg hrow, XO] at hi; by_cases e1 : i = row
            . subst e1
              rw [XC (by simpa using hrow)] at hi
              obtain rfl := QA hi; by_cases e2 : j = col
              . exact absurd ⟨rfl, e2⟩ hn
              . rw [XG (Ne.symm e2)] at hj; obtain ⟨y, rfl⟩ := oldC i _ j c (Fg hrow) hj; rfl
            . rw [XG (Ne.symm e1)] at hi; obtain ⟨y, rfl⟩ := oldC i q j c hi hj
              rfl)
           (fun _ i q j c hi hj => by
            have hi : ((Pq (xs.map fun x => (sh.cells x).map C.i) row col (.hs k0 0 (A3 s.boxes k0))).set row ((((sh.cells (xs.getD row sh.dflt)).map C.i).set col (.hs k0 0 (A3 s.boxes k0))).set col (.i (.sl 0 false t'.size (ys.map t'.cells)))))[i]? = some q := hi; rw [rows2, QK] at hi; obtain ⟨x, _, rfl⟩ := QB.1 hi; rw [QK] at hj; obtain ⟨y, _, rfl⟩ := QB.1 hj
            exact ⟨y, rfl⟩)
          have hL : ∀ k, k ≠ k0 -> A3 s.boxes k = A3 (Af hh (.tree e sh false (xs.set row z)) (Cr k0 s.boxes)) k := by
           intro k hk; unfold A3; by_cases e1 : k = hh
           . subst e1; rw [A7, hl]; simp [B3.len]
           . rw [A9 _ _ e1, Bc hk]
          refine De (s' := (⟨Gc [k0] s.slots, Af hh (.tree e sh false (xs.set row z)) (Cr k0 s.boxes)⟩ : St3).st nt) (by rfl) (fun t x hx => ?_) (fun k => ?_) Γ w E2 tmps hs2
          . rcases G0 (L := A3 s.boxes) (L' := A3 (Af hh (.tree e sh false (xs.set row z)) (Cr k0 s.boxes))) (fun k hk => (hL k (by simpa using hk)).symm) hx with rfl | ⟨sv, h2, rfl, h3⟩
            . exact .inl rfl
            . refine .inr ?_; show A0 t (Ag (SV.s (A3 s.boxes)) (Gc [k0] s.slots)) = _
              have h3 := h3 k0 (by simp)
              unfold Gc; rw [Ae, Ae, h2]; simp [h3]
          . show A0 k (Ag (B3.box (A3 (Af hh (.tree e sh false (xs.set row z)) (Cr k0 s.boxes)))) (Af hh (.tree e sh false (xs.set row z)) (Cr k0 s.boxes))) = A0 k (Af hh _ (Cr k0 (Ag (B3.box (A3 s.boxes)) s.boxes))); rw [Ae]; by_cases e1 : k = hh
            . subst e1; rw [A7, A7]; have rows2 : _ = _ := rows2; simp only [QR, B3.box]; rw [rows2]
            . rw [A9 _ _ e1, A9 _ _ e1]; by_cases e2 : k = k0
              . subst e2; rw [Bt, Bt]; rfl
              . rw [Bc e2, Bc e2, Ae]
                cases hz : A0 k s.boxes with
                | none => rfl
                | some b => exact XU some (K5 hL (nomen k b e1 e2 hz)).symm
       . cases h
     . cases h
   . cases h
end Go.Ev

/- DERIVED. Code over shapes: all paths, in one expression. -/
namespace Go.Ev
open Go
variable {P : Program} {T : Ty}
structure OA where
 ent : Option Ent := none
 sh : Option Sh := none
 fz : List (Nat × Sh) := []
 entB : Option Ent3 := none
 hb : Nat := 0
 tr : Option Sh := none
 alt : List Ent3 := []
 bor : Option Nat := none
 shut : Option Nat := none
def OA.two (a : OA) : Bool := (a.ent.isSome && a.entB.isSome) || !a.alt.isEmpty || (a.bor.isSome || a.shut.isSome)
theorem OA.two_false {a : OA} (h : a.two = false) : (a.ent.isSome && a.entB.isSome) = false /\ a.alt = [] /\ a.bor = none /\ a.shut = none := by
 unfold OA.two at h; simp only [Bool.or_eq_false_iff, Bool.not_eq_false'] at h
 exact ⟨h.1.1, YE.1 h.1.2, by simpa using h.2.1, by simpa using h.2.2⟩
structure RA where
 m : Nat := 0
 fz : List (Nat × Sh) := []
 ops : List (Nat × OA) := []
@[reducible] def KS (α : Type) : List (Exit × Tm) -> Type
 | [] => Unit
 | (_, X) :: r => (X.den -> Option α) × KS α r
def Lu {α : Type} (k : Exit -> St3 -> Option α) : (l : List (Exit × Tm)) -> KS α l
 | [] => ()
 | (x, X) :: r => (fun w => k x (X.enc w), Lu k r)
def Exit.eqb : Exit -> Exit -> Bool
 | .normal, .normal => true
 | .ret, .ret => true
 | .exit i, .exit j => Nat.beq i j
 | _, _ => false
theorem Exit.eqb_eq {a b : Exit} (h : Exit.eqb a b = true) : a = b := by
 unfold Exit.eqb at h; split at h
 . rfl
 . rfl
 . rw [QC h]
 . cases h
def Kn {α : Type} : (l : List (Exit × Tm)) -> KS α l -> Exit -> St3 -> Option α
 | [], _, _, _ => none
 | (x, X) :: r, ks, y, s => bif Exit.eqb x y then (match X.dec s with
  | some w => ks.1 w
  | none => none) else Kn r ks.2 y s
structure LO (α : Type) where
 H : Tm
 outs : List (Exit × Tm)
 run : H.den -> KS α outs -> Option α
structure D3 (α : Type) where
 reg : List (Nat × RA) := []
 join : List (Nat × Tm) := []
 loop : List (Nat × LO α) := []
 any : List (Nat × Tm) := []
def Bx : Code -> Nat
 | .region id _ _ => id
 | .seq c d => match Bx c with
  | 0 => Bx d
  | n + 1 => n + 1
 | .cond _ c d => match Bx c with
  | 0 => Bx d
  | n + 1 => n + 1
 | .block _ c => Bx c
 | .loop c => Bx c
 | .rangeFunc _ _ a b => match Bx a with
  | 0 => Bx b
  | n + 1 => n + 1
 | _ => 0
def Xv {α : Type} (k : Nat) (x : α) : List (Nat × α) -> List (Nat × α)
 | [] => []
 | (j, y) :: r => bif Nat.beq j k then (j, x) :: r else (j, y) :: Xv k x r
def Gx {α : Type} : List (Nat × Sh) -> St3 -> (St3 -> Option α) -> Option α
 | [], s, k => k s
 | (t, sh) :: r, s, k => match L4 s t sh with
  | some (g, s1) => bif g then Gx r s1 k else none
  | none => none
def ob {α β : Type} (x : Option β) (k : β -> Option α) : Option α := match x with
 | some r => k r
 | none => none
def gd {α : Type} (g : Bool) (x : Option α) : Option α := bif g then x else none
abbrev W (x : Int) : Int := IntKind.i64.wrap x
def Xj (T : Ty) (K : Ai) (A : OA) (o : Oper) (s : St3) : Option (Bool × St3) :=
 match Jl T A.sh o s with
 | some r => match s.eff3 K o.dst r.eff with
  | some s1 => match s1.put3 K o.dst r.val with
   | some s' => match A.tr with
    | none => some (r.g, s')
    | some sh => match o.dst with
     | some d => (Yo sh d s').map fun s2 => (r.g, s2)
     | none => none
   | none => none
  | none => none
 | none => match Pk T o s with
  | some q => some q
  | none => Yp T K o s
def Af5 : List Ent3 -> Oper -> St3 -> Option Ent3
 | [], _, _ => none
 | E :: r, o, s => match Ia E.f E.ts o s with
  | some _ => some E
  | none => Af5 r o s
theorem Af4 : ∀ {l : List Ent3} {o : Oper} {s : St3} {E : Ent3}, Af5 l o s = some E -> E ∈ l
 | [], _, _, _, h => by cases h
 | F :: r, o, s, E, h => by
  simp only [Af5] at h; split at h
  . cases h; exact YK
  . exact ZU _ (Af4 h)
def O3 {α : Type} (T : Ty) (K : Ai) (A : OA) (o : Oper) (s : St3) (k : St3 -> Option α) : Option α :=
 match Af5 A.alt o s with
 | some E => O2 K E A.hb o s k
 | none => match A.ent with
 | some E => match Nk E o s with
  | some (g, x) => bif g then ob (E.m x) (fun r => match s.put3 K o.dst (Aq E.rs r) with
    | some s' => k s'
    | none => none) else none
  | none => match A.entB with
   | some F => O2 K F A.hb o s k
   | none => none
 | none => match A.entB with
 | some E => O2 K E A.hb o s k
 | none => match Xj T K A o s with
  | some (g, s') => bif g then k s' else none
  | none => none
def Pn {α : Type} (T : Ty) (K : Ai) (A : OA) (o : Oper) (s : St3) (k : St3 -> Option α) : Option α :=
 match A.bor with
 | some kk => Awj T K kk o s k
 | none => match A.shut with
  | none => O3 T K A o s k
  | some kk => O3 T K A o s fun s1 => match Aj2 kk s1 with
   | some (g, s2) => bif g then k s2 else none
   | none => none
def Aa2 {α : Type} (K : Ai) (o : Oper) (s : St3) (k : St3 -> Option α) : Option α :=
 match s.put3 K o.dst (.tup []) with
 | some s' => k s'
 | none => none
def U2 {α : Type} (ops : List Oper) (o : Oper) (s : St3) (f g : St3 -> Option α) : Option α :=
 match o.guard with
 | none => f s
 | some (j, want) => match ops[j]? with
  | some p => match p.dst with
   | some t => match A0 t s.slots with
    | some (.d .bool b) => bif b then
      (bif want then f { s with slots := Xv t (.d .bool true) s.slots } else g { s with slots := Xv t (.d .bool true) s.slots }) else
      (bif want then g { s with slots := Xv t (.d .bool false) s.slots } else f { s with slots := Xv t (.d .bool false) s.slots })
    | some (.tup []) => g s
    | _ => none
   | none => none
  | none => none
def Gy {α : Type} (T : Ty) (K : Ai) (ops : List Oper) (A : List (Nat × OA)) : List (Nat × Oper) -> St3 -> (St3 -> Option α) -> Option α
 | [], s, k => k s
 | (i, o) :: r, s, k => Gx ((A0 i A).getD {}).fz s fun s0 => U2 ops o s0 (fun s1 => Pn T K ((A0 i A).getD {}) o s1 fun s2 => Gy T K ops A r s2 k) (fun s1 => Aa2 K o s1 fun s2 => Gy T K ops A r s2 k)
def OA.quiet (T : Ty) (A : OA) (o : Oper) (s : St3) : Bool :=
 A.fz.isEmpty && A.tr.isNone && A.alt.isEmpty && (A.bor.isNone && A.shut.isNone) && (match A.entB with | some _ => false | none => true) && (match o.dst with | some _ => true | none => false) && (match A.ent with
 | some _ => true
 | none => match Jl T A.sh o s with
  | some r => match r.eff with
   | .none => true
   | _ => false
  | none => false)
def Abb {α : Type} (T : Ty) (K : Ai) (ops : List Oper) (A : List (Nat × OA)) : List (Nat × Oper) -> St3 -> (St3 -> Option α) -> Option α
 | [], s, k => k s
 | (i, o) :: r, s, k => U2 ops o s
   (fun s1 => bif OA.quiet T ((A0 i A).getD {}) o s1 then Pn T K ((A0 i A).getD {}) o s1 (fun s2 => Abb T K ops A r s2 k) else none)
   (fun s1 => bif o.dst.isSome then Aa2 K o s1 (fun s2 => Abb T K ops A r s2 k) else none)
def Aty {α : Type} (P : Program) (T : Ty) (K : Ai) (A : RA) (ops : Array Oper) (draw : Bool) (s : St3) (k : St3 -> Option α) : Option α :=
 bif draw then
  bif Dp ops A.m then Gx A.fz s fun s0 => Abb T K ops.toList A.ops ((A8 ops.toList).take A.m) s0 fun s1 => Gy T K ops.toList A.ops ((A8 ops.toList).drop A.m) s1 k else none
 else Gy T K ops.toList A.ops (A8 ops.toList) s k
def Aa : Code -> List (Nat × Code)
 | .seq c d => Aa c ++ Aa d
 | .cond _ c d => Aa c ++ Aa d
 | .block _ c => Aa c
 | .loop c => [(Bx c, .loop c)]
 | .rangeFunc f ps a b => [(match Bx a with | 0 => Bx b | n + 1 => n + 1, .rangeFunc f ps a b)]
 | _ => []
def At : Code -> List (Nat × Array Oper)
 | .seq c d => At c ++ At d
 | .cond _ c d => At c ++ At d
 | .block _ c => At c
 | .loop c => At c
 | .region id ops true => [(id, ops)]
 | _ => []
def Sj (id : Nat) : List (Nat × Tm) -> List Tm
 | [] => []
 | (i, X) :: r => bif Nat.beq i id then X :: Sj id r else Sj id r
def Aa5 {α : Type} (s : St3) (f : (X : Tm) -> X.den -> Option α) : List Tm -> Option α
 | [] => none
 | X :: r => match X.dec s with
  | some w => f X w
  | none => Aa5 s f r
def B9 {α : Type} (P : Program) (T : Ty) (K : Ai) (D : D3 α) : Code -> St3 -> (Exit -> St3 -> Option α) -> Option α
 | .skip, s, k => k .normal s
 | .region id ops draw, s, k => match Sj id D.any with
  | [] => Aty P T K ((A0 id D.reg).getD {}) ops draw s (k .normal)
  | X :: r => bif draw then Aa5 s (fun X w => Gy T K ops.toList ((A0 id D.reg).getD {}).ops (A8 ops.toList) (X.enc w) (k .normal)) (X :: r) else none
 | .seq c d, s, k => match A0 (Bx d) D.join with
  | none => B9 P T K D c s fun x s1 => match x with
   | .normal => B9 P T K D d s1 k
   | x => k x s1
  | some X => (fun (J : X.den -> Option α) => B9 P T K D c s fun x s1 => match x with
   | .normal => match X.dec s1 with
    | some w => J w
    | none => none
   | x => k x s1) fun w => B9 P T K D d (X.enc w) k
 | .cond (.tmp t) c d, s, k => match A0 t s.slots with
  | some (.d .bool b) => bif b then B9 P T K D c { s with slots := Xv t (.d .bool true) s.slots } k else B9 P T K D d { s with slots := Xv t (.d .bool false) s.slots } k
  | _ => none
 | .block id c, s, k => B9 P T K D c s fun x s1 => match x with
  | .exit j => bif Nat.beq j id then k .normal s1 else k (.exit j) s1
  | x => k x s1
 | .loop c, s, k => match A0 (Bx c) D.loop with
  | some L => match L.H.dec s with
   | some v => L.run v (Lu k L.outs)
   | none => bif (Aa c).isEmpty then B9 P T K D c s fun x s1 => match x with
    | .normal => match L.H.dec s1 with
     | some v => L.run v (Lu k L.outs)
     | none => none
    | x => k x s1 else none
  | none => none
 | .rangeFunc _ _ a b, s, k => match A0 (match Bx a with | 0 => Bx b | n + 1 => n + 1) D.loop with
  | some L => match L.H.dec s with
   | some v => L.run v (Lu k L.outs)
   | none => none
  | none => none
 | .exit id, s, k => k (.exit id) s
 | .ret, s, k => k .ret s
 | _, _, _ => none
def A5 {α : Type} {V Ks : Type} (B : V -> (V -> Option α) -> Ks -> Option α) : Nat -> V -> Ks -> Option α
 | 0, _, _ => none
 | n + 1, v, ks => B v (fun v' => A5 B n v' ks) ks
def A4c {α : Type} (H : Tm) (outs : List (Exit × Tm)) (f : H.den -> Option α) (ks : KS α outs) (x : Exit) (s : St3) : Option α :=
 match x with
 | .normal => match H.dec s with
  | some v => f v
  | none => none
 | x => Kn outs ks x s
def A4u (T : Ty) (s : St3) : ResultVar -> Option SV
 | .tmp t => A0 t s.slots
 | .cell a t => match s.val (.tmp a) with
  | .hp h row col => match A0 h s.boxes with
   | some (.var _ _ _ _) => match Vs T t (.hp h row col) s.boxes with
    | some r => some r.val
    | none => none
   | _ => none
  | _ => none
def Tp (T : Ty) (s : St3) (rv : ResultVar) (t : Sh) : Option (Bool × t.den × List Nat) :=
 match A4u T s rv with
 | some v => Vg s.boxes t v
 | none => none
def Hp (T : Ty) (s : St3) : (ts : List Sh) -> List ResultVar -> Option (Bool × HL ts)
 | [], [] => some (true, ())
 | [t], [rv] => match Tp T s rv t with
  | some (g, x, _) => some (g, x)
  | none => none
 | t :: u :: r, rv :: rvs => match Tp T s rv t, Hp T s (u :: r) rvs with
  | some (g, x, _), some (g', xs) => some (g && g', (x, xs))
  | _, _ => none
 | _, _ => none
def Auo (T : Ty) (rs : List Sh) (rvs : List ResultVar) (x : Exit) (s : St3) : Option (HL rs) :=
 match x with
 | .exit _ => none
 | .normal => match Hp T s rs rvs with
  | some (g, y) => bif g then some y else none
  | none => none
 | .ret => match Hp T s rs rvs with
  | some (g, y) => bif g then some y else none
  | none => none
 | _ => none
def Ek (i : Nat) : List SV -> List (Nat × SV)
 | [] => []
 | x :: r => (i, x) :: Ek (i + 1) r
def Ve (ts : List Sh) (x : HL ts) : St3 := ⟨Ek 0 (E7 ts x), []⟩
end Go.Ev

/- DERIVED. Code over shapes is what the code does. -/
namespace Go.Ev
open Go
variable {P : Program} {T : Ty} {α : Type}
theorem Amm {f : SV -> S} {t : Nat} {x y : SV} (hxy : f x = f y) : ∀ {l : List (Nat × SV)}, A0 t l = some y -> Ag f (Xv t x l) = Ag f l
 | [], h => by cases h
 | (j, z) :: r, h => by
  simp only [A0] at h; simp only [Xv]
  cases hb : Nat.beq j t with
  | true =>
   rw [hb] at h; simp only [cond, QD] at h; subst h; simp [Ag, hxy]
  | false =>
   rw [hb] at h; have := Amm hxy h; simp only [Ag] at this; simp [Ag, this]
theorem No {nt : Nat} : ∀ {l : List (Nat × Sh)} {s : St3} {k : St3 -> Option α} {r : α}, Gx l s k = some r -> ∃ s' fz ob, E9 fz (s.st nt) = some (s'.st nt, ob) /\ (∀ p ∈ ob, p) /\ k s' = some r /\ (l = [] -> fz = [] /\ s' = s)
 | [], s, k, r, h => ⟨s, [], [], rfl, by simp, h, fun _ => ⟨rfl, rfl⟩⟩
 | (t, sh) :: l, s, k, r, h => by
  simp only [Gx] at h; split at h
  . rename_i g s1 hs
    cases g with
    | false => cases h
    | true =>
     obtain ⟨x', ob, h1, h2⟩ := Pp (nt := nt) hs rfl; obtain ⟨s2, fz, ob2, h3, h4, h5, _⟩ := No (nt := nt) (l := l) h
     refine ⟨s2, (t, x') :: fz, ob ++ ob2, by simp only [E9, h1, h3], fun p hp => ?_, h5, fun e => by cases e⟩
     rcases QF.1 hp with hp | hp
     . exact h2 p hp
     . exact h4 p hp
  . cases h
theorem Aj7 {o : Oper} {s : St3} {nt : Nat} {A : Option Sh} {r : R3} (h : Jl T A o s = some r) (hg : r.g = true) (he : r.eff = .none) :
  ∃ D obs, (∀ p ∈ obs, p) /\ quiet P T o D (s.st nt) = some (r.val.s (A3 s.boxes), obs) := by
 obtain ⟨hnt, q, h1, h2, h3⟩ := Aet (nt := nt) h hg; unfold Hj at h3; rw [he] at h3
 refine ⟨{ cells := hnt }, q.ob ++ [], by simpa using h2, ?_⟩
 unfold quiet; simp only [h1, h3.1, Option.getD_none, h3.2]
theorem Atu {K : Ai} {o : Oper} {D : F1} {s : St} (fz : List (Nat × V)) : C2 P T K o { D with fz := fz } s = C2 P T K o D s := rfl
def OA.S (P : Program) (a : OA) : Prop := (∀ E, a.ent = some E -> E.Sound P) /\ (∀ E, a.entB = some E -> E.Sound P) /\ ∀ E, E ∈ a.alt -> E.Sound P
theorem Aez (hT : Ap P T) {K : Ai} {A : OA} {o : Oper} {s s' : St3} {nt : Nat} {g : Bool} (h : Xj T K A o s = some (g, s')) (hg : g = true) :
  ∃ D obs, C2 P T K o D (s.st nt) = some (s'.st nt, obs) /\ ∀ p ∈ obs, p := by
 unfold Xj at h; split at h
 . rename_i q hq; split at h
   . rename_i s1 he; split at h
     . rename_i s2 hp
       have key : q.g = true -> ∃ D obs, C2 P T K o D (s.st nt) = some (s2.st nt, obs) /\ ∀ p ∈ obs, p := fun hg => by
        obtain ⟨hnt, r1, h1, h2, h3⟩ := Aet (nt := nt) hq hg; obtain ⟨h4, h5⟩ := B23 (nt := nt) he h3; have h6 := O4 (nt := nt) hp; rw [<- h5] at h6
        refine ⟨{ cells := hnt }, r1.ob ++ [] ++ [], ?_, by simpa using h2⟩
        unfold C2; simp only [h1, h4, Option.getD_none, h6, QR]
       split at h
       . simp only [QD, QG] at h; obtain ⟨rfl, rfl⟩ := h; exact key hg
       . split at h
         . simp only [QB, QG] at h; obtain ⟨s3, h3, rfl, rfl⟩ := h; obtain ⟨D, obs, k1, k2⟩ := key hg
           exact ⟨{ own := some (s3.st nt) }, _, rfl, fun p hp => by
            rw [QO.1 hp]
            exact (Ch hT k1 k2).weak (Afk h3)⟩
         . cases h
     . cases h
   . cases h
 . split at h
   . rename_i q hq; obtain rfl := QA h
     exact ⟨{ own := some (s'.st nt) }, _, rfl, fun p hp => by rw [QO.1 hp]; exact A9o hT hq hg⟩
   . exact ⟨{ own := some (s'.st nt) }, _, rfl, fun p hp => by rw [QO.1 hp]; exact Afl hT h hg⟩
theorem A79 (hT : Ap P T) {K : Ai} {A : OA} {o : Oper} {s : St3} {nt : Nat} {k : St3 -> Option α} {r : α} (h : O3 T K A o s k = some r) (hE : A.S P) :
  ∃ s' D obs, C2 P T K o D (s.st nt) = some (s'.st nt, obs) /\ (∀ p ∈ obs, p) /\ k s' = some r := by
 unfold O3 at h; split at h
 . rename_i E hal; exact Tb h (hE.2.2 E (Af4 hal))
 split at h
 . rename_i E hent; split at h
   . rename_i g x hc
     cases g with
     | false => cases h
     | true =>
      simp only [cond, ob] at h; split at h
      . rename_i y hm; split at h
        . rename_i s' hp; obtain ⟨obs, h1, h2⟩ := A23 (T := T) (nt := nt) hc hm (hE.1 E hent); have := O4 (nt := nt) hp; rw [A4r] at this; obtain ⟨D', obs', h3, h4⟩ := Pt h2 this; exact ⟨s', D', obs', h3, h4 h1, h⟩
        . cases h
      . cases h
   . split at h
     . rename_i F hF; exact Tb h (hE.2.1 F hF)
     . cases h
 split at h
 . rename_i E hent; exact Tb h (hE.2.1 E hent)
 . split at h
   . rename_i g s' hq
     cases g with
     | false => cases h
     | true =>
      obtain ⟨D, obs, h1, h2⟩ := Aez (nt := nt) hT hq rfl; exact ⟨s', D, obs, h1, h2, h⟩
   . cases h
theorem Att (hT : Ap P T) {K : Ai} {A : OA} {o : Oper} {s : St3} {nt : Nat} {k : St3 -> Option α} {r : α} (h : Pn T K A o s k = some r) (hE : A.S P) :
  ∃ s' D obs, C2 P T K o D (s.st nt) = some (s'.st nt, obs) /\ (∀ p ∈ obs, p) /\ k s' = some r := by
 unfold Pn at h; split at h
 . obtain ⟨s', h1, h2⟩ := B25 (nt := nt) hT h
   exact ⟨s', { own := some (s'.st nt) }, _, rfl, fun p hp => by rw [QO.1 hp]; exact h1, h2⟩
 . split at h
   . exact A79 hT h hE
   . obtain ⟨s1, D, obs, h1, h2, h3⟩ := A79 (nt := nt) hT h hE; split at h3
     . rename_i g s2 hs
       cases g with
       | false => cases h3
       | true => exact ⟨s2, { own := some (s2.st nt) }, _, rfl, fun p hp => by rw [QO.1 hp]; exact (Ch hT h1 h2).weak (Atv hs rfl), h3⟩
     . cases h3
theorem An4 {K : Ai} {A : OA} {o : Oper} {s : St3} {nt : Nat} {k : St3 -> Option α} {r : α} (h : Pn T K A o s k = some r) (hq : A.quiet T o s = true) (hE : A.S P) :
  ∃ t s' D x obs, o.dst = some t /\ Nat.blt t K.N = true /\ quiet P T o D (s.st nt) = some (x, obs) /\ (∀ p ∈ obs, p) /\ k s' = some r /\ s'.st nt = { s.st nt with slots := Af t x (s.st nt).slots } := by
 unfold OA.quiet at hq; simp only [QE] at hq; obtain ⟨⟨⟨⟨⟨⟨_, hqt⟩, hqa⟩, hqb, hqc⟩, hq0⟩, hq1⟩, hq2⟩ := hq
 have putI : ∀ {s s' : St3} {y : SV}, s.put3 K o.dst y = some s' -> ∃ t, o.dst = some t /\ Nat.blt t K.N = true /\ s'.st nt = { s.st nt with slots := Af t (y.s (A3 s.boxes)) (s.st nt).slots } := by
  intro s s' y hp; unfold St3.put3 at hp
  cases hd : o.dst with
  | none => rw [hd] at hq1; cases hq1
  | some t =>
   rw [hd] at hp; simp only at hp
   cases hb : Nat.blt t K.N with
   | false => rw [hb] at hp; cases hp
   | true =>
    rw [hb] at hp; obtain rfl := QA hp
    exact ⟨t, rfl, hb, by simp only [St3.st, Ct]⟩
 unfold Pn at h
 rw [show A.bor = none by simpa using hqb, show A.shut = none by simpa using hqc] at h
 simp only at h; unfold O3 at h; split at h
 . rename_i E hal; rw [YE.1 hqa] at hal; cases hal
 split at h
 . rename_i E hent; split at h
   . rename_i g x hc
     cases g with
     | false => cases h
     | true =>
      simp only [cond, ob] at h; split at h
      . rename_i y hm; split at h
        . rename_i s' hp; obtain ⟨obs, h1, h2⟩ := A23 (T := T) (nt := nt) hc hm (hE.1 E hent); obtain ⟨t, p1, p2, p3⟩ := putI hp; rw [A4r] at p3; exact ⟨t, s', _, _, obs, p1, p2, h2, h1, h, p3⟩
        . cases h
      . cases h
   . split at h
     . rename_i F hF; rw [hF] at hq0; cases hq0
     . cases h
 split at h
 . rename_i E hB; rw [hB] at hq0; cases hq0
 . rename_i hent _ _; rw [hent] at hq2; simp only at hq2
   cases hcq : Jl T A.sh o s with
   | none => rw [hcq] at hq2; cases hq2
   | some q =>
    rw [hcq] at hq2; simp only at hq2
    have he : q.eff = .none := by
     cases e : q.eff <;> first | rfl | (rw [e] at hq2; cases hq2)
    have htr : A.tr = none := by
     cases e : A.tr with
     | none => rfl
     | some _ => rw [e] at hqt; cases hqt
    unfold Xj at h; rw [hcq] at h; simp only [he, St3.eff3, htr] at h; split at h
    . rename_i g s' hb; split at hb
      . rename_i s2 hp; simp only [QD, QG] at hb; obtain ⟨hg, rfl⟩ := hb
        cases g with
        | false => cases h
        | true =>
         simp only [cond] at h; obtain ⟨D, obs, h1, h2⟩ := Aj7 (P := P) (nt := nt) hcq hg he; obtain ⟨t, p1, p2, p3⟩ := putI hp; exact ⟨t, _, D, _, obs, p1, p2, h2, h1, h, p3⟩
      . cases hb
    . cases h
theorem A7c {s : St3} {nt t : Nat} {b : Bool} (h : A0 t s.slots = some (.d .bool b)) : A0 t (s.st nt).slots = some (.v (.one (.i (.lit (.bool b))))) := by
 simp only [St3.st, Ae, h]; rfl
theorem Ii {s : St3} {nt t : Nat} {b : Bool} (h : A0 t s.slots = some (.d .bool b)) : (({ s with slots := Xv t (.d .bool b) s.slots } : St3).st nt) = s.st nt := by
 simp only [St3.st]; rw [Amm rfl h]
theorem A7q {ops : List Oper} {o : Oper} {s : St3} {nt : Nat} {f g : St3 -> Option α} {r : α} (h : U2 ops o s f g = some r) :
  ∃ s0, s0.st nt = s.st nt /\ ((Ge (s.st nt) ops o = some true /\ f s0 = some r) \/ (Ge (s.st nt) ops o = some false /\ g s0 = some r)) := by
 unfold U2 at h; unfold Ge; split at h
 . rename_i hg; rw [hg]
   exact ⟨s, rfl, .inl ⟨by first | rfl | trivial, h⟩⟩
 . rename_i j want hg; rw [hg]; simp only; split at h
   . rename_i p hp; simp only [hp]; split at h
     . rename_i t ht; simp only [ht]; split at h
       . rename_i b hl; simp only [A7c (nt := nt) hl]
         cases b <;> cases want <;> simp only [cond] at h
         . exact ⟨_, Ii hl, .inl ⟨by first | rfl | trivial, h⟩⟩
         . exact ⟨_, Ii hl, .inr ⟨by first | rfl | trivial, h⟩⟩
         . exact ⟨_, Ii hl, .inr ⟨by first | rfl | trivial, h⟩⟩
         . exact ⟨_, Ii hl, .inl ⟨by first | rfl | trivial, h⟩⟩
       . rename_i hl
         have : A0 t (s.st nt).slots = some (.tup []) := by
          simp only [St3.st, Ae, hl]; rfl
         simp only [this]
         exact ⟨s, rfl, .inr ⟨by first | rfl | trivial, h⟩⟩
       . cases h
     . cases h
   . cases h
theorem Aay {K : Ai} {o : Oper} {s : St3} {nt : Nat} {k : St3 -> Option α} {r : α} (h : Aa2 K o s k = some r) : ∃ s', (s.st nt).putD K o.dst (.tup []) = some (s'.st nt) /\ k s' = some r := by
 unfold Aa2 at h; split at h
 . rename_i s' hp; exact ⟨s', O4 (nt := nt) hp, h⟩
 . cases h
theorem Hn {K : Ai} {ops : List Oper} {Ds Ds' : List (Nat × F1)} : ∀ (l : List (Nat × Oper)) (s : St), (∀ p ∈ l, A0 p.1 Ds = A0 p.1 Ds') -> Cv P T K ops Ds l s = Cv P T K ops Ds' l s
 | [], _, _ => rfl
 | (i, o) :: r, s, h => by
  have h0 := h (i, o) (by simp)
  have ih := fun s => Hn (K := K) (ops := ops) r s fun p hp => h p (by simp [hp])
  simp only [Cv]; rw [show A0 i Ds = A0 i Ds' from h0]; simp only [ih]
theorem Hm {K : Ai} {ops : List Oper} {Ds Ds' : List (Nat × F1)} : ∀ (l : List (Nat × Oper)) (xs : List (Nat × Nat × S)) (s : St), (∀ p ∈ l, A0 p.1 Ds = A0 p.1 Ds') -> Fe P T K ops Ds l xs s = Fe P T K ops Ds' l xs s
 | [], _, _, _ => rfl
 | (i, o) :: r, xs, s, h => by
  have h0 := h (i, o) (by simp)
  have ih := fun xs s => Hm (K := K) (ops := ops) r xs s fun p hp => h p (by simp [hp])
  simp only [Fe]; rw [show A0 i Ds = A0 i Ds' from h0]; simp only [ih]
theorem Aw {β : Type} {i j : Nat} {x : β} {l : List (Nat × β)} (h : i ≠ j) : A0 j ((i, x) :: l) = A0 j l := by
 simp only [A0]
 have : Nat.beq i j = false := by cases e : Nat.beq i j with | false => rfl | true => exact absurd (QC e) h
 rw [this]; rfl
theorem Ba {β : Type} {i : Nat} {x : β} {l : List (Nat × β)} : A0 i ((i, x) :: l) = some x := by
 simp only [A0, XD]; rfl
theorem Vo (hT : Ap P T) {K : Ai} {ops : List Oper} {A : List (Nat × OA)} {nt : Nat} (hE : ∀ i a, A0 i A = some a -> a.S P) : ∀ (l : List (Nat × Oper)) (s : St3) (k : St3 -> Option α) (r : α), (l.map (·.1)).Nodup -> Gy T K ops A l s k = some r ->
  ∃ s' Ds obs, k s' = some r /\ Cv P T K ops Ds l (s.st nt) = some (s'.st nt, obs) /\ ∀ p ∈ obs, p
 | [], s, k, r, _, h => ⟨s, [], [], h, rfl, by simp⟩
 | (i, o) :: l, s, k, r, hn, h => by
  simp only [QV, YU] at hn; simp only [Gy] at h; obtain ⟨s0, fz, ob0, h1, h2, h3, _⟩ := No (nt := nt) h; obtain ⟨s00, e1, hg⟩ := A7q (nt := nt) h3
  have hEi : ((A0 i A).getD {}).S P := by
   cases hl : A0 i A with
   | none => exact ⟨(fun E h => by cases h), (fun E h => by cases h), (fun E h => by cases h)⟩
   | some a => exact hE i a hl
  rcases hg with ⟨g1, g2⟩ | ⟨g1, g2⟩
  . obtain ⟨s1, D, ob1, h4, h5, h6⟩ := Att (P := P) (nt := nt) hT g2 hEi; obtain ⟨s', Ds, ob2, h7, h8, h9⟩ := Vo hT hE l s1 k r hn.2 h6; refine ⟨s', (i, { D with fz := fz }) :: Ds, ob0 ++ (ob1 ++ ob2), h7, ?_, fun p hp => ?_⟩
    . simp only [Cv, Ba, XO, h1]; rw [e1] at h4; simp only [Vl, g1, Atu, h4]
      rw [Hn (Ds' := Ds) l _ fun p hp => Aw fun e => hn.1 (by rw [e]; exact ZP.2 ⟨p, hp, rfl⟩), h8]
    . rcases QF.1 hp with hp | hp
      . exact h2 p hp
      . rcases QF.1 hp with hp | hp
        . exact h5 p hp
        . exact h9 p hp
  . obtain ⟨s1, h4, h6⟩ := Aay (nt := nt) g2; obtain ⟨s', Ds, ob2, h7, h8, h9⟩ := Vo hT hE l s1 k r hn.2 h6; refine ⟨s', (i, { fz := fz }) :: Ds, ob0 ++ ([] ++ ob2), h7, ?_, fun p hp => ?_⟩
    . simp only [Cv, Ba, XO, h1]; rw [e1] at h4; simp only [Vl, g1, h4, QR]
      rw [Hn (Ds' := Ds) l _ fun p hp => Aw fun e => hn.1 (by rw [e]; exact ZP.2 ⟨p, hp, rfl⟩), h8]
    . rcases QF.1 hp with hp | hp
      . exact h2 p hp
      . exact h9 p (by simpa using hp)
theorem A7j {β : Type} {i : Nat} {d : β} {Ds : List (Nat × β)} {ks : List Nat} (h : ∀ j, (A0 j Ds).isSome = true ↔ j ∈ ks) : ∀ j, (A0 j ((i, d) :: Ds)).isSome = true ↔ j ∈ i :: ks := by
 intro j; by_cases e : i = j
 . subst e; rw [Ba]; simp
 . rw [Aw e, h j]; simp [Ne.symm e]
theorem Ss {β : Type} {j : Nat} : ∀ {a b : List (Nat × β)}, (A0 j a).isSome = true -> A0 j (a ++ b) = A0 j a
 | [], _, h => by cases h
 | (i, x) :: r, b, h => by
  by_cases e : i = j
  . subst e; rw [YI, Ba, Ba]
  . rw [Aw e] at h; rw [YI, Aw e, Aw e, Ss h]
theorem Su {β : Type} {j : Nat} : ∀ {a b : List (Nat × β)}, A0 j a = none -> A0 j (a ++ b) = A0 j b
 | [], _, _ => rfl
 | (i, x) :: r, b, h => by
  by_cases e : i = j
  . subst e; rw [Ba] at h
    cases h
  . rw [Aw e] at h; rw [YI, Aw e, Su h]
theorem A4v {K : Ai} {ops : List Oper} {A : List (Nat × OA)} {nt : Nat} (hE : ∀ i a, A0 i A = some a -> a.S P) : ∀ (l : List (Nat × Oper)) (s : St3) (k : St3 -> Option α) (r : α), (l.map (·.1)).Nodup -> Abb T K ops A l s k = some r ->
  ∃ s' Ds obs, k s' = some r /\ (∀ xs, ∃ ys, Fe P T K ops Ds l xs (s.st nt) = some (ys, s'.st nt, obs)) /\ (∀ p ∈ obs, p) /\ ∀ j, (A0 j Ds).isSome = true ↔ j ∈ l.map (·.1)
 | [], s, k, r, _, h => ⟨s, [], [], h, fun xs => ⟨xs, rfl⟩, by simp, fun j => by simp [A0]⟩
 | (i, o) :: l, s, k, r, hn, h => by
  simp only [QV, YU] at hn; simp only [Abb] at h
  have hEi : ((A0 i A).getD {}).S P := by
   cases hl : A0 i A with
   | none => exact ⟨(fun E h => by cases h), (fun E h => by cases h), (fun E h => by cases h)⟩
   | some a => exact hE i a hl
  obtain ⟨s00, e1, hg⟩ := A7q (nt := nt) h; rcases hg with ⟨g1, g2⟩ | ⟨g1, g2⟩
  . cases hq : OA.quiet T ((A0 i A).getD {}) o s00 with
    | false => rw [hq] at g2; cases g2
    | true =>
     rw [hq] at g2; simp only [cond] at g2; obtain ⟨t, s1, D, x, ob1, d1, d2, d3, d4, d5, d6⟩ := An4 (P := P) (nt := nt) g2 hq hEi; obtain ⟨s', Ds, ob2, h7, h8, h9, h10⟩ := A4v hE l s1 k r hn.2 d5; refine ⟨s', (i, D) :: Ds, ob1 ++ ob2, h7, fun xs => ?_, fun p hp => ?_, A7j h10⟩
     . obtain ⟨ys, h8⟩ := h8 ((i, t, x) :: xs); refine ⟨ys, ?_⟩; rw [e1] at d3 d6; simp only [Fe, d1, Ba, XO, Pu, g1, d3, d2, cond]
       rw [<- d6, Hm (Ds' := Ds) l _ _ fun p hp => Aw fun e => hn.1 (by rw [e]; exact ZP.2 ⟨p, hp, rfl⟩), h8]
     . rcases QF.1 hp with hp | hp
       . exact d4 p hp
       . exact h9 p hp
  . cases hd : o.dst with
    | none => rw [hd] at g2; cases g2
    | some t =>
     rw [hd] at g2; simp only [Option.isSome_some, cond] at g2; obtain ⟨s1, h4, h6⟩ := Aay (nt := nt) g2; rw [hd] at h4; simp only [St.putD] at h4
     cases hb : Nat.blt t K.N with
     | false => rw [hb] at h4; cases h4
     | true =>
      rw [hb] at h4; simp only [cond, QD] at h4; obtain ⟨s', Ds, ob2, h7, h8, h9, h10⟩ := A4v hE l s1 k r hn.2 h6
      refine ⟨s', (i, {}) :: Ds, [] ++ ob2, h7, fun xs => ?_, fun p hp => h9 p (by simpa using hp), A7j h10⟩
      obtain ⟨ys, h8⟩ := h8 ((i, t, .tup []) :: xs); refine ⟨ys, ?_⟩; rw [e1] at h4; simp only [Fe, hd, Ba, XO, Pu, g1, hb, cond]
      rw [h4, Hm (Ds' := Ds) l _ _ fun p hp => Aw fun e => hn.1 (by rw [e]; exact ZP.2 ⟨p, hp, rfl⟩), h8]
theorem Eu (l : List Oper) : ((A8 l).map (·.1)).Nodup := by
 have : (A8 l).map (·.1) = List.range l.length := by
  apply KR; intro j; simp only [A8, XF, QK, YQ]; by_cases hj : j < l.length
  . simp [hj]
  . simp [hj]
 rw [this]; exact Qah
theorem Aya (hT : Ap P T) (hfol : P.follows .mixedOrders = true) {K : Ai} {A : RA} {id : Nat} {ops : Array Oper} {draw : Bool} {s : St3} {nt : Nat} {k : St3 -> Option α} {r : α}
  (hE : ∀ i a, A0 i A.ops = some a -> a.S P) (h : Aty P T K A ops draw s k = some r) :
  ∃ s', Code.Den P K (.region id ops draw) (s.st nt) .normal (s'.st nt) /\ k s' = some r := by
 unfold Aty at h
 cases draw with
 | true =>
  simp only [cond] at h
  cases hok : Dp ops A.m with
  | false => rw [hok] at h; cases h
  | true =>
   rw [hok] at h; obtain ⟨s0, fz, ob0, h1, h2, h3, _⟩ := No (nt := nt) h; obtain ⟨s1, Ds1, ob1, h4, h5, h6, h6'⟩ := A4v (P := P) (nt := nt) hE _ s0 _ _ ((Eu ops.toList).sublist ((List.take_sublist _ _).map _)) h3; obtain ⟨s2, Ds2, ob2, h7, h8, h9⟩ := Vo (P := P) (nt := nt) hT hE _ s1 _ _ ((Eu ops.toList).sublist ((List.drop_sublist _ _).map _)) h4; refine ⟨s2, ?_, h7⟩; have hnd := Eu ops.toList
   have e1 : ∀ p ∈ (A8 ops.toList).take A.m, A0 p.1 (Ds1 ++ Ds2) = A0 p.1 Ds1 := fun p hp => by
    have := (h6' p.1).2 (ZP.2 ⟨p, hp, rfl⟩); exact Ss this
   have e2 : ∀ p ∈ (A8 ops.toList).drop A.m, A0 p.1 (Ds1 ++ Ds2) = A0 p.1 Ds2 := fun p hp => by
    refine Su ?_
    cases hl : A0 p.1 Ds1 with
    | none => rfl
    | some d =>
     exfalso
     have hm := (h6' p.1).1 (by rw [hl]; rfl)
     have hd : p.1 ∈ ((A8 ops.toList).drop A.m).map (·.1) := ZP.2 ⟨p, hp, rfl⟩; rw [<- JJ A.m (A8 ops.toList), JX, List.nodup_append] at hnd; exact hnd.2.2 _ hm _ hd rfl
   obtain ⟨ys, h5⟩ := h5 []
   have : Tj P T K ops A.m (Ds1 ++ Ds2) fz (s.st nt) = some (s2.st nt, (P.follows .mixedOrders = true) :: (ob0 ++ (ob1 ++ ob2))) := by
    unfold Tj; rw [hok]; simp only [cond, h1]; rw [Hm _ _ _ e1, h5]; simp only; rw [Hn _ _ e2, h8]
   refine Ab6 hT this fun p hp => ?_; rcases QT.1 hp with rfl | hp
   . exact hfol
   . rcases QF.1 hp with hp | hp
     . exact h2 p hp
     . rcases QF.1 hp with hp | hp
       . exact h6 p hp
       . exact h9 p hp
 | false =>
  simp only [cond] at h; obtain ⟨s2, Ds2, ob2, h7, h8, h9⟩ := Vo (P := P) (nt := nt) hT hE _ s _ _ (Eu ops.toList) h; refine ⟨s2, ?_, h7⟩
  have : Jt P T K ops { ds := Ds2, drop := [] } (s.st nt) = some ((s2.st nt).forget [], ob2) := by
   unfold Jt; simp only [h8]
  have := Ab9 (id := id) hT this h9
  have e : (s2.st nt).forget [] = s2.st nt := by
   have : Aag [] (s2.st nt).slots = (s2.st nt).slots := JS.2 fun _ _ => rfl; unfold St.forget; rw [this]
  rw [e] at this; exact this
end Go.Ev
