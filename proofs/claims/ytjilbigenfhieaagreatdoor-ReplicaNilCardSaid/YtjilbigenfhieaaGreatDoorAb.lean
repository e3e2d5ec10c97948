/- A logic of what functions do to memory, for proofs over the model: no statement of the seat is proved here; no condition. -/
import Derived.WalkKit
import Derived.Maps.AppendAt
import Derived.Orders
import Derived.WalkSpells
set_option linter.unusedVariables false
set_option linter.unusedSimpArgs false
set_option linter.all false
namespace Go.Ab
open Go

/-- What a value is, told without memory. -/
inductive AV where
  | val (v : Value)
  | agg (cs : List AV)
  | tup (cs : List AV)
  | sl (n : Nat) (xs : List AV)
  | own (n : Nat) (o : Option (Nat × Nat)) (xs : List AV)
  | ip (cs : List AV)

def AV.cells : AV → List AV
  | .agg cs => cs
  | x => [x]

def AV.one : AV → Bool
  | .val v => v.oneCell'
  | .agg _ | .tup _ => false
  | _ => true

/-- An element of a slice: so many cells, none a struct. -/
def OkEl (n : Nat) (x : AV) : Prop := x.cells.length = n ∧ x.cells.all AV.one = true

def flat (xs : List AV) : List AV := xs.flatMap AV.cells

abbrev Im := Addr → Option Value

inductive Zip2 {α β : Type} (R : α → β → Prop) : List α → List β → Prop
  | nil : Zip2 R [] []
  | cons {a : α} {b : β} {l : List α} {m : List β} (h : R a b) (t : Zip2 R l m) : Zip2 R (a :: l) (b :: m)


/-- The cells from an address on hold, for good, what is told. -/
inductive Rel (I : Im) : Value → AV → Prop
  | val (v : Value) : Rel I v (.val v)
  | agg {vs : Array Value} {cs : List AV} (hs : vs.size = cs.length) (h : ∀ (i : Nat) (v : Value) (c : AV), vs[i]? = some v → cs[i]? = some c → Rel I v c) : Rel I (.agg vs) (.agg cs)
  | tup {vs : Array Value} {cs : List AV} (hs : vs.size = cs.length) (h : ∀ (i : Nat) (v : Value) (c : AV), vs[i]? = some v → cs[i]? = some c → Rel I v c) : Rel I (.tuple vs) (.tup cs)
  | slnil (n : Nat) : Rel I (.slice none 0 0) (.sl n [])
  | sl {n : Nat} {a : Addr} {len cap : Nat} {xs : List AV} (hl : len = xs.length) (hc : len ≤ cap) (hn : ∀ x ∈ xs, OkEl n x)
      (hd : ∀ i, i < (flat xs).length → (I (a.add i)).isSome = true) (h : ∀ (i : Nat) (v : Value) (c : AV), I (a.add i) = some v → (flat xs)[i]? = some c → Rel I v c) : Rel I (.slice (some a) len cap) (.sl n xs)
  | ownnil (n : Nat) : Rel I (.slice none 0 0) (.own n none [])
  | own {n : Nat} {b cap : Nat} {xs : List AV} (hc : xs.length ≤ cap) (hn : ∀ x ∈ xs, OkEl n x)
      (hd : ∀ i, i < (flat xs).length → (I ⟨b, i, none⟩).isSome = true) (h : ∀ (i : Nat) (v : Value) (c : AV), I ⟨b, i, none⟩ = some v → (flat xs)[i]? = some c → Rel I v c) : Rel I (.slice (some ⟨b, 0, none⟩) xs.length cap) (.own n (some (b, cap)) xs)
  | ip {a : Addr} {cs : List AV} (hd : ∀ i, i < cs.length → (I (a.add i)).isSome = true) (h : ∀ (i : Nat) (v : Value) (c : AV), I (a.add i) = some v → cs[i]? = some c → Rel I v c) : Rel I (.pointer (some a)) (.ip cs)

def Im.le (I I' : Im) : Prop := ∀ a v, I a = some v → I' a = some v
theorem Im.le_refl (I : Im) : Im.le I I := fun _ _ h => h
theorem Im.le_trans {I I' I'' : Im} (h : Im.le I I') (h' : Im.le I' I'') : Im.le I I'' := fun a v e => h' a v (h a v e)

theorem Im.some_of_le {I I' : Im} (h : Im.le I I') {a : Addr} (hs : (I a).isSome = true) : (I' a).isSome = true := by
  obtain ⟨v, hv⟩ := Option.isSome_iff_exists.1 hs
  rw [h a v hv]; rfl
theorem Im.eq_of_le {I I' : Im} (h : Im.le I I') {a : Addr} {v : Value} (hs : (I a).isSome = true) (hv : I' a = some v) : I a = some v := by
  obtain ⟨u, hu⟩ := Option.isSome_iff_exists.1 hs
  rw [h a u hu] at hv; rw [hu, hv]

theorem lt_of_get {α : Type} {l : List α} {i : Nat} {c : α} (h : l[i]? = some c) : i < l.length := by
  rcases Nat.lt_or_ge i l.length with h' | h'
  · exact h'
  · rw [List.getElem?_eq_none h'] at h; cases h

theorem Rel.mono {I I' : Im} (hle : Im.le I I') {v : Value} {c : AV} (h : Rel I v c) : Rel I' v c := by
  induction h with
  | val v => exact .val v
  | agg hs _ ih => exact .agg hs ih
  | tup hs _ ih => exact .tup hs ih
  | slnil n => exact .slnil n
  | sl hl hc hn hd _ ih =>
    exact .sl hl hc hn (fun i hi => Im.some_of_le hle (hd i hi)) (fun i v c hv hcc => ih i v c (Im.eq_of_le hle (hd i (lt_of_get hcc)) hv) hcc)
  | ownnil n => exact .ownnil n
  | own hc hn hd _ ih =>
    exact .own hc hn (fun i hi => Im.some_of_le hle (hd i hi)) (fun i v c hv hcc => ih i v c (Im.eq_of_le hle (hd i (lt_of_get hcc)) hv) hcc)
  | ip hd _ ih =>
    exact .ip (fun i hi => Im.some_of_le hle (hd i hi)) (fun i v c hv hcc => ih i v c (Im.eq_of_le hle (hd i (lt_of_get hcc)) hv) hcc)

theorem Rel.val_eq {I : Im} {v u : Value} (h : Rel I v (.val u)) : v = u := by cases h; rfl

/-- A block that is owned. -/
inductive AObj where
  | cells (cs : List AV) (t : TypeId)
  | map (es : List (Value × AV × Nat)) (clock : Nat)
  | row (used cap n : Nat) (t : TypeId)
  | raw (o : Obj)
  | old (o : Obj) (os : Os) (out : Array (Nat × ByteArray))

def MRel (I : Im) (e : MapEntry) (x : Value × AV × Nat) : Prop := e.key = x.1 ∧ Rel I e.val x.2.1 ∧ e.born = x.2.2

def Obj.noCells : Obj → Bool
  | .cells .. => false
  | _ => true

def OGood (I : Im) (w : World) (b : Nat) : AObj → Prop
  | .cells cs t => ∃ vs : Array Value, w.heap[b]? = some (.cells vs t (0, 0)) ∧ vs.size = cs.length ∧ (∀ (i : Nat) (v : Value) (c : AV), vs[i]? = some v → cs[i]? = some c → Rel I v c) ∧ ∀ off, I ⟨b, off, none⟩ = none
  | .map es clock => ∃ ents : Array MapEntry, w.heap[b]? = some (.map ents clock) ∧ Zip2 (MRel I) ents.toList es
  | .row used cap n t => ∃ vs : Array Value, w.heap[b]? = some (.cells vs t (0, 0)) ∧ vs.size = cap * n ∧ used ≤ cap ∧ cap ≤ maxLen ∧ ∀ off, used * n ≤ off → I ⟨b, off, none⟩ = none
  | .raw o => w.heap[b]? = some o ∧ Obj.noCells o = true
  | .old o os out => w.heap[b]? = some o ∧ w.os = os ∧ w.output = out

abbrev Heaplet := List (Nat × AObj)

structure Good (I : Im) (L : Heaplet) (w : World) : Prop where
  im : ∀ a v, I a = some v → a.spot = none ∧ w.cell? a = some v
  nd : (L.map (·.1)).Nodup
  ob : ∀ b o, (b, o) ∈ L → OGood I w b o

theorem Good.perm {I : Im} {L L' : Heaplet} {w : World} (h : Good I L w) (hp : L.Perm L') : Good I L' w :=
  ⟨h.im, (hp.map _).nodup_iff.1 h.nd, fun b o hb => h.ob b o (hp.mem_iff.2 hb)⟩
theorem Good.sub {I : Im} {L L' : Heaplet} {w : World} (h : Good I L w) (hp : List.Sublist L' L) : Good I L' w :=
  ⟨h.im, (hp.map _).nodup h.nd, fun b o hb => h.ob b o (hp.subset hb)⟩

abbrev HProp := Heaplet → Prop
def pt (b : Nat) (o : AObj) : HProp := fun l => l = [(b, o)]
def hpure (p : Prop) : HProp := fun l => l = [] ∧ p
def hex {α : Type} (f : α → HProp) : HProp := fun l => ∃ x, f x l
inductive Seps : List HProp → Heaplet → Prop
  | nil : Seps [] []
  | cons {h : HProp} {hs : List HProp} {l l' : Heaplet} (h1 : h l) (h2 : Seps hs l') : Seps (h :: hs) (l ++ l')
def star (hs : List HProp) : HProp := Seps hs

/-- The chunks hold, each of a part of its own. -/
def SepG (I : Im) (Hs : List HProp) (w : World) : Prop := ∃ L, Seps Hs L ∧ Good I L w

theorem Seps.append {a b : List HProp} {l l' : Heaplet} (h : Seps a l) (h' : Seps b l') : Seps (a ++ b) (l ++ l') := by
  induction h with
  | nil => exact h'
  | cons h1 _ ih => rw [List.append_assoc]; exact .cons h1 ih
theorem Seps.split {a b : List HProp} {l : Heaplet} (h : Seps (a ++ b) l) : ∃ x y, l = x ++ y ∧ Seps a x ∧ Seps b y := by
  induction a generalizing l with
  | nil => exact ⟨[], l, rfl, .nil, h⟩
  | cons k a ih =>
    cases h with
    | cons h1 h2 =>
      obtain ⟨x, y, rfl, hx, hy⟩ := ih h2
      exact ⟨_ ++ x, y, by rw [List.append_assoc], .cons h1 hx, hy⟩
theorem Seps.perm {a b : List HProp} (hp : a.Perm b) : ∀ {l : Heaplet}, Seps a l → ∃ l', l.Perm l' ∧ Seps b l' := by
  induction hp with
  | nil => exact fun h => ⟨_, .refl _, h⟩
  | cons x _ ih =>
    intro l h
    cases h with
    | cons h1 h2 =>
      obtain ⟨l', hl, hs⟩ := ih h2
      exact ⟨_, List.Perm.append_left _ hl, .cons h1 hs⟩
  | swap x y l0 =>
    intro l h
    cases h with
    | cons h1 h2 =>
      cases h2 with
      | cons h3 h4 =>
        refine ⟨_, ?_, .cons h3 (.cons h1 h4)⟩
        rw [← List.append_assoc, ← List.append_assoc]
        exact List.Perm.append_right _ List.perm_append_comm
  | trans _ _ ih1 ih2 =>
    intro l h
    obtain ⟨l1, p1, s1⟩ := ih1 h
    obtain ⟨l2, p2, s2⟩ := ih2 s1
    exact ⟨l2, p1.trans p2, s2⟩

/-- One list of chunks gives another one. -/
def HSub (a b : List HProp) : Prop := ∀ I w, SepG I a w → SepG I b w
theorem HSub.refl (a : List HProp) : HSub a a := fun _ _ h => h
theorem HSub.trans {a b c : List HProp} (h : HSub a b) (h' : HSub b c) : HSub a c := fun I w x => h' I w (h I w x)
theorem HSub.perm {a b : List HProp} (hp : a.Perm b) : HSub a b := fun _ _ ⟨_, hs, hg⟩ =>
  let ⟨l', p, s⟩ := Seps.perm hp hs
  ⟨l', s, hg.perm p⟩
theorem HSub.drop (h : HProp) (a : List HProp) : HSub (h :: a) a := fun _ _ ⟨_, hs, hg⟩ => by
  cases hs with
  | cons _ h2 => exact ⟨_, h2, hg.sub (List.sublist_append_right _ _)⟩
theorem HSub.imp {h k : HProp} (hk : ∀ l, h l → k l) (a : List HProp) : HSub (h :: a) (k :: a) := fun _ _ ⟨_, hs, hg⟩ => by
  cases hs with
  | cons h1 h2 => exact ⟨_, .cons (hk _ h1) h2, hg⟩
theorem HSub.cons {a b : List HProp} (h : HProp) (hab : ∀ l, Seps a l → ∃ l', List.Sublist l' l ∧ Seps b l') : HSub (h :: a) (h :: b) := fun _ _ ⟨_, hs, hg⟩ => by
  cases hs with
  | cons h1 h2 =>
    obtain ⟨l', hl, hb⟩ := hab _ h2
    exact ⟨_, .cons h1 hb, hg.sub (List.Sublist.append_left hl _)⟩
theorem HSub.star (hs t : List HProp) : HSub (star hs :: t) (hs ++ t) := fun _ _ ⟨_, h, hg⟩ => by
  cases h with
  | cons h1 h2 => exact ⟨_, Seps.append h1 h2, hg⟩
theorem HSub.unstar (hs t : List HProp) : HSub (hs ++ t) (Ab.star hs :: t) := fun _ _ ⟨_, h, hg⟩ => by
  obtain ⟨x, y, rfl, hx, hy⟩ := Seps.split h
  exact ⟨_, .cons hx hy, hg⟩

def fget (i : Nat) : List (Nat × AV) → Option AV
  | [] => none
  | (j, a) :: t => bif Nat.beq i j then some a else fget i t

abbrev Fr := List (Nat × AV)

def FrRel (I : Im) (n : Nat) (fr : Fr) (tmps : Array Value) : Prop :=
  tmps.size = n ∧ ∀ i a, fget i fr = some a → ∃ v, tmps[i]? = some v ∧ Rel I v a

/-- What holds throughout an activation: cells known for good; the deferred calls. -/
structure JD where
  im : Im
  ds : List Deferred

structure AState (J : JD) (I : Im) (n : Nat) (fr : Fr) (Hs : List HProp) (a : Act) (w : World) : Prop where
  le : Im.le J.im I
  sep : SepG I Hs w
  frame : FrRel I n fr a.tmps
  nod : a.defers = J.ds

abbrev APost := Exit → Fr → List HProp → Prop

def lift (J : JD) (n : Nat) (Φ : APost) : Exit → Act → World → Prop := fun e a w => ∃ I fr Hs, AState J I n fr Hs a w ∧ Φ e fr Hs

def AWP (P : Program) (J : JD) (n : Nat) (c : Code) (Φ : APost) (fr : Fr) (Hs : List HProp) : Prop :=
  ∀ I a w, AState J I n fr Hs a w → c.wp P (lift J n Φ) a w

def AOps (P : Program) (J : JD) (n : Nat) (ops : Array Oper) (rest : List Oper) (Φ : APost) (fr : Fr) (Hs : List HProp) : Prop :=
  ∀ I a w, AState J I n fr Hs a w → wpList P ops (lift J n Φ) rest a w

def AOp (P : Program) (J : JD) (n : Nat) (o : Oper) (K : Fr → List HProp → Prop) (Φ : APost) (fr : Fr) (Hs : List HProp) : Prop :=
  ∀ F I a w, AState J I n fr (Hs ++ F) a w → ∀ (next : Act → World → Prop) (Q : Exit → Act → World → Prop),
    (∀ I' fr' Hs' a' w', Im.le I I' → (∃ v, a' = a.put o.dst v) → AState J I' n fr' (Hs' ++ F) a' w' → K fr' Hs' → next a' w') →
    (∀ e I' fr' Hs' a' w', AState J I' n fr' (Hs' ++ F) a' w' → Φ e fr' Hs' → Q e a' w') → o.wp P a w next Q

def aseq (K : Fr → List HProp → Prop) (Φ : APost) : APost
  | .normal, fr, Hs => K fr Hs
  | e, fr, Hs => Φ e fr Hs

def ablock (id : Nat) (Φ : APost) : APost
  | .exit id', fr, Hs => if id' = id then Φ .normal fr Hs else Φ (.exit id') fr Hs
  | e, fr, Hs => Φ e fr Hs

section rules
variable {P : Program} {J : JD} {n : Nat} {Φ : APost} {fr : Fr} {Hs : List HProp}

theorem awp_mono {c : Code} {Φ' : APost} (h : AWP P J n c Φ fr Hs) (hq : ∀ e fr Hs, Φ e fr Hs → Φ' e fr Hs) : AWP P J n c Φ' fr Hs :=
  fun I a w hs => wp_mono (h I a w hs) fun _ _ _ ⟨I', fr', Hs', hs', hp⟩ => ⟨I', fr', Hs', hs', hq _ _ _ hp⟩

theorem awp_skip (h : Φ .normal fr Hs) : AWP P J n .skip Φ fr Hs := fun I _ _ hs => wp_skip ⟨I, fr, Hs, hs, h⟩
theorem awp_ret (h : Φ .ret fr Hs) : AWP P J n .ret Φ fr Hs := fun I _ _ hs => wp_ret ⟨I, fr, Hs, hs, h⟩
theorem awp_exit {id : Nat} (h : Φ (.exit id) fr Hs) : AWP P J n (.exit id) Φ fr Hs := fun I _ _ hs => wp_exit ⟨I, fr, Hs, hs, h⟩

theorem awp_seq {x y : Code} (h : AWP P J n x (aseq (AWP P J n y Φ) Φ) fr Hs) : AWP P J n (.seq x y) Φ fr Hs :=
  fun I a w hs => wp_seq (wp_mono (h I a w hs) fun e a w ⟨I', fr', Hs', hs', hp⟩ => by
    cases e <;> first | exact hp I' a w hs' | exact ⟨I', fr', Hs', hs', hp⟩)

theorem awp_block {id : Nat} {c : Code} (h : AWP P J n c (ablock id Φ) fr Hs) : AWP P J n (.block id c) Φ fr Hs :=
  fun I a w hs => wp_block (wp_mono (h I a w hs) fun e a w ⟨I', fr', Hs', hs', hp⟩ => by
    cases e with
    | exit id' =>
      show if id' = id then _ else _
      have hp' : if id' = id then Φ .normal fr' Hs' else Φ (.exit id') fr' Hs' := hp
      by_cases hid : id' = id
      · rw [if_pos hid] at hp' ⊢; exact ⟨I', fr', Hs', hs', hp'⟩
      · rw [if_neg hid] at hp' ⊢; exact ⟨I', fr', Hs', hs', hp'⟩
    | _ => exact ⟨I', fr', Hs', hs', hp⟩)

theorem awp_loop {c : Code} (Inv : Nat → Fr → List HProp → Prop) (m : Nat) (h0 : Inv m fr Hs)
    (round : ∀ m fr Hs, Inv m fr Hs → AWP P J n c (aseq (fun fr' Hs' => ∃ m', m' < m ∧ Inv m' fr' Hs') Φ) fr Hs) : AWP P J n (.loop c) Φ fr Hs := by
  intro I a w hs
  -- the measure is no function of the world: by hand, by induction on it
  intro b k cs
  have key : ∀ m I a w fr Hs, AState J I n fr Hs a w → Inv m fr Hs →
      ∃ e a' w', lift J n Φ e a' w' ∧ Arrives P (lone (b.at a (.code c :: .inLoop c :: k)) cs w) b k cs e a' w' := by
    intro m
    induction m using Nat.strongRecOn with
    | _ m ih =>
      intro I a w fr Hs hs hI
      obtain ⟨e, a₁, w₁, ⟨I₁, fr₁, Hs₁, hs₁, hq⟩, harr⟩ := round m fr Hs hI I a w hs b (.inLoop c :: k) cs
      cases e with
      | normal =>
        obtain ⟨m', hlt, hI'⟩ := hq
        obtain ⟨e₂, a₂, w₂, hq₂, harr₂⟩ := ih m' hlt I₁ a₁ w₁ fr₁ Hs₁ hs₁ hI'
        exact ⟨e₂, a₂, w₂, hq₂, .of_steps (Steps.trans harr (.one step_inLoop)) harr₂⟩
      | exit id => exact ⟨_, a₁, w₁, ⟨I₁, fr₁, Hs₁, hs₁, hq⟩, .pass (x := .inLoop c) rfl (fun _ _ => .inl (by simp)) harr⟩
      | goto l => exact ⟨_, a₁, w₁, ⟨I₁, fr₁, Hs₁, hs₁, hq⟩, .pass (x := .inLoop c) rfl (fun _ _ => .inl (by simp)) harr⟩
      | ret => exact ⟨_, a₁, w₁, ⟨I₁, fr₁, Hs₁, hs₁, hq⟩, .pass (x := .inLoop c) rfl (fun _ _ => .inl (by simp)) harr⟩
      | panic ch => exact ⟨_, a₁, w₁, ⟨I₁, fr₁, Hs₁, hs₁, hq⟩, .pass (x := .inLoop c) rfl (fun _ _ => .inl (by simp)) harr⟩
      | outgrown => exact ⟨_, a₁, w₁, ⟨I₁, fr₁, Hs₁, hs₁, hq⟩, .pass (x := .inLoop c) rfl (fun _ _ => .inl (by simp)) harr⟩
  obtain ⟨e, a', w', hq, harr⟩ := key m I a w fr Hs hs h0
  exact ⟨e, a', w', hq, .of_steps (.one step_loop) harr⟩

theorem awp_hsub {c : Code} {Hs' : List HProp} (hh : HSub Hs Hs') (h : AWP P J n c Φ fr Hs') : AWP P J n c Φ fr Hs :=
  fun I a w hs => h I a w ⟨hs.le, hh I w hs.sep, hs.frame, hs.nod⟩

def Weak (fr : Fr) : Fr → Prop
  | [] => True
  | (i, a) :: t => fget i fr = some a ∧ Weak fr t

theorem Weak.get {fr : Fr} : ∀ {fr' : Fr}, Weak fr fr' → ∀ i a, fget i fr' = some a → fget i fr = some a
  | [], _, i, a, h => by cases h
  | (j, b) :: t, hw, i, a, h => by
    unfold fget at h
    by_cases e : Nat.beq i j = true
    · rw [e] at h; simp only [cond_true] at h; cases h
      have := Nat.eq_of_beq_eq_true e; subst this; exact hw.1
    · rw [Bool.not_eq_true] at e; rw [e] at h; exact Weak.get hw.2 i a h

theorem FrRel.weak {I : Im} {fr' : Fr} {tmps : Array Value} (h : FrRel I n fr tmps) (hw : Weak fr fr') : FrRel I n fr' tmps :=
  ⟨h.1, fun i a hi => h.2 i a (hw.get i a hi)⟩

theorem awp_weak {c : Code} (fr' : Fr) (hw : Weak fr fr') (h : AWP P J n c Φ fr' Hs) : AWP P J n c Φ fr Hs :=
  fun I a w hs => h I a w ⟨hs.le, hs.sep, hs.frame.weak hw, hs.nod⟩

theorem FrRel.get {I : Im} {tmps : Array Value} (h : FrRel I n fr tmps) {i : Nat} {a : AV} (hi : fget i fr = some a) : Rel I (tmps.getD i undef) a := by
  obtain ⟨v, hv, hr⟩ := h.2 i a hi
  rw [Array.getD_eq_getD_getElem?, hv]; exact hr

theorem awp_cond {c : Operand} {x y : Code} {t : Nat} {b : Bool} (hc : c = .tmp t) (hg : fget t fr = some (.val (.bool b))) (ht : b = true → AWP P J n x Φ fr Hs) (hf : b = false → AWP P J n y Φ fr Hs) :
    AWP P J n (.cond c x y) Φ fr Hs := by
  intro I a w hs
  subst hc
  have hv : a.eval (.tmp t) = .bool b := by
    exact (hs.frame.get hg).val_eq
  exact wp_cond_split hv (fun e => ht e I a w hs) (fun e => hf e I a w hs)

theorem awp_region {id : Nat} {l : List Oper} (h : AOps P J n l.toArray l Φ fr Hs) : AWP P J n (.region id l.toArray false) Φ fr Hs :=
  fun I a w hs => wp_region_lit (h I a w hs)

theorem aops_nil {ops : Array Oper} (h : Φ .normal fr Hs) : AOps P J n ops [] Φ fr Hs := fun I _ _ hs => wpList_nil ⟨I, fr, Hs, hs, h⟩

theorem aops_cons {ops : Array Oper} {rest : List Oper} {o : Oper} (hg : o.guard = none) (h : AOp P J n o (AOps P J n ops rest Φ) Φ fr Hs) : AOps P J n ops (o :: rest) Φ fr Hs :=
  fun I a w hs => wpList_plain hg fun K hK => h [] I a w (by rw [List.append_nil]; exact hs) K _ (fun I' _ _ a' w' _ _ hs' hk => hK a' w' (hk I' a' w' (by rw [List.append_nil] at hs'; exact hs')))
    (fun e I' fr' Hs' a' w' hs' hp => ⟨I', fr', Hs', by rw [List.append_nil] at hs'; exact hs', hp⟩)

theorem aops_hsub {ops : Array Oper} {rest : List Oper} {Hs' : List HProp} (hh : HSub Hs Hs') (h : AOps P J n ops rest Φ fr Hs') : AOps P J n ops rest Φ fr Hs :=
  fun I a w hs => h I a w ⟨hs.le, hh I w hs.sep, hs.frame, hs.nod⟩

theorem aops_weak {ops : Array Oper} {rest : List Oper} (fr' : Fr) (hw : Weak fr fr') (h : AOps P J n ops rest Φ fr' Hs) : AOps P J n ops rest Φ fr Hs :=
  fun I a w hs => h I a w ⟨hs.le, hs.sep, hs.frame.weak hw, hs.nod⟩
end rules

def oget (fr : Fr) : Operand → Option AV
  | .tmp t => fget t fr
  | .const v => some (.val v)
  | .global g => some (.val (.pointer (some ⟨g, 0, none⟩)))
  | .func f => some (.val (.func (.func f) #[] #[]))

theorem FrRel.oget {I : Im} {n : Nat} {fr : Fr} {a : Act} (h : FrRel I n fr a.tmps) {x : Operand} {c : AV} (hx : oget fr x = some c) : Rel I (a.eval x) c := by
  cases x with
  | tmp t => exact h.get hx
  | const v => cases hx; exact .val v
  | global g => cases hx; exact .val _
  | func f => cases hx; exact .val _

theorem FrRel.val {I : Im} {n : Nat} {fr : Fr} {a : Act} (h : FrRel I n fr a.tmps) {x : Operand} {v : Value} (hx : Ab.oget fr x = some (.val v)) : a.eval x = v := (h.oget hx).val_eq

theorem FrRel.mono {I I' : Im} (hle : Im.le I I') {n : Nat} {fr : Fr} {tmps : Array Value} (h : FrRel I n fr tmps) : FrRel I' n fr tmps :=
  ⟨h.1, fun i a hi => let ⟨v, hv, hr⟩ := h.2 i a hi; ⟨v, hv, hr.mono hle⟩⟩

theorem FrRel.set {I : Im} {n : Nat} {fr : Fr} {tmps : Array Value} (h : FrRel I n fr tmps) {d : Nat} (hd : Nat.blt d n = true) {v : Value} {c : AV} (hr : Rel I v c) : FrRel I n ((d, c) :: fr) (tmps.setIfInBounds d v) := by
  have hd' : d < n := by simpa [Nat.blt_eq] using hd
  refine ⟨by rw [Array.size_setIfInBounds]; exact h.1, fun i a hi => ?_⟩
  unfold fget at hi
  by_cases e : Nat.beq i d = true
  · rw [e] at hi; simp only [cond_true] at hi; cases hi
    have := Nat.eq_of_beq_eq_true e; subst this
    exact ⟨v, by simp [h.1, hd'], hr⟩
  · rw [Bool.not_eq_true] at e; rw [e] at hi
    obtain ⟨u, hu, hru⟩ := h.2 i a hi
    have hne : d ≠ i := fun e' => by subst e'; rw [Nat.beq_refl] at e; cases e
    exact ⟨u, by rw [Array.getElem?_setIfInBounds_ne hne]; exact hu, hru⟩

/-- What an operation does that ends in a value: its run, the world behind it, the chunks behind it. -/
theorem aop_of {P : Program} {J : JD} {n : Nat} {Φ : APost} {fr : Fr} {Hs : List HProp} {K : Fr → List HProp → Prop} {op : Op} {ty : TypeId} {ps : String} {af : Array Edge} {g : Option (Nat × Bool)} {d : Nat}
    (hd : Nat.blt d n = true) {α : Type} (av : α → AV) (Hs' : α → List HProp)
    (h : ∀ F I a w, AState J I n fr (Hs ++ F) a w → ∃ x I' v w', Im.le I I' ∧ (execOp a.eval ⟨some d, op, ty, ps, af, g⟩).run P w = .ok (.value v) w' ∧ SepG I' (Hs' x ++ F) w' ∧ Rel I' v (av x))
    (hK : ∀ x, K ((d, av x) :: fr) (Hs' x)) : AOp P J n ⟨some d, op, ty, ps, af, g⟩ K Φ fr Hs := by
  intro F I a w hs next Q hn _
  obtain ⟨x, I', v, w', hle, hrun, hsep, hrel⟩ := h F I a w hs
  unfold Oper.wp
  rw [hrun, Oper.upon_value]
  refine hn I' _ _ _ _ hle ⟨v, rfl⟩ ⟨Im.le_trans hs.le hle, hsep, ?_, ?_⟩ (hK x)
  · exact (hs.frame.mono hle).set hd hrel
  · simpa [Act.put] using hs.nod

theorem aop_val {P : Program} {J : JD} {n : Nat} {Φ : APost} {fr : Fr} {Hs : List HProp} {K : Fr → List HProp → Prop} {op : Op} {ty : TypeId} {ps : String} {af : Array Edge} {g : Option (Nat × Bool)} {d : Nat}
    (hd : Nat.blt d n = true) {c : AV}
    (h : ∀ F I a w, AState J I n fr (Hs ++ F) a w → ∃ v, (execOp a.eval ⟨some d, op, ty, ps, af, g⟩).run P w = .ok (.value v) w ∧ Rel I v c)
    (hK : K ((d, c) :: fr) Hs) : AOp P J n ⟨some d, op, ty, ps, af, g⟩ K Φ fr Hs :=
  aop_of hd (fun _ : Unit => c) (fun _ => Hs) (fun F I a w hs => let ⟨v, hr, hrel⟩ := h F I a w hs; ⟨(), I, v, w, Im.le_refl I, hr, hs.sep, hrel⟩) (fun _ => hK)

end Go.Ab

namespace Go.Ab
open Go

section
variable {P : Program} {J : JD} {n : Nat} {Φ : APost} {fr : Fr} {Hs : List HProp} {K : Fr → List HProp → Prop} {ty : TypeId} {ps : String} {af : Array Edge} {g : Option (Nat × Bool)} {d : Nat}

theorem rMove {x : Operand} {c : AV} (hd : Nat.blt d n = true) (hx : oget fr x = some c) (hK : K ((d, c) :: fr) Hs) : AOp P J n ⟨some d, .move x, ty, ps, af, g⟩ K Φ fr Hs :=
  aop_val hd (fun _ _ _ _ hs => ⟨_, by simp [execOp], hs.frame.oget hx⟩) hK
theorem rAssign {x : Operand} {c : AV} (hd : Nat.blt d n = true) (hx : oget fr x = some c) (hK : K ((d, c) :: fr) Hs) : AOp P J n ⟨some d, .assign x, ty, ps, af, g⟩ K Φ fr Hs :=
  aop_val hd (fun _ _ _ _ hs => ⟨_, by simp [execOp], hs.frame.oget hx⟩) hK
theorem rPick {x y z : Operand} {b : Bool} {c : AV} (hd : Nat.blt d n = true) (hx : oget fr x = some (.val (.bool b))) (hy : b = true → oget fr y = some c) (hz : b = false → oget fr z = some c) (hK : K ((d, c) :: fr) Hs) :
    AOp P J n ⟨some d, .pick x y z, ty, ps, af, g⟩ K Φ fr Hs :=
  aop_val hd (fun _ _ a _ hs => by
    have h := hs.frame.val hx
    cases b
    · exact ⟨a.eval z, by simp [execOp, h, asBool], hs.frame.oget (hz rfl)⟩
    · exact ⟨a.eval y, by simp [execOp, h, asBool], hs.frame.oget (hy rfl)⟩) hK
theorem rPickT {x y z : Operand} {c : AV} (hd : Nat.blt d n = true) (hx : oget fr x = some (.val (.bool true))) (hy : oget fr y = some c) (hK : K ((d, c) :: fr) Hs) :
    AOp P J n ⟨some d, .pick x y z, ty, ps, af, g⟩ K Φ fr Hs := rPick hd hx (fun _ => hy) (fun h => by cases h) hK
theorem rPickF {x y z : Operand} {c : AV} (hd : Nat.blt d n = true) (hx : oget fr x = some (.val (.bool false))) (hy : oget fr z = some c) (hK : K ((d, c) :: fr) Hs) :
    AOp P J n ⟨some d, .pick x y z, ty, ps, af, g⟩ K Φ fr Hs := rPick hd hx (fun h => by cases h) (fun _ => hy) hK

/-- A two-sided operation on plain values whose run is told by an equation. -/
theorem rBin {op : BinOp} {t u : TypeId} {x y : Operand} {a b r : Value} (hd : Nat.blt d n = true) (hx : oget fr x = some (.val a)) (hy : oget fr y = some (.val b))
    (hr : ∀ w : World, (do eqGuard op t x y a b; binOp op t a b : Sem Value).run P w = .ok r w) (hK : K ((d, .val r) :: fr) Hs) :
    AOp P J n ⟨some d, .binOp op t x y u, ty, ps, af, g⟩ K Φ fr Hs :=
  aop_val hd (fun _ _ ac w hs => ⟨r, by
    have h1 := hs.frame.val hx
    have h2 := hs.frame.val hy
    have h3 := hr w
    simp only [execOp, h1, h2]
    rw [Sem.run_bind, h3]
    rfl, .val r⟩) hK

theorem rAddW {t u : TypeId} {x y : Operand} {k : IntKind} {a b : Int} (hd : Nat.blt d n = true) (hx : oget fr x = some (.val (.int k a))) (hy : oget fr y = some (.val (.int k b)))
    (hK : K ((d, .val (.int k (k.wrap (a + b)))) :: fr) Hs) : AOp P J n ⟨some d, .binOp .add t x y u, ty, ps, af, g⟩ K Φ fr Hs :=
  rBin hd hx hy (fun w => by simp [eqGuard, binOp, Op.intArith]) hK
theorem rSubW {t u : TypeId} {x y : Operand} {k : IntKind} {a b : Int} (hd : Nat.blt d n = true) (hx : oget fr x = some (.val (.int k a))) (hy : oget fr y = some (.val (.int k b)))
    (hK : K ((d, .val (.int k (k.wrap (a - b)))) :: fr) Hs) : AOp P J n ⟨some d, .binOp .sub t x y u, ty, ps, af, g⟩ K Φ fr Hs :=
  rBin hd hx hy (fun w => by simp [eqGuard, binOp, Op.intArith]) hK
theorem rMulW {t u : TypeId} {x y : Operand} {k : IntKind} {a b : Int} (hd : Nat.blt d n = true) (hx : oget fr x = some (.val (.int k a))) (hy : oget fr y = some (.val (.int k b)))
    (hK : K ((d, .val (.int k (k.wrap (a * b)))) :: fr) Hs) : AOp P J n ⟨some d, .binOp .mul t x y u, ty, ps, af, g⟩ K Φ fr Hs :=
  rBin hd hx hy (fun w => by simp [eqGuard, binOp, Op.intArith]) hK

theorem wrap_i64 {a : Int} (h : -9223372036854775808 ≤ a ∧ a ≤ 9223372036854775807) : IntKind.i64.wrap a = a := by
  simp only [IntKind.wrap, IntKind.bits, IntKind.signed]
  simp
  omega
theorem rAdd {t u : TypeId} {x y : Operand} {a b : Int} (hd : Nat.blt d n = true) (hx : oget fr x = some (.val (.int .i64 a))) (hy : oget fr y = some (.val (.int .i64 b)))
    (hb : -9223372036854775808 ≤ a + b ∧ a + b ≤ 9223372036854775807) (hK : K ((d, .val (.int .i64 (a + b))) :: fr) Hs) : AOp P J n ⟨some d, .binOp .add t x y u, ty, ps, af, g⟩ K Φ fr Hs :=
  rAddW hd hx hy (by rw [wrap_i64 hb]; exact hK)
theorem rSub {t u : TypeId} {x y : Operand} {a b : Int} (hd : Nat.blt d n = true) (hx : oget fr x = some (.val (.int .i64 a))) (hy : oget fr y = some (.val (.int .i64 b)))
    (hb : -9223372036854775808 ≤ a - b ∧ a - b ≤ 9223372036854775807) (hK : K ((d, .val (.int .i64 (a - b))) :: fr) Hs) : AOp P J n ⟨some d, .binOp .sub t x y u, ty, ps, af, g⟩ K Φ fr Hs :=
  rSubW hd hx hy (by rw [wrap_i64 hb]; exact hK)
theorem rMul {t u : TypeId} {x y : Operand} {a b : Int} (hd : Nat.blt d n = true) (hx : oget fr x = some (.val (.int .i64 a))) (hy : oget fr y = some (.val (.int .i64 b)))
    (hb : -9223372036854775808 ≤ a * b ∧ a * b ≤ 9223372036854775807) (hK : K ((d, .val (.int .i64 (a * b))) :: fr) Hs) : AOp P J n ⟨some d, .binOp .mul t x y u, ty, ps, af, g⟩ K Φ fr Hs :=
  rMulW hd hx hy (by rw [wrap_i64 hb]; exact hK)

theorem rCmp {op : BinOp} {t u : TypeId} {x y : Operand} {k : IntKind} {a b : Int} (hd : Nat.blt d n = true) (hx : oget fr x = some (.val (.int k a))) (hy : oget fr y = some (.val (.int k b)))
    {r : Bool} (hr : (match op with | .lss => some (decide (a < b)) | .leq => some (decide (a ≤ b)) | .gtr => some (decide (a > b)) | .geq => some (decide (a ≥ b)) | .eql => some (a == b) | .neq => some (a != b) | _ => none) = some r)
    (hK : K ((d, .val (.bool r)) :: fr) Hs) : AOp P J n ⟨some d, .binOp op t x y u, ty, ps, af, g⟩ K Φ fr Hs :=
  rBin hd hx hy (fun w => by cases op <;> simp at hr <;> simp [eqGuard, binOp, Op.intCmp, hr]) hK

theorem rQuo {t u : TypeId} {x y : Operand} {k : IntKind} {a b : Int} (hd : Nat.blt d n = true) (hx : oget fr x = some (.val (.int k a))) (hy : oget fr y = some (.val (.int k b))) (hb : b ≠ 0)
    {r : Int} (hr : k.wrap (a.tdiv b) = r) (hK : K ((d, .val (.int k r)) :: fr) Hs) : AOp P J n ⟨some d, .binOp .quo t x y u, ty, ps, af, g⟩ K Φ fr Hs :=
  rBin hd hx hy (fun w => by simp [eqGuard, binOp, Op.intDiv, hb, hr]) hK
theorem rRem {t u : TypeId} {x y : Operand} {k : IntKind} {a b : Int} (hd : Nat.blt d n = true) (hx : oget fr x = some (.val (.int k a))) (hy : oget fr y = some (.val (.int k b))) (hb : b ≠ 0)
    {r : Int} (hr : a.tmod b = r) (hK : K ((d, .val (.int k r)) :: fr) Hs) : AOp P J n ⟨some d, .binOp .rem t x y u, ty, ps, af, g⟩ K Φ fr Hs :=
  rBin hd hx hy (fun w => by simp [eqGuard, binOp, Op.intDiv, hb, hr]) hK

theorem rBits {op : BinOp} {t u : TypeId} {x y : Operand} {k : IntKind} {a b : Int} (hd : Nat.blt d n = true) (hx : oget fr x = some (.val (.int k a))) (hy : oget fr y = some (.val (.int k b)))
    (ho : (match op with | .and | .or | .xor | .andNot => true | _ => false) = true) {r : Int} (hr : bits op k a b = r) (hK : K ((d, .val (.int k r)) :: fr) Hs) : AOp P J n ⟨some d, .binOp op t x y u, ty, ps, af, g⟩ K Φ fr Hs :=
  rBin hd hx hy (fun w => by subst hr; cases op <;> simp at ho <;> simp [eqGuard, binOp, intBits_and, intBits_or, intBits_xor, intBits_andNot]) hK
theorem rShl {t u : TypeId} {x y : Operand} {k j : IntKind} {a b : Int} (hd : Nat.blt d n = true) (hx : oget fr x = some (.val (.int k a))) (hy : oget fr y = some (.val (.int j b))) (h0 : 0 ≤ b)
    {r : Int} (hr : k.wrap (a * 2 ^ (min b.toNat k.bits)) = r) (hK : K ((d, .val (.int k r)) :: fr) Hs) : AOp P J n ⟨some d, .binOp .shl t x y u, ty, ps, af, g⟩ K Φ fr Hs :=
  rBin hd hx hy (fun w => by
    have : ¬ b < 0 := by omega
    simp [eqGuard, binOp, Op.shift, this, hr]) hK
theorem rShr {t u : TypeId} {x y : Operand} {k j : IntKind} {a b : Int} (hd : Nat.blt d n = true) (hx : oget fr x = some (.val (.int k a))) (hy : oget fr y = some (.val (.int j b))) (h0 : 0 ≤ b)
    {r : Int} (hr : a.fdiv (2 ^ (min b.toNat k.bits)) = r) (hK : K ((d, .val (.int k r)) :: fr) Hs) : AOp P J n ⟨some d, .binOp .shr t x y u, ty, ps, af, g⟩ K Φ fr Hs :=
  rBin hd hx hy (fun w => by
    have : ¬ b < 0 := by omega
    simp [eqGuard, binOp, Op.shift, this, hr]) hK

theorem rNot {t : TypeId} {x : Operand} {b : Bool} (hd : Nat.blt d n = true) (hx : oget fr x = some (.val (.bool b))) (hK : K ((d, .val (.bool (!b))) :: fr) Hs) :
    AOp P J n ⟨some d, .unOp .not t x, ty, ps, af, g⟩ K Φ fr Hs :=
  aop_val hd (fun _ _ a w hs => ⟨_, by have h := hs.frame.val hx; simp [execOp, h, Op.unary], .val _⟩) hK
theorem rNeg {t : TypeId} {x : Operand} {k : IntKind} {b : Int} (hd : Nat.blt d n = true) (hx : oget fr x = some (.val (.int k b))) {r : Int} (hr : k.wrap (0 - b) = r) (hK : K ((d, .val (.int k r)) :: fr) Hs) :
    AOp P J n ⟨some d, .unOp .neg t x, ty, ps, af, g⟩ K Φ fr Hs :=
  aop_val hd (fun _ _ a w hs => ⟨_, by have h := hs.frame.val hx; subst hr; simp [execOp, h, Op.unary, Op.intArith], .val _⟩) hK
theorem rXorU {t : TypeId} {x : Operand} {k : IntKind} {b : Int} (hd : Nat.blt d n = true) (hx : oget fr x = some (.val (.int k b))) {r : Int} (hr : bits .xor k (if k.signed then -1 else k.max) b = r) (hK : K ((d, .val (.int k r)) :: fr) Hs) :
    AOp P J n ⟨some d, .unOp .xor t x, ty, ps, af, g⟩ K Φ fr Hs :=
  aop_val hd (fun _ _ a w hs => ⟨_, by have h := hs.frame.val hx; subst hr; simp [execOp, h, Op.unary, intBits_xor], .val _⟩) hK

theorem rConv {s t : TypeId} {x : Operand} {k j : IntKind} {b : Int} (hs : (P.underlying s).isSome = true) (ht : P.underlying t = some (.int k)) (hd : Nat.blt d n = true) (hx : oget fr x = some (.val (.int j b))) {r : Int} (hr : k.wrap b = r)
    (hK : K ((d, .val (.int k r)) :: fr) Hs) : AOp P J n ⟨some d, .convert s t x, ty, ps, af, g⟩ K Φ fr Hs :=
  aop_val hd (fun _ _ a w ha => ⟨_, by
    have h := ha.frame.val hx
    obtain ⟨ds, hds⟩ := Option.isSome_iff_exists.1 hs
    simp [execOp, h, convert, run_underlying hds, run_underlying ht, Conv.intToInt, hr], .val _⟩) hK

theorem Rel.tup_get {I : Im} {v : Value} {cs : List AV} (h : Rel I v (.tup cs)) : ∃ vs : Array Value, v = .tuple vs ∧ ∀ (i : Nat) (c : AV), cs[i]? = some c → ∃ u, vs[i]? = some u ∧ Rel I u c := by
  cases h with
  | tup hs h =>
    rename_i vs
    refine ⟨vs, rfl, fun i c hc => ?_⟩
    have hi : i < vs.size := by rw [hs]; exact lt_of_get hc
    exact ⟨vs[i], by simp [hi], h i _ c (by simp [hi]) hc⟩
theorem Rel.agg_get {I : Im} {v : Value} {cs : List AV} (h : Rel I v (.agg cs)) : ∃ vs : Array Value, v = .agg vs ∧ vs.size = cs.length ∧ ∀ (i : Nat) (c : AV), cs[i]? = some c → ∃ u, vs[i]? = some u ∧ Rel I u c := by
  cases h with
  | agg hs h =>
    rename_i vs
    refine ⟨vs, rfl, hs, fun i c hc => ?_⟩
    have hi : i < vs.size := by rw [hs]; exact lt_of_get hc
    exact ⟨vs[i], by simp [hi], h i _ c (by simp [hi]) hc⟩

theorem rExtract {x : Operand} {i : Nat} {cs : List AV} {c : AV} (hd : Nat.blt d n = true) (hx : oget fr x = some (.tup cs)) (hc : cs[i]? = some c) (hK : K ((d, c) :: fr) Hs) :
    AOp P J n ⟨some d, .extract x i, ty, ps, af, g⟩ K Φ fr Hs :=
  aop_val hd (fun _ _ a w hs => by
    obtain ⟨vs, hv, hg⟩ := (hs.frame.oget hx).tup_get
    obtain ⟨u, hu, hr⟩ := hg i c hc
    exact ⟨u, by simp [execOp, hv, Instr.extract, hu], hr⟩) hK

theorem rNil {x : Operand} {p : Addr} (hd : Nat.blt d n = true) (hx : oget fr x = some (.val (.pointer (some p)))) (hK : K ((d, .val (.pointer (some p))) :: fr) Hs) :
    AOp P J n ⟨some d, .nilCheck x, ty, ps, af, g⟩ K Φ fr Hs :=
  aop_val hd (fun _ _ a w hs => ⟨_, by have h := hs.frame.val hx; simp [execOp, h], .val _⟩) hK
theorem rNilI {x : Operand} {cs : List AV} (hd : Nat.blt d n = true) (hx : oget fr x = some (.ip cs)) (hK : K ((d, .ip cs) :: fr) Hs) :
    AOp P J n ⟨some d, .nilCheck x, ty, ps, af, g⟩ K Φ fr Hs :=
  aop_val hd (fun _ _ a w hs => by
    have h := hs.frame.oget hx
    revert h; generalize hv : a.eval x = v; intro h
    cases h with
    | ip hd' h' => exact ⟨_, by simp [execOp, hv], .ip hd' h'⟩) hK

theorem rMakeFunc {fn : Fn} {first captured : Array Operand} {fs cs : Array Value} (hd : Nat.blt d n = true) (hf : first.map (oget fr) = fs.map (fun v => some (.val v))) (hc : captured.map (oget fr) = cs.map (fun v => some (.val v)))
    (hK : K ((d, .val (.func fn fs cs)) :: fr) Hs) : AOp P J n ⟨some d, .makeFunc fn first captured, ty, ps, af, g⟩ K Φ fr Hs :=
  aop_val hd (fun _ _ a w hs => ⟨.func fn fs cs, by
    have key : ∀ (xs : Array Operand) (vs : Array Value), xs.map (oget fr) = vs.map (fun v => some (.val v)) → xs.map a.eval = vs := by
      intro xs vs h
      apply Array.ext
      · have := congrArg Array.size h; simpa using this
      · intro i h1 h2
        have hi : (xs.map (oget fr))[i]? = (vs.map (fun v => some (AV.val v)))[i]? := by rw [h]
        simp at h1
        simp [h1, h2] at hi
        simp only [Array.getElem_map]
        exact hs.frame.val hi
    simp [execOp, Instr.makeFunc, key _ _ hf, key _ _ hc], .val _⟩) hK
end
end Go.Ab

namespace Go.Ab
open Go

theorem cell_at {w : World} {b off : Nat} {vs : Array Value} {t : TypeId} {fz : Nat × Nat} (h : w.heap[b]? = some (.cells vs t fz)) : w.cell? ⟨b, off, none⟩ = vs[off]? := by
  simp [World.cell?, h]
theorem cell_lt {w : World} {a : Addr} {v : Value} (h : w.cell? a = some v) : a.block < w.heap.size := by
  rcases Nat.lt_or_ge a.block w.heap.size with h' | h'
  · exact h'
  · simp [World.cell?, Array.getElem?_eq_none h'] at h
theorem heap_lt {w : World} {b : Nat} {o : Obj} (h : w.heap[b]? = some o) : b < w.heap.size := by
  rcases Nat.lt_or_ge b w.heap.size with h' | h'
  · exact h'
  · rw [Array.getElem?_eq_none h'] at h; cases h
theorem cell_of_heap {w w' : World} {a : Addr} (h : w'.heap[a.block]? = w.heap[a.block]?) : w'.cell? a = w.cell? a := by
  simp [World.cell?, h]

theorem OGood.block {I : Im} {w : World} {b : Nat} {o : AObj} (h : OGood I w b o) : ∃ x, w.heap[b]? = some x := by
  cases o with
  | cells cs t => obtain ⟨vs, h, _⟩ := h; exact ⟨_, h⟩
  | map es clock => obtain ⟨vs, h, _⟩ := h; exact ⟨_, h⟩
  | row used cap n t => obtain ⟨vs, h, _⟩ := h; exact ⟨_, h⟩
  | raw o => exact ⟨_, h.1⟩
  | old o os out => exact ⟨_, h.1⟩
theorem OGood.heap {I : Im} {w w' : World} {b : Nat} {o : AObj} (h : OGood I w b o) (he : w'.heap[b]? = w.heap[b]?) (hw : w'.os = w.os ∧ w'.output = w.output := by exact ⟨rfl, rfl⟩) : OGood I w' b o := by
  cases o with
  | cells cs t => obtain ⟨vs, h, r⟩ := h; exact ⟨vs, he.trans h, r⟩
  | map es clock => obtain ⟨vs, h, r⟩ := h; exact ⟨vs, he.trans h, r⟩
  | row used cap n t => obtain ⟨vs, h, r⟩ := h; exact ⟨vs, he.trans h, r⟩
  | raw o => exact ⟨he.trans h.1, h.2⟩
  | old o os out => exact ⟨he.trans h.1, hw.1.trans h.2.1, hw.2.trans h.2.2⟩
theorem OGood.lt {I : Im} {w : World} {b : Nat} {o : AObj} (h : OGood I w b o) : b < w.heap.size := by
  obtain ⟨x, hx⟩ := h.block
  exact heap_lt hx
theorem Good.lt {I : Im} {L : Heaplet} {w : World} (h : Good I L w) {b : Nat} (hb : b ∈ L.map (·.1)) : b < w.heap.size := by
  obtain ⟨⟨b', o⟩, hm, rfl⟩ := List.mem_map.1 hb
  exact (h.ob _ _ hm).lt

theorem MRel.mono {I I' : Im} (hle : Im.le I I') {e : MapEntry} {x : Value × AV × Nat} (h : MRel I e x) : MRel I' e x := ⟨h.1, h.2.1.mono hle, h.2.2⟩
theorem Zip2.imp {α β : Type} {R S : α → β → Prop} {l : List α} {m : List β} (h : Zip2 R l m) (hi : ∀ a b, R a b → S a b) : Zip2 S l m := by
  induction h with
  | nil => exact .nil
  | cons h _ ih => exact .cons (hi _ _ h) ih

/-- An owned block stays as it is where more is known of other places. -/
theorem OGood.mono {I I' : Im} (hle : Im.le I I') {w : World} {b : Nat} {o : AObj} (h : OGood I w b o) (hn : ∀ off, I ⟨b, off, none⟩ = none → I' ⟨b, off, none⟩ = none) : OGood I' w b o := by
  cases o with
  | cells cs t => obtain ⟨vs, h, hs, hr, hi⟩ := h; exact ⟨vs, h, hs, fun i v c hv hc => (hr i v c hv hc).mono hle, fun off => hn off (hi off)⟩
  | map es clock => obtain ⟨vs, h, r⟩ := h; exact ⟨vs, h, r.imp fun _ _ => MRel.mono hle⟩
  | row used cap n t => obtain ⟨vs, h, hs, hu, hm, hi⟩ := h; exact ⟨vs, h, hs, hu, hm, fun off ho => hn off (hi off ho)⟩
  | raw o => exact h
  | old o os out => exact h

theorem Good.heap {I : Im} {L : Heaplet} {w w' : World} (h : Good I L w) (he : ∀ b, b < w.heap.size → w'.heap[b]? = w.heap[b]?) (hw : w'.os = w.os ∧ w'.output = w.output := by exact ⟨rfl, rfl⟩) : Good I L w' :=
  ⟨fun a v hv => let ⟨h1, h2⟩ := h.im a v hv; ⟨h1, (cell_of_heap (he _ (cell_lt h2))).trans h2⟩, h.nd, fun b o hb => (h.ob b o hb).heap (he b (h.ob b o hb).lt) hw⟩
theorem SepG.heap {I : Im} {Hs : List HProp} {w w' : World} (h : SepG I Hs w) (he : ∀ b, b < w.heap.size → w'.heap[b]? = w.heap[b]?) (hw : w'.os = w.os ∧ w'.output = w.output := by exact ⟨rfl, rfl⟩) : SepG I Hs w' :=
  let ⟨L, hs, hg⟩ := h; ⟨L, hs, hg.heap he hw⟩

theorem SepG.push {I : Im} {Hs : List HProp} {w : World} (h : SepG I Hs w) (o : Obj) (ao : AObj) (w' : World) (hw' : w'.heap = w.heap.push o)
    (ho : (∀ off, I ⟨w.heap.size, off, none⟩ = none) → OGood I w' w.heap.size ao) (hw : w'.os = w.os ∧ w'.output = w.output := by exact ⟨rfl, rfl⟩) : SepG I (pt w.heap.size ao :: Hs) w' := by
  obtain ⟨L, hs, hg⟩ := h
  have he : ∀ b, b < w.heap.size → w'.heap[b]? = w.heap[b]? := fun b hb => by rw [hw', Array.getElem?_push_lt hb]; simp [hb]
  have hg' := hg.heap he hw
  have hI : ∀ off, I ⟨w.heap.size, off, none⟩ = none := fun off => by
    cases e : I ⟨w.heap.size, off, none⟩ with
    | none => rfl
    | some v => have := cell_lt (hg.im _ _ e).2; simp at this
  refine ⟨_, .cons rfl hs, hg'.im, ?_, fun b o' hb => ?_⟩
  · rw [List.singleton_append, List.map_cons, List.nodup_cons]
    exact ⟨fun hm => by have := hg.lt hm; simp at this, hg.nd⟩
  · rw [List.singleton_append, List.mem_cons] at hb
    rcases hb with e | hb
    · cases e; exact ho hI
    · exact hg'.ob b o' hb

/-- What is known for good grows by a block's cells. -/
theorem Im.add (I : Im) (b : Nat) (f : Nat → Option Value) (hI : ∀ off v, I ⟨b, off, none⟩ = some v → f off = some v) :
    Im.le I (fun a => if a.block = b ∧ a.spot = none then (match f a.off with | some v => some v | none => I a) else I a) := fun a v h => by
  by_cases e : a.block = b ∧ a.spot = none
  · simp only [e, and_self, if_true]
    obtain ⟨blk, off, spot⟩ := a
    obtain ⟨rfl, rfl⟩ := e
    simp only
    rw [hI off v h]
  · simp only [e, if_false, h]

def Im.adds (I : Im) (b : Nat) (f : Nat → Option Value) : Im := fun a => if a.block = b ∧ a.spot = none then (match f a.off with | some v => some v | none => I a) else I a
theorem Im.adds_le {I : Im} {b : Nat} {f : Nat → Option Value} (hI : ∀ off v, I ⟨b, off, none⟩ = some v → f off = some v) : Im.le I (I.adds b f) := Im.add I b f hI
theorem Im.adds_at {I : Im} {b off : Nat} {f : Nat → Option Value} {v : Value} (h : f off = some v) : I.adds b f ⟨b, off, none⟩ = some v := by simp [Im.adds, h]
theorem Im.adds_none {I : Im} {b off : Nat} {f : Nat → Option Value} (h : f off = none) : I.adds b f ⟨b, off, none⟩ = I ⟨b, off, none⟩ := by simp [Im.adds, h]
theorem Im.adds_other {I : Im} {b : Nat} {f : Nat → Option Value} {a : Addr} (h : a.block ≠ b) : I.adds b f a = I a := by simp [Im.adds, h]

/-- A block's cells become known for good (some of them): the block is owned no more. -/
theorem SepG.sealUp {I : Im} {Hs : List HProp} {w : World} {b : Nat} {cs : List AV} {t : TypeId} (h : SepG I (pt b (.cells cs t) :: Hs) w) :
    ∃ I', Im.le I I' ∧ SepG I' Hs w ∧ ∀ (i : Nat) (c : AV), cs[i]? = some c → ∃ v, I' ⟨b, i, none⟩ = some v ∧ Rel I' v c := by
  obtain ⟨L, hs, hg⟩ := h
  cases hs with
  | cons h1 h2 =>
    cases h1
    rename_i l'
    obtain ⟨vs, hh, hsz, hr, hI⟩ := hg.ob b (.cells cs t) (by simp)
    have hle : Im.le I (I.adds b fun i => vs[i]?) := Im.adds_le fun off v e => by rw [hI off] at e; cases e
    have hnd := hg.nd
    rw [List.singleton_append, List.map_cons, List.nodup_cons] at hnd
    refine ⟨_, hle, ⟨l', h2, ⟨fun a v e => ?_, hnd.2, fun b' o hb' => ?_⟩⟩, fun i c hc => ?_⟩
    · by_cases eb : a.block = b ∧ a.spot = none
      · obtain ⟨blk, off, spot⟩ := a
        obtain ⟨rfl, rfl⟩ := eb
        refine ⟨rfl, ?_⟩
        rw [cell_at hh]
        cases e' : vs[off]? with
        | some u => rw [Im.adds_at (f := fun i => vs[i]?) e'] at e; exact e
        | none => rw [Im.adds_none (f := fun i => vs[i]?) e', hI off] at e; cases e
      · have : I.adds b (fun i => vs[i]?) a = I a := by simp only [Im.adds, eb, if_false]
        rw [this] at e
        exact hg.im a v e
    · have hne : b' ≠ b := fun e => hnd.1 (List.mem_map.2 ⟨_, hb', e⟩)
      exact (hg.ob b' o (by simp [hb'])).mono hle fun off e => by rw [Im.adds_other (by simpa using hne)]; exact e
    · have hi : i < vs.size := by rw [hsz]; exact lt_of_get hc
      have hv : vs[i]? = some vs[i] := by simp [hi]
      exact ⟨_, Im.adds_at (f := fun i => vs[i]?) hv, (hr i _ c hv hc).mono hle⟩

theorem heap_setCell {w : World} {b off : Nat} {vs : Array Value} {t : TypeId} {fz : Nat × Nat} (v : Value) (h : w.heap[b]? = some (.cells vs t fz)) : (w.setCell ⟨b, off, none⟩ v).heap[b]? = some (.cells (vs.setIfInBounds off v) t fz) := by
  simp [World.setCell, Array.getElem?_modify, h]
theorem heap_setCell_ne {w : World} {a : Addr} {b : Nat} (v : Value) (h : a.block ≠ b) : (w.setCell a v).heap[b]? = w.heap[b]? := by
  simp [World.setCell, Array.getElem?_modify, h]

/-- A store into an owned block. -/
theorem SepG.set {I : Im} {Hs : List HProp} {w : World} {b off : Nat} {cs : List AV} {t : TypeId} {v : Value} {c : AV} (h : SepG I (pt b (.cells cs t) :: Hs) w) (hr : Rel I v c) :
    SepG I (pt b (.cells (cs.set off c) t) :: Hs) (w.setCell ⟨b, off, none⟩ v) := by
  obtain ⟨L, hs, hg⟩ := h
  cases hs with
  | cons h1 h2 =>
    cases h1
    rename_i l'
    obtain ⟨vs, hh, hsz, hrr, hI⟩ := hg.ob b (.cells cs t) (by simp)
    have hnd := hg.nd
    rw [List.singleton_append, List.map_cons, List.nodup_cons] at hnd
    refine ⟨_, .cons rfl h2, ⟨fun a u e => ?_, by simpa using hg.nd, fun b' o hb' => ?_⟩⟩
    · obtain ⟨e1, e2⟩ := hg.im a u e
      refine ⟨e1, ?_⟩
      have hne : b ≠ a.block := fun e' => by
        obtain ⟨blk, o, sp⟩ := a
        simp only at e1 e'
        subst e1; subst e'
        rw [hI o] at e; cases e
      rw [cell_of_heap (heap_setCell_ne v (by simpa using hne))]
      exact e2
    · rw [List.singleton_append, List.mem_cons] at hb'
      rcases hb' with e | hb'
      · cases e
        refine ⟨_, heap_setCell v hh, by simp [hsz], fun i u c' hu hc' => ?_, hI⟩
        by_cases ei : off = i
        · subst ei
          have hi : off < cs.length := by simpa using lt_of_get hc'
          have hi' : off < vs.size := by omega
          rw [List.getElem?_set_self hi] at hc'
          rw [Array.getElem?_setIfInBounds_self_of_lt hi'] at hu
          cases hc'; cases hu; exact hr
        · rw [List.getElem?_set_ne ei] at hc'
          rw [Array.getElem?_setIfInBounds_ne ei] at hu
          exact hrr i u c' hu hc'
      · have hne : b ≠ b' := fun e => hnd.1 (List.mem_map.2 ⟨_, hb', e.symm⟩)
        exact (hg.ob b' o (by simp [hb'])).heap (heap_setCell_ne v (by simpa using hne))

/-- What an owned cell holds. -/
theorem SepG.get {I : Im} {Hs : List HProp} {w : World} {b off : Nat} {cs : List AV} {t : TypeId} {c : AV} (h : SepG I (pt b (.cells cs t) :: Hs) w) (hc : cs[off]? = some c) :
    ∃ v, w.cell? ⟨b, off, none⟩ = some v ∧ w.frozen? ⟨b, off, none⟩ = false ∧ Rel I v c := by
  obtain ⟨L, hs, hg⟩ := h
  cases hs with
  | cons h1 h2 =>
    cases h1
    obtain ⟨vs, hh, hsz, hrr, hI⟩ := hg.ob b (.cells cs t) (by simp)
    have hi : off < vs.size := by rw [hsz]; exact lt_of_get hc
    have hv : vs[off]? = some vs[off] := by simp [hi]
    exact ⟨vs[off], by rw [cell_at hh, hv], by simp [World.frozen?, hh], hrr off _ c hv hc⟩

end Go.Ab

namespace Go.Ab
open Go

def TI (P : Program) (t : TypeId) (size bytes : Nat) (zero : Value) : Prop := ∃ i, P.info? t = some i ∧ i.size = size ∧ i.bytes = bytes ∧ i.zero = some zero
def isAggD : TypeDesc → Bool
  | .struct _ | .array _ _ => true
  | _ => false
def NAgg (P : Program) (t : TypeId) : Prop := ∃ d, P.underlying t = some d ∧ isAggD d = false
def AggT (P : Program) (t : TypeId) : Prop := ∃ d, P.underlying t = some d ∧ isAggD d = true
def FieldAt (P : Program) (s : TypeId) (f off : Nat) : Prop := ∃ fs fd i, P.underlying s = some (.struct fs) ∧ fs[f]? = some fd ∧ fd.offset = off ∧ P.info? fd.type = some i ∧ i.size ≠ 0

theorem NAgg.run {P : Program} {t : TypeId} (h : NAgg P t) (w : World) : (isAgg t).run P w = .ok false w := by
  obtain ⟨d, hd, hn⟩ := h
  cases d <;> simp [isAggD] at hn <;> simp [isAgg, run_underlying hd]
theorem AggT.run {P : Program} {t : TypeId} (h : AggT P t) (w : World) : (isAgg t).run P w = .ok true w := by
  obtain ⟨d, hd, hn⟩ := h
  cases d <;> simp [isAggD] at hn <;> simp [isAgg, run_underlying hd]
theorem TI.size {P : Program} {t : TypeId} {s b : Nat} {z : Value} (h : TI P t s b z) (w : World) : (sizeOf t).run P w = .ok s w := by
  obtain ⟨i, hi, rfl, _, _⟩ := h
  simp [sizeOf, typeInfo, hi]
theorem TI.zero {P : Program} {t : TypeId} {s b : Nat} {z : Value} (h : TI P t s b z) (w : World) : (zeroValue t).run P w = .ok z w := by
  obtain ⟨i, hi, _, _, hz⟩ := h
  simp [zeroValue, typeInfo, hi, hz]

theorem Rel.one {I : Im} {v : Value} {c : AV} (h : Rel I v c) (ho : c.one = true) : v.oneCell' = true := by
  cases h <;> simp [AV.one] at ho <;> first | exact ho | rfl
theorem cells_one {v : Value} (h : v.oneCell' = true) : v.cells = #[v] := by
  cases v <;> simp [Value.oneCell'] at h <;> rfl

def AV.fit : AV → Bool
  | .val v => v.oneCell'
  | .tup _ => false
  | .agg cs => cs.all AV.one
  | _ => true
/-- A value's cells are those told. -/
theorem Rel.cells {I : Im} {v : Value} {c : AV} (h : Rel I v c) (hf : c.fit = true) : v.cells.size = c.cells.length ∧ ∀ (i : Nat) (u : Value) (x : AV), v.cells[i]? = some u → c.cells[i]? = some x → Rel I u x := by
  cases c with
  | agg cs =>
    obtain ⟨vs, rfl, hs, hg⟩ := h.agg_get
    refine ⟨hs, fun i u x hu hx => ?_⟩
    obtain ⟨u', hu', hr⟩ := hg i x hx
    have : (Value.agg vs).cells[i]? = vs[i]? := rfl
    rw [this, hu'] at hu; cases hu; exact hr
  | tup cs => simp [AV.fit] at hf
  | val v' =>
    have ho := h.one (c := .val v') hf
    rw [cells_one ho]
    exact ⟨rfl, fun i u x hu hx => by
      cases i with
      | zero => simp at hu; simp [AV.cells] at hx; subst hu; subst hx; exact h
      | succ i => simp at hu⟩
  | sl n xs =>
    have ho := h.one (c := .sl n xs) rfl
    rw [cells_one ho]
    exact ⟨rfl, fun i u x hu hx => by
      cases i with
      | zero => simp at hu; simp [AV.cells] at hx; subst hu; subst hx; exact h
      | succ i => simp at hu⟩
  | own n o xs =>
    have ho := h.one (c := .own n o xs) rfl
    rw [cells_one ho]
    exact ⟨rfl, fun i u x hu hx => by
      cases i with
      | zero => simp at hu; simp [AV.cells] at hx; subst hu; subst hx; exact h
      | succ i => simp at hu⟩
  | ip xs =>
    have ho := h.one (c := .ip xs) rfl
    rw [cells_one ho]
    exact ⟨rfl, fun i u x hu hx => by
      cases i with
      | zero => simp at hu; simp [AV.cells] at hx; subst hu; subst hx; exact h
      | succ i => simp at hu⟩

abbrev ptr (b off : Nat) : AV := .val (.pointer (some ⟨b, off, none⟩))

theorem addr_add (b off i : Nat) : (⟨b, off, none⟩ : Addr).add i = ⟨b, off + i, none⟩ := by
  unfold Addr.add; split
  · rename_i h; subst h; rfl
  · rfl

section
variable {P : Program} {J : JD} {n : Nat} {Φ : APost} {fr : Fr} {Hs : List HProp} {K : Fr → List HProp → Prop} {ty : TypeId} {ps : String} {af : Array Edge} {g : Option (Nat × Bool)} {d : Nat}

theorem rLoad {t : TypeId} {x : Operand} {b off : Nat} {cs : List AV} {T : TypeId} {c : AV} (hN : NAgg P t) (hd : Nat.blt d n = true) (hx : oget fr x = some (ptr b off)) (hc : cs[off]? = some c)
    (hK : K ((d, c) :: fr) (pt b (.cells cs T) :: Hs)) : AOp P J n ⟨some d, .load t x, ty, ps, af, g⟩ K Φ fr (pt b (.cells cs T) :: Hs) :=
  aop_val hd (fun _ _ a w hs => by
    obtain ⟨v, hv, _, hr⟩ := hs.sep.get hc
    exact ⟨v, by simp [execOp, hs.frame.val hx, Instr.loadAt, Instr.sureAddr, loadVar, hN.run, hv], hr⟩) hK

theorem agg_of {I : Im} {vs : List Value} {cs : List AV} (h : Zip2 (Rel I) vs cs) : Rel I (.agg vs.toArray) (.agg cs) := by
  have key : vs.length = cs.length ∧ ∀ (i : Nat) (v : Value) (c : AV), vs[i]? = some v → cs[i]? = some c → Rel I v c := by
    induction h with
    | nil => exact ⟨rfl, fun i v c h => by simp at h⟩
    | cons h _ ih => exact ⟨by simp [ih.1], fun i v c hv hc => by
        cases i with
        | zero => simp at hv hc; subst hv; subst hc; exact h
        | succ i => exact ih.2 i v c (by simpa using hv) (by simpa using hc)⟩
  exact .agg (by simpa using key.1) (fun i v c hv hc => key.2 i v c (by simpa using hv) hc)

theorem zip_of {I : Im} (f : Nat → Option Value) : ∀ (cs : List AV) (k : Nat), (∀ i c, cs[i]? = some c → ∃ v, f (k + i) = some v ∧ Rel I v c) → ∃ vs : List Value, Zip2 (Rel I) vs cs ∧ ∀ i v, vs[i]? = some v → f (k + i) = some v
  | [], k, _ => ⟨[], .nil, fun i v h => by simp at h⟩
  | c :: cs, k, h => by
    obtain ⟨v, hv, hr⟩ := h 0 c rfl
    obtain ⟨vs, hz, hg⟩ := zip_of f cs (k + 1) fun i c' hc => by
      have := h (i + 1) c' (by simpa using hc)
      rwa [show k + 1 + i = k + (i + 1) from by omega]
    refine ⟨v :: vs, .cons hr hz, fun i u hu => ?_⟩
    cases i with
    | zero => simp at hu; subst hu; exact hv
    | succ i => rw [show k + (i + 1) = k + 1 + i from by omega]; exact hg i u (by simpa using hu)
theorem Zip2.length {α β : Type} {R : α → β → Prop} {l : List α} {m : List β} (h : Zip2 R l m) : l.length = m.length := by
  induction h with
  | nil => rfl
  | cons _ _ ih => simp [ih]

theorem rLoadA {t : TypeId} {x : Operand} {b off : Nat} {pre mid post : List AV} {T : TypeId} {by_ : Nat} {z : Value} (hA : AggT P t) (hT : TI P t mid.length by_ z) (hd : Nat.blt d n = true) (hx : oget fr x = some (ptr b off)) (hp : pre.length = off)
    (hK : K ((d, .agg mid) :: fr) (pt b (.cells (pre ++ (mid ++ post)) T) :: Hs)) : AOp P J n ⟨some d, .load t x, ty, ps, af, g⟩ K Φ fr (pt b (.cells (pre ++ (mid ++ post)) T) :: Hs) :=
  aop_val hd (fun _ I a w hs => by
    obtain ⟨vs, hz, hg⟩ := zip_of (I := I) (fun i => w.cell? ⟨b, i, none⟩) mid off fun i c hc => by
      obtain ⟨v, hv, _, hr⟩ := hs.sep.get (off := off + i) (c := c) (by
        subst hp
        rw [List.getElem?_append_right (by omega), Nat.add_sub_cancel_left, List.getElem?_append_left (lt_of_get hc)]; exact hc)
      exact ⟨v, hv, hr⟩
    have hl := run_loadCells_list (P := P) (w := w) ⟨b, off, none⟩ vs fun j v hv => by rw [addr_add]; exact hg j v hv
    rw [hz.length] at hl
    exact ⟨.agg vs.toArray, by simp [execOp, hs.frame.val hx, Instr.loadAt, Instr.sureAddr, loadVar, hA.run, hT.size, hl], agg_of hz⟩) hK

theorem rLoadI {t : TypeId} {x : Operand} {cs : List AV} {c : AV} (hN : NAgg P t) (hd : Nat.blt d n = true) (hx : oget fr x = some (.ip cs)) (hc : cs[0]? = some c)
    (hK : K ((d, c) :: fr) Hs) : AOp P J n ⟨some d, .load t x, ty, ps, af, g⟩ K Φ fr Hs :=
  aop_val hd (fun _ I a w hs => by
    have h := hs.frame.oget hx
    revert h; generalize hv : a.eval x = v; intro h
    obtain ⟨_, ⟨L, _, hg⟩, _, _⟩ := hs
    cases h with
    | ip hd' h' =>
      rename_i p
      obtain ⟨u, hu⟩ := Option.isSome_iff_exists.1 (hd' 0 (lt_of_get hc))
      have hr := h' 0 u c hu hc
      rw [show p.add 0 = p from rfl] at hu
      have := (hg.im _ _ hu).2
      exact ⟨u, by simp [execOp, hv, Instr.loadAt, Instr.sureAddr, loadVar, hN.run, this], hr⟩) hK

theorem rLoadIA {t : TypeId} {x : Operand} {mid post : List AV} {by_ : Nat} {z : Value} (hA : AggT P t) (hT : TI P t mid.length by_ z) (hd : Nat.blt d n = true) (hx : oget fr x = some (.ip (mid ++ post)))
    (hK : K ((d, .agg mid) :: fr) Hs) : AOp P J n ⟨some d, .load t x, ty, ps, af, g⟩ K Φ fr Hs :=
  aop_val hd (fun _ I a w hs => by
    have h := hs.frame.oget hx
    revert h; generalize hv : a.eval x = v; intro h
    obtain ⟨_, ⟨L, _, hg⟩, _, _⟩ := hs
    cases h with
    | ip hd' h' =>
      rename_i p
      obtain ⟨vs, hz, hgv⟩ := zip_of (I := I) (fun i => I (p.add i)) mid 0 fun i c hc => by
        obtain ⟨u, hu⟩ := Option.isSome_iff_exists.1 (hd' i (by have := lt_of_get hc; simp; omega))
        exact ⟨u, by simpa using hu, h' i u c hu (by rw [List.getElem?_append_left (lt_of_get hc)]; exact hc)⟩
      have hl := run_loadCells_list (P := P) (w := w) p vs fun j v hv => (hg.im _ _ (by have := hgv j v hv; simpa using this)).2
      rw [hz.length] at hl
      exact ⟨.agg vs.toArray, by simp [execOp, hv, Instr.loadAt, Instr.sureAddr, loadVar, hA.run, hT.size, hl], agg_of hz⟩) hK

theorem rField {s : TypeId} {x : Operand} {f o b off : Nat} (hF : FieldAt P s f o) (hd : Nat.blt d n = true) (hx : oget fr x = some (ptr b off)) (hK : K ((d, ptr b (off + o)) :: fr) Hs) :
    AOp P J n ⟨some d, .fieldAddr s x f, ty, ps, af, g⟩ K Φ fr Hs :=
  aop_val hd (fun _ I a w hs => by
    obtain ⟨fs, fd, i, h1, h2, h3, h4, h5⟩ := hF
    exact ⟨_, by simp [execOp, hs.frame.val hx, Instr.fieldAt, run_underlying h1, h2, Instr.sureAddr, fieldPlace, sizeOf, typeInfo, h4, h5, h3, addr_add], .val _⟩) hK

theorem add_add (a : Addr) (i j : Nat) : (a.add i).add j = a.add (i + j) := by
  unfold Addr.add
  by_cases hi : i = 0 <;> by_cases hj : j = 0 <;> simp [hi, hj, Nat.add_assoc]
theorem ip_drop {I : Im} {a : Addr} {cs : List AV} (h : Rel I (.pointer (some a)) (.ip cs)) (o : Nat) : Rel I (.pointer (some (a.add o))) (.ip (cs.drop o)) := by
  cases h with
  | ip hd h =>
    exact .ip (fun i hi => by rw [add_add]; exact hd _ (by simp at hi; omega)) (fun i v c hv hc => by rw [add_add] at hv; exact h _ v c hv (by simpa using hc))

theorem rFieldI {s : TypeId} {x : Operand} {f o : Nat} {cs : List AV} (hF : FieldAt P s f o) (hd : Nat.blt d n = true) (hx : oget fr x = some (.ip cs)) (hK : K ((d, .ip (cs.drop o)) :: fr) Hs) :
    AOp P J n ⟨some d, .fieldAddr s x f, ty, ps, af, g⟩ K Φ fr Hs :=
  aop_val hd (fun _ I a w hs => by
    have h := hs.frame.oget hx
    revert h; generalize hv : a.eval x = v; intro h
    obtain ⟨fs, fd, i, h1, h2, h3, h4, h5⟩ := hF
    cases h with
    | ip hd' h' =>
      rename_i p
      exact ⟨_, by simp [execOp, hv, Instr.fieldAt, run_underlying h1, h2, Instr.sureAddr, fieldPlace, sizeOf, typeInfo, h4, h5, h3], ip_drop (.ip hd' h') o⟩) hK

theorem rAlloc {t : TypeId} {s by_ : Nat} {z : Value} (hT : TI P t s by_ z) (hd : Nat.blt d n = true)
    (hK : ∀ b, K ((d, ptr b 0) :: fr) (pt b (.cells (z.cells.toList.map .val) t) :: Hs)) : AOp P J n ⟨some d, .alloc t, ty, ps, af, g⟩ K Φ fr Hs :=
  aop_of hd (fun b => ptr b 0) (fun b => pt b (.cells (z.cells.toList.map .val) t) :: Hs) (fun _ I a w hs => by
    refine ⟨w.heap.size, I, .pointer (some ⟨w.heap.size, 0, none⟩), { w with heap := w.heap.push (.cells z.cells t) }, Im.le_refl I, by simp [execOp, Instr.alloc, hT.zero, newVar, newRow], ?_, .val _⟩
    refine hs.sep.push (.cells z.cells t) _ _ rfl fun hI => ⟨z.cells, by simp, by simp, fun i v c hv hc => ?_, hI⟩
    rw [List.getElem?_map] at hc
    rw [Array.getElem?_toList] at hc
    rw [hv] at hc
    cases hc; exact .val _) hK

theorem rBox {t : TypeId} {x : Operand} {c : AV} (hd : Nat.blt d n = true) (hx : oget fr x = some c) (hf : c.fit = true)
    (hK : ∀ b, K ((d, ptr b 0) :: fr) (pt b (.cells c.cells t) :: Hs)) : AOp P J n ⟨some d, .box t x, ty, ps, af, g⟩ K Φ fr Hs :=
  aop_of hd (fun b => ptr b 0) (fun b => pt b (.cells c.cells t) :: Hs) (fun _ I a w hs => by
    obtain ⟨h1, h2⟩ := (hs.frame.oget hx).cells hf
    refine ⟨w.heap.size, I, .pointer (some ⟨w.heap.size, 0, none⟩), { w with heap := w.heap.push (.cells (a.eval x).cells t) }, Im.le_refl I, by simp [execOp, Instr.box, newVar, newRow], ?_, .val _⟩
    exact hs.sep.push (.cells (a.eval x).cells t) _ _ rfl fun hI => ⟨(a.eval x).cells, by simp, h1, h2, hI⟩) hK

/-- What a store (no value) does. -/
theorem aop_unit {op : Op} {Hs' : List HProp}
    (h : ∀ F I a w, AState J I n fr (Hs ++ F) a w → ∃ I' w', Im.le I I' ∧ (execOp a.eval ⟨none, op, ty, ps, af, g⟩).run P w = .ok .skip w' ∧ SepG I' (Hs' ++ F) w')
    (hK : K fr Hs') : AOp P J n ⟨none, op, ty, ps, af, g⟩ K Φ fr Hs := by
  intro F I a w hs next Q hn _
  obtain ⟨I', w', hle, hrun, hsep⟩ := h F I a w hs
  unfold Oper.wp
  rw [hrun, Oper.upon_skip]
  exact hn I' _ _ _ _ hle ⟨undef, rfl⟩ ⟨Im.le_trans hs.le hle, hsep, hs.frame.mono hle, hs.nod⟩ hK

theorem rStore {t : TypeId} {x y : Operand} {b off by_ : Nat} {z : Value} {cs : List AV} {T : TypeId} {c old : AV} (hT : TI P t 1 by_ z) (hx : oget fr x = some (ptr b off)) (hy : oget fr y = some c) (ho : c.one = true) (hc : cs[off]? = some old)
    (hK : K fr (pt b (.cells (cs.set off c) T) :: Hs)) : AOp P J n ⟨none, .store t x y, ty, ps, af, g⟩ K Φ fr (pt b (.cells cs T) :: Hs) :=
  aop_unit (fun _ I a w hs => by
    obtain ⟨v, hv, hfz, _⟩ := hs.sep.get hc
    have hr := hs.frame.oget hy
    have h1 := hr.one ho
    refine ⟨I, w.setCell ⟨b, off, none⟩ (a.eval y), Im.le_refl I, ?_, hs.sep.set hr⟩
    simp [execOp, hs.frame.val hx, Instr.storeAt, Instr.sureAddr, storeVar, hT.size, cells_one h1, storeCells, addr_add, run_store _ _ _ _ _ h1, hv, hfz]) hK

def setl : List AV → Nat → List AV → List AV
  | cs, _, [] => cs
  | cs, off, m :: ms => setl (cs.set off m) (off + 1) ms
theorem setl_mid (post : List AV) : ∀ (new old pre : List AV), old.length = new.length → setl (pre ++ (old ++ post)) pre.length new = pre ++ (new ++ post)
  | [], [], pre, _ => rfl
  | m :: ms, o :: os, pre, h => by
    have := setl_mid post ms os (pre ++ [m]) (by simpa using h)
    simp only [setl]
    rw [List.length_append] at this
    simp at this ⊢
    exact this
  | [], _ :: _, _, h => by simp at h
  | _ :: _, [], _, h => by simp at h
theorem setl_length : ∀ (ms cs : List AV) (off : Nat), (setl cs off ms).length = cs.length
  | [], _, _ => rfl
  | m :: ms, cs, off => by simp [setl, setl_length]

theorem run_storeCells {I : Im} {b : Nat} {T : TypeId} : ∀ (vs : List Value) (ms cs : List AV) (off i : Nat) (w : World), Zip2 (fun v m => Rel I v m ∧ v.oneCell' = true) vs ms → off + i + ms.length ≤ cs.length → SepG I (pt b (.cells cs T) :: Hs) w →
    ∃ w', (storeCells ⟨b, off, none⟩ vs i).run P w = .ok () w' ∧ SepG I (pt b (.cells (setl cs (off + i) ms) T) :: Hs) w'
  | _, _, cs, off, i, w, .nil, _, hs => ⟨w, rfl, hs⟩
  | _, _, cs, off, i, w, .cons (a := v) (b := m) (l := vs) (m := ms) h t, hl, hs => by
    simp only [List.length_cons] at hl
    have hin : off + i < cs.length := by omega
    obtain ⟨u, hu, hfz, _⟩ := hs.get (off := off + i) (List.getElem?_eq_getElem hin)
    obtain ⟨w', h1, h2⟩ := run_storeCells vs ms (cs.set (off + i) m) off (i + 1) (w.setCell ⟨b, off + i, none⟩ v) t (by simp; omega) (hs.set h.1)
    refine ⟨w', ?_, by simpa [setl, Nat.add_assoc] using h2⟩
    simp [storeCells, addr_add, run_store _ _ _ _ _ h.2, hu, hfz, h1]

theorem zip_cells {I : Im} : ∀ (vs : List Value) (ms : List AV), vs.length = ms.length → (∀ (i : Nat) (v : Value) (m : AV), vs[i]? = some v → ms[i]? = some m → Rel I v m) → ms.all AV.one = true → Zip2 (fun v m => Rel I v m ∧ v.oneCell' = true) vs ms
  | [], [], _, _, _ => .nil
  | v :: vs, m :: ms, hl, h, ha => by
    simp only [List.all_cons, Bool.and_eq_true] at ha
    have h0 := h 0 v m rfl rfl
    exact .cons ⟨h0, h0.one ha.1⟩ (zip_cells vs ms (by simpa using hl) (fun i v' m' hv hm => h (i + 1) v' m' (by simpa using hv) (by simpa using hm)) ha.2)
  | [], _ :: _, h, _, _ => by simp at h
  | _ :: _, [], h, _, _ => by simp at h

theorem rStoreA {t : TypeId} {x y : Operand} {b off by_ : Nat} {z : Value} {pre old post mid : List AV} {T : TypeId} (hT : TI P t mid.length by_ z) (hx : oget fr x = some (ptr b off)) (hy : oget fr y = some (.agg mid)) (ho : mid.all AV.one = true)
    (hp : pre.length = off) (hl : old.length = mid.length) (hK : K fr (pt b (.cells (pre ++ (mid ++ post)) T) :: Hs)) :
    AOp P J n ⟨none, .store t x y, ty, ps, af, g⟩ K Φ fr (pt b (.cells (pre ++ (old ++ post)) T) :: Hs) :=
  aop_unit (fun _ I a w hs => by
    obtain ⟨h1, h2⟩ := (hs.frame.oget hy).cells (c := .agg mid) ho
    obtain ⟨w', h3, h4⟩ := run_storeCells (P := P) (a.eval y).cells.toList mid (pre ++ (old ++ post)) off 0 w (zip_cells _ _ (by simpa [AV.cells] using h1) (fun i v m hv hm => h2 i v m (by simpa using hv) hm) ho)
      (by simp; omega) hs.sep
    subst hp
    rw [Nat.add_zero, setl_mid post mid old pre hl] at h4
    refine ⟨I, w', Im.le_refl I, ?_, h4⟩
    have hsz : (a.eval y).cells.size = mid.length := by simpa [AV.cells] using h1
    simp [execOp, hs.frame.val hx, Instr.storeAt, Instr.sureAddr, storeVar, hT.size, hsz, h3]) hK
end
end Go.Ab

namespace Go.Ab
open Go

inductive AsSl : AV → Nat → List AV → Prop
  | sl (n : Nat) (xs : List AV) : AsSl (.sl n xs) n xs
  | own (n : Nat) (o : Option (Nat × Nat)) (xs : List AV) : AsSl (.own n o xs) n xs
  | nil (n : Nat) : AsSl (.val (.slice none 0 0)) n []

theorem zero_add (b i : Nat) : (⟨b, 0, none⟩ : Addr).add i = ⟨b, i, none⟩ := by rw [addr_add, Nat.zero_add]
theorem AsSl.rel {I : Im} {v : Value} {c : AV} {n : Nat} {xs : List AV} (h : AsSl c n xs) (hr : Rel I v c) : Rel I v (.sl n xs) := by
  cases h with
  | sl => exact hr
  | nil => cases hr; exact .slnil n
  | own =>
    cases hr with
    | ownnil => exact .slnil n
    | own hc hn hd h => exact .sl rfl hc hn (fun i hi => by rw [zero_add]; exact hd i hi) (fun i v c hv hcc => by rw [zero_add] at hv; exact h i v c hv hcc)

theorem flat_length {n : Nat} : ∀ {xs : List AV}, (∀ x ∈ xs, x.cells.length = n) → (flat xs).length = xs.length * n
  | [], _ => by simp [flat]
  | x :: xs, h => by
    have := flat_length (xs := xs) fun y hy => h y (List.mem_cons_of_mem _ hy)
    have h0 := h x (List.mem_cons_self)
    simp only [flat, List.flatMap_cons, List.length_append, List.length_cons] at this ⊢
    rw [this, h0, Nat.add_mul, Nat.one_mul, Nat.add_comm]
theorem flat_get {n : Nat} : ∀ {xs : List AV}, (∀ x ∈ xs, x.cells.length = n) → ∀ {i j : Nat} {e : AV}, xs[i]? = some e → j < n → (flat xs)[i * n + j]? = e.cells[j]?
  | [], _, i, j, e, h, _ => by simp at h
  | x :: xs, hn, i, j, e, h, hj => by
    have h0 := hn x (List.mem_cons_self)
    simp only [flat, List.flatMap_cons]
    cases i with
    | zero =>
      simp at h; subst h
      rw [Nat.zero_mul, Nat.zero_add, List.getElem?_append_left (by omega)]
    | succ i =>
      rw [List.getElem?_append_right (by rw [h0, Nat.add_mul]; omega), h0, show (i + 1) * n + j - n = i * n + j from by rw [Nat.add_mul]; omega]
      exact flat_get (fun y hy => hn y (List.mem_cons_of_mem _ hy)) (by simpa using h) hj
theorem flat_append (xs ys : List AV) : flat (xs ++ ys) = flat xs ++ flat ys := by simp [flat]
theorem flat_take {n : Nat} {xs : List AV} (hn : ∀ x ∈ xs, x.cells.length = n) (k : Nat) : flat (xs.take k) = (flat xs).take (k * n) := by
  have h := flat_append (xs.take k) (xs.drop k)
  rw [List.take_append_drop] at h
  rcases Nat.le_total k xs.length with hk | hk
  · have hl : (flat (xs.take k)).length = k * n := by
      rw [flat_length (n := n) fun x hx => hn x (List.mem_of_mem_take hx), List.length_take, Nat.min_eq_left hk]
    rw [h, ← hl, List.take_left]
  · rw [List.take_of_length_le hk, List.take_of_length_le]
    rw [flat_length hn]; exact Nat.mul_le_mul_right n hk
theorem flat_drop {n : Nat} {xs : List AV} (hn : ∀ x ∈ xs, x.cells.length = n) (k : Nat) : flat (xs.drop k) = (flat xs).drop (k * n) := by
  have h := flat_append (xs.take k) (xs.drop k)
  rw [List.take_append_drop] at h
  rcases Nat.le_total k xs.length with hk | hk
  · have hl : (flat (xs.take k)).length = k * n := by
      rw [flat_length (n := n) fun x hx => hn x (List.mem_of_mem_take hx), List.length_take, Nat.min_eq_left hk]
    rw [h, ← hl, List.drop_left]
  · rw [List.drop_of_length_le hk, List.drop_of_length_le]
    · rfl
    · rw [flat_length hn]; exact Nat.mul_le_mul_right n hk

section
variable {P : Program} {J : JD} {n : Nat} {Φ : APost} {fr : Fr} {Hs : List HProp} {K : Fr → List HProp → Prop} {ty : TypeId} {ps : String} {af : Array Edge} {g : Option (Nat × Bool)} {d : Nat}

/-- A builtin on values. -/
theorem rBuiltin_val {bi : Builtin} {args : Array Operand} {ats : Array TypeId} {c : AV} (hd : Nat.blt d n = true)
    (h : ∀ F I a w, AState J I n fr (Hs ++ F) a w → ∃ v, (∀ cts, (builtin bi ats ty cts (args.map a.eval)).run P w = .ok (.value v) w) ∧ Rel I v c)
    (hK : K ((d, c) :: fr) Hs) : AOp P J n ⟨some d, .call ⟨.builtin bi, args, ats⟩, ty, ps, af, g⟩ K Φ fr Hs :=
  aop_val hd (fun _ I a w hs => by
    obtain ⟨v, hv, hr⟩ := h _ I a w hs
    exact ⟨v, by simp only [execOp, resolve, invoke, Sem.run_bind, Sem.run_pure, Result.andThen_ok]; exact hv _, hr⟩) hK

theorem rLen {x : Operand} {t : TypeId} {e : TypeId} {c : AV} {m : Nat} {xs : List AV} (ht : P.underlying t = some (.slice e)) (hd : Nat.blt d n = true) (hx : oget fr x = some c) (hc : AsSl c m xs)
    (hK : K ((d, .val (.int .i64 (xs.length : Int))) :: fr) Hs) : AOp P J n ⟨some d, .call ⟨.builtin .len, #[x], #[t]⟩, ty, ps, af, g⟩ K Φ fr Hs :=
  rBuiltin_val hd (fun _ I a w hs => by
    have h := hc.rel (hs.frame.oget hx)
    revert h; generalize hv : a.eval x = v; intro h
    cases h with
    | slnil => exact ⟨_, fun _ => by simp [builtin, Builtin.len_, run_underlying ht, hv, goInt], .val _⟩
    | sl hl _ _ _ _ => subst hl; exact ⟨_, fun _ => by simp [builtin, Builtin.len_, run_underlying ht, hv, goInt], .val _⟩) hK
theorem rLenS {x : Operand} {t : TypeId} {s : ByteArray} (ht : P.underlying t = some .string) (hd : Nat.blt d n = true) (hx : oget fr x = some (.val (.string s)))
    (hK : K ((d, .val (.int .i64 (s.size : Int))) :: fr) Hs) : AOp P J n ⟨some d, .call ⟨.builtin .len, #[x], #[t]⟩, ty, ps, af, g⟩ K Φ fr Hs :=
  rBuiltin_val hd (fun _ I a w hs => ⟨_, fun _ => by simp [builtin, Builtin.len_, run_underlying ht, hs.frame.val hx, goInt], .val _⟩) hK
theorem rLenA {x : Operand} {t : TypeId} {m : Nat} {e : TypeId} {c : AV} (ht : P.underlying t = some (.array m e)) (hd : Nat.blt d n = true) (_hx : oget fr x = some c)
    (hK : K ((d, .val (.int .i64 (m : Int))) :: fr) Hs) : AOp P J n ⟨some d, .call ⟨.builtin .len, #[x], #[t]⟩, ty, ps, af, g⟩ K Φ fr Hs :=
  rBuiltin_val hd (fun _ I a w hs => ⟨_, fun _ => by simp [builtin, Builtin.len_, run_underlying ht, goInt], .val _⟩) hK

theorem rMax {x y : Operand} {ats : Array TypeId} {k : IntKind} {a b : Int} (hd : Nat.blt d n = true) (hx : oget fr x = some (.val (.int k a))) (hy : oget fr y = some (.val (.int k b)))
    (hK : K ((d, .val (.int k (max a b))) :: fr) Hs) : AOp P J n ⟨some d, .call ⟨.builtin .max, #[x, y], ats⟩, ty, ps, af, g⟩ K Φ fr Hs :=
  rBuiltin_val hd (fun _ I ac w hs => ⟨.int k (max a b), fun _ => by
    have : (if b > a then b else a) = max a b := by omega
    simp [builtin, Builtin.max_, Builtin.max2, hs.frame.val hx, hs.frame.val hy, ← this], .val _⟩) hK
theorem rMin {x y : Operand} {ats : Array TypeId} {k : IntKind} {a b : Int} (hd : Nat.blt d n = true) (hx : oget fr x = some (.val (.int k a))) (hy : oget fr y = some (.val (.int k b)))
    (hK : K ((d, .val (.int k (min a b))) :: fr) Hs) : AOp P J n ⟨some d, .call ⟨.builtin .min, #[x, y], ats⟩, ty, ps, af, g⟩ K Φ fr Hs :=
  rBuiltin_val hd (fun _ I ac w hs => ⟨.int k (min a b), fun _ => by
    have : (if b < a then b else a) = min a b := by omega
    simp [builtin, Builtin.min_, Builtin.min2, hs.frame.val hx, hs.frame.val hy, ← this], .val _⟩) hK

theorem rIdxS {t e : TypeId} {x y : Operand} {c el : AV} {m by_ : Nat} {z : Value} {xs : List AV} {k : IntKind} {i : Int} (ht : P.underlying t = some (.slice e)) (hT : TI P e m by_ z) (hd : Nat.blt d n = true)
    (hx : oget fr x = some c) (hc : AsSl c m xs) (hy : oget fr y = some (.val (.int k i))) (h0 : 0 ≤ i) (hi : xs[i.toNat]? = some el) (hK : K ((d, .ip el.cells) :: fr) Hs) :
    AOp P J n ⟨some d, .indexAddr t x y, ty, ps, af, g⟩ K Φ fr Hs :=
  aop_val hd (fun _ I a w hs => by
    have h := hc.rel (hs.frame.oget hx)
    revert h; generalize hv : a.eval x = v; intro h
    cases h with
    | slnil => simp at hi
    | sl hl hcap hn hdd hh =>
      rename_i p len cap
      have hlt := lt_of_get hi
      have hb : i < (len : Int) := by omega
      refine ⟨.pointer (some (p.add (i.toNat * m))), by simp [execOp, hv, hs.frame.val hy, Instr.indexAt, run_underlying ht, asIntOf, h0, hb, hT.size], ?_⟩
      have hm := (hn el (List.mem_of_getElem? hi)).1
      refine .ip (fun j hj => ?_) (fun j u c hu hcc => ?_)
      · rw [add_add]
        refine hdd _ (lt_of_get (c := el.cells[j]) ?_)
        rw [flat_get (fun x hx => (hn x hx).1) hi (by omega)]; simp [hj]
      · rw [add_add] at hu
        refine hh _ u c hu ?_
        have := lt_of_get hcc
        rw [flat_get (fun x hx => (hn x hx).1) hi (by omega)]; exact hcc) hK
theorem rIdxA {t e : TypeId} {x y : Operand} {b off len m by_ : Nat} {z : Value} {k : IntKind} {i : Int} (ht : P.underlying t = some (.array len e)) (hT : TI P e m by_ z) (hd : Nat.blt d n = true)
    (hx : oget fr x = some (ptr b off)) (hy : oget fr y = some (.val (.int k i))) (h0 : 0 ≤ i) (hi : i < len) (hK : K ((d, ptr b (off + i.toNat * m)) :: fr) Hs) :
    AOp P J n ⟨some d, .indexAddr t x y, ty, ps, af, g⟩ K Φ fr Hs :=
  aop_val hd (fun _ I a w hs => ⟨_, by simp [execOp, hs.frame.val hx, hs.frame.val hy, Instr.indexAt, Instr.sureAddr, run_underlying ht, asIntOf, h0, hi, hT.size, addr_add], .val _⟩) hK
theorem rIdxAI {t e : TypeId} {x y : Operand} {len m by_ : Nat} {cs : List AV} {z : Value} {k : IntKind} {i : Int} (ht : P.underlying t = some (.array len e)) (hT : TI P e m by_ z) (hd : Nat.blt d n = true)
    (hx : oget fr x = some (.ip cs)) (hy : oget fr y = some (.val (.int k i))) (h0 : 0 ≤ i) (hi : i < len) (hK : K ((d, .ip (cs.drop (i.toNat * m))) :: fr) Hs) :
    AOp P J n ⟨some d, .indexAddr t x y, ty, ps, af, g⟩ K Φ fr Hs :=
  aop_val hd (fun _ I a w hs => by
    have h := hs.frame.oget hx
    revert h; generalize hv : a.eval x = v; intro h
    cases h with
    | ip hd' h' =>
      rename_i p
      exact ⟨_, by simp [execOp, hv, hs.frame.val hy, Instr.indexAt, Instr.sureAddr, run_underlying ht, asIntOf, h0, hi, hT.size], ip_drop (.ip hd' h') _⟩) hK
theorem rIdxM {t e : TypeId} {x y : Operand} {b off len cap m by_ : Nat} {z : Value} {k : IntKind} {i : Int} (ht : P.underlying t = some (.slice e)) (hT : TI P e m by_ z) (hd : Nat.blt d n = true)
    (hx : oget fr x = some (.val (.slice (some ⟨b, off, none⟩) len cap))) (hy : oget fr y = some (.val (.int k i))) (h0 : 0 ≤ i) (hi : i < len) (hK : K ((d, ptr b (off + i.toNat * m)) :: fr) Hs) :
    AOp P J n ⟨some d, .indexAddr t x y, ty, ps, af, g⟩ K Φ fr Hs :=
  aop_val hd (fun _ I a w hs => ⟨_, by simp [execOp, hs.frame.val hx, hs.frame.val hy, Instr.indexAt, run_underlying ht, asIntOf, h0, hi, hT.size, addr_add], .val _⟩) hK

/-- An element (of one cell) of an array that is a value. -/
theorem rIndex {t e : TypeId} {x y : Operand} {len by_ : Nat} {cs : List AV} {c : AV} {z : Value} {k : IntKind} {i : Int} (ht : P.underlying t = some (.array len e)) (hN : NAgg P e) (hT : TI P e 1 by_ z) (hd : Nat.blt d n = true)
    (hx : oget fr x = some (.agg cs)) (hy : oget fr y = some (.val (.int k i))) (h0 : 0 ≤ i) (hi : i < len) (hc : cs[i.toNat]? = some c) (hK : K ((d, c) :: fr) Hs) :
    AOp P J n ⟨some d, .index t x y, ty, ps, af, g⟩ K Φ fr Hs :=
  aop_val hd (fun _ I a w hs => by
    obtain ⟨vs, hv, _, hg⟩ := (hs.frame.oget hx).agg_get
    obtain ⟨u, hu, hr⟩ := hg _ _ hc
    exact ⟨u, by simp [execOp, hv, hs.frame.val hy, Instr.index, run_underlying ht, asIntOf, h0, hi, hT.size, part, hN.run, hu], hr⟩) hK
/-- A byte of a string. -/
theorem rIndexS {t : TypeId} {x y : Operand} {s : ByteArray} {b : UInt8} {k : IntKind} {i : Int} (ht : P.underlying t = some .string) (hd : Nat.blt d n = true)
    (hx : oget fr x = some (.val (.string s))) (hy : oget fr y = some (.val (.int k i))) (h0 : 0 ≤ i) (hc : s[i.toNat]? = some b) (hK : K ((d, .val (.int .u8 (b.toNat : Int))) :: fr) Hs) :
    AOp P J n ⟨some d, .index t x y, ty, ps, af, g⟩ K Φ fr Hs :=
  aop_val hd (fun _ I a w hs => ⟨_, by simp [execOp, hs.frame.val hx, hs.frame.val hy, Instr.index, run_underlying ht, asIntOf, h0, hc], .val _⟩) hK
/-- A field of a struct that is a value: one cell. -/
theorem rFieldV {t : TypeId} {x : Operand} {f o : Nat} {cs : List AV} {c : AV} (hF : ∃ fs fd, P.underlying t = some (.struct fs) ∧ fs[f]? = some fd ∧ fd.offset = o ∧ NAgg P fd.type) (hd : Nat.blt d n = true)
    (hx : oget fr x = some (.agg cs)) (hc : cs[o]? = some c) (hK : K ((d, c) :: fr) Hs) :
    AOp P J n ⟨some d, .field t x f, ty, ps, af, g⟩ K Φ fr Hs :=
  aop_val hd (fun _ I a w hs => by
    obtain ⟨fs, fd, h1, h2, h3, h4⟩ := hF
    obtain ⟨vs, hv, _, hg⟩ := (hs.frame.oget hx).agg_get
    obtain ⟨u, hu, hr⟩ := hg _ _ hc
    exact ⟨u, by simp [execOp, hv, Instr.field, run_underlying h1, h2, asAgg, part, h4.run, h3, hu], hr⟩) hK

theorem sl_cut {I : Im} {p : Addr} {len cap m : Nat} {xs : List AV} (h : Rel I (.slice (some p) len cap) (.sl m xs)) {l hh : Nat} (h1 : l ≤ hh) (h2 : hh ≤ xs.length) :
    Rel I (.slice (if cap = l then some p else some (p.add (l * m))) (hh - l) (cap - l)) (.sl m ((xs.take hh).drop l)) := by
  cases h with
  | sl hl hc hn hd h =>
    have hn1 : ∀ x ∈ (xs.take hh), OkEl m x := fun x hx => hn x (List.mem_of_mem_take hx)
    have hn' : ∀ x ∈ (xs.take hh).drop l, OkEl m x := fun x hx => hn1 x (List.mem_of_mem_drop hx)
    have hlen : hh - l = ((xs.take hh).drop l).length := by simp; omega
    have hcell : ∀ i c, (flat ((xs.take hh).drop l))[i]? = some c → (flat xs)[l * m + i]? = some c := fun i c hcc => by
      rw [flat_drop (fun x hx => (hn1 x hx).1), flat_take (fun x hx => (hn x hx).1), List.getElem?_drop] at hcc
      rw [List.getElem?_take] at hcc
      split at hcc
      · exact hcc
      · cases hcc
    by_cases e : cap = l
    · have hem : (xs.take hh).drop l = [] := List.eq_nil_of_length_eq_zero (by rw [← hlen]; omega)
      rw [if_pos e, hem]
      exact .sl (by simp; omega) (by omega) (by simp) (by simp [flat]) (by simp [flat])
    · rw [if_neg e]
      refine .sl hlen (by omega) hn' (fun i hi => ?_) (fun i v c hv hcc => ?_)
      · rw [add_add]
        exact hd _ (lt_of_get (hcell i _ (List.getElem?_eq_getElem hi)))
      · rw [add_add] at hv
        exact h _ v c hv (hcell i c hcc)

theorem run_sliceBound (x : Value) (k : IntKind) (l : Nat) (hx : x = .int k (l : Int)) (y : Nat) (code : BoundsCode) (h : l ≤ y) (w : World) : (Instr.sliceBound x y code).run P w = .ok l w := by
  subst hx
  have : (l : Int) ≤ (y : Int) := by omega
  simp [Instr.sliceBound, asIntOf, this]

theorem rSlice_ {t e : TypeId} {x : Operand} {lo hi : Option Operand} {c : AV} {m by_ : Nat} {z : Value} {xs : List AV} {l h : Nat} (ht : P.underlying t = some (.slice e)) (hT : TI P e m by_ z) (hd : Nat.blt d n = true)
    (hx : oget fr x = some c) (hc : AsSl c m xs)
    (hlo : match lo with | none => l = 0 | some y => ∃ k, oget fr y = some (.val (.int k (l : Int)))) (hhi : match hi with | none => h = xs.length | some y => ∃ k, oget fr y = some (.val (.int k (h : Int))))
    (h1 : l ≤ h) (h2 : h ≤ xs.length) (hK : K ((d, .sl m ((xs.take h).drop l)) :: fr) Hs) :
    AOp P J n ⟨some d, .slice t x lo hi none, ty, ps, af, g⟩ K Φ fr Hs :=
  aop_val hd (fun _ I a w hs => by
    have hr := hc.rel (hs.frame.oget hx)
    revert hr; generalize hv : a.eval x = v; intro hr
    have hlo' : match lo.map a.eval with | none => l = 0 | some v => ∃ k, v = .int k (l : Int) := by
      cases lo with
      | none => exact hlo
      | some y => obtain ⟨k, hy⟩ := hlo; exact ⟨k, hs.frame.val hy⟩
    have hhi' : match hi.map a.eval with | none => h = xs.length | some v => ∃ k, v = .int k (h : Int) := by
      cases hi with
      | none => exact hhi
      | some y => obtain ⟨k, hy⟩ := hhi; exact ⟨k, hs.frame.val hy⟩
    have key : ∀ (base : Option Addr) (len cap : Nat), len = xs.length → len ≤ cap → (Instr.sliceBounds true len cap (lo.map a.eval) (hi.map a.eval) none).run P w = .ok (l, h, cap) w := by
      intro base len cap hl hcap
      revert hlo' hhi'
      cases lo.map a.eval <;> cases hi.map a.eval
      · intro hlo' hhi'; simp at hlo' hhi'; subst hlo'; simp [Instr.sliceBounds, hhi', hl]
      · intro hlo' hhi'; simp at hlo'; obtain ⟨k, hk⟩ := hhi'; subst hlo'
        simp [Instr.sliceBounds, run_sliceBound _ k h hk cap _ (by omega)]
      · intro hlo' hhi'; simp at hhi'; obtain ⟨k, hk⟩ := hlo'
        subst hhi'; subst hl
        simp [Instr.sliceBounds, run_sliceBound _ k l hk xs.length _ (by omega)]
      · intro hlo' hhi'; obtain ⟨k, hk⟩ := hlo'; obtain ⟨k', hk'⟩ := hhi'
        simp [Instr.sliceBounds, run_sliceBound _ k' h hk' cap _ (by omega), run_sliceBound _ k l hk h _ h1]
    have hr' := hr
    cases hr with
    | slnil =>
      simp at h2; subst h2
      have h0 : l = 0 := by omega
      subst h0
      refine ⟨.slice none 0 0, ?_, by simpa using Rel.slnil (I := I) m⟩
      simp [execOp, hv, Instr.sliceAt, run_underlying ht, Instr.slice, key none 0 0 rfl (by omega), hT.size]
    | sl hl hcap hn hdd hh =>
      rename_i p len cap
      refine ⟨_, ?_, sl_cut hr' h1 h2⟩
      simp [execOp, hv, Instr.sliceAt, run_underlying ht, Instr.slice, key (some p) len cap hl hcap, hT.size]) hK
end
end Go.Ab

namespace Go.Ab
open Go

def rowO (m : Nat) (e : TypeId) (o : Option (Nat × Nat)) (used : Nat) : HProp :=
  match o with
  | none => fun l => l = []
  | some (b, cap) => pt b (.row used cap m e)

/-- The concrete cells of a slice that is told. -/
theorem sl_values {I : Im} {L : Heaplet} {w : World} (hg : Good I L w) {p : Addr} {len cap m : Nat} {ys : List AV} (h : Rel I (.slice (some p) len cap) (.sl m ys)) :
    ∃ nv : List Value, Zip2 (fun v c => Rel I v c ∧ v.oneCell' = true) nv (flat ys) ∧ (∀ j u, nv[j]? = some u → w.cell? (p.add j) = some u) ∧ nv.length = ys.length * m ∧ len = ys.length ∧ len ≤ cap := by
  cases h with
  | sl hl hc hn hd h =>
    obtain ⟨nv, hz, hgv⟩ := zip_of (I := I) (fun i => I (p.add i)) (flat ys) 0 fun i c hcc => by
      obtain ⟨u, hu⟩ := Option.isSome_iff_exists.1 (hd i (lt_of_get hcc))
      exact ⟨u, by simpa using hu, h i u c hu hcc⟩
    have hall : (flat ys).all AV.one = true := by
      rw [List.all_eq_true]
      intro c hcc
      obtain ⟨x, hx, hcx⟩ := List.mem_flatMap.1 hcc
      exact List.all_eq_true.1 (hn x hx).2 c hcx
    refine ⟨nv, ?_, fun j u hu => (hg.im _ _ (by have := hgv j u hu; simpa using this)).2, ?_, hl, hc⟩
    · clear hgv
      revert hz hall
      generalize flat ys = fl
      intro hz hall
      induction hz with
      | nil => exact .nil
      | cons h0 _ ih =>
        simp only [List.all_cons, Bool.and_eq_true] at hall
        exact .cons ⟨h0, h0.one hall.1⟩ (ih hall.2)
    · rw [hz.length, flat_length fun x hx => (hn x hx).1]

theorem SepG.setRow {I : Im} {Hs : List HProp} {w : World} {b used cap m : Nat} {e : TypeId} (h : SepG I (pt b (.row used cap m e) :: Hs) w) {off : Nat} (ho : used * m ≤ off) (v : Value) :
    SepG I (pt b (.row used cap m e) :: Hs) (w.setCell ⟨b, off, none⟩ v) := by
  obtain ⟨L, hs, hg⟩ := h
  cases hs with
  | cons h1 h2 =>
    cases h1
    rename_i l'
    obtain ⟨vs, hh, hsz, hu, hm, hI⟩ := hg.ob b (.row used cap m e) (by simp)
    have hnd := hg.nd
    rw [List.singleton_append, List.map_cons, List.nodup_cons] at hnd
    refine ⟨_, .cons rfl h2, ⟨fun a u e' => ?_, by simpa using hg.nd, fun b' o hb' => ?_⟩⟩
    · obtain ⟨e1, e2⟩ := hg.im a u e'
      refine ⟨e1, ?_⟩
      by_cases hne : a.block = b
      · obtain ⟨blk, o, sp⟩ := a
        simp only at e1 hne
        subst e1; subst hne
        have hlt : ¬ used * m ≤ o := fun hle => by rw [hI o hle] at e'; cases e'
        rw [cell_at (heap_setCell v hh), Array.getElem?_setIfInBounds_ne (by omega), ← cell_at hh]
        exact e2
      · rw [cell_of_heap (heap_setCell_ne v (by simpa using fun e => hne e.symm))]
        exact e2
    · rw [List.singleton_append, List.mem_cons] at hb'
      rcases hb' with e' | hb'
      · cases e'
        exact ⟨_, heap_setCell v hh, by simp [hsz], hu, hm, hI⟩
      · have hne : b ≠ b' := fun e => hnd.1 (List.mem_map.2 ⟨_, hb', e.symm⟩)
        exact (hg.ob b' o (by simp [hb'])).heap (heap_setCell_ne v (by simpa using hne))
theorem SepG.rowCell {I : Im} {Hs : List HProp} {w : World} {b used cap m : Nat} {e : TypeId} (h : SepG I (pt b (.row used cap m e) :: Hs) w) {off : Nat} (ho : off < cap * m) :
    ∃ u, w.cell? ⟨b, off, none⟩ = some u ∧ w.frozen? ⟨b, off, none⟩ = false := by
  obtain ⟨L, hs, hg⟩ := h
  cases hs with
  | cons h1 h2 =>
    cases h1
    obtain ⟨vs, hh, hsz, _⟩ := hg.ob b (.row used cap m e) (by simp)
    exact ⟨vs[off]'(by omega), by rw [cell_at hh]; simp [hsz, ho], by simp [World.frozen?, hh]⟩

/-- The stores of an append in place. -/
theorem run_storeRow {P : Program} {I : Im} {Hs : List HProp} {b used cap m : Nat} {e : TypeId} (base : Nat) (hbase : used * m ≤ base) : ∀ (vs : List Value) (i : Nat) (w : World), (∀ v ∈ vs, v.oneCell' = true) → base + i + vs.length ≤ cap * m →
    SepG I (pt b (.row used cap m e) :: Hs) w →
    ∃ w', (storeCells ⟨b, base, none⟩ vs i).run P w = .ok () w' ∧ SepG I (pt b (.row used cap m e) :: Hs) w' ∧ (∀ j v, vs[j]? = some v → w'.cell? ⟨b, base + i + j, none⟩ = some v) ∧ (∀ j, j < base + i → w'.cell? ⟨b, j, none⟩ = w.cell? ⟨b, j, none⟩)
  | [], i, w, _, _, hs => ⟨w, rfl, hs, fun j v h => by simp at h, fun _ _ => rfl⟩
  | v :: vs, i, w, h1, hl, hs => by
    simp only [List.length_cons] at hl
    obtain ⟨u, hu, hfz⟩ := hs.rowCell (off := base + i) (by omega)
    have hv := h1 v (List.mem_cons_self)
    obtain ⟨w', hr, hs', hc, hk⟩ := run_storeRow (P := P) base hbase vs (i + 1) (w.setCell ⟨b, base + i, none⟩ v) (fun x hx => h1 x (List.mem_cons_of_mem _ hx)) (by omega) (hs.setRow (off := base + i) (by omega) v)
    refine ⟨w', ?_, hs', fun j x hx => ?_, fun j hj => ?_⟩
    · simp [storeCells, addr_add, run_store _ _ _ _ _ hv, hu, hfz, hr]
    · cases j with
      | zero =>
        simp at hx; subst hx
        rw [hk (base + i + 0) (by omega)]
        exact World.cell?_setCell_same' w _ v (by rw [hu]; rfl)
      | succ j =>
        have := hc j x (by simpa using hx)
        rwa [show base + i + (j + 1) = base + (i + 1) + j from by omega]
    · rw [hk j (by omega)]
      exact World.cell?_setCell_other w _ _ v (by simp)

theorem Rel.own_some {I : Im} {v : Value} {m b cap : Nat} {xs : List AV} (h : Rel I v (.own m (some (b, cap)) xs)) : v = .slice (some ⟨b, 0, none⟩) xs.length cap ∧ xs.length ≤ cap ∧ (∀ x ∈ xs, OkEl m x) ∧
    (∀ i, i < (flat xs).length → (I ⟨b, i, none⟩).isSome = true) ∧ ∀ (i : Nat) (v : Value) (c : AV), I ⟨b, i, none⟩ = some v → (flat xs)[i]? = some c → Rel I v c := by
  cases h with
  | own hc hn hd h => exact ⟨rfl, hc, hn, hd, h⟩

/-- What is known grows by a row's cells. -/
theorem SepG.knowRow {I : Im} {Hs : List HProp} {w : World} {b used used' cap m : Nat} {e : TypeId} (h : SepG I (pt b (.row used cap m e) :: Hs) w) (huc : used ≤ used') (hc : used' ≤ cap) (ys : List AV) (nv : List Value)
    (hz : Zip2 (fun v c => Rel I v c ∧ v.oneCell' = true) nv ys) (hl : (used' - used) * m = ys.length) (hcell : ∀ j v, nv[j]? = some v → w.cell? ⟨b, used * m + j, none⟩ = some v) :
    ∃ I', Im.le I I' ∧ SepG I' (pt b (.row used' cap m e) :: Hs) w ∧ ∀ j c, ys[j]? = some c → ∃ v, I' ⟨b, used * m + j, none⟩ = some v ∧ Rel I' v c := by
  obtain ⟨L, hs, hg⟩ := h
  cases hs with
  | cons h1 h2 =>
    cases h1
    rename_i l'
    obtain ⟨vs, hh, hsz, hu, hm, hI⟩ := hg.ob b (.row used cap m e) (by simp)
    have hnl : nv.length = ys.length := hz.length
    have hum : used' * m = used * m + ys.length := by
      rw [← hl, Nat.sub_mul]; have := Nat.mul_le_mul_right m huc; omega
    have hle : Im.le I (I.adds b fun i => if used * m ≤ i ∧ i < used' * m then vs[i]? else none) := fun a v hv => by
      unfold Im.adds
      by_cases ea : a.block = b ∧ a.spot = none
      · rw [if_pos ea]
        obtain ⟨blk, o, sp⟩ := a
        obtain ⟨rfl, rfl⟩ := ea
        simp only
        have hlt : ¬ used * m ≤ o := fun hle => by rw [hI o hle] at hv; cases hv
        rw [if_neg (fun h => hlt h.1)]
        exact hv
      · rw [if_neg ea]; exact hv
    have hnd := hg.nd
    rw [List.singleton_append, List.map_cons, List.nodup_cons] at hnd
    refine ⟨_, hle, ⟨_, .cons rfl h2, ⟨fun a u eu => ?_, by simpa using hg.nd, fun b' o hb' => ?_⟩⟩, fun j c hc' => ?_⟩
    · unfold Im.adds at eu
      by_cases ea : a.block = b ∧ a.spot = none
      · rw [if_pos ea] at eu
        obtain ⟨blk, o, sp⟩ := a
        obtain ⟨rfl, rfl⟩ := ea
        simp only at eu
        by_cases hin : used * m ≤ o ∧ o < used' * m
        · rw [if_pos hin] at eu
          refine ⟨rfl, ?_⟩
          rw [cell_at hh]
          cases hv : vs[o]? with
          | none => rw [hv] at eu; simp only at eu; rw [hI o hin.1] at eu; cases eu
          | some x => rw [hv] at eu; exact eu
        · rw [if_neg hin] at eu
          exact hg.im _ _ eu
      · rw [if_neg ea] at eu
        exact hg.im _ _ eu
    · rw [List.singleton_append, List.mem_cons] at hb'
      rcases hb' with e' | hb'
      · cases e'
        refine ⟨vs, hh, hsz, hc, hm, fun off ho => ?_⟩
        rw [Im.adds_none (by rw [if_neg (by omega)])]
        exact hI off (by omega)
      · have hne : b' ≠ b := fun e => hnd.1 (List.mem_map.2 ⟨_, hb', e⟩)
        exact (hg.ob b' o (by simp [hb'])).mono hle fun off e => by rw [Im.adds_other (by simpa using hne)]; exact e
    · have hj := lt_of_get hc'
      have hin : used * m + j < cap * m := by
        have := Nat.mul_le_mul_right m hc; omega
      obtain ⟨x, hx⟩ : ∃ x, nv[j]? = some x := ⟨nv[j]'(by omega), by simp [hnl, hj]⟩
      have h3 := hcell j x hx
      rw [cell_at hh] at h3
      have hrel : Rel I x c := by
        clear hcell h3 hnl hl hum hj hin
        induction hz generalizing j with
        | nil => simp at hx
        | cons h0 _ ih =>
          cases j with
          | zero => simp at hx hc'; subst hx; subst hc'; exact h0.1
          | succ j => exact ih j (by simpa using hc') (by simpa using hx)
      exact ⟨x, Im.adds_at (f := fun i => if used * m ≤ i ∧ i < used' * m then vs[i]? else none) (by rw [if_pos ⟨by omega, by omega⟩]; exact h3), hrel.mono hle⟩

theorem own_mk {I : Im} {m b cap : Nat} {xs : List AV} (hc : xs.length ≤ cap) (hn : ∀ x ∈ xs, OkEl m x) (h : ∀ j c, (flat xs)[j]? = some c → ∃ v, I ⟨b, j, none⟩ = some v ∧ Rel I v c) :
    Rel I (.slice (some ⟨b, 0, none⟩) xs.length cap) (.own m (some (b, cap)) xs) :=
  .own hc hn (fun i hi => by obtain ⟨v, hv, _⟩ := h i _ (List.getElem?_eq_getElem hi); rw [hv]; rfl) (fun i v c hv hcc => by
    obtain ⟨u, hu, hr⟩ := h i c hcc
    rw [hu] at hv; cases hv; exact hr)

theorem zip_append {α β : Type} {R : α → β → Prop} {a c : List α} {b d : List β} (h : Zip2 R a b) (h' : Zip2 R c d) : Zip2 R (a ++ c) (b ++ d) := by
  induction h with
  | nil => exact h'
  | cons h0 _ ih => exact .cons h0 ih
theorem zip_one {I : Im} {nv : List Value} {ys : List AV} (h : Zip2 (fun v c => Rel I v c ∧ v.oneCell' = true) nv ys) : ∀ v ∈ nv, v.oneCell' = true := by
  induction h with
  | nil => intro v hv; cases hv
  | cons h0 _ ih =>
    intro v hv
    rcases List.mem_cons.1 hv with rfl | hv
    · exact h0.2
    · exact ih v hv

/-- A new row, its first elements known. -/
theorem SepG.newRow {I : Im} {Hs : List HProp} {w : World} (h : SepG I Hs w) (w' : World) (cells : Array Value) (e : TypeId) (hw : w'.heap = w.heap.push (.cells cells e)) {m cap : Nat} (xs : List AV) (hn : ∀ x ∈ xs, OkEl m x) (vs : List Value)
    (hz : Zip2 (fun v c => Rel I v c ∧ v.oneCell' = true) vs (flat xs)) (hsz : cells.size = cap * m) (hcap : xs.length ≤ cap) (hmax : cap ≤ maxLen) (hcells : ∀ (j : Nat) (v : Value), vs[j]? = some v → cells[j]? = some v) (hwo : w'.os = w.os ∧ w'.output = w.output := by exact ⟨rfl, rfl⟩) :
    ∃ I', Im.le I I' ∧ SepG I' (pt w.heap.size (.row xs.length cap m e) :: Hs) w' ∧ Rel I' (.slice (some ⟨w.heap.size, 0, none⟩) xs.length cap) (.own m (some (w.heap.size, cap)) xs) := by
  have h1 := h.push (.cells cells e) (.row 0 cap m e) w' hw (fun hI => ⟨cells, by rw [hw]; simp, hsz, by omega, hmax, fun off _ => hI off⟩) hwo
  have hb : w'.heap[w.heap.size]? = some (.cells cells e (0, 0)) := by rw [hw]; simp
  obtain ⟨I', hle, hs, hk⟩ := h1.knowRow (used' := xs.length) (by omega) hcap (flat xs) vs hz (by rw [flat_length fun x hx => (hn x hx).1]; simp) (fun j v hv => by
    rw [cell_at hb]; simpa using hcells j v hv)
  exact ⟨I', hle, hs, own_mk hcap hn fun j c hc => by obtain ⟨v, hv, hr⟩ := hk j c hc; exact ⟨v, by simpa using hv, hr⟩⟩

theorem append_run {P : Program} {I : Im} {Hs : List HProp} {w : World} {t ty e : TypeId} {m by_ : Nat} {z : Value} (ht : P.underlying t = some (.slice e)) (hT : TI P e m by_ z) (hz : z.cells.size = m) {o : Option (Nat × Nat)} {xs ys : List AV} {v src : Value}
    (hs : SepG I (rowO m e o xs.length :: Hs) w) (hx : Rel I v (.own m o xs)) (hy : Rel I src (.sl m ys)) (hmax : xs.length + ys.length ≤ 9223372036854775807) (hbytes : (xs.length + ys.length) * by_ ≤ 140737488355328) :
    ∃ o' I' v' w', Im.le I I' ∧ (Builtin.append_ #[t, t] ty #[v, src]).run P w = .ok v' w' ∧ SepG I' (rowO m e o' (xs.length + ys.length) :: Hs) w' ∧ Rel I' v' (.own m o' (xs ++ ys)) := by
  obtain ⟨i, hi, hsize, hby, hzero⟩ := hT
  -- what is appended
  obtain ⟨nv, hzn, hlen, hnone, hload⟩ : ∃ nv : List Value, Zip2 (fun v c => Rel I v c ∧ v.oneCell' = true) nv (flat ys) ∧ nv.length = ys.length * m ∧ (∀ x ∈ ys, OkEl m x) ∧
      ∃ base len cap, src = .slice base len cap ∧ len = ys.length ∧ ∀ w', (∀ p u, I p = some u → w'.cell? p = some u) → (Builtin.firstCells m ys.length src).run P w' = .ok nv.toArray w' := by
    obtain ⟨L, hL, hg⟩ := hs
    have hy' := hy
    cases hy with
    | slnil => exact ⟨[], .nil, by simp, by simp, none, 0, 0, rfl, rfl, fun w' _ => by simp [Builtin.firstCells]⟩
    | sl hl hc hn hd h =>
      rename_i p len cap
      obtain ⟨nv, h1, h2, h3, h4, h5⟩ := sl_values hg hy'
      refine ⟨nv, h1, h3, hn, some p, len, cap, rfl, hl, fun w' hw' => ?_⟩
      have := run_loadCells_list (P := P) (w := w') p nv fun j u hu => hw' _ _ (by
        obtain ⟨c, hc⟩ : ∃ c, (flat ys)[j]? = some c := ⟨(flat ys)[j]'(by rw [← h1.length]; exact lt_of_get hu), by simp [← h1.length, lt_of_get hu]⟩
        obtain ⟨u', hu'⟩ := Option.isSome_iff_exists.1 (hd j (lt_of_get hc))
        have e1 := (hg.im _ _ hu').2
        rw [h2 j u hu] at e1
        cases e1; exact hu')
      rw [h3] at this
      simp [Builtin.firstCells, this]
  obtain ⟨base, len, cap, rfl, hlen', hload⟩ := hload
  have himp : ∀ p u, I p = some u → w.cell? p = some u := fun p u hp => let ⟨_, _, hg⟩ := hs; (hg.im p u hp).2
  -- a new row
  have grows : ∀ (sCap : Nat) (bs : Option Addr) (old : List Value), v = .slice bs xs.length sCap → sCap < xs.length + ys.length → (∀ x ∈ xs, OkEl m x) → Zip2 (fun v c => Rel I v c ∧ v.oneCell' = true) old (flat xs) →
      (∀ w', (∀ p u, I p = some u → w'.cell? p = some u) → (Builtin.firstCells m xs.length v).run P w' = .ok old.toArray w') → SepG I Hs w →
      ∃ o' I' v' w', Im.le I I' ∧ (Builtin.append_ #[t, t] ty #[v, .slice base len cap]).run P w = .ok v' w' ∧ SepG I' (rowO m e o' (xs.length + ys.length) :: Hs) w' ∧ Rel I' v' (.own m o' (xs ++ ys)) := by
    intro sCap bs old hv hlt hnx hzo hold hs0
    subst hv
    have hfit := growslice_fits hlt hbytes
    have hlt63 : xs.length + ys.length < 9223372036854775808 := by omega
    let newCap := (xs.length + ys.length) + w.tape w.drawn (.appendCap (xs.length + ys.length) sCap e) % (9223372036854775808 - (xs.length + ys.length))
    have hnc : newCap < 9223372036854775808 := by
      have := Nat.mod_lt (w.tape w.drawn (.appendCap (xs.length + ys.length) sCap e)) (show 0 < 9223372036854775808 - (xs.length + ys.length) by omega)
      simp only [newCap]; omega
    let cells : Array Value := old.toArray ++ nv.toArray ++ Builtin.zeroCells z.cells (newCap - (xs.length + ys.length))
    have hol : old.length = xs.length * m := by rw [hzo.length, flat_length fun x hx => (hnx x hx).1]
    have hcs : cells.size = newCap * m := by
      simp only [cells, Array.size_append, List.size_toArray, hol, hlen, Builtin.zeroCells, Array.size_map, Array.size_range, hz]
      rw [← Nat.add_mul, ← Nat.add_mul]; congr 1; simp only [newCap]; omega
    obtain ⟨I', hle, hs', hr'⟩ := hs0.newRow { w with heap := w.heap.push (.cells cells e), drawn := w.drawn + 1 } cells e rfl (m := m) (cap := newCap) (xs ++ ys) (fun x hx => (List.mem_append.1 hx).elim (hnx x) (hnone x)) (old ++ nv)
      (by rw [flat_append]; exact zip_append hzo hzn) hcs (by simp only [newCap]; simp) (by simp only [maxLen]; omega) (fun j u hu => by
        simp only [cells]
        rw [Array.getElem?_append_left (by have := lt_of_get hu; simpa using this)]
        simpa using hu)
    refine ⟨some (w.heap.size, newCap), I', .slice (some ⟨w.heap.size, 0, none⟩) (xs.length + ys.length) newCap, { w with heap := w.heap.push (.cells cells e), drawn := w.drawn + 1 }, hle, ?_, by rw [List.length_append] at hs'; exact hs', by rw [List.length_append] at hr'; exact hr'⟩
    have hM : IntKind.i64.max = 9223372036854775807 := by decide
    have hold' := hold w.drew himp
    have hload' := hload w.drew himp
    subst hlen'
    have hnle : ¬ xs.length + ys.length ≤ sCap := by omega
    have hmaxI : ¬ ((9223372036854775807 : Int) < ((xs.length : Int) + (ys.length : Int))) := by omega
    simp [Builtin.append_, run_underlying ht, sizeOf, typeInfo, hi, hsize, hby, Builtin.lenOf, hnle, Nat.not_lt.2 hfit, Question.forced, Question.cut, hold', hload', zeroValue, hzero, newRow, hM, hmaxI]
    refine ⟨rfl, ?_⟩
    have e1 : newCap - (xs.length + ys.length) = w.tape w.drawn (Question.appendCap (xs.length + ys.length) sCap e) % (9223372036854775808 - (xs.length + ys.length)) := by simp only [newCap]; omega
    simp only [cells, e1, Array.append_assoc]
    rfl
  rcases o with _ | ⟨b, cp⟩
  · cases hx with
    | ownnil =>
      have hs0 : SepG I Hs w := by
        obtain ⟨L, hL, hg⟩ := hs
        cases hL with
        | cons h1 h2 => have h1' : _ = [] := h1; subst h1'; exact ⟨_, h2, hg⟩
      rcases Nat.eq_zero_or_pos ys.length with h0 | h0
      · have hy0 : ys = [] := List.eq_nil_of_length_eq_zero h0
        subst hy0
        refine ⟨none, I, .slice none 0 0, w, Im.le_refl I, ?_, hs, .ownnil m⟩
        have hload' := hload w himp
        simp at hlen'; subst hlen'
        simp [Builtin.append_, run_underlying ht, sizeOf, typeInfo, hi, hsize, Builtin.lenOf]
        simp at hload'
        rw [hload']
        simp
      · exact grows 0 none [] rfl (by simp; omega) (by simp) (by exact .nil) (fun w' _ => by simp [Builtin.firstCells]) hs0
  · obtain ⟨rfl, hcx, hnx, hdx, hhx⟩ := hx.own_some
    have hsR : SepG I (pt b (.row xs.length cp m e) :: Hs) w := hs
    by_cases hroom : xs.length + ys.length ≤ cp
    · -- in place
      obtain ⟨w', h1, h2, h3, h4⟩ := run_storeRow (P := P) (xs.length * m) (Nat.le_refl _) nv 0 w (zip_one hzn) (by rw [hlen, Nat.add_zero, ← Nat.add_mul]; exact Nat.mul_le_mul_right m hroom) hsR
      obtain ⟨I', hle, hs', hk⟩ := h2.knowRow (used' := xs.length + ys.length) (by omega) hroom (flat ys) nv hzn (by rw [flat_length fun x hx => (hnone x hx).1]; congr 1; omega) (fun j u hu => by simpa using h3 j u hu)
      refine ⟨some (b, cp), I', .slice (some ⟨b, 0, none⟩) (xs.length + ys.length) cp, w', hle, ?_, hs', ?_⟩
      · have hload' := hload w himp
        subst hlen'
        simp [Builtin.append_, run_underlying ht, sizeOf, typeInfo, hi, hsize, Builtin.lenOf, hroom, hload', addr_add, h1]
      · have := own_mk (I := I') (m := m) (b := b) (cap := cp) (xs := xs ++ ys) (by simpa using hroom) (fun x hx => (List.mem_append.1 hx).elim (hnx x) (hnone x)) (fun j c hc => by
          rw [flat_append, List.getElem?_append] at hc
          have hfl : (flat xs).length = xs.length * m := flat_length fun x hx => (hnx x hx).1
          split at hc
          · rename_i hj
            obtain ⟨u, hu⟩ := Option.isSome_iff_exists.1 (hdx j hj)
            exact ⟨u, hle _ _ hu, (hhx j u c hu hc).mono hle⟩
          · rename_i hj
            obtain ⟨u, hu, hr⟩ := hk _ c hc
            rw [hfl] at hj hu
            exact ⟨u, by rwa [show xs.length * m + (j - xs.length * m) = j from by omega] at hu, hr⟩)
        rw [List.length_append] at this
        exact this
    · -- it grows
      obtain ⟨L, hL, hg⟩ := id hsR
      have hrs : Rel I (.slice (some ⟨b, 0, none⟩) xs.length cp) (.sl m xs) := (AsSl.own m (some (b, cp)) xs).rel hx
      obtain ⟨old, ho1, ho2, ho3, _, _⟩ := sl_values hg hrs
      refine grows cp _ old rfl (by omega) hnx ho1 (fun w' hw' => ?_) (HSub.drop _ _ I w hsR)
      have := run_loadCells_list (P := P) (w := w') ⟨b, 0, none⟩ old fun j u hu => hw' _ _ (by
        have hj : j < (flat xs).length := by rw [← ho1.length]; exact lt_of_get hu
        obtain ⟨u', hu'⟩ := Option.isSome_iff_exists.1 (hdx j hj)
        have e1 := (hg.im _ _ hu').2
        have e2 := ho2 j u hu
        rw [zero_add] at e2 ⊢
        rw [e2] at e1
        cases e1; exact hu')
      rw [ho3] at this
      simp [Builtin.firstCells, this]

section
variable {P : Program} {J : JD} {n : Nat} {Φ : APost} {fr : Fr} {Hs : List HProp} {K : Fr → List HProp → Prop} {ty : TypeId} {ps : String} {af : Array Edge} {g : Option (Nat × Bool)} {d : Nat}

theorem rAppend {x y : Operand} {t e : TypeId} {m by_ : Nat} {z : Value} {o : Option (Nat × Nat)} {xs ys : List AV} {cy : AV} (ht : P.underlying t = some (.slice e)) (hT : TI P e m by_ z) (hz : z.cells.size = m) (hd : Nat.blt d n = true)
    (hx : oget fr x = some (.own m o xs)) (hy : oget fr y = some cy) (hc : AsSl cy m ys) (hmax : xs.length + ys.length ≤ 9223372036854775807) (hbytes : (xs.length + ys.length) * by_ ≤ 140737488355328)
    (hK : ∀ o', K ((d, .own m o' (xs ++ ys)) :: fr) (rowO m e o' (xs.length + ys.length) :: Hs)) :
    AOp P J n ⟨some d, .call ⟨.builtin .append, #[x, y], #[t, t]⟩, ty, ps, af, g⟩ K Φ fr (rowO m e o xs.length :: Hs) :=
  aop_of hd (fun o' => .own m o' (xs ++ ys)) (fun o' => rowO m e o' (xs.length + ys.length) :: Hs) (fun _ I a w hs => by
    obtain ⟨o', I', v', w', h1, h2, h3, h4⟩ := append_run (ty := ty) ht hT hz hs.sep (hs.frame.oget hx) (hc.rel (hs.frame.oget hy)) hmax hbytes
    exact ⟨o', I', v', w', h1, by simp [execOp, resolve, invoke, builtin, h2], h3, h4⟩) hK

/-- nil is a row of nothing. -/
theorem rAppendNil {x y : Operand} {t e : TypeId} {m by_ : Nat} {z : Value} {ys : List AV} {cy : AV} (ht : P.underlying t = some (.slice e)) (hT : TI P e m by_ z) (hz : z.cells.size = m) (hd : Nat.blt d n = true)
    (hx : oget fr x = some (.val (.slice none 0 0))) (hy : oget fr y = some cy) (hc : AsSl cy m ys) (hmax : ys.length ≤ 9223372036854775807) (hbytes : ys.length * by_ ≤ 140737488355328)
    (hK : ∀ o', K ((d, .own m o' ys) :: fr) (rowO m e o' ys.length :: Hs)) :
    AOp P J n ⟨some d, .call ⟨.builtin .append, #[x, y], #[t, t]⟩, ty, ps, af, g⟩ K Φ fr Hs :=
  aop_of hd (fun o' => .own m o' ys) (fun o' => rowO m e o' ys.length :: Hs) (fun F I a w hs => by
    have hs' : SepG I (rowO m e none ([] : List AV).length :: (Hs ++ F)) w := by
      obtain ⟨L, hL, hg⟩ := hs.sep
      exact ⟨_, .cons (l := []) rfl hL, hg⟩
    have hv := hs.frame.val hx
    obtain ⟨o', I', v', w', h1, h2, h3, h4⟩ := append_run (ty := ty) ht hT hz hs' (hv ▸ Rel.ownnil m) (hc.rel (hs.frame.oget hy)) (by simpa using hmax) (by simpa using hbytes)
    refine ⟨o', I', v', w', h1, by rw [hv] at h2; simp [execOp, resolve, invoke, builtin, hv, h2], by simpa using h3, h4⟩) hK
end
end Go.Ab

namespace Go.Ab
open Go

section closed
variable {P : Program}
theorem TI.of {t : TypeId} {s b : Nat} {z : Value} (h : (P.info? t).map (fun i => (i.size, i.bytes, i.zero)) = some (s, b, some z)) : TI P t s b z := by
  cases e : P.info? t with
  | none => rw [e] at h; cases h
  | some i => rw [e] at h; simp at h; exact ⟨i, e, h.1, h.2.1, h.2.2⟩
theorem NAgg.of {t : TypeId} (h : (P.underlying t).map isAggD = some false) : NAgg P t := by
  cases e : P.underlying t with
  | none => rw [e] at h; cases h
  | some d => rw [e] at h; simp at h; exact ⟨d, e, h⟩
theorem AggT.of {t : TypeId} (h : (P.underlying t).map isAggD = some true) : AggT P t := by
  cases e : P.underlying t with
  | none => rw [e] at h; cases h
  | some d => rw [e] at h; simp at h; exact ⟨d, e, h⟩
def fieldOf (P : Program) (s : TypeId) (f : Nat) : Option (Nat × Nat) :=
  match P.underlying s with
  | some (.struct fs) => match fs[f]? with
    | some fd => (P.info? fd.type).map fun i => (fd.offset, i.size)
    | none => none
  | _ => none
theorem FieldAt.of {s : TypeId} {f o k : Nat} (h : fieldOf P s f = some (o, k + 1)) : FieldAt P s f o := by
  unfold fieldOf at h
  split at h
  · rename_i fs hu
    split at h
    · rename_i fd hf
      cases e : P.info? fd.type with
      | none => rw [e] at h; cases h
      | some i => rw [e] at h; simp at h; exact ⟨fs, fd, i, hu, hf, h.1, e, by omega⟩
    · cases h
  · cases h

/-- A struct's fields: how many cells each has; one behind the other. -/
def laysOk (P : Program) : Nat → List Field → Option (List Nat)
  | _, [] => some []
  | o, f :: fs => match P.info? f.type with
    | some i => if f.offset = o then (laysOk P (o + i.size) fs).map (i.size :: ·) else none
    | none => none
def sizesOf (P : Program) (t : TypeId) : Option (List Nat) :=
  match P.underlying t with
  | some (.struct fs) => laysOk P 0 fs.toList
  | _ => none
def SizesAre (P : Program) (t : TypeId) (l : List Nat) : Prop := ∃ fs, P.underlying t = some (.struct fs) ∧ laysOk P 0 fs.toList = some l
theorem SizesAre.of {t : TypeId} {l : List Nat} (h : sizesOf P t = some l) : SizesAre P t l := by
  unfold sizesOf at h
  split at h
  · rename_i fs hu; exact ⟨fs, hu, h⟩
  · cases h
end closed

def offs (l : List (List AV)) (i : Nat) : Nat := ((l.take i).map List.length).sum

theorem laysOk_run {P : Program} (w : World) : ∀ (fs : List Field) (o : Nat) (l : List Nat), laysOk P o fs = some l →
    ∃ ps : List (Nat × Nat), (fs.mapM fun f => do pure (f.offset, ← sizeOf f.type) : Sem (List (Nat × Nat))).run P w = .ok ps w ∧ ∀ (i s : Nat), l[i]? = some s → ps[i]? = some (o + (l.take i).sum, s)
  | [], o, l, h => by cases h; exact ⟨[], rfl, fun i s hs => by simp at hs⟩
  | f :: fs, o, l, h => by
    unfold laysOk at h
    split at h
    · rename_i i hi
      split at h
      · rename_i ho
        cases e : laysOk P (o + i.size) fs with
        | none => rw [e] at h; cases h
        | some l' =>
          rw [e] at h; cases h
          obtain ⟨ps, h1, h2⟩ := laysOk_run w fs (o + i.size) l' e
          refine ⟨(o, i.size) :: ps, ?_, fun j s hs => ?_⟩
          · simp only [List.mapM_cons, Sem.run_bind, sizeOf, typeInfo, run_program, Result.andThen_ok, hi, Sem.run_pure, ho]
            simp only [sizeOf, typeInfo] at h1
            rw [h1]
            simp
          · cases j with
            | zero => simp at hs; subst hs; simp
            | succ j => rw [show ((o, i.size) :: ps)[j + 1]? = ps[j]? from rfl, h2 j s (by simpa using hs)]; simp; omega
      · cases h
    · cases h

def setlV : List Value → Nat → List Value → List Value
  | cs, _, [] => cs
  | cs, off, m :: ms => setlV (cs.set off m) (off + 1) ms
theorem setlV_length : ∀ (ms cs : List Value) (off : Nat), (setlV cs off ms).length = cs.length
  | [], _, _ => rfl
  | m :: ms, cs, off => by simp [setlV, setlV_length]
theorem setlV_get : ∀ (ms cs : List Value) (off i : Nat), (setlV cs off ms)[i]? = if off ≤ i ∧ i < off + ms.length ∧ i < cs.length then ms[i - off]? else cs[i]?
  | [], cs, off, i => by simp [setlV]; omega
  | m :: ms, cs, off, i => by
    rw [setlV, setlV_get ms]
    simp only [List.length_set, List.length_cons]
    by_cases h1 : off + 1 ≤ i ∧ i < off + 1 + ms.length ∧ i < cs.length
    · rw [if_pos h1, if_pos (by omega), show i - off = (i - (off + 1)) + 1 from by omega]; rfl
    · rw [if_neg h1]
      by_cases h2 : i = off
      · subst h2
        by_cases h3 : i < cs.length
        · rw [List.getElem?_set_self h3, if_pos (by omega), Nat.sub_self]; rfl
        · rw [if_neg (by omega), List.getElem?_eq_none (by simp; omega), List.getElem?_eq_none (by omega)]
      · rw [List.getElem?_set_ne (fun e => h2 e.symm)]
        by_cases h3 : off ≤ i ∧ i < off + (ms.length + 1) ∧ i < cs.length
        · omega
        · rw [if_neg h3]

theorem foldl_setlV (off : Nat) : ∀ (ms : List Value) (k : Nat) (cells : Array Value), ((ms.zipIdx k).foldl (fun (cs : Array Value) (x : Value × Nat) => cs.setIfInBounds (off + x.2) x.1) cells).toList = setlV cells.toList (off + k) ms
  | [], k, cells => by simp [setlV]
  | m :: ms, k, cells => by
    simp only [List.zipIdx_cons, List.foldl_cons, setlV]
    rw [foldl_setlV off ms (k + 1)]
    simp [Nat.add_assoc]

/-- The segments with some parts in the place of theirs. -/
def bset : List (Nat × AV) → List (List AV) → List (List AV)
  | [], segs => segs
  | (i, c) :: ps, segs => bset ps (segs.set i c.cells)

def CRel (I : Im) (cells : List Value) (cs : List AV) : Prop := cells.length = cs.length ∧ ∀ (i : Nat) (v : Value) (c : AV), cells[i]? = some v → cs[i]? = some c → Rel I v c

theorem flatten_set_get : ∀ (segs : List (List AV)) (i : Nat) (new old : List AV), segs[i]? = some old → old.length = new.length → ∀ j, (segs.set i new).flatten[j]? = if offs segs i ≤ j ∧ j < offs segs i + new.length then new[j - offs segs i]? else segs.flatten[j]?
  | [], i, new, old, h, _, j => by simp at h
  | s :: segs, 0, new, old, h, hl, j => by
    simp at h; subst h
    simp only [List.set_cons_zero, List.flatten_cons, offs, List.take_zero, List.map_nil, List.sum_nil, Nat.zero_le, true_and, Nat.zero_add, Nat.sub_zero, List.getElem?_append, hl]
    by_cases h : j < new.length <;> simp [h]
  | s :: segs, i + 1, new, old, h, hl, j => by
    have ih := flatten_set_get segs i new old (by simpa using h) hl (j - s.length)
    have ho : offs (s :: segs) (i + 1) = s.length + offs segs i := by simp [offs]
    simp only [List.set_cons_succ, List.flatten_cons, List.getElem?_append, ho]
    by_cases hj : j < s.length
    · simp only [hj, if_true]; rw [if_neg (by omega)]
    · simp only [hj, if_false]
      rw [ih]
      by_cases h1 : offs segs i ≤ j - s.length ∧ j - s.length < offs segs i + new.length
      · rw [if_pos h1, if_pos (by omega), show j - (s.length + offs segs i) = j - s.length - offs segs i from by omega]
      · rw [if_neg h1, if_neg (by omega)]
theorem offs_le : ∀ (segs : List (List AV)) (i : Nat) (old : List AV), segs[i]? = some old → offs segs i + old.length ≤ segs.flatten.length
  | [], i, old, h => by simp at h
  | s :: segs, 0, old, h => by simp at h; subst h; simp [offs]
  | s :: segs, i + 1, old, h => by
    have := offs_le segs i old (by simpa using h)
    have ho : offs (s :: segs) (i + 1) = s.length + offs segs i := by simp [offs]
    rw [ho]; simp only [List.flatten_cons, List.length_append]; omega
theorem offs_set : ∀ (segs : List (List AV)) (i : Nat) (new old : List AV), segs[i]? = some old → old.length = new.length → ∀ k, offs (segs.set i new) k = offs segs k
  | [], i, new, old, h, _, k => by simp at h
  | s :: segs, 0, new, old, h, hl, k => by
    simp at h; subst h
    cases k with
    | zero => rfl
    | succ k => simp [offs, hl]
  | s :: segs, i + 1, new, old, h, hl, k => by
    cases k with
    | zero => rfl
    | succ k =>
      have := offs_set segs i new old (by simpa using h) hl k
      simp only [offs] at this
      simp only [offs, List.set_cons_succ, List.take_succ_cons, List.map_cons, List.sum_cons, this]
theorem flatten_set_length : ∀ (segs : List (List AV)) (i : Nat) (new old : List AV), segs[i]? = some old → old.length = new.length → (segs.set i new).flatten.length = segs.flatten.length
  | [], i, new, old, h, _ => by simp at h
  | s :: segs, 0, new, old, h, hl => by simp at h; subst h; simp [hl]
  | s :: segs, i + 1, new, old, h, hl => by
    have := flatten_set_length segs i new old (by simpa using h) hl
    simp only [List.set_cons_succ, List.flatten_cons, List.length_append, this]

inductive Parts (I : Im) : List (Nat × Value) → List (Nat × AV) → Prop
  | nil : Parts I [] []
  | cons {i : Nat} {v : Value} {c : AV} {ps : List (Nat × Value)} {qs : List (Nat × AV)} (h : Rel I v c) (hf : c.fit = true) (t : Parts I ps qs) : Parts I ((i, v) :: ps) ((i, c) :: qs)

/-- Each part has its place, of its size. -/
def PartsOk (segs : List (List AV)) : List (Nat × AV) → Prop
  | [] => True
  | (i, c) :: qs => (segs[i]?).map List.length = some c.cells.length ∧ PartsOk segs qs
theorem PartsOk.set {segs : List (List AV)} {i : Nat} {new old : List AV} (h : segs[i]? = some old) (hl : old.length = new.length) : ∀ {qs : List (Nat × AV)}, PartsOk segs qs → PartsOk (segs.set i new) qs
  | [], _ => trivial
  | (j, c) :: qs, hq => ⟨by
      by_cases e : i = j
      · subst e
        have h1 := hq.1
        rw [h] at h1
        rw [List.getElem?_set_self (lt_of_get h)]
        simpa [← hl] using h1
      · rw [List.getElem?_set_ne e]; exact hq.1, PartsOk.set h hl hq.2⟩

theorem fill_rel {I : Im} (place : Nat → Option (Nat × Nat)) : ∀ (ps : List (Nat × Value)) (qs : List (Nat × AV)) (cells : Array Value) (segs : List (List AV)), Parts I ps qs → CRel I cells.toList segs.flatten →
    (∀ i old, segs[i]? = some old → place i = some (offs segs i, old.length)) → PartsOk segs qs → ∃ cells', Instr.fill place cells ps = some cells' ∧ CRel I cells'.toList (bset qs segs).flatten
  | _, _, cells, segs, .nil, hc, _, _ => ⟨cells, rfl, hc⟩
  | _, _, cells, segs, .cons (i := i) (v := v) (c := c) (ps := ps) (qs := qs) h hf t, hc, hp, hq => by
    obtain ⟨hsz, hcells⟩ := h.cells hf
    obtain ⟨hq1, hq2⟩ := hq
    cases e : segs[i]? with
    | none => rw [e] at hq1; cases hq1
    | some old =>
      rw [e] at hq1
      simp at hq1
      have hpl := hp i old e
      have hle := offs_le segs i old e
      have hcl : cells.size = segs.flatten.length := by have := hc.1; simpa using this
      obtain ⟨cells', h1, h2⟩ := fill_rel place ps qs (v.cells.zipIdx.foldl (fun cs (x : Value × Nat) => cs.setIfInBounds (offs segs i + x.2) x.1) cells) (segs.set i c.cells) t (by
        have hl : (v.cells.zipIdx.foldl (fun cs (x : Value × Nat) => cs.setIfInBounds (offs segs i + x.2) x.1) cells).toList = setlV cells.toList (offs segs i) v.cells.toList := by
          have := foldl_setlV (offs segs i) v.cells.toList 0 cells
          rw [Nat.add_zero] at this
          rw [← this, ← Array.foldl_toList]
          simp
        rw [hl]
        refine ⟨by rw [setlV_length, flatten_set_length segs i _ old e hq1]; exact hc.1, fun j u x hu hx => ?_⟩
        rw [setlV_get] at hu
        rw [flatten_set_get segs i _ old e hq1] at hx
        have hvl : v.cells.toList.length = c.cells.length := by simpa using hsz
        by_cases hj : offs segs i ≤ j ∧ j < offs segs i + c.cells.length
        · rw [if_pos hj] at hx
          rw [if_pos (by rw [hvl]; have : cells.toList.length = segs.flatten.length := hc.1; omega)] at hu
          exact hcells _ u x (by simpa using hu) hx
        · rw [if_neg hj] at hx
          rw [if_neg (by rw [hvl]; omega)] at hu
          exact hc.2 j u x hu hx) (fun k o ho => by
        rw [offs_set segs i _ old e hq1]
        by_cases ek : i = k
        · subst ek
          rw [List.getElem?_set_self (lt_of_get e)] at ho
          cases ho
          rw [hpl, hq1]
        · rw [List.getElem?_set_ne ek] at ho
          exact hp k o ho) (hq2.set e hq1)
      refine ⟨cells', ?_, h2⟩
      unfold Instr.fill
      rw [hpl]
      simp only
      rw [if_neg]
      · exact h1
      · simp only [Bool.or_eq_true, decide_eq_true_eq, not_or]
        exact ⟨by rw [hsz, hq1]; simp, by rw [hsz, hcl]; omega⟩

section
variable {P : Program} {J : JD} {n : Nat} {Φ : APost} {fr : Fr} {Hs : List HProp} {K : Fr → List HProp → Prop} {ty : TypeId} {ps : String} {af : Array Edge} {g : Option (Nat × Bool)} {d : Nat}

def ogets (fr : Fr) : List (Nat × Operand) → Option (List (Nat × AV))
  | [] => some []
  | (i, x) :: t => match oget fr x, ogets fr t with
    | some c, some l => some ((i, c) :: l)
    | _, _ => none

def allFit : List (Nat × AV) → Bool
  | [] => true
  | (_, c) :: t => c.fit && allFit t

theorem parts_of {I : Im} {a : Act} (h : FrRel I n fr a.tmps) : ∀ (l : List (Nat × Operand)) (qs : List (Nat × AV)), ogets fr l = some qs → allFit qs = true → Parts I (l.map fun x => (x.1, a.eval x.2)) qs
  | [], qs, hq, _ => by cases hq; exact .nil
  | (i, x) :: t, qs, hq, hf => by
    unfold ogets at hq
    split at hq
    · rename_i c l hc hl
      cases hq
      simp only [allFit, Bool.and_eq_true] at hf
      exact .cons (h.oget hc) hf.1 (parts_of h t l hl hf.2)
    · cases hq

theorem CRel.zero {I : Im} {z : Value} : CRel I z.cells.toList (z.cells.toList.map .val) :=
  ⟨by simp, fun i v c hv hc => by rw [List.getElem?_map, hv] at hc; cases hc; exact .val v⟩

/-- A struct made of parts; what no part is told of is zero. -/
theorem rBuild {t : TypeId} {parts : Array (Nat × Operand)} {qs : List (Nat × AV)} {s by_ : Nat} {z : Value} {segs : List (List AV)} (hT : TI P t s by_ z) (hz : z.cells.toList.map AV.val = segs.flatten) (hL : SizesAre P t (segs.map List.length)) (hd : Nat.blt d n = true)
    (hq : ogets fr parts.toList = some qs) (hf : allFit qs = true) (hp : PartsOk segs qs) (hK : K ((d, .agg (bset qs segs).flatten) :: fr) Hs) :
    AOp P J n ⟨some d, .build t parts, ty, ps, af, g⟩ K Φ fr Hs :=
  aop_val hd (fun _ I a w hs => by
    obtain ⟨fs, hu, hl⟩ := hL
    obtain ⟨pl, h1, h2⟩ := laysOk_run (P := P) w fs.toList 0 _ hl
    have hpl : ∀ i old, segs[i]? = some old → pl.toArray[i]? = some (offs segs i, old.length) := fun i old ho => by
      have := h2 i old.length (by rw [List.getElem?_map, ho]; rfl)
      simp only [offs]
      simp only [Nat.zero_add, ← List.map_take] at this
      simpa using this
    obtain ⟨cells', h3, h4⟩ := fill_rel (I := I) (pl.toArray[·]?) _ qs z.cells segs (parts_of hs.frame _ _ hq hf) (by rw [← hz]; exact CRel.zero) hpl hp
    refine ⟨.agg cells', ?_, .agg (by have := h4.1; simpa using this) (fun i v c hv hc => h4.2 i v c (by simpa using hv) hc)⟩
    have h1' : (fs.mapM fun f => do pure (f.offset, ← sizeOf f.type) : Sem (Array (Nat × Nat))).run P w = .ok pl.toArray w := by
      rw [← Array.toArray_toList (xs := fs), List.mapM_toArray]
      rw [map_eq_pure_bind, Sem.run_bind, h1]
      rfl
    simp only [execOp, Instr.build, Sem.run_bind, hT.zero, Result.andThen_ok, run_underlying hu, h1', Array.toList_map]
    simp only [List.getElem?_toArray] at h3 ⊢
    rw [h3]
    rfl) hK
end
end Go.Ab

namespace Go.Ab
open Go

def Callable (P : Program) (f : FuncId) : Prop := ∃ fn, P.funcs[f]? = some fn ∧ (fn.name == "runtime.NumGoroutine") = false ∧ fn.body.isNone = false

def ACalls (P : Program) (f : FuncId) (as : List AV) (own : List HProp) (R : AV → List HProp → Prop) : Prop :=
  Callable P f ∧ ∀ (F : List HProp) (I : Im) (w : World) (vs : List Value), SepG I (own ++ F) w → Zip2 (Rel I) vs as →
    Calls P f vs.toArray w fun e w' => ∃ I' v a own', Im.le I I' ∧ SepG I' (own' ++ F) w' ∧ R a own' ∧ e = .returned v ∧ Rel I' v a

theorem ACalls.mono {P : Program} {f : FuncId} {as : List AV} {own : List HProp} {R R' : AV → List HProp → Prop} (h : ACalls P f as own R) (hr : ∀ a o, R a o → R' a o) : ACalls P f as own R' :=
  ⟨h.1, fun F I w vs hs hz => (h.2 F I w vs hs hz).mono fun _ _ ⟨I', v, _, _, h1, h2, h3, h4⟩ => ⟨I', v, _, _, h1, h2, hr _ _ h3, h4⟩⟩

/-- The chunks behind the call may be given up, or turned. -/
theorem ACalls.post {P : Program} {f : FuncId} {as : List AV} {own : List HProp} {R R' : AV → List HProp → Prop} (h : ACalls P f as own R) (hr : ∀ a o, R a o → ∃ a' o', R' a' o' ∧ (∀ I v, Rel I v a → Rel I v a') ∧ ∀ F, HSub (o ++ F) (o' ++ F)) : ACalls P f as own R' :=
  ⟨h.1, fun F I w vs hs hz => (h.2 F I w vs hs hz).mono fun _ _ ⟨I', v, _, _, h1, h2, h3, h4, h5⟩ =>
    let ⟨a', o', r1, r2, r3⟩ := hr _ _ h3
    ⟨I', v, a', o', h1, r3 F I' _ h2, r1, h4, r2 _ _ h5⟩⟩

def Sub (a b : AV) : Prop := ∀ I v, Rel I v a → Rel I v b
theorem Sub.rfl' (a : AV) : Sub a a := fun _ _ h => h
theorem Sub.sl {c : AV} {n : Nat} {xs : List AV} (h : AsSl c n xs) : Sub c (.sl n xs) := fun _ _ hr => h.rel hr
abbrev Subs := Zip2 Sub

def ogetl (fr : Fr) : List Operand → Option (List AV)
  | [] => some []
  | x :: t => match oget fr x, ogetl fr t with
    | some c, some l => some (c :: l)
    | _, _ => none
theorem ogetl_rel {I : Im} {n : Nat} {fr : Fr} {a : Act} (h : FrRel I n fr a.tmps) : ∀ {l : List Operand} {as : List AV}, ogetl fr l = some as → Zip2 (Rel I) (l.map a.eval) as
  | [], as, hq => by cases hq; exact .nil
  | x :: t, as, hq => by
    unfold ogetl at hq
    split at hq
    · rename_i c l hc hl
      cases hq
      exact .cons (h.oget hc) (ogetl_rel h hl)
    · cases hq
theorem zip_sub {I : Im} {vs : List Value} {as bs : List AV} (h : Zip2 (Rel I) vs as) (hs : Subs as bs) : Zip2 (Rel I) vs bs := by
  induction h generalizing bs with
  | nil => cases hs; exact .nil
  | cons h0 _ ih => cases hs with | cons s0 st => exact .cons (s0 _ _ h0) (ih st)

section
variable {P : Program} {J : JD} {n : Nat} {Φ : APost} {fr : Fr} {Hs : List HProp} {K : Fr → List HProp → Prop} {ty : TypeId} {ps : String} {af : Array Edge} {g : Option (Nat × Bool)} {d : Nat}

theorem call_run {f : FuncId} (hc : Callable P f) {args : Array Operand} {ats : Array TypeId} {od : Option Nat} (ρ : Operand → Value) (hρ : ρ (.func f) = .func (.func f) #[] #[]) (w : World) :
    (execOp ρ ⟨od, .call ⟨.value (.func f), args, ats⟩, ty, ps, af, g⟩).run P w = .ok (.enter f (args.map ρ)) w := by
  obtain ⟨fn, h1, h2, h3⟩ := hc
  have h2' : (fn.name = "runtime.NumGoroutine") = False := by simpa using h2
  have h3' : (fn.body = none) = False := by cases e : fn.body <;> simp_all
  simp [execOp, resolve, invoke, callFunc, Deferred.ofValue, hρ, h1, h2', h3']

theorem rCall {f : FuncId} {args : Array Operand} {ats : Array TypeId} {as as' : List AV} {own Hs0 : List HProp} {R : AV → List HProp → Prop} (hd : Nat.blt d n = true) (hc : ACalls P f as' own R)
    (ha : ogetl fr args.toList = some as) (hsub : Subs as as') (hH : Hs0 = own ++ Hs) (hK : ∀ a own', R a own' → K ((d, a) :: fr) (own' ++ Hs)) :
    AOp P J n ⟨some d, .call ⟨.value (.func f), args, ats⟩, ty, ps, af, g⟩ K Φ fr Hs0 := by
  subst hH
  intro F I a w hs next Q hn _
  unfold Oper.wp
  rw [call_run hc.1 a.eval rfl, Oper.upon_enter]
  have hz := zip_sub (ogetl_rel hs.frame ha) hsub
  have he : args.map a.eval = (args.toList.map a.eval).toArray := by rw [← List.map_toArray, Array.toArray_toList]
  rw [he]
  refine (hc.2 (Hs ++ F) I w _ (by have := hs.sep; rwa [List.append_assoc] at this) hz).mono ?_
  rintro e w' ⟨I', v, c, own', h1, h2, h3, rfl, h5⟩
  refine hn I' _ _ _ _ h1 ⟨v, rfl⟩ ⟨Im.le_trans hs.le h1, by rw [List.append_assoc]; exact h2, ?_, ?_⟩ (hK c own' h3)
  · exact (hs.frame.mono h1).set hd h5
  · simpa [Act.put] using hs.nod
theorem rCallN {f : FuncId} {args : Array Operand} {ats : Array TypeId} {as as' : List AV} {own Hs0 : List HProp} {R : AV → List HProp → Prop} (hc : ACalls P f as' own R)
    (ha : ogetl fr args.toList = some as) (hsub : Subs as as') (hH : Hs0 = own ++ Hs) (hK : ∀ a own', R a own' → K fr (own' ++ Hs)) :
    AOp P J n ⟨none, .call ⟨.value (.func f), args, ats⟩, ty, ps, af, g⟩ K Φ fr Hs0 := by
  subst hH
  intro F I a w hs next Q hn _
  unfold Oper.wp
  rw [call_run hc.1 a.eval rfl, Oper.upon_enter]
  have hz := zip_sub (ogetl_rel hs.frame ha) hsub
  have he : args.map a.eval = (args.toList.map a.eval).toArray := by rw [← List.map_toArray, Array.toArray_toList]
  rw [he]
  refine (hc.2 (Hs ++ F) I w _ (by have := hs.sep; rwa [List.append_assoc] at this) hz).mono ?_
  rintro e w' ⟨I', v, c, own', h1, h2, h3, rfl, h5⟩
  exact hn I' _ _ _ _ h1 ⟨v, rfl⟩ ⟨Im.le_trans hs.le h1, by rw [List.append_assoc]; exact h2, hs.frame.mono h1, hs.nod⟩ (hK c own' h3)

/-- A call of a closure whose function, first and captured values are told. -/
theorem rCallV {f : FuncId} {x : Operand} {first captured : Array Value} {args : Array Operand} {ats : Array TypeId} {as as' : List AV} {own Hs0 : List HProp} {R : AV → List HProp → Prop} (hd : Nat.blt d n = true)
    (hx : oget fr x = some (.val (.func (.func f) first captured))) (hc : ACalls P f as' own R)
    (ha : ogetl fr args.toList = some as) (hsub : Subs (first.toList.map .val ++ as ++ captured.toList.map .val) as') (hH : Hs0 = own ++ Hs) (hK : ∀ a own', R a own' → K ((d, a) :: fr) (own' ++ Hs)) :
    AOp P J n ⟨some d, .call ⟨.value x, args, ats⟩, ty, ps, af, g⟩ K Φ fr Hs0 := by
  subst hH
  intro F I a w hs next Q hn _
  unfold Oper.wp
  have hv := hs.frame.val hx
  have hrun : (execOp a.eval ⟨some d, .call ⟨.value x, args, ats⟩, ty, ps, af, g⟩).run P w = .ok (.enter f (first ++ args.map a.eval ++ captured)) w := by
    obtain ⟨fn, h1, h2, h3⟩ := hc.1
    have h2' : (fn.name = "runtime.NumGoroutine") = False := by simpa using h2
    have h3' : (fn.body = none) = False := by cases e : fn.body <;> simp_all
    simp [execOp, resolve, invoke, callFunc, Deferred.ofValue, hv, h1, h2', h3']
  rw [hrun, Oper.upon_enter]
  have hval : ∀ l : List Value, Zip2 (Rel I) l (l.map .val) := fun l => by
    induction l with
    | nil => exact .nil
    | cons v l ih => exact .cons (.val v) ih
  have hz := zip_sub (zip_append (zip_append (hval first.toList) (ogetl_rel hs.frame ha)) (hval captured.toList)) hsub
  have he : first ++ args.map a.eval ++ captured = (first.toList ++ args.toList.map a.eval ++ captured.toList).toArray := by simp
  rw [he]
  refine (hc.2 (Hs ++ F) I w _ (by have := hs.sep; rwa [List.append_assoc] at this) hz).mono ?_
  rintro e w' ⟨I', v, c, own', h1, h2, h3, rfl, h5⟩
  refine hn I' _ _ _ _ h1 ⟨v, rfl⟩ ⟨Im.le_trans hs.le h1, by rw [List.append_assoc]; exact h2, ?_, ?_⟩ (hK c own' h3)
  · exact (hs.frame.mono h1).set hd h5
  · simpa [Act.put] using hs.nod

theorem aops_gskip {ops : Array Oper} {rest : List Oper} {op : Op} {j t : Nat} {b : Bool} (ho : (ops[j]?).bind (·.dst) = some t) (hb : fget t fr = some (.val (.bool (!b)))) (hd : Nat.blt d n = true)
    (h : AOps P J n ops rest Φ ((d, .tup []) :: fr) Hs) : AOps P J n ops (⟨some d, op, ty, ps, af, some (j, b)⟩ :: rest) Φ fr Hs := by
  intro I a w hs
  have hv : a.tmps[t]? = some (.bool (!b)) := by
    obtain ⟨v, h1, h2⟩ := hs.frame.2 _ _ hb
    rw [h1, h2.val_eq]
  unfold wpList
  rw [if_neg]
  · refine h I _ w ⟨hs.le, hs.sep, ?_, by simpa [Act.put] using hs.nod⟩
    exact hs.frame.set hd (.tup (vs := #[]) (by simp) (by simp))
  · simp [Region.wanted, yielded, ho, hv]
theorem aops_gdo {ops : Array Oper} {rest : List Oper} {o : Oper} {j t : Nat} {b : Bool} (hg : o.guard = some (j, b)) (ho : (ops[j]?).bind (·.dst) = some t) (hb : fget t fr = some (.val (.bool b)))
    (h : AOp P J n o (AOps P J n ops rest Φ) Φ fr Hs) : AOps P J n ops (o :: rest) Φ fr Hs := by
  intro I a w hs
  have hv : a.tmps[t]? = some (.bool b) := by
    obtain ⟨v, h1, h2⟩ := hs.frame.2 _ _ hb
    rw [h1, h2.val_eq]
  unfold wpList
  rw [if_pos]
  · exact .inl (h [] I a w (by rw [List.append_nil]; exact hs) _ _ (fun I' _ _ a' w' _ _ hs' hk => hk I' a' w' (by rw [List.append_nil] at hs'; exact hs'))
      (fun e I' fr' Hs' a' w' hs' hp => ⟨I', fr', Hs', by rw [List.append_nil] at hs'; exact hs', hp⟩))
  · simp [Region.wanted, yielded, hg, ho, hv]
end

def fgets (fr : Fr) : List Nat → Option (List AV)
  | [] => some []
  | t :: ts => match fget t fr, fgets fr ts with
    | some c, some l => some (c :: l)
    | _, _ => none
def rget (fr : Fr) : List Nat → Option AV
  | [t] => fget t fr
  | ts => (fgets fr ts).map .tup

def aret (rs : List Nat) (R : AV → List HProp → Prop) (F : List HProp) : APost
  | .ret, fr, Hs | .normal, fr, Hs => ∃ a own', rget fr rs = some a ∧ R a own' ∧ HSub Hs (own' ++ F)
  | _, _, _ => False

def frOf : Nat → List AV → Fr
  | _, [] => []
  | i, a :: as => (i, a) :: frOf (i + 1) as
theorem frOf_get : ∀ (as : List AV) (k i : Nat) (a : AV), fget i (frOf k as) = some a → k ≤ i ∧ as[i - k]? = some a
  | [], k, i, a, h => by cases h
  | b :: as, k, i, a, h => by
    unfold frOf fget at h
    by_cases e : Nat.beq i k = true
    · rw [e] at h; simp only [cond_true] at h
      have := Nat.eq_of_beq_eq_true e; subst this
      exact ⟨Nat.le_refl _, by simpa using h⟩
    · rw [Bool.not_eq_true] at e; rw [e] at h; simp only [cond_false] at h
      obtain ⟨h1, h2⟩ := frOf_get as (k + 1) i a h
      exact ⟨by omega, by rw [show i - k = (i - (k + 1)) + 1 from by omega]; simpa using h2⟩

theorem fgets_run {I : Im} {n : Nat} {fr : Fr} {tmps : Array Value} (h : FrRel I n fr tmps) : ∀ (ts : List Nat) (as : List AV), fgets fr ts = some as → Zip2 (Rel I) (ts.map fun t => tmps.getD t undef) as
  | [], as, hq => by cases hq; exact .nil
  | t :: ts, as, hq => by
    unfold fgets at hq
    split at hq
    · rename_i c l hc hl
      cases hq
      exact .cons (h.get hc) (fgets_run h ts l hl)
    · cases hq

theorem results_run {P : Program} {fn : Func} {rs : List Nat} (hr : fn.results = (rs.map ResultVar.tmp).toArray) {I : Im} {n : Nat} {fr : Fr} {tmps : Array Value} (h : FrRel I n fr tmps) {a : AV} (ha : rget fr rs = some a) (w : World) :
    ∃ v, (results fn tmps).run P w = .ok v w ∧ Rel I v a := by
  have hm : ∀ (l : List Nat), (l.mapM fun t => (pure (tmps.getD t undef) : Sem Value)).run P w = .ok (l.map fun t => tmps.getD t undef) w := by
    intro l
    induction l with
    | nil => rfl
    | cons t l ih =>
      simp only [List.map_cons, List.mapM_cons, Sem.run_bind, Sem.run_pure, Result.andThen_ok]
      rw [ih]
      rfl
  have hvs : (results fn tmps).run P w = .ok (if h : ((rs.map fun t => tmps.getD t undef).toArray).size = 1 then ((rs.map fun t => tmps.getD t undef).toArray)[0] else .tuple (rs.map fun t => tmps.getD t undef).toArray) w := by
    unfold results
    rw [hr, List.mapM_toArray, List.mapM_map]
    simp only [Function.comp_def]
    rw [Sem.run_bind, map_eq_pure_bind, Sem.run_bind, hm]
    rfl
  refine ⟨_, hvs, ?_⟩
  match rs, ha with
  | [], ha => cases ha; exact .tup (by simp) (by simp)
  | [t], ha => simpa using h.get ha
  | t :: u :: ts, ha =>
    have ha' : (fgets fr (t :: u :: ts)).map AV.tup = some a := ha
    cases e : fgets fr (t :: u :: ts) with
    | none => rw [e] at ha'; cases ha'
    | some as =>
      rw [e] at ha'; cases ha'
      have hz := fgets_run h _ _ e
      rw [dif_neg (by simp)]
      have key : ∀ {l : List Value} {as : List AV}, Zip2 (Rel I) l as → l.length = as.length ∧ ∀ (i : Nat) (v : Value) (c : AV), l[i]? = some v → as[i]? = some c → Rel I v c := by
        intro l as hz
        induction hz with
        | nil => exact ⟨rfl, fun i v c h => by simp at h⟩
        | cons h _ ih => exact ⟨by simp [ih.1], fun i v c hv hc => by
            cases i with
            | zero => simp at hv hc; subst hv; subst hc; exact h
            | succ i => exact ih.2 i v c (by simpa using hv) (by simpa using hc)⟩
      obtain ⟨k1, k2⟩ := key hz
      exact .tup (by simpa using k1) (fun i v c hv hc => k2 i v c (by simpa using hv) hc)

/-- A function's contract, out of its body. -/
theorem acalls_intro {P : Program} {f : FuncId} {fn : Func} {c : Code} {as : List AV} {own : List HProp} {R : AV → List HProp → Prop} (rs : List Nat) (n : Nat) (hf : P.funcs[f]? = some fn) (hb : fn.body = some c) (hn : (fn.name == "runtime.NumGoroutine") = false)
    (hr : fn.results = (rs.map ResultVar.tmp).toArray) (hnt : fn.ntmps = n) (hl' : Nat.ble as.length n = true) (h : ∀ J F, AWP P J n c (aret rs R F) (frOf 0 as) (own ++ F)) : ACalls P f as own R := by
  have hl : as.length ≤ n := Nat.le_of_ble_eq_true hl'
  refine ⟨⟨fn, hf, hn, by rw [hb]; rfl⟩, fun F I w vs hs hz => ?_⟩
  refine calls_of_wp hf hb ?_
  have hlen : vs.length = as.length := hz.length
  refine wp_mono (h ⟨I, []⟩ F I _ w ⟨Im.le_refl I, hs, ⟨?_, fun i a hi => ?_⟩, rfl⟩) ?_
  · simp [hnt]; omega
  · obtain ⟨_, h2⟩ := frOf_get as 0 i a hi
    rw [Nat.sub_zero] at h2
    have hi' := lt_of_get h2
    have key : ∀ {l : List Value} {as : List AV}, Zip2 (Rel I) l as → ∀ (i : Nat) (c : AV), as[i]? = some c → ∃ v, l[i]? = some v ∧ Rel I v c := by
      intro l as hz
      induction hz with
      | nil => intro i c h; simp at h
      | cons h _ ih =>
        intro i c hc
        cases i with
        | zero => simp at hc; subst hc; exact ⟨_, rfl, h⟩
        | succ i => simpa using ih i c (by simpa using hc)
    obtain ⟨v, hv, hrel⟩ := key hz i a h2
    refine ⟨v, ?_, hrel⟩
    simp only
    rw [Array.getElem?_append_left (by simp; omega)]
    simpa using hv
  · rintro e a w' ⟨I', fr', Hs', hs', hp⟩
    have fin : (∃ a own', rget fr' rs = some a ∧ R a own' ∧ HSub Hs' (own' ++ F)) → a.defers = [] ∧ ∃ v, (results fn a.tmps).run P w' = .ok v w' ∧ ∃ I'' v' c own', Im.le I I'' ∧ SepG I'' (own' ++ F) w' ∧ R c own' ∧ Ending.returned v = .returned v' ∧ Rel I'' v' c := by
      rintro ⟨c, own', h1, h2, h3⟩
      obtain ⟨v, h4, h5⟩ := results_run hr hs'.frame h1 (P := P) w'
      exact ⟨hs'.nod, v, h4, I', v, c, own', hs'.le, h3 _ _ hs'.sep, h2, rfl, h5⟩
    cases e with
    | normal => exact fin hp
    | ret => exact fin hp
    | _ => exact hp.elim

end Go.Ab

namespace Go.Ab
open Go

section
variable {P : Program} {J : JD} {n : Nat} {Φ : APost} {fr : Fr} {Hs : List HProp} {K : Fr → List HProp → Prop} {ty : TypeId} {ps : String} {af : Array Edge} {g : Option (Nat × Bool)} {d : Nat}

theorem chunks {α : Type} (m : Nat) : ∀ (k : Nat) (l : List α), l.length = k * m → ∃ segs : List (List α), segs.length = k ∧ (∀ s ∈ segs, s.length = m) ∧ segs.flatten = l
  | 0, l, h => ⟨[], rfl, by simp, by simp at h; simp [h]⟩
  | k + 1, l, h => by
    obtain ⟨segs, h1, h2, h3⟩ := chunks m k (l.drop m) (by rw [List.length_drop, h, Nat.add_mul]; omega)
    refine ⟨l.take m :: segs, by simp [h1], fun s hs => ?_, by simp [h3]⟩
    rcases List.mem_cons.1 hs with rfl | hs
    · rw [List.length_take, h, Nat.add_mul]; omega
    · exact h2 s hs

theorem offs_const {m : Nat} : ∀ {segs : List (List AV)}, (∀ s ∈ segs, s.length = m) → ∀ i, i ≤ segs.length → offs segs i = i * m
  | [], _, i, h => by simp at h; subst h; simp [offs]
  | s :: segs, hs, 0, _ => by simp [offs]
  | s :: segs, hs, i + 1, h => by
    have := offs_const (segs := segs) (fun x hx => hs x (List.mem_cons_of_mem _ hx)) i (by simpa using h)
    have h0 := hs s (List.mem_cons_self)
    have ho : offs (s :: segs) (i + 1) = s.length + offs segs i := by simp [offs]
    rw [ho, this, h0, Nat.add_mul]; omega

/-- A slice literal. -/
theorem rBuildSlice {t e : TypeId} {len m by_ : Nat} {z : Value} {parts : Array (Nat × Operand)} {qs : List (Nat × AV)} {xs : List AV} (ht : P.underlying t = some (.slice e)) (hT : TI P e m by_ z) (_hz : z.cells.size = m) (hm : 0 < m)
    (hsmall : len * m ≤ 16777216) (hd : Nat.blt d n = true) (hq : ogets fr parts.toList = some qs) (hf : allFit qs = true) (hl : xs.length = len) (hn : ∀ x ∈ xs, OkEl m x)
    (hp : ∀ segs : List (List AV), segs.length = len → (∀ s ∈ segs, s.length = m) → PartsOk segs qs ∧ (bset qs segs).flatten = flat xs)
    (hK : ∀ o, K ((d, .own m o xs) :: fr) (rowO m e o len :: Hs)) :
    AOp P J n ⟨some d, .buildSlice t len parts, ty, ps, af, g⟩ K Φ fr Hs :=
  aop_of hd (fun o => .own m o xs) (fun o => rowO m e o len :: Hs) (fun _ I a w hs => by
    obtain ⟨cs0, hcs0⟩ : ∃ cs0 : Array Value, cs0 = (Array.range (len * m)).map (fun x => z.cells[x % z.cells.size]!) := ⟨_, rfl⟩
    have hsz0 : cs0.size = len * m := by rw [hcs0]; simp
    obtain ⟨segs, h1, h2, h3⟩ := chunks m len (cs0.toList.map AV.val) (by simp [hsz0])
    obtain ⟨hp1, hp2⟩ := hp segs h1 h2
    have hcrel : CRel I cs0.toList segs.flatten := by
      rw [h3]
      exact ⟨by simp, fun i v c hv hc => by rw [List.getElem?_map, hv] at hc; cases hc; exact .val v⟩
    obtain ⟨cells', h4, h5⟩ := fill_rel (I := I) (fun i => some (i * m, m)) _ qs cs0 segs (parts_of hs.frame _ _ hq hf) hcrel (fun i old ho => by
      have hi := lt_of_get ho
      rw [offs_const h2 i (by omega), h2 old (List.mem_of_getElem? ho)]) hp1
    rw [hp2] at h5
    have hall : (flat xs).all AV.one = true := by
      rw [List.all_eq_true]
      intro c hcc
      obtain ⟨x, hx, hcx⟩ := List.mem_flatMap.1 hcc
      exact List.all_eq_true.1 (hn x hx).2 c hcx
    have hsz : cells'.size = len * m := by
      have := h5.1
      rw [flat_length fun x hx => (hn x hx).1, hl] at this
      simpa using this
    obtain ⟨I', h6, h7, h8⟩ := hs.sep.newRow { w with heap := w.heap.push (.cells cells' e) } cells' e rfl (m := m) (cap := len) xs hn cells'.toList (zip_cells _ _ h5.1 h5.2 hall) hsz (by omega)
      (by have := Nat.le_mul_of_pos_right len hm; simp only [maxLen]; omega) (fun j v hv => by simpa using hv)
    rw [hl] at h7 h8
    refine ⟨some (w.heap.size, len), I', .slice (some ⟨w.heap.size, 0, none⟩) len len, _, h6, ?_, h7, h8⟩
    have hn24 : ¬ len * m > 2 ^ 24 := by omega
    by_cases h0 : len * m = 0
    · have hcs : (Array.range (len * m)).map (fun x => (#[] : Array Value)[x % (#[] : Array Value).size]!) = cs0 := by rw [hcs0, h0]; simp
      simp only [execOp, Instr.buildSlice, Sem.run_bind, run_underlying ht, Result.andThen_ok, hT.size, hn24, if_false]
      rw [if_pos h0]
      simp only [Sem.run_bind, Sem.run_pure, Result.andThen_ok, hcs, Array.toList_map, h4]
      simp [newRow]
    · simp only [execOp, Instr.buildSlice, Sem.run_bind, run_underlying ht, Result.andThen_ok, hT.size, hn24, if_false]
      rw [if_neg h0]
      simp only [Sem.run_bind, hT.zero, Sem.run_pure, Result.andThen_ok, ← hcs0, Array.toList_map, h4]
      simp [newRow]) hK

theorem rBuildSlice1 {t e : TypeId} {m by_ : Nat} {z : Value} {x : Operand} {c : AV} (ht : P.underlying t = some (.slice e)) (hT : TI P e m by_ z) (hz : z.cells.size = m) (hm : 0 < m) (hs : m ≤ 16777216) (hd : Nat.blt d n = true)
    (hx : oget fr x = some c) (hf : c.fit = true) (ho : OkEl m c) (hK : ∀ o, K ((d, .own m o [c]) :: fr) (rowO m e o 1 :: Hs)) :
    AOp P J n ⟨some d, .buildSlice t 1 #[(0, x)], ty, ps, af, g⟩ K Φ fr Hs :=
  rBuildSlice ht hT hz hm (by omega) hd (qs := [(0, c)]) (xs := [c]) (by simp [ogets, hx]) (by simp [allFit, hf]) rfl (by simpa using ho) (fun segs hl hm' => by
    match segs, hl with
    | [s], _ => exact ⟨⟨by simp [hm' s (by simp), ho.1], trivial⟩, by simp [bset, flat]⟩) hK
theorem rBuildSlice0 {t e : TypeId} {m by_ : Nat} {z : Value} (ht : P.underlying t = some (.slice e)) (hT : TI P e m by_ z) (hz : z.cells.size = m) (hm : 0 < m) (hd : Nat.blt d n = true)
    (hK : ∀ o, K ((d, .own m o []) :: fr) (rowO m e o 0 :: Hs)) :
    AOp P J n ⟨some d, .buildSlice t 0 #[], ty, ps, af, g⟩ K Φ fr Hs :=
  rBuildSlice ht hT hz hm (by omega) hd (qs := []) (xs := []) (by simp [ogets]) rfl rfl (by simp) (fun segs hl _ => by
    match segs, hl with
    | [], _ => exact ⟨trivial, rfl⟩) hK

/-- A slice of an owned array: seen through its cells. -/
theorem rSliceArr {t e : TypeId} {x : Operand} {b off len m by_ : Nat} {z : Value} (ht : P.underlying t = some (.array len e)) (hT : TI P e m by_ z) (hd : Nat.blt d n = true) (hx : oget fr x = some (ptr b off)) (_hlen : 0 < len)
    (hK : K ((d, .val (.slice (some ⟨b, off, none⟩) len len)) :: fr) Hs) :
    AOp P J n ⟨some d, .slice t x none none none, ty, ps, af, g⟩ K Φ fr Hs :=
  aop_val hd (fun _ I a w hs => ⟨_, by
    simp [execOp, hs.frame.val hx, Instr.sliceAt, run_underlying ht, Instr.sureAddr, Instr.sliceBounds, hT.size, addr_add], .val _⟩) hK

end
end Go.Ab

namespace Go.Ab
open Go

abbrev Lk := List (Nat × Option Nat)

/-- A region that draws its order, shown in one order: floats (at once; pure ones), acts (with the floats that are looked at again), new blocks. -/
inductive It where
  | fl (i : Nat) (lk : Lk)
  | fp (i : Nat) (lk : Lk)
  | ac (i : Nat) (lk : Lk) (re : List (Nat × Lk))
  | al (i : Nat)

def It.ix : It → Nat
  | .fl i _ | .fp i _ | .ac i _ _ | .al i => i
def It.isAl : It → Bool
  | .al _ => true
  | _ => false

def dstOf (L : List Oper) (i : Nat) : Option Nat := (L[i]?).bind (·.dst)
def inB (Bs : List Nat) (i k : Nat) : Bool := (Bs.getD i 0).testBit k

def mkFr (base vals : Fr) : Lk → Fr
  | [] => []
  | (t, some k) :: r => match fget k vals with
    | some a => (t, a) :: mkFr base vals r
    | none => mkFr base vals r
  | (t, none) :: r => match fget t base with
    | some a => (t, a) :: mkFr base vals r
    | none => mkFr base vals r

def resK (o : Oper) (fr : Fr) (Q : AV → List HProp → Prop) : Fr → List HProp → Prop := fun fr' Hs' =>
  ∃ v, fr' = (match o.dst with | some d => (d, v) :: fr | none => fr) ∧ Q v Hs'

def GOp (P : Program) (J : JD) (n : Nat) (L : List Oper) (o : Oper) (K : Fr → List HProp → Prop) (Φ : APost) (fr : Fr) (Hs : List HProp) : Prop :=
  match o.guard with
  | none => AOp P J n o K Φ fr Hs
  | some (j, b) => ∃ t, dstOf L j = some t ∧ ((fget t fr = some (.val (.bool b)) ∧ AOp P J n o K Φ fr Hs) ∨
      (fget t fr = some (.val (.bool (!b))) ∧ ∃ d, o.dst = some d ∧ Nat.blt d n = true ∧ K ((d, .tup []) :: fr) Hs))

def AFalse : APost := fun _ _ _ => False

section
variable (P : Program) (J : JD) (n : Nat) (Φ : APost) (L : List Oper) (base : Fr) (keep : Lk) (K : Fr → List HProp → Prop) (avs : Nat → Nat → AV) (ahs : Nat → Nat → HProp) (Bs : List Nat)

def Fev (i : Nat) (fr : Fr) (v : AV) (Hs : List HProp) : Prop := ∃ o, L[i]? = some o ∧ GOp P J n L o (resK o fr fun v' Hs' => v' = v ∧ Hs'.Perm Hs) AFalse fr Hs

def Rech (vals : Fr) (Hs : List HProp) : List (Nat × Lk) → Prop
  | [] => True
  | (k, lk) :: r => (∃ v, fget k vals = some v ∧ Fev P J n L k (mkFr base vals lk) v Hs) ∧ Rech vals Hs r

def DP : List It → Fr → List HProp → Prop
  | [], vals, Hs => K (mkFr base vals keep) Hs
  | .fl i lk :: r, vals, Hs => ∃ v, Fev P J n L i (mkFr base vals lk) v Hs ∧ DP r ((i, v) :: vals) Hs
  | .fp i lk :: r, vals, Hs => ∃ v, (∀ Hs', Fev P J n L i (mkFr base vals lk) v Hs') ∧ DP r ((i, v) :: vals) Hs
  | .ac i lk re :: r, vals, Hs => ∃ o, L[i]? = some o ∧ GOp P J n L o (resK o (mkFr base vals lk) fun v Hs' => Rech P J n L base ((i, v) :: vals) Hs' re ∧ DP r ((i, v) :: vals) Hs') Φ (mkFr base vals lk) Hs
  | .al i :: r, vals, Hs => ∀ b, DP r ((i, avs i b) :: vals) (ahs i b :: Hs)

def lkOk (i : Nat) (lk : Lk) : Bool := lk.all fun x => match x.2 with
  | some k => inB Bs i k && dstOf L k == some x.1
  | none => (List.range L.length).all fun k => dstOf L k != some x.1 || k == i || inB Bs k i

def itemsOk : List It → List Nat → List Nat → Bool
  | [], _, _ => true
  | .fl i lk :: r, prev, pf => prev.all (inB Bs i) && lkOk L Bs i lk && itemsOk r prev (i :: pf)
  | .fp i lk :: r, prev, pf => prev.all (inB Bs i) && lkOk L Bs i lk && itemsOk r prev pf
  | .ac i lk re :: r, prev, pf => prev.all (inB Bs i) && lkOk L Bs i lk && pf.all (fun f => inB Bs i f || re.any fun x => x.1 == f) && re.all (fun x => lkOk L Bs x.1 x.2) && itemsOk r (i :: prev) pf
  | .al i :: r, prev, pf => itemsOk r (i :: prev) pf

def keepOk : Bool := keep.all fun x => match x.2 with
  | some k => dstOf L k == some x.1
  | none => (List.range L.length).all fun k => dstOf L k != some x.1

def edgesOk : Bool := (List.range L.length).all fun i => match L[i]? with
  | some o => o.after.toList.all (fun e => !Region.binds .any e || e.on < i) &&
      (List.range L.length).all (fun k => !inB Bs i k || o.after.toList.any fun e => Region.binds .any e && (e.on == k || inB Bs e.on k))
  | none => false

def dstsOk : Bool := (List.range L.length).all fun i => (List.range L.length).all fun k => i == k || dstOf L i == none || dstOf L i != dstOf L k

def nodupB : List Nat → Bool
  | [] => true
  | x :: r => !r.contains x && nodupB r

def okD (items : List It) : Bool := edgesOk L Bs && dstsOk L && nodupB (items.map It.ix) && (List.range L.length).all (fun i => (items.map It.ix).contains i) && itemsOk L Bs items [] [] && keepOk L keep && items.all (fun x => x.ix < L.length)

/-- An operation that just makes a block. -/
def ALk (i : Nat) : Prop := ∃ o d, L[i]? = some o ∧ o.dst = some d ∧ o.guard = none ∧ ∀ (K : Fr → List HProp → Prop) (fr : Fr) (Hs : List HProp), (∀ b, K ((d, avs i b) :: fr) (ahs i b :: Hs)) → AOp P J n o K Φ fr Hs

end

theorem nodupB_iff : ∀ {l : List Nat}, nodupB l = true → l.Nodup
  | [], _ => List.nodup_nil
  | x :: r, h => by
    simp only [nodupB, Bool.and_eq_true, Bool.not_eq_true'] at h
    rw [List.nodup_cons]
    exact ⟨by have := h.1; simpa using this, nodupB_iff h.2⟩

/-- An entry of a frame comes from a part that ran, or from the frame at the beginning. -/
def FrSrc (L : List Oper) (Bs : List Nat) (base : Fr) (i : Nat) (vals fr : Fr) : Prop := ∀ t a, fget t fr = some a →
  (∃ k, inB Bs i k = true ∧ dstOf L k = some t ∧ fget k vals = some a) ∨ (fget t base = some a ∧ ∀ k, dstOf L k = some t → k = i ∨ inB Bs k i = true)

theorem dstOf_lt {L : List Oper} {k t : Nat} (h : dstOf L k = some t) : k < L.length := by
  unfold dstOf at h
  cases e : L[k]? with
  | none => rw [e] at h; cases h
  | some o => exact lt_of_get e

theorem fget_cons {i j : Nat} {a : AV} {t : Fr} : fget i ((j, a) :: t) = if i = j then some a else fget i t := by
  show (bif Nat.beq i j then some a else fget i t) = _
  by_cases e : i = j
  · subst e; simp [Nat.beq_refl]
  · have : Nat.beq i j = false := by
      cases h : Nat.beq i j with
      | false => rfl
      | true => exact absurd (Nat.eq_of_beq_eq_true h) e
    simp [this, e]

theorem mkFr_src {L : List Oper} {Bs : List Nat} {base vals : Fr} {i : Nat} : ∀ {lk : Lk}, lkOk L Bs i lk = true → FrSrc L Bs base i vals (mkFr base vals lk)
  | [], _, t, a, h => by cases h
  | (u, some k) :: r, hok, t, a, h => by
    simp only [lkOk, List.all_cons, Bool.and_eq_true] at hok
    have ih := mkFr_src (base := base) (vals := vals) (lk := r) (L := L) (Bs := Bs) (i := i) (by simpa [lkOk] using hok.2)
    unfold mkFr at h
    cases e : fget k vals with
    | none => rw [e] at h; exact ih t a h
    | some b =>
      rw [e] at h
      simp only [fget_cons] at h
      split at h
      · rename_i hu; subst hu; cases h
        exact .inl ⟨k, hok.1.1, by simpa using hok.1.2, e⟩
      · exact ih t a h
  | (u, none) :: r, hok, t, a, h => by
    simp only [lkOk, List.all_cons, Bool.and_eq_true] at hok
    have ih := mkFr_src (base := base) (vals := vals) (lk := r) (L := L) (Bs := Bs) (i := i) (by simpa [lkOk] using hok.2)
    unfold mkFr at h
    cases e : fget u base with
    | none => rw [e] at h; exact ih t a h
    | some b =>
      rw [e] at h
      simp only [fget_cons] at h
      split at h
      · rename_i hu; subst hu; cases h
        refine .inr ⟨e, fun k hk => ?_⟩
        have := List.all_eq_true.1 hok.1 k (List.mem_range.2 (dstOf_lt hk))
        simp only [hk, bne_self_eq_false, Bool.false_or, Bool.or_eq_true, beq_iff_eq] at this
        exact this
      · exact ih t a h

/-- The frame at the end. -/
def FrSrc2 (L : List Oper) (base vals fr : Fr) : Prop := ∀ t a, fget t fr = some a → (∃ k, dstOf L k = some t ∧ fget k vals = some a) ∨ (fget t base = some a ∧ ∀ k, dstOf L k ≠ some t)
theorem mkFr_src2 {L : List Oper} {base vals : Fr} : ∀ {lk : Lk}, keepOk L lk = true → FrSrc2 L base vals (mkFr base vals lk)
  | [], _, t, a, h => by cases h
  | (u, some k) :: r, hok, t, a, h => by
    simp only [keepOk, List.all_cons, Bool.and_eq_true] at hok
    have ih := mkFr_src2 (base := base) (vals := vals) (lk := r) (L := L) (by simpa [keepOk] using hok.2)
    unfold mkFr at h
    cases e : fget k vals with
    | none => rw [e] at h; exact ih t a h
    | some b =>
      rw [e] at h
      simp only [fget_cons] at h
      split at h
      · rename_i hu; subst hu; cases h
        exact .inl ⟨k, by simpa using hok.1, e⟩
      · exact ih t a h
  | (u, none) :: r, hok, t, a, h => by
    simp only [keepOk, List.all_cons, Bool.and_eq_true] at hok
    have ih := mkFr_src2 (base := base) (vals := vals) (lk := r) (L := L) (by simpa [keepOk] using hok.2)
    unfold mkFr at h
    cases e : fget u base with
    | none => rw [e] at h; exact ih t a h
    | some b =>
      rw [e] at h
      simp only [fget_cons] at h
      split at h
      · rename_i hu; subst hu; cases h
        refine .inr ⟨e, fun k hk => ?_⟩
        have := List.all_eq_true.1 hok.1 k (List.mem_range.2 (dstOf_lt hk))
        simp [hk] at this
      · exact ih t a h

theorem FrSrc.mono {L : List Oper} {Bs : List Nat} {base vals fr : Fr} {i k : Nat} {v : AV} (h : FrSrc L Bs base i vals fr) (hk : fget k vals = none) : FrSrc L Bs base i ((k, v) :: vals) fr := fun t a ht => by
  rcases h t a ht with ⟨k', h1, h2, h3⟩ | h
  · refine .inl ⟨k', h1, h2, ?_⟩
    rw [fget_cons, if_neg (fun e => by subst e; rw [hk] at h3; cases h3)]; exact h3
  · exact .inr h

section
variable {P : Program} {J : JD} {n : Nat} {Φ : APost} {L : List Oper} {base : Fr} {keep : Lk} {K : Fr → List HProp → Prop} {avs : Nat → Nat → AV} {ahs : Nat → Nat → HProp} {Bs : List Nat}

def Ex (listed : Array Bool) (i : Nat) : Prop := listed.getD i false = true

structure Inv (P : Program) (J : JD) (n : Nat) (Φ : APost) (L : List Oper) (base : Fr) (keep : Lk) (K : Fr → List HProp → Prop) (avs : Nat → Nat → AV) (ahs : Nat → Nat → HProp) (Bs : List Nat)
    (r : List It) (vals : Fr) (Hs : List HProp) (listed : Array Bool) (EA : List (Nat × Nat)) (prev pf : List Nat) (I : Im) (a : Act) (w : World) : Prop where
  le : Im.le J.im I
  sep : SepG I (Hs ++ EA.map fun p => ahs p.1 p.2) w
  nod : a.defers = J.ds
  size : a.tmps.size = n
  f1 : ∀ k v d, Ex listed k → fget k vals = some v → dstOf L k = some d → ∃ u, a.tmps[d]? = some u ∧ Rel I u v
  fa : ∀ p ∈ EA, Ex listed p.1 ∧ It.al p.1 ∈ r ∧ ∃ d u, dstOf L p.1 = some d ∧ a.tmps[d]? = some u ∧ Rel I u (avs p.1 p.2)
  f2 : ∀ t c, fget t base = some c → (∀ k, Ex listed k → dstOf L k ≠ some t) → ∃ u, a.tmps[t]? = some u ∧ Rel I u c
  d : DP P J n Φ L base keep K avs ahs r vals Hs
  c : itemsOk L Bs r prev pf = true
  pas : ∀ i, i < L.length → (∃ x ∈ r, x.ix = i) ∨ (fget i vals).isSome = true
  nov : ∀ x ∈ r, fget x.ix vals = none
  rnd : (r.map It.ix).Nodup
  act : ∀ x ∈ r, x.isAl = false → ¬ Ex listed x.ix
  pact : ∀ i ∈ prev, Ex listed i
  ale : ∀ i, It.al i ∈ r → Ex listed i → ∃ b, (i, b) ∈ EA
  del : ∀ i v, fget i vals = some v → ¬ Ex listed i → ∃ fr, FrSrc L Bs base i vals fr ∧ Fev P J n L i fr v Hs ∧ (i ∈ pf ∨ ∀ Hs', Fev P J n L i fr v Hs')
  cl : ∀ i k, Ex listed i → inB Bs i k = true → Ex listed k
  exl : ∀ i, Ex listed i → i < L.length
  ixl : ∀ x ∈ r, x.ix < L.length

/-- Nothing more can be shown ahead of a run. -/
def Stop (listed : Array Bool) : List It → Prop
  | [] => True
  | .ac _ _ _ :: _ => True
  | .al i :: _ => ¬ Ex listed i
  | _ => False

theorem Fev.cons {i : Nat} {fr : Fr} {v : AV} {Hs : List HProp} (k : HProp) (h : Fev P J n L i fr v Hs) : Fev P J n L i fr v (k :: Hs) := by
  obtain ⟨o, ho, hg⟩ := h
  refine ⟨o, ho, ?_⟩
  have fram : AOp P J n o (resK o fr fun v' Hs' => v' = v ∧ Hs'.Perm Hs) AFalse fr Hs → AOp P J n o (resK o fr fun v' Hs' => v' = v ∧ Hs'.Perm (k :: Hs)) AFalse fr (k :: Hs) := by
    intro hA F I a w hs next Q hn _
    have hp : (k :: Hs ++ F).Perm (Hs ++ (k :: F)) := (List.perm_middle).symm
    refine hA (k :: F) I a w ⟨hs.le, HSub.perm hp I w hs.sep, hs.frame, hs.nod⟩ next Q (fun I' fr' Hs' a' w' hle hput hs' hk => ?_) (fun e I' fr' Hs' a' w' hs' he => he.elim)
    obtain ⟨v', e1, e2, e3⟩ := hk
    have hp' : (Hs' ++ (k :: F)).Perm (k :: Hs' ++ F) := List.perm_middle
    exact hn I' fr' (k :: Hs') a' w' hle hput ⟨hs'.le, HSub.perm hp' I' w' hs'.sep, hs'.frame, hs'.nod⟩ ⟨v', e1, e2, e3.cons k⟩
  unfold GOp at hg ⊢
  split
  · rename_i e; rw [e] at hg; exact fram hg
  · rename_i j b e
    rw [e] at hg
    obtain ⟨t, h1, h2⟩ := hg
    refine ⟨t, h1, h2.imp (fun h => ⟨h.1, fram h.2⟩) (fun h => ⟨h.1, ?_⟩)⟩
    obtain ⟨d, h3, h4, v', h5, h6, _⟩ := h.2
    exact ⟨d, h3, h4, v', h5, h6, List.Perm.refl _⟩

theorem settle : ∀ (r : List It) {vals : Fr} {Hs : List HProp} {listed : Array Bool} {EA : List (Nat × Nat)} {prev pf : List Nat} {I : Im} {a : Act} {w : World},
    Inv P J n Φ L base keep K avs ahs Bs r vals Hs listed EA prev pf I a w → ∃ r' vals' Hs' EA' prev' pf', Inv P J n Φ L base keep K avs ahs Bs r' vals' Hs' listed EA' prev' pf' I a w ∧ Stop listed r' ∧ ∀ x ∈ r', x ∈ r
  | [], vals, Hs, listed, EA, prev, pf, I, a, w, h => ⟨[], vals, Hs, EA, prev, pf, h, trivial, fun _ h => h⟩
  | .ac i lk re :: r, vals, Hs, listed, EA, prev, pf, I, a, w, h => ⟨_, vals, Hs, EA, prev, pf, h, trivial, fun _ h => h⟩
  | .fl i lk :: r, vals, Hs, listed, EA, prev, pf, I, a, w, h => by
    obtain ⟨v, hv, hd⟩ := h.d
    have hc := h.c
    simp only [itemsOk, Bool.and_eq_true] at hc
    have hnew : fget i vals = none := h.nov (.fl i lk) (List.mem_cons_self)
    have hrn := h.rnd
    rw [List.map_cons, List.nodup_cons] at hrn
    have hnE : ¬ Ex listed i := h.act (.fl i lk) (List.mem_cons_self) rfl
    refine (fun ⟨r', v', H', E', p', f', h1, h2, h3⟩ => ⟨r', v', H', E', p', f', h1, h2, fun x hx => List.mem_cons_of_mem _ (h3 x hx)⟩) (settle r (vals := (i, v) :: vals) (Hs := Hs) (EA := EA) (prev := prev) (pf := i :: pf) ⟨h.le, h.sep, h.nod, h.size, fun k u d hk hu hd' => ?_, fun p hp => ?_, h.f2, hd, hc.2, fun j hj => ?_, fun x hx => ?_, hrn.2, fun x hx => h.act x (List.mem_cons_of_mem _ hx), h.pact, fun j hj => h.ale j (List.mem_cons_of_mem _ hj), fun j u hu hj => ?_, h.cl, h.exl, fun x hx => h.ixl x (List.mem_cons_of_mem _ hx)⟩)
    · rw [fget_cons] at hu
      split at hu
      · rename_i e; subst e; exact absurd hk hnE
      · exact h.f1 k u d hk hu hd'
    · obtain ⟨h1, h2, h3⟩ := h.fa p hp
      exact ⟨h1, (List.mem_cons.1 h2).resolve_left (by simp), h3⟩
    · rcases h.pas j hj with ⟨x, hx, rfl⟩ | h'
      · rcases List.mem_cons.1 hx with rfl | hx
        · exact .inr (by show (fget i _).isSome = true; rw [fget_cons, if_pos rfl]; rfl)
        · exact .inl ⟨x, hx, rfl⟩
      · refine .inr ?_
        rw [fget_cons]; split
        · rfl
        · exact h'
    · rw [fget_cons, if_neg (show ¬ x.ix = i from fun e => hrn.1 (List.mem_map.2 ⟨x, hx, e⟩))]
      exact h.nov x (List.mem_cons_of_mem _ hx)
    · rw [fget_cons] at hu
      split at hu
      · rename_i e; subst e; cases hu
        exact ⟨_, (mkFr_src hc.1.2).mono hnew, hv, .inl (List.mem_cons_self)⟩
      · obtain ⟨fr, h1, h2, h3⟩ := h.del j u hu hj
        exact ⟨fr, h1.mono hnew, h2, h3.imp (List.mem_cons_of_mem _) id⟩
  | .fp i lk :: r, vals, Hs, listed, EA, prev, pf, I, a, w, h => by
    obtain ⟨v, hv, hd⟩ := h.d
    have hc := h.c
    simp only [itemsOk, Bool.and_eq_true] at hc
    have hnew : fget i vals = none := h.nov (.fp i lk) (List.mem_cons_self)
    have hrn := h.rnd
    rw [List.map_cons, List.nodup_cons] at hrn
    have hnE : ¬ Ex listed i := h.act (.fp i lk) (List.mem_cons_self) rfl
    refine (fun ⟨r', v', H', E', p', f', h1, h2, h3⟩ => ⟨r', v', H', E', p', f', h1, h2, fun x hx => List.mem_cons_of_mem _ (h3 x hx)⟩) (settle r (vals := (i, v) :: vals) (Hs := Hs) (EA := EA) (prev := prev) (pf := pf) ⟨h.le, h.sep, h.nod, h.size, fun k u d hk hu hd' => ?_, fun p hp => ?_, h.f2, hd, hc.2, fun j hj => ?_, fun x hx => ?_, hrn.2, fun x hx => h.act x (List.mem_cons_of_mem _ hx), h.pact, fun j hj => h.ale j (List.mem_cons_of_mem _ hj), fun j u hu hj => ?_, h.cl, h.exl, fun x hx => h.ixl x (List.mem_cons_of_mem _ hx)⟩)
    · rw [fget_cons] at hu
      split at hu
      · rename_i e; subst e; exact absurd hk hnE
      · exact h.f1 k u d hk hu hd'
    · obtain ⟨h1, h2, h3⟩ := h.fa p hp
      exact ⟨h1, (List.mem_cons.1 h2).resolve_left (by simp), h3⟩
    · rcases h.pas j hj with ⟨x, hx, rfl⟩ | h'
      · rcases List.mem_cons.1 hx with rfl | hx
        · exact .inr (by show (fget i _).isSome = true; rw [fget_cons, if_pos rfl]; rfl)
        · exact .inl ⟨x, hx, rfl⟩
      · refine .inr ?_
        rw [fget_cons]; split
        · rfl
        · exact h'
    · rw [fget_cons, if_neg (show ¬ x.ix = i from fun e => hrn.1 (List.mem_map.2 ⟨x, hx, e⟩))]
      exact h.nov x (List.mem_cons_of_mem _ hx)
    · rw [fget_cons] at hu
      split at hu
      · rename_i e; subst e; cases hu
        exact ⟨_, (mkFr_src hc.1.2).mono hnew, hv Hs, .inr hv⟩
      · obtain ⟨fr, h1, h2, h3⟩ := h.del j u hu hj
        exact ⟨fr, h1.mono hnew, h2, h3⟩
  | .al i :: r, vals, Hs, listed, EA, prev, pf, I, a, w, h => by
    by_cases hE : Ex listed i
    · obtain ⟨b, hb⟩ := h.ale i (List.mem_cons_self) hE
      obtain ⟨x, y, rfl⟩ := List.append_of_mem hb
      have hnew : fget i vals = none := h.nov (.al i) (List.mem_cons_self)
      have hrn := h.rnd
      rw [List.map_cons, List.nodup_cons] at hrn
      obtain ⟨_, _, d, u, hd1, hd2, hd3⟩ := h.fa (i, b) (by simp)
      refine (fun ⟨r', v', H', E', p', f', h1, h2, h3⟩ => ⟨r', v', H', E', p', f', h1, h2, fun x hx => List.mem_cons_of_mem _ (h3 x hx)⟩) (settle r (vals := (i, avs i b) :: vals) (Hs := ahs i b :: Hs) (EA := (x ++ y).filter fun p => p.1 != i) (prev := i :: prev) (pf := pf) ⟨h.le, ?_, h.nod, h.size, fun k u' d' hk hu hd' => ?_, fun p hp => ?_, h.f2, h.d b, h.c, fun j hj => ?_, fun z hz => ?_, hrn.2, fun z hz => h.act z (List.mem_cons_of_mem _ hz), fun j hj => ?_, fun j hj hj' => ?_, fun j u' hu hj => ?_, h.cl, h.exl, fun x hx => h.ixl x (List.mem_cons_of_mem _ hx)⟩)
      · have h1 : (Hs ++ (x ++ (i, b) :: y).map fun p => ahs p.1 p.2).Perm (ahs i b :: (Hs ++ (x ++ y).map fun p => ahs p.1 p.2)) := by
          simp only [List.map_append, List.map_cons]
          rw [← List.append_assoc, ← List.append_assoc]
          exact List.perm_middle
        have h2 := HSub.perm h1 I w h.sep
        obtain ⟨l, hl, hg⟩ := h2
        have sub : ∀ {a b : List HProp} {l : Heaplet}, List.Sublist b a → Seps a l → ∃ l', List.Sublist l' l ∧ Seps b l' := by
          intro a b l hs
          induction hs generalizing l with
          | slnil => intro h; exact ⟨_, List.Sublist.refl _, h⟩
          | cons q _ ih => intro h; cases h with | cons h1 h2 => obtain ⟨l', hl', hs'⟩ := ih h2; exact ⟨l', hl'.trans (List.sublist_append_right _ _), hs'⟩
          | cons_cons q _ ih => intro h; cases h with | cons h1 h2 => obtain ⟨l', hl', hs'⟩ := ih h2; exact ⟨_, List.Sublist.append_left hl' _, .cons h1 hs'⟩
        obtain ⟨l', h3, h4⟩ := sub (b := (ahs i b :: Hs) ++ ((x ++ y).filter fun p => p.1 != i).map fun p => ahs p.1 p.2) (by
          rw [List.cons_append]
          exact List.Sublist.cons_cons _ (List.Sublist.append_left ((List.filter_sublist).map _) _)) hl
        exact ⟨l', h4, hg.sub h3⟩
      · rw [fget_cons] at hu
        split at hu
        · rename_i e; subst e; cases hu
          rw [hd1] at hd'; cases hd'
          exact ⟨u, hd2, hd3⟩
        · exact h.f1 k u' d' hk hu hd'
      · rw [List.mem_filter] at hp
        obtain ⟨h1, h2, h3⟩ := h.fa p (by have := hp.1; simp at this ⊢; rcases this with h | h <;> simp [h])
        refine ⟨h1, (List.mem_cons.1 h2).resolve_left (fun e => ?_), h3⟩
        cases e
        simp at hp
      · rcases h.pas j hj with ⟨z, hz, rfl⟩ | h'
        · rcases List.mem_cons.1 hz with rfl | hz
          · exact .inr (by show (fget i _).isSome = true; rw [fget_cons, if_pos rfl]; rfl)
          · exact .inl ⟨z, hz, rfl⟩
        · refine .inr ?_
          rw [fget_cons]; split
          · rfl
          · exact h'
      · rw [fget_cons, if_neg (show ¬ z.ix = i from fun e => hrn.1 (List.mem_map.2 ⟨z, hz, e⟩))]
        exact h.nov z (List.mem_cons_of_mem _ hz)
      · rcases List.mem_cons.1 hj with rfl | hj
        · exact hE
        · exact h.pact j hj
      · obtain ⟨b', hb'⟩ := h.ale j (List.mem_cons_of_mem _ hj) hj'
        have hne : j ≠ i := fun e => hrn.1 (List.mem_map.2 ⟨.al j, hj, e⟩)
        refine ⟨b', List.mem_filter.2 ⟨?_, by simpa using hne⟩⟩
        simp only [List.mem_append, List.mem_cons] at hb' ⊢
        rcases hb' with h' | h' | h'
        · exact .inl h'
        · exact absurd (congrArg Prod.fst h') hne
        · exact .inr h'
      · rw [fget_cons] at hu
        split at hu
        · rename_i e; subst e; exact absurd hE hj
        · obtain ⟨fr, h1, h2, h3⟩ := h.del j u' hu hj
          exact ⟨fr, h1.mono hnew, h2.cons _, h3⟩
    · exact ⟨_, vals, Hs, EA, prev, pf, h, hE, fun _ h => h⟩

theorem ex_set {listed : Array Bool} {j : Nat} (hj : j < listed.size) (i : Nat) : Ex (listed.setIfInBounds j true) i ↔ Ex listed i ∨ i = j := by
  unfold Ex
  by_cases e : j = i
  · subst e; simp [hj]
  · rw [getD_set_ne false e]
    constructor
    · exact .inl
    · rintro (h | h)
      · exact h
      · exact absurd h.symm e

theorem put_get {a : Act} {od : Option Nat} {v : Value} {t : Nat} (h : od ≠ some t) : (a.put od v).tmps[t]? = a.tmps[t]? := by
  cases od with
  | none => rfl
  | some d =>
    show (a.tmps.setIfInBounds d v)[t]? = _
    rw [Array.getElem?_setIfInBounds_ne (fun e => h (by rw [e]))]
theorem put_defers {a : Act} {od : Option Nat} {v : Value} : (a.put od v).defers = a.defers := by cases od <;> rfl
theorem put_size {a : Act} {od : Option Nat} {v : Value} : (a.put od v).tmps.size = a.tmps.size := by cases od <;> simp [Act.put]

theorem gop_wpOp {o : Oper} {j : Nat} (ho : L[j]? = some o) {Kk : Fr → List HProp → Prop} {Ψ : APost} {fr : Fr} {Hs F : List HProp} {I : Im} {a : Act} {w : World} (hg : GOp P J n L o Kk Ψ fr Hs) (hs : AState J I n fr (Hs ++ F) a w)
    {Q : Exit → Act → World → Prop} {next : Act → World → Prop}
    (hn : ∀ I' fr' Hs' v w', Im.le I I' → AState J I' n fr' (Hs' ++ F) (a.put o.dst v) w' → Kk fr' Hs' → next (a.put o.dst v) w')
    (hq : ∀ e I' fr' Hs' a' w', AState J I' n fr' (Hs' ++ F) a' w' → Ψ e fr' Hs' → Q e a' w') : wpOp P L.toArray Q j next a w := by
  unfold wpOp
  have ho' : L.toArray[j]? = some o := by simpa using ho
  rw [ho']
  simp only
  have run : AOp P J n o Kk Ψ fr Hs → o.wp P a w next Q := fun hA => hA F I a w hs next Q (fun I' fr' Hs' a' w' hle hput hs' hk => by
    obtain ⟨v, rfl⟩ := hput
    exact hn I' fr' Hs' v w' hle hs' hk) hq
  unfold GOp at hg
  split at hg
  · rename_i e
    rw [if_pos (by simp [Region.wanted, e])]
    exact .inl (run hg)
  · rename_i jg b e
    obtain ⟨t, h1, h2⟩ := hg
    have hy : ∀ c, fget t fr = some (.val (.bool c)) → yielded L.toArray a.tmps jg = some c := fun c hc => by
      obtain ⟨v, hv, hr⟩ := hs.frame.2 _ _ hc
      rw [hr.val_eq] at hv
      unfold dstOf at h1
      unfold yielded
      rw [List.getElem?_toArray, h1]
      simp [hv]
    rcases h2 with ⟨hc, hA⟩ | ⟨hc, d, hd, hlt, hk⟩
    · rw [if_pos (by simp [Region.wanted, e, hy _ hc])]
      exact .inl (run hA)
    · rw [if_neg (by simp [Region.wanted, e, hy _ hc])]
      refine hn I _ Hs undef w (Im.le_refl I) ⟨hs.le, hs.sep, ?_, by rw [put_defers]; exact hs.nod⟩ hk
      rw [hd]
      exact hs.frame.set hlt (.tup (vs := #[]) (by simp) (by simp))

theorem frsrc_rel {r : List It} {vals fr : Fr} {Hs : List HProp} {listed : Array Bool} {EA : List (Nat × Nat)} {prev pf : List Nat} {I : Im} {a : Act} {w : World} (h : Inv P J n Φ L base keep K avs ahs Bs r vals Hs listed EA prev pf I a w)
    {j : Nat} (hsrc : FrSrc L Bs base j vals fr) (hj : ¬ Ex listed j) (hcl : ∀ k, inB Bs j k = true → Ex listed k) : FrRel I n fr a.tmps := by
  refine ⟨h.size, fun t c ht => ?_⟩
  rcases hsrc t c ht with ⟨k, h1, h2, h3⟩ | ⟨h1, h2⟩
  · exact h.f1 k c t (hcl k h1) h3 h2
  · refine h.f2 t c h1 fun k hk hd => ?_
    rcases h2 k hd with rfl | h2
    · exact hj hk
    · exact hj (h.cl k j hk h2)

theorem nodup_ix : ∀ {r : List It}, (r.map It.ix).Nodup → ∀ {x y : It}, x ∈ r → y ∈ r → x.ix = y.ix → x = y
  | [], _, _, _, hx, _, _ => by cases hx
  | z :: r, h, x, y, hx, hy, e => by
    rw [List.map_cons, List.nodup_cons] at h
    rcases List.mem_cons.1 hx with hx1 | hx <;> rcases List.mem_cons.1 hy with hy1 | hy
    · rw [hx1, hy1]
    · exact (h.1 (List.mem_map.2 ⟨y, hy, by rw [← hx1]; exact e.symm⟩)).elim
    · exact (h.1 (List.mem_map.2 ⟨x, hx, by rw [← hy1]; exact e⟩)).elim
    · exact nodup_ix h.2 hx hy e

theorem rech_get {vals : Fr} {Hs : List HProp} : ∀ {re : List (Nat × Lk)}, Rech P J n L base vals Hs re → ∀ x ∈ re, ∃ v, fget x.1 vals = some v ∧ Fev P J n L x.1 (mkFr base vals x.2) v Hs
  | (k, lk) :: re, h, x, hx => by
    rcases List.mem_cons.1 hx with rfl | hx
    · exact h.1
    · exact rech_get h.2 x hx

/-- What stands ahead of a part in the list ran ahead of it. -/
theorem ahead_in : ∀ (r : List It) (prev pf : List Nat), itemsOk L Bs r prev pf = true → ∀ (x : It) (r' : List It), r = x :: r' → ∀ y ∈ r', y.isAl = false → (x.isAl = true ∨ ∃ i lk re, x = .ac i lk re) → inB Bs y.ix x.ix = true := by
  have key : ∀ (r : List It) (prev pf : List Nat), itemsOk L Bs r prev pf = true → ∀ i ∈ prev, ∀ y ∈ r, y.isAl = false → inB Bs y.ix i = true := by
    intro r
    induction r with
    | nil => intro _ _ _ _ _ y hy; cases hy
    | cons z r ih =>
      intro prev pf hc i hi y hy hal
      cases z with
      | fl k lk =>
        simp only [itemsOk, Bool.and_eq_true] at hc
        rcases List.mem_cons.1 hy with rfl | hy
        · exact List.all_eq_true.1 hc.1.1 i hi
        · exact ih _ _ hc.2 i hi y hy hal
      | fp k lk =>
        simp only [itemsOk, Bool.and_eq_true] at hc
        rcases List.mem_cons.1 hy with rfl | hy
        · exact List.all_eq_true.1 hc.1.1 i hi
        · exact ih _ _ hc.2 i hi y hy hal
      | ac k lk re =>
        simp only [itemsOk, Bool.and_eq_true] at hc
        rcases List.mem_cons.1 hy with rfl | hy
        · exact List.all_eq_true.1 hc.1.1.1.1 i hi
        · exact ih _ _ hc.2 i (List.mem_cons_of_mem _ hi) y hy hal
      | al k =>
        rcases List.mem_cons.1 hy with rfl | hy
        · cases hal
        · exact ih _ _ hc i (List.mem_cons_of_mem _ hi) y hy hal
  rintro r prev pf hc x r' rfl y hy hal hx
  rcases hx with hx | ⟨i, lk, re, rfl⟩
  · cases x <;> simp [It.isAl] at hx
    exact key r' _ pf hc _ (List.mem_cons_self) y hy hal
  · simp only [itemsOk, Bool.and_eq_true] at hc
    exact key r' _ pf hc.2 i (List.mem_cons_self) y hy hal

def un (N : Nat) (listed : Array Bool) : Nat := ((List.range N).filter fun i => !listed.getD i false).length
theorem filter_lt {α : Type} (p q : α → Bool) : ∀ (l : List α) (x : α), x ∈ l → (∀ y, q y = true → p y = true) → p x = true → q x = false → (l.filter q).length < (l.filter p).length
  | y :: l, x, hx, hpq, hp, hq => by
    have hle : ∀ (l : List α), (l.filter q).length ≤ (l.filter p).length := by
      intro l
      induction l with
      | nil => simp
      | cons z l ih =>
        rw [List.filter_cons, List.filter_cons]
        cases e1 : q z <;> cases e2 : p z <;> simp
        · exact ih
        · omega
        · rw [hpq z e1] at e2; cases e2
        · omega
    rw [List.filter_cons, List.filter_cons]
    rcases List.mem_cons.1 hx with rfl | hx
    · rw [hp, hq]; simp; have := hle l; omega
    · have ih := filter_lt p q l x hx hpq hp hq
      cases e1 : q y <;> cases e2 : p y <;> simp
      · exact ih
      · omega
      · rw [hpq y e1] at e2; cases e2
      · omega
theorem un_set {N : Nat} {listed : Array Bool} {j : Nat} (hj : j < N) (hs : j < listed.size) (h : ¬ Ex listed j) : un N (listed.setIfInBounds j true) < un N listed := by
  refine filter_lt _ _ _ j (List.mem_range.2 hj) (fun y hy => ?_) (by simpa [Ex] using h) (by simp [hs])
  simp only [Bool.not_eq_true'] at hy ⊢
  by_cases e : j = y
  · subst e; simpa [Ex] using h
  · rwa [getD_set_ne false e] at hy


theorem edges_cl (hed : edgesOk L Bs = true) {listed : Array Bool} {j : Nat} (hj : j < L.length) (hcl : ∀ i k, Ex listed i → inB Bs i k = true → Ex listed k) {o : Oper} (ho : L[j]? = some o)
    (hr : ∀ e ∈ o.after, Region.binds .any e = true → listed.getD e.on false = true) : ∀ k, k < L.length → inB Bs j k = true → Ex listed k := by
  intro k hk hb
  have h := List.all_eq_true.1 hed j (List.mem_range.2 hj)
  rw [ho] at h
  simp only [Bool.and_eq_true] at h
  have h2 := List.all_eq_true.1 h.2 k (List.mem_range.2 hk)
  simp only [hb, Bool.not_true, Bool.false_or] at h2
  obtain ⟨e, he, h3⟩ := List.any_eq_true.1 h2
  simp only [Bool.and_eq_true, Bool.or_eq_true, beq_iff_eq] at h3
  have h4 := hr e (by simpa using he) h3.1
  rcases h3.2 with rfl | h5
  · exact h4
  · exact hcl _ _ h4 h5

theorem dsts_ne (hds : dstsOk L = true) {i k d : Nat} (hi : dstOf L i = some d) (hk : dstOf L k = some d) : i = k := by
  have h := List.all_eq_true.1 (List.all_eq_true.1 hds i (List.mem_range.2 (dstOf_lt hi))) k (List.mem_range.2 (dstOf_lt hk))
  simp only [hi, hk, Bool.or_eq_true, beq_iff_eq, bne_self_eq_false, Bool.false_eq_true, or_false, reduceCtorEq] at h
  exact h



theorem HSub.dropr (x : List HProp) : ∀ (y : List HProp), HSub (x ++ y) x
  | [] => by rw [List.append_nil]; exact HSub.refl x
  | h :: y => fun I w hh => by
    have h1 : (x ++ h :: y).Perm (h :: (x ++ y)) := List.perm_middle
    exact HSub.dropr x y I w (HSub.drop _ _ I w (HSub.perm h1 I w hh))

theorem draw_done (hkp : keepOk L keep = true) (hKn : ∀ fr Hs, K fr Hs → Φ .normal fr Hs) {listed : Array Bool} {a : Act} {w : World} (hall : ∀ i, i < L.length → Ex listed i)
    {r : List It} {vals : Fr} {Hs : List HProp} {EA : List (Nat × Nat)} {prev pf : List Nat} {I : Im} (hI : Inv P J n Φ L base keep K avs ahs Bs r vals Hs listed EA prev pf I a w) : lift J n Φ .normal a w := by
  obtain ⟨r', vals', Hs', EA', prev', pf', hI', hst, _⟩ := settle r hI
  cases r' with
  | nil =>
    refine ⟨I, mkFr base vals' keep, Hs', ⟨hI'.le, HSub.dropr _ _ I w hI'.sep, ⟨hI'.size, fun t c ht => ?_⟩, hI'.nod⟩, hKn _ _ hI'.d⟩
    rcases mkFr_src2 (base := base) (vals := vals') hkp t c ht with ⟨k, h1, h2⟩ | ⟨h1, h2⟩
    · exact hI'.f1 k c t (hall k (dstOf_lt h1)) h2 h1
    · exact hI'.f2 t c h1 fun k _ => h2 k
  | cons x r' =>
    have hx := hall x.ix (hI'.ixl x (List.mem_cons_self))
    cases x with
    | fl i lk => exact hst.elim
    | fp i lk => exact hst.elim
    | ac i lk re => exact (hI'.act _ (List.mem_cons_self) rfl hx).elim
    | al i => exact (hst hx).elim


section step
variable {r : List It} {vals : Fr} {Hs : List HProp} {listed : Array Bool} {EA : List (Nat × Nat)} {prev pf : List Nat} {I : Im} {a : Act} {w : World}

theorem frame_after {I' : Im} (hle : Im.le I I') {j : Nat} {o : Oper} (ho : L[j]? = some o) {v : Value} {t : Nat} (hne : dstOf L j ≠ some t) {c : AV} (h : ∃ u, a.tmps[t]? = some u ∧ Rel I u c) : ∃ u, (a.put o.dst v).tmps[t]? = some u ∧ Rel I' u c := by
  obtain ⟨u, h1, h2⟩ := h
  exact ⟨u, by rw [put_get (by unfold dstOf at hne; rw [ho] at hne; exact hne)]; exact h1, h2.mono hle⟩

theorem frame_at {I' : Im} {fr fr' : Fr} {Hs' : List HProp} {o : Oper} {Q : AV → List HProp → Prop} {a' : Act} (hf : FrRel I' n fr' a'.tmps) (hr : resK o fr Q fr' Hs') : ∃ c, Q c Hs' ∧ ∀ d, o.dst = some d → ∃ u, a'.tmps[d]? = some u ∧ Rel I' u c := by
  obtain ⟨c, h1, h2⟩ := hr
  refine ⟨c, h2, fun d hd => ?_⟩
  rw [hd] at h1
  subst h1
  exact hf.2 d c (by rw [fget_cons, if_pos rfl])

theorem step_float (hds : dstsOk L = true) (hsz : listed.size = L.length) (h : Inv P J n Φ L base keep K avs ahs Bs r vals Hs listed EA prev pf I a w) {j : Nat} {o : Oper} (ho : L[j]? = some o) (hj : ¬ Ex listed j)
    (hcl : ∀ k, inB Bs j k = true → Ex listed k) {c : AV} (hc : fget j vals = some c) {I' : Im} {fr fr' : Fr} {Hs' : List HProp} {v : Value} {w' : World} (hle : Im.le I I')
    (hs' : AState J I' n fr' (Hs' ++ EA.map fun p => ahs p.1 p.2) (a.put o.dst v) w') (hk : resK o fr (fun v' Hs' => v' = c ∧ Hs'.Perm Hs) fr' Hs') :
    Inv P J n Φ L base keep K avs ahs Bs r vals Hs (listed.setIfInBounds j true) EA prev pf I' (a.put o.dst v) w' := by
  have hjl : j < L.length := lt_of_get ho
  have hex := ex_set (listed := listed) (j := j) (by omega)
  obtain ⟨c', ⟨rfl, hp⟩, hat⟩ := frame_at hs'.frame hk
  have hdj : dstOf L j = o.dst := by unfold dstOf; rw [ho]; rfl
  refine ⟨hs'.le, HSub.perm (hp.append_right _) I' w' hs'.sep, hs'.nod, hs'.frame.1, fun k u d hk hu hd => ?_, fun p hp => ?_, fun t c ht hno => ?_, h.d, h.c, h.pas, h.nov, h.rnd, fun x hx hxa hxe => ?_, fun i hi => (hex i).2 (.inl (h.pact i hi)),
    fun i hi hie => ?_, fun i u hu hi => h.del i u hu (fun e => hi ((hex i).2 (.inl e))), fun i k hi hb => ?_, fun i hi => ?_, h.ixl⟩
  · by_cases e : k = j
    · subst e
      rw [hc] at hu; cases hu
      exact hat d (by rw [← hdj]; exact hd)
    · exact frame_after hle ho (fun e' => e (dsts_ne hds hd e')) (h.f1 k u d (((hex k).1 hk).resolve_right e) hu hd)
  · obtain ⟨h1, h2, d, u, h3, h4, h5⟩ := h.fa p hp
    have hne : p.1 ≠ j := fun e => hj (e ▸ h1)
    obtain ⟨u', h6, h7⟩ := frame_after (v := v) hle ho (fun e' => hne (dsts_ne hds h3 e')) ⟨u, h4, h5⟩
    exact ⟨(hex _).2 (.inl h1), h2, d, u', h3, h6, h7⟩
  · exact frame_after hle ho (hno j ((hex j).2 (.inr rfl))) (h.f2 t c ht fun k hk => hno k ((hex k).2 (.inl hk)))
  · rcases (hex _).1 hxe with h1 | h1
    · exact h.act x hx hxa h1
    · have := h.nov x hx; rw [h1, hc] at this; cases this
  · rcases (hex _).1 hie with h1 | h1
    · exact h.ale i hi h1
    · have := h.nov _ hi
      rw [show (It.al i).ix = j from h1, hc] at this; cases this
  · rcases (hex i).1 hi with h1 | rfl
    · exact (hex k).2 (.inl (h.cl i k h1 hb))
    · exact (hex k).2 (.inl (hcl k hb))
  · rcases (hex i).1 hi with h1 | rfl
    · exact h.exl i h1
    · exact hjl

theorem step_alloc (hds : dstsOk L = true) (hsz : listed.size = L.length) (h : Inv P J n Φ L base keep K avs ahs Bs r vals Hs listed EA prev pf I a w) {j : Nat} {o : Oper} (ho : L[j]? = some o) (hj : ¬ Ex listed j)
    (hcl : ∀ k, inB Bs j k = true → Ex listed k) (hal : It.al j ∈ r) {b d : Nat} (hd : o.dst = some d) {I' : Im} {fr : Fr} {v : Value} {w' : World} (hle : Im.le I I')
    (hs' : AState J I' n ((d, avs j b) :: fr) ((ahs j b :: Hs) ++ EA.map fun p => ahs p.1 p.2) (a.put o.dst v) w') :
    Inv P J n Φ L base keep K avs ahs Bs r vals Hs (listed.setIfInBounds j true) ((j, b) :: EA) prev pf I' (a.put o.dst v) w' := by
  have hjl : j < L.length := lt_of_get ho
  have hex := ex_set (listed := listed) (j := j) (by omega)
  have hdj : dstOf L j = some d := by unfold dstOf; rw [ho]; exact hd
  have hnv : fget j vals = none := h.nov _ hal
  obtain ⟨u0, hu0, hr0⟩ := hs'.frame.2 d _ (by rw [fget_cons, if_pos rfl])
  refine ⟨hs'.le, ?_, hs'.nod, hs'.frame.1, fun k u d' hk hu hd' => ?_, fun p hp => ?_, fun t c ht hno => ?_, h.d, h.c, h.pas, h.nov, h.rnd, fun x hx hxa hxe => ?_, fun i hi => (hex i).2 (.inl (h.pact i hi)),
    fun i hi hie => ?_, fun i u hu hi => h.del i u hu (fun e => hi ((hex i).2 (.inl e))), fun i k hi hb => ?_, fun i hi => ?_, h.ixl⟩
  · have hp : ((ahs j b :: Hs) ++ EA.map fun p => ahs p.1 p.2).Perm (Hs ++ ((j, b) :: EA).map fun p => ahs p.1 p.2) := (List.perm_middle).symm
    exact HSub.perm hp I' w' hs'.sep
  · by_cases e : k = j
    · subst e; rw [hnv] at hu; cases hu
    · exact frame_after hle ho (fun e' => e (dsts_ne hds hd' e')) (h.f1 k u d' (((hex k).1 hk).resolve_right e) hu hd')
  · rcases List.mem_cons.1 hp with rfl | hp
    · exact ⟨(hex _).2 (.inr rfl), hal, d, u0, hdj, hu0, hr0⟩
    · obtain ⟨h1, h2, d', u, h3, h4, h5⟩ := h.fa p hp
      have hne : p.1 ≠ j := fun e => hj (e ▸ h1)
      obtain ⟨u', h6, h7⟩ := frame_after (v := v) hle ho (fun e' => hne (dsts_ne hds h3 e')) ⟨u, h4, h5⟩
      exact ⟨(hex _).2 (.inl h1), h2, d', u', h3, h6, h7⟩
  · exact frame_after hle ho (hno j ((hex j).2 (.inr rfl))) (h.f2 t c ht fun k hk => hno k ((hex k).2 (.inl hk)))
  · rcases (hex _).1 hxe with h1 | h1
    · exact h.act x hx hxa h1
    · have := nodup_ix h.rnd hx hal h1
      rw [this] at hxa; cases hxa
  · rcases (hex _).1 hie with h1 | rfl
    · obtain ⟨b', hb'⟩ := h.ale i hi h1
      exact ⟨b', List.mem_cons_of_mem _ hb'⟩
    · exact ⟨b, List.mem_cons_self⟩
  · rcases (hex i).1 hi with h1 | rfl
    · exact (hex k).2 (.inl (h.cl i k h1 hb))
    · exact (hex k).2 (.inl (hcl k hb))
  · rcases (hex i).1 hi with h1 | rfl
    · exact h.exl i h1
    · exact hjl

theorem step_act (hds : dstsOk L = true) (hsz : listed.size = L.length) {j : Nat} {lk : Lk} {re : List (Nat × Lk)} (h : Inv P J n Φ L base keep K avs ahs Bs (.ac j lk re :: r) vals Hs listed EA prev pf I a w) {o : Oper} (ho : L[j]? = some o) (hj : ¬ Ex listed j)
    (hcl : ∀ k, inB Bs j k = true → Ex listed k) {I' : Im} {fr fr' : Fr} {Hs' : List HProp} {v : Value} {w' : World} (hle : Im.le I I')
    (hs' : AState J I' n fr' (Hs' ++ EA.map fun p => ahs p.1 p.2) (a.put o.dst v) w')
    (hk : resK o fr (fun c Hs' => Rech P J n L base ((j, c) :: vals) Hs' re ∧ DP P J n Φ L base keep K avs ahs r ((j, c) :: vals) Hs') fr' Hs') :
    ∃ c, Inv P J n Φ L base keep K avs ahs Bs r ((j, c) :: vals) Hs' (listed.setIfInBounds j true) EA (j :: prev) pf I' (a.put o.dst v) w' := by
  have hjl : j < L.length := lt_of_get ho
  have hex := ex_set (listed := listed) (j := j) (by omega)
  have hdj : dstOf L j = o.dst := by unfold dstOf; rw [ho]; rfl
  obtain ⟨c, ⟨hre, hdp⟩, hat⟩ := frame_at hs'.frame hk
  have hnv : fget j vals = none := h.nov _ (List.mem_cons_self)
  have hcc := h.c
  simp only [itemsOk, Bool.and_eq_true] at hcc
  have hrn := h.rnd
  rw [List.map_cons, List.nodup_cons] at hrn
  refine ⟨c, hs'.le, hs'.sep, hs'.nod, hs'.frame.1, fun k u d hk hu hd => ?_, fun p hp => ?_, fun t c ht hno => ?_, hdp, hcc.2, fun i hi => ?_, fun x hx => ?_, hrn.2, fun x hx hxa hxe => ?_, fun i hi => ?_,
    fun i hi hie => ?_, fun i u hu hi => ?_, fun i k hi hb => ?_, fun i hi => ?_, fun x hx => h.ixl x (List.mem_cons_of_mem _ hx)⟩
  · rw [fget_cons] at hu
    by_cases e : k = j
    · subst e
      rw [if_pos rfl] at hu; cases hu
      exact hat d (by rw [← hdj]; exact hd)
    · rw [if_neg e] at hu
      exact frame_after hle ho (fun e' => e (dsts_ne hds hd e')) (h.f1 k u d (((hex k).1 hk).resolve_right e) hu hd)
  · obtain ⟨h1, h2, d, u, h3, h4, h5⟩ := h.fa p hp
    have hne : p.1 ≠ j := fun e => hj (e ▸ h1)
    obtain ⟨u', h6, h7⟩ := frame_after (v := v) hle ho (fun e' => hne (dsts_ne hds h3 e')) ⟨u, h4, h5⟩
    exact ⟨(hex _).2 (.inl h1), (List.mem_cons.1 h2).resolve_left (by simp), d, u', h3, h6, h7⟩
  · exact frame_after hle ho (hno j ((hex j).2 (.inr rfl))) (h.f2 t c ht fun k hk => hno k ((hex k).2 (.inl hk)))
  · rcases h.pas i hi with ⟨x, hx, rfl⟩ | h'
    · rcases List.mem_cons.1 hx with rfl | hx
      · exact .inr (by show (fget j _).isSome = true; rw [fget_cons, if_pos rfl]; rfl)
      · exact .inl ⟨x, hx, rfl⟩
    · refine .inr ?_
      rw [fget_cons]; split
      · rfl
      · exact h'
  · rw [fget_cons, if_neg (show ¬ x.ix = j from fun e => hrn.1 (List.mem_map.2 ⟨x, hx, e⟩))]
    exact h.nov x (List.mem_cons_of_mem _ hx)
  · rcases (hex _).1 hxe with h1 | h1
    · exact h.act x (List.mem_cons_of_mem _ hx) hxa h1
    · exact hrn.1 (List.mem_map.2 ⟨x, hx, h1⟩)
  · rcases List.mem_cons.1 hi with rfl | hi
    · exact (hex _).2 (.inr rfl)
    · exact (hex i).2 (.inl (h.pact i hi))
  · rcases (hex _).1 hie with h1 | h1
    · exact h.ale i (List.mem_cons_of_mem _ hi) h1
    · exact (hrn.1 (List.mem_map.2 ⟨_, hi, h1⟩)).elim
  · have hij : i ≠ j := fun e => hi ((hex i).2 (.inr e))
    have hu' : fget i vals = some u := by rw [fget_cons, if_neg hij] at hu; exact hu
    obtain ⟨fr, h1, h2, h3⟩ := h.del i u hu' (fun e => hi ((hex i).2 (.inl e)))
    rcases h3 with h3 | h3
    · have h4 := List.all_eq_true.1 hcc.1.1.2 i h3
      rw [Bool.or_eq_true] at h4
      rcases h4 with h4 | h4
      · exact (hi ((hex i).2 (.inl (hcl i h4)))).elim
      · obtain ⟨x, hx, hxi⟩ := List.any_eq_true.1 h4
        have hxi' : x.1 = i := by simpa using hxi
        obtain ⟨v', h5, h6⟩ := rech_get hre x hx
        subst hxi'
        rw [hu] at h5; cases h5
        exact ⟨_, mkFr_src (List.all_eq_true.1 hcc.1.2 x hx), h6, .inl h3⟩
    · exact ⟨fr, h1.mono hnv, h3 _, .inr h3⟩
  · rcases (hex i).1 hi with h1 | rfl
    · exact (hex k).2 (.inl (h.cl i k h1 hb))
    · exact (hex k).2 (.inl (hcl k hb))
  · rcases (hex i).1 hi with h1 | rfl
    · exact h.exl i h1
    · exact hjl
end step

theorem draw_any (hm : ∀ i k, inB Bs i k = true → k < L.length) (hed : edgesOk L Bs = true) (hds : dstsOk L = true) (hkp : keepOk L keep = true)
    (hKn : ∀ fr Hs, K fr Hs → Φ .normal fr Hs) : ∀ (fuel : Nat) (listed : Array Bool) (a : Act) (w : World), un L.length listed ≤ fuel → listed.size = L.length →
    (∃ r vals Hs EA prev pf I, Inv P J n Φ L base keep K avs ahs Bs r vals Hs listed EA prev pf I a w ∧ ∀ i, It.al i ∈ r → ALk P J n Φ L avs ahs i) → wpAny P .any L.toArray (lift J n Φ) fuel listed a w := by
  -- nobody is ready: all ran
  have hall : ∀ (listed : Array Bool), listed.size = L.length → Region.ready .any L.toArray listed = [] → ∀ i, i < L.length → Ex listed i := by
    intro listed hsz hr i hi
    have key : ∀ m i, i < m → i < L.length → Ex listed i := by
      intro m
      induction m with
      | zero => intro i h _; omega
      | succ m ih =>
        intro i him hi
        cases e : listed.getD i false with
        | true => exact e
        | false =>
          exfalso
          have hready : i ∈ Region.ready .any L.toArray listed := by
            rw [mem_ready]
            have hd : listed.getD i true = false := by
              have hi' : i < listed.size := by omega
              simp [hi'] at e ⊢; exact e
            refine ⟨hd, L[i], by simp [hi], fun ed hed' hb => ?_⟩
            have h := List.all_eq_true.1 hed i (List.mem_range.2 hi)
            rw [List.getElem?_eq_getElem hi] at h
            simp only [Bool.and_eq_true] at h
            have h1 := List.all_eq_true.1 h.1 ed (by simpa using hed')
            simp only [hb, Bool.not_true, Bool.false_or, decide_eq_true_eq] at h1
            exact ih ed.on (by omega) (by omega)
          rw [hr] at hready; cases hready
    exact key (i + 1) i (by omega) hi
  have hnot : ∀ (listed : Array Bool) j, listed.getD j true = false → listed.size = L.length → ¬ Ex listed j ∧ j < L.length := by
    intro listed j h hsz
    have hj : j < listed.size := by
      rcases Nat.lt_or_ge j listed.size with h' | h'
      · exact h'
      · simp [Array.getElem?_eq_none h'] at h
    exact ⟨fun e => (by unfold Ex at e; simp [hj] at h e; rw [h] at e; cases e), by omega⟩
  intro fuel
  induction fuel with
  | zero =>
    rintro listed a w hf hsz ⟨r0, vals0, Hs0, EA0, prev0, pf0, I, hI0, hal0⟩
    have hr : Region.ready .any L.toArray listed = [] := by
      cases e : Region.ready .any L.toArray listed with
      | nil => rfl
      | cons j l =>
        have hj : j ∈ Region.ready .any L.toArray listed := by rw [e]; exact List.mem_cons_self
        rw [mem_ready] at hj
        obtain ⟨h1, h2⟩ := hnot listed j hj.1 hsz
        have := un_set h2 (by omega) h1
        omega
    exact ⟨hr, draw_done hkp hKn (hall listed hsz hr) hI0⟩
  | succ fuel ih =>
    rintro listed a w hf hsz ⟨r0, vals0, Hs0, EA0, prev0, pf0, I, hI0, hal0⟩
    refine ⟨fun hr => draw_done hkp hKn (hall listed hsz hr) hI0, fun j hj => ?_⟩
    rw [mem_ready] at hj
    obtain ⟨h1, o, ho', hedge⟩ := hj
    obtain ⟨hnE, hjl⟩ := hnot listed j h1 hsz
    have ho : L[j]? = some o := by simpa using ho'
    obtain ⟨r, vals, Hs, EA, prev, pf, hI, hst, hsub⟩ := settle r0 hI0
    have hal : ∀ i, It.al i ∈ r → ALk P J n Φ L avs ahs i := fun i hi => hal0 i (hsub _ hi)
    have hcl : ∀ k, inB Bs j k = true → Ex listed k := fun k hb => edges_cl hed hjl hI.cl ho hedge k (hm j k hb) hb
    have hun : un L.length (listed.setIfInBounds j true) ≤ fuel := by have := un_set hjl (by omega) hnE; omega
    have hsz' : (listed.setIfInBounds j true).size = L.length := by simpa using hsz
    -- whatever the part is: it is shown already, or next, or makes a block
    have hhead : ∀ y ∈ r, y.ix = j → y.isAl = false → ∃ lk re r', r = .ac j lk re :: r' := by
      intro y hy hyj hya
      cases r with
      | nil => cases hy
      | cons x r' =>
        cases x with
        | fl i lk => exact hst.elim
        | fp i lk => exact hst.elim
        | al i =>
          rcases List.mem_cons.1 hy with rfl | hy
          · cases hya
          · have := ahead_in _ _ _ hI.c _ _ rfl y hy hya (.inl rfl)
            rw [hyj] at this
            exact (hst (hcl _ this)).elim
        | ac i lk re =>
          rcases List.mem_cons.1 hy with rfl | hy
          · have : i = j := hyj
            subst this; exact ⟨lk, re, r', rfl⟩
          · have := ahead_in _ _ _ hI.c _ _ rfl y hy hya (.inr ⟨i, lk, re, rfl⟩)
            rw [hyj] at this
            exact (hI.act _ (List.mem_cons_self) rfl (hcl _ this)).elim
    rcases hI.pas j hjl with ⟨x, hx, hxj⟩ | hpas
    · by_cases hxa : x.isAl = true
      · -- a new block
        cases x <;> simp [It.isAl] at hxa
        rename_i i
        have hij : i = j := hxj
        subst hij
        obtain ⟨o', d, ho2, hd, hg, hA⟩ := hal _ hx
        rw [ho] at ho2; cases ho2
        have hfr : FrRel I n [] a.tmps := ⟨hI.size, fun t c ht => by cases ht⟩
        refine gop_wpOp (Kk := fun fr' Hs' => ∃ b, fr' = (d, avs _ b) :: [] ∧ Hs' = ahs _ b :: Hs) (Ψ := Φ) (fr := []) ho (by unfold GOp; rw [hg]; exact hA _ [] Hs fun b => ⟨b, rfl, rfl⟩) ⟨hI.le, hI.sep, hfr, hI.nod⟩ ?_ ?_
        · rintro I' fr' Hs' v w' hle hs' ⟨b, rfl, rfl⟩
          exact ih _ _ w' hun hsz' ⟨r, vals, Hs, _, prev, pf, I', step_alloc hds hsz hI ho hnE hcl hx hd hle hs', hal⟩
        · intro e I' fr' Hs' a' w' hs' he
          exact ⟨I', fr', Hs', ⟨hs'.le, HSub.dropr _ _ I' w' hs'.sep, hs'.frame, hs'.nod⟩, he⟩
      · obtain ⟨lk, re, r', rfl⟩ := hhead x hx hxj (by simpa using hxa)
        obtain ⟨o', ho2, hg⟩ := hI.d
        rw [ho] at ho2; cases ho2
        have hcc := hI.c
        simp only [itemsOk, Bool.and_eq_true] at hcc
        refine gop_wpOp ho hg ⟨hI.le, hI.sep, frsrc_rel hI (mkFr_src hcc.1.1.1.2) hnE hcl, hI.nod⟩ ?_ ?_
        · intro I' fr' Hs' v w' hle hs' hk
          obtain ⟨c, hI'⟩ := step_act hds hsz hI ho hnE hcl hle hs' hk
          exact ih _ _ w' hun hsz' ⟨r', _, Hs', _, _, pf, I', hI', fun i hi => hal i (List.mem_cons_of_mem _ hi)⟩
        · intro e I' fr' Hs' a' w' hs' he
          exact ⟨I', fr', Hs', ⟨hs'.le, HSub.dropr _ _ I' w' hs'.sep, hs'.frame, hs'.nod⟩, he⟩
    · obtain ⟨c, hc⟩ := Option.isSome_iff_exists.1 hpas
      obtain ⟨fr, hsrc, ⟨o', ho2, hg⟩, _⟩ := hI.del j c hc hnE
      rw [ho] at ho2; cases ho2
      refine gop_wpOp ho hg ⟨hI.le, hI.sep, frsrc_rel hI hsrc hnE hcl, hI.nod⟩ ?_ ?_
      · intro I' fr' Hs' v w' hle hs' hk
        exact ih _ _ w' hun hsz' ⟨r, vals, Hs, _, prev, pf, I', step_float hds hsz hI ho hnE hcl hc hle hs' hk, hal⟩
      · intro e I' fr' Hs' a' w' _ he
        exact he.elim

def bsOk (N : Nat) (Bs : List Nat) : Bool := Bs.all fun b => b < 2 ^ N
theorem inB_lt {N : Nat} (h : bsOk N Bs = true) (i k : Nat) (hb : inB Bs i k = true) : k < N := by
  unfold inB at hb
  rcases Nat.lt_or_ge k N with h' | h'
  · exact h'
  · exfalso
    have hlt : Bs.getD i 0 < 2 ^ N := by
      rw [List.getD_eq_getElem?_getD]
      cases e : Bs[i]? with
      | none => simp; exact Nat.two_pow_pos N
      | some b => simpa using List.all_eq_true.1 h b (List.mem_of_getElem? e)
    rw [Nat.testBit_lt_two_pow (Nat.lt_of_lt_of_le hlt (Nat.pow_le_pow_right (by omega) h'))] at hb
    cases hb

/-- A region that draws its order: shown once, in one order. -/
theorem awp_draw (hf : P.follows .mixedOrders = true) {id : Nat} (items : List It) (Bs : List Nat) (keep : Lk) (hok : okD L keep Bs items = true) (hbs : bsOk L.length Bs = true) {Hs : List HProp}
    (avs : Nat → Nat → AV) (ahs : Nat → Nat → HProp) (hal : ∀ i, It.al i ∈ items → ALk P J n Φ L avs ahs i) (h : DP P J n Φ L base keep (Φ .normal) avs ahs items [] Hs) :
    AWP P J n (.region id L.toArray true) Φ base Hs := by
  intro I a w hs
  simp only [okD, Bool.and_eq_true] at hok
  obtain ⟨⟨⟨⟨⟨⟨h1, h2⟩, h3⟩, h4⟩, h5⟩, h6⟩, h7⟩ := hok
  refine wp_region_any hf ?_
  have hE : ∀ i, ¬ Ex (Array.replicate L.toArray.size false) i := fun i hi => by
    unfold Ex at hi
    simp [Array.getElem?_replicate] at hi
    split at hi <;> simp at hi
  refine draw_any (inB_lt hbs) h1 h2 h6 (fun _ _ h => h) _ _ a _ ?_ (by simp) ⟨items, [], Hs, [], [], [], I, ⟨hs.le, ?_, hs.nod, hs.frame.1, fun k v d hk => (hE k hk).elim, fun p hp => (by cases hp), fun t c ht _ => hs.frame.2 t c ht, h, h5, fun i hi => ?_, fun x _ => rfl, nodupB_iff h3,
    fun x _ _ hx => hE _ hx, fun i hi => (by cases hi), fun i _ hi => (hE i hi).elim, fun i v hv => (by cases hv), fun i k hi => (hE i hi).elim, fun i hi => (hE i hi).elim, fun x hx => ?_⟩, hal⟩
  · unfold un
    refine Nat.le_trans (List.length_filter_le _ _) (by simp)
  · rw [List.map_nil, List.append_nil]
    exact hs.sep.heap fun b _ => rfl
  · left
    have := List.all_eq_true.1 h4 i (List.mem_range.2 hi)
    have : i ∈ items.map It.ix := by simpa using this
    obtain ⟨x, hx, hxi⟩ := List.mem_map.1 this
    exact ⟨x, hx, hxi⟩
  · simpa using List.all_eq_true.1 h7 x hx
end
end Go.Ab

namespace Go.Ab
open Go

section
variable {P : Program} {J : JD} {n : Nat} {Φ : APost} {fr : Fr}

theorem aop_perm {o : Oper} {K : Fr → List HProp → Prop} {Hs Hs' : List HProp} (hp : Hs.Perm Hs') (h : AOp P J n o K Φ fr Hs') : AOp P J n o K Φ fr Hs :=
  fun F I a w hs next Q hn hq => h F I a w ⟨hs.le, HSub.perm (hp.append_right F) I w hs.sep, hs.frame, hs.nod⟩ next Q hn hq
theorem aops_perm {ops : Array Oper} {rest : List Oper} {Hs Hs' : List HProp} (hp : Hs.Perm Hs') (h : AOps P J n ops rest Φ fr Hs') : AOps P J n ops rest Φ fr Hs := aops_hsub (HSub.perm hp) h
theorem awp_perm {c : Code} {Hs Hs' : List HProp} (hp : Hs.Perm Hs') (h : AWP P J n c Φ fr Hs') : AWP P J n c Φ fr Hs := awp_hsub (HSub.perm hp) h
theorem awp_drop {c : Code} {k : HProp} {Hs : List HProp} (h : AWP P J n c Φ fr Hs) : AWP P J n c Φ fr (k :: Hs) := awp_hsub (HSub.drop k Hs) h
theorem aops_drop {ops : Array Oper} {rest : List Oper} {k : HProp} {Hs : List HProp} (h : AOps P J n ops rest Φ fr Hs) : AOps P J n ops rest Φ fr (k :: Hs) := aops_hsub (HSub.drop k Hs) h

theorem pf1 {a0 a1 : HProp} {Hs : List HProp} : List.Perm (a0 :: a1 :: Hs) (a1 :: a0 :: Hs) := List.perm_middle (l₁ := [a0]) (l₂ := Hs)
theorem qf1 {a0 a1 : HProp} {Hs : List HProp} : List.Perm (a1 :: a0 :: Hs) (a0 :: a1 :: Hs) := pf1.symm
theorem aop_f1 {o : Oper} {K : Fr → List HProp → Prop} {a0 a1 : HProp} {Hs : List HProp} (h : AOp P J n o K Φ fr (a1 :: a0 :: Hs)) : AOp P J n o K Φ fr (a0 :: a1 :: Hs) := aop_perm pf1 h
theorem aops_f1 {ops : Array Oper} {rest : List Oper} {a0 a1 : HProp} {Hs : List HProp} (h : AOps P J n ops rest Φ fr (a1 :: a0 :: Hs)) : AOps P J n ops rest Φ fr (a0 :: a1 :: Hs) := aops_perm pf1 h
theorem awp_f1 {c : Code} {a0 a1 : HProp} {Hs : List HProp} (h : AWP P J n c Φ fr (a1 :: a0 :: Hs)) : AWP P J n c Φ fr (a0 :: a1 :: Hs) := awp_perm pf1 h
theorem pf2 {a0 a1 a2 : HProp} {Hs : List HProp} : List.Perm (a0 :: a1 :: a2 :: Hs) (a2 :: a0 :: a1 :: Hs) := List.perm_middle (l₁ := [a0, a1]) (l₂ := Hs)
theorem qf2 {a0 a1 a2 : HProp} {Hs : List HProp} : List.Perm (a2 :: a0 :: a1 :: Hs) (a0 :: a1 :: a2 :: Hs) := pf2.symm
theorem aop_f2 {o : Oper} {K : Fr → List HProp → Prop} {a0 a1 a2 : HProp} {Hs : List HProp} (h : AOp P J n o K Φ fr (a2 :: a0 :: a1 :: Hs)) : AOp P J n o K Φ fr (a0 :: a1 :: a2 :: Hs) := aop_perm pf2 h
theorem aops_f2 {ops : Array Oper} {rest : List Oper} {a0 a1 a2 : HProp} {Hs : List HProp} (h : AOps P J n ops rest Φ fr (a2 :: a0 :: a1 :: Hs)) : AOps P J n ops rest Φ fr (a0 :: a1 :: a2 :: Hs) := aops_perm pf2 h
theorem awp_f2 {c : Code} {a0 a1 a2 : HProp} {Hs : List HProp} (h : AWP P J n c Φ fr (a2 :: a0 :: a1 :: Hs)) : AWP P J n c Φ fr (a0 :: a1 :: a2 :: Hs) := awp_perm pf2 h
theorem pf3 {a0 a1 a2 a3 : HProp} {Hs : List HProp} : List.Perm (a0 :: a1 :: a2 :: a3 :: Hs) (a3 :: a0 :: a1 :: a2 :: Hs) := List.perm_middle (l₁ := [a0, a1, a2]) (l₂ := Hs)
theorem qf3 {a0 a1 a2 a3 : HProp} {Hs : List HProp} : List.Perm (a3 :: a0 :: a1 :: a2 :: Hs) (a0 :: a1 :: a2 :: a3 :: Hs) := pf3.symm
theorem aop_f3 {o : Oper} {K : Fr → List HProp → Prop} {a0 a1 a2 a3 : HProp} {Hs : List HProp} (h : AOp P J n o K Φ fr (a3 :: a0 :: a1 :: a2 :: Hs)) : AOp P J n o K Φ fr (a0 :: a1 :: a2 :: a3 :: Hs) := aop_perm pf3 h
theorem aops_f3 {ops : Array Oper} {rest : List Oper} {a0 a1 a2 a3 : HProp} {Hs : List HProp} (h : AOps P J n ops rest Φ fr (a3 :: a0 :: a1 :: a2 :: Hs)) : AOps P J n ops rest Φ fr (a0 :: a1 :: a2 :: a3 :: Hs) := aops_perm pf3 h
theorem awp_f3 {c : Code} {a0 a1 a2 a3 : HProp} {Hs : List HProp} (h : AWP P J n c Φ fr (a3 :: a0 :: a1 :: a2 :: Hs)) : AWP P J n c Φ fr (a0 :: a1 :: a2 :: a3 :: Hs) := awp_perm pf3 h
theorem pf4 {a0 a1 a2 a3 a4 : HProp} {Hs : List HProp} : List.Perm (a0 :: a1 :: a2 :: a3 :: a4 :: Hs) (a4 :: a0 :: a1 :: a2 :: a3 :: Hs) := List.perm_middle (l₁ := [a0, a1, a2, a3]) (l₂ := Hs)
theorem qf4 {a0 a1 a2 a3 a4 : HProp} {Hs : List HProp} : List.Perm (a4 :: a0 :: a1 :: a2 :: a3 :: Hs) (a0 :: a1 :: a2 :: a3 :: a4 :: Hs) := pf4.symm
theorem aop_f4 {o : Oper} {K : Fr → List HProp → Prop} {a0 a1 a2 a3 a4 : HProp} {Hs : List HProp} (h : AOp P J n o K Φ fr (a4 :: a0 :: a1 :: a2 :: a3 :: Hs)) : AOp P J n o K Φ fr (a0 :: a1 :: a2 :: a3 :: a4 :: Hs) := aop_perm pf4 h
theorem aops_f4 {ops : Array Oper} {rest : List Oper} {a0 a1 a2 a3 a4 : HProp} {Hs : List HProp} (h : AOps P J n ops rest Φ fr (a4 :: a0 :: a1 :: a2 :: a3 :: Hs)) : AOps P J n ops rest Φ fr (a0 :: a1 :: a2 :: a3 :: a4 :: Hs) := aops_perm pf4 h
theorem awp_f4 {c : Code} {a0 a1 a2 a3 a4 : HProp} {Hs : List HProp} (h : AWP P J n c Φ fr (a4 :: a0 :: a1 :: a2 :: a3 :: Hs)) : AWP P J n c Φ fr (a0 :: a1 :: a2 :: a3 :: a4 :: Hs) := awp_perm pf4 h
theorem pf5 {a0 a1 a2 a3 a4 a5 : HProp} {Hs : List HProp} : List.Perm (a0 :: a1 :: a2 :: a3 :: a4 :: a5 :: Hs) (a5 :: a0 :: a1 :: a2 :: a3 :: a4 :: Hs) := List.perm_middle (l₁ := [a0, a1, a2, a3, a4]) (l₂ := Hs)
theorem qf5 {a0 a1 a2 a3 a4 a5 : HProp} {Hs : List HProp} : List.Perm (a5 :: a0 :: a1 :: a2 :: a3 :: a4 :: Hs) (a0 :: a1 :: a2 :: a3 :: a4 :: a5 :: Hs) := pf5.symm
theorem aop_f5 {o : Oper} {K : Fr → List HProp → Prop} {a0 a1 a2 a3 a4 a5 : HProp} {Hs : List HProp} (h : AOp P J n o K Φ fr (a5 :: a0 :: a1 :: a2 :: a3 :: a4 :: Hs)) : AOp P J n o K Φ fr (a0 :: a1 :: a2 :: a3 :: a4 :: a5 :: Hs) := aop_perm pf5 h
theorem aops_f5 {ops : Array Oper} {rest : List Oper} {a0 a1 a2 a3 a4 a5 : HProp} {Hs : List HProp} (h : AOps P J n ops rest Φ fr (a5 :: a0 :: a1 :: a2 :: a3 :: a4 :: Hs)) : AOps P J n ops rest Φ fr (a0 :: a1 :: a2 :: a3 :: a4 :: a5 :: Hs) := aops_perm pf5 h
theorem awp_f5 {c : Code} {a0 a1 a2 a3 a4 a5 : HProp} {Hs : List HProp} (h : AWP P J n c Φ fr (a5 :: a0 :: a1 :: a2 :: a3 :: a4 :: Hs)) : AWP P J n c Φ fr (a0 :: a1 :: a2 :: a3 :: a4 :: a5 :: Hs) := awp_perm pf5 h
theorem pf6 {a0 a1 a2 a3 a4 a5 a6 : HProp} {Hs : List HProp} : List.Perm (a0 :: a1 :: a2 :: a3 :: a4 :: a5 :: a6 :: Hs) (a6 :: a0 :: a1 :: a2 :: a3 :: a4 :: a5 :: Hs) := List.perm_middle (l₁ := [a0, a1, a2, a3, a4, a5]) (l₂ := Hs)
theorem qf6 {a0 a1 a2 a3 a4 a5 a6 : HProp} {Hs : List HProp} : List.Perm (a6 :: a0 :: a1 :: a2 :: a3 :: a4 :: a5 :: Hs) (a0 :: a1 :: a2 :: a3 :: a4 :: a5 :: a6 :: Hs) := pf6.symm
theorem aop_f6 {o : Oper} {K : Fr → List HProp → Prop} {a0 a1 a2 a3 a4 a5 a6 : HProp} {Hs : List HProp} (h : AOp P J n o K Φ fr (a6 :: a0 :: a1 :: a2 :: a3 :: a4 :: a5 :: Hs)) : AOp P J n o K Φ fr (a0 :: a1 :: a2 :: a3 :: a4 :: a5 :: a6 :: Hs) := aop_perm pf6 h
theorem aops_f6 {ops : Array Oper} {rest : List Oper} {a0 a1 a2 a3 a4 a5 a6 : HProp} {Hs : List HProp} (h : AOps P J n ops rest Φ fr (a6 :: a0 :: a1 :: a2 :: a3 :: a4 :: a5 :: Hs)) : AOps P J n ops rest Φ fr (a0 :: a1 :: a2 :: a3 :: a4 :: a5 :: a6 :: Hs) := aops_perm pf6 h
theorem awp_f6 {c : Code} {a0 a1 a2 a3 a4 a5 a6 : HProp} {Hs : List HProp} (h : AWP P J n c Φ fr (a6 :: a0 :: a1 :: a2 :: a3 :: a4 :: a5 :: Hs)) : AWP P J n c Φ fr (a0 :: a1 :: a2 :: a3 :: a4 :: a5 :: a6 :: Hs) := awp_perm pf6 h
theorem pf7 {a0 a1 a2 a3 a4 a5 a6 a7 : HProp} {Hs : List HProp} : List.Perm (a0 :: a1 :: a2 :: a3 :: a4 :: a5 :: a6 :: a7 :: Hs) (a7 :: a0 :: a1 :: a2 :: a3 :: a4 :: a5 :: a6 :: Hs) := List.perm_middle (l₁ := [a0, a1, a2, a3, a4, a5, a6]) (l₂ := Hs)
theorem qf7 {a0 a1 a2 a3 a4 a5 a6 a7 : HProp} {Hs : List HProp} : List.Perm (a7 :: a0 :: a1 :: a2 :: a3 :: a4 :: a5 :: a6 :: Hs) (a0 :: a1 :: a2 :: a3 :: a4 :: a5 :: a6 :: a7 :: Hs) := pf7.symm
theorem aop_f7 {o : Oper} {K : Fr → List HProp → Prop} {a0 a1 a2 a3 a4 a5 a6 a7 : HProp} {Hs : List HProp} (h : AOp P J n o K Φ fr (a7 :: a0 :: a1 :: a2 :: a3 :: a4 :: a5 :: a6 :: Hs)) : AOp P J n o K Φ fr (a0 :: a1 :: a2 :: a3 :: a4 :: a5 :: a6 :: a7 :: Hs) := aop_perm pf7 h
theorem aops_f7 {ops : Array Oper} {rest : List Oper} {a0 a1 a2 a3 a4 a5 a6 a7 : HProp} {Hs : List HProp} (h : AOps P J n ops rest Φ fr (a7 :: a0 :: a1 :: a2 :: a3 :: a4 :: a5 :: a6 :: Hs)) : AOps P J n ops rest Φ fr (a0 :: a1 :: a2 :: a3 :: a4 :: a5 :: a6 :: a7 :: Hs) := aops_perm pf7 h
theorem awp_f7 {c : Code} {a0 a1 a2 a3 a4 a5 a6 a7 : HProp} {Hs : List HProp} (h : AWP P J n c Φ fr (a7 :: a0 :: a1 :: a2 :: a3 :: a4 :: a5 :: a6 :: Hs)) : AWP P J n c Φ fr (a0 :: a1 :: a2 :: a3 :: a4 :: a5 :: a6 :: a7 :: Hs) := awp_perm pf7 h
theorem pf8 {a0 a1 a2 a3 a4 a5 a6 a7 a8 : HProp} {Hs : List HProp} : List.Perm (a0 :: a1 :: a2 :: a3 :: a4 :: a5 :: a6 :: a7 :: a8 :: Hs) (a8 :: a0 :: a1 :: a2 :: a3 :: a4 :: a5 :: a6 :: a7 :: Hs) := List.perm_middle (l₁ := [a0, a1, a2, a3, a4, a5, a6, a7]) (l₂ := Hs)
theorem qf8 {a0 a1 a2 a3 a4 a5 a6 a7 a8 : HProp} {Hs : List HProp} : List.Perm (a8 :: a0 :: a1 :: a2 :: a3 :: a4 :: a5 :: a6 :: a7 :: Hs) (a0 :: a1 :: a2 :: a3 :: a4 :: a5 :: a6 :: a7 :: a8 :: Hs) := pf8.symm
theorem aop_f8 {o : Oper} {K : Fr → List HProp → Prop} {a0 a1 a2 a3 a4 a5 a6 a7 a8 : HProp} {Hs : List HProp} (h : AOp P J n o K Φ fr (a8 :: a0 :: a1 :: a2 :: a3 :: a4 :: a5 :: a6 :: a7 :: Hs)) : AOp P J n o K Φ fr (a0 :: a1 :: a2 :: a3 :: a4 :: a5 :: a6 :: a7 :: a8 :: Hs) := aop_perm pf8 h
theorem aops_f8 {ops : Array Oper} {rest : List Oper} {a0 a1 a2 a3 a4 a5 a6 a7 a8 : HProp} {Hs : List HProp} (h : AOps P J n ops rest Φ fr (a8 :: a0 :: a1 :: a2 :: a3 :: a4 :: a5 :: a6 :: a7 :: Hs)) : AOps P J n ops rest Φ fr (a0 :: a1 :: a2 :: a3 :: a4 :: a5 :: a6 :: a7 :: a8 :: Hs) := aops_perm pf8 h
theorem awp_f8 {c : Code} {a0 a1 a2 a3 a4 a5 a6 a7 a8 : HProp} {Hs : List HProp} (h : AWP P J n c Φ fr (a8 :: a0 :: a1 :: a2 :: a3 :: a4 :: a5 :: a6 :: a7 :: Hs)) : AWP P J n c Φ fr (a0 :: a1 :: a2 :: a3 :: a4 :: a5 :: a6 :: a7 :: a8 :: Hs) := awp_perm pf8 h
theorem pf9 {a0 a1 a2 a3 a4 a5 a6 a7 a8 a9 : HProp} {Hs : List HProp} : List.Perm (a0 :: a1 :: a2 :: a3 :: a4 :: a5 :: a6 :: a7 :: a8 :: a9 :: Hs) (a9 :: a0 :: a1 :: a2 :: a3 :: a4 :: a5 :: a6 :: a7 :: a8 :: Hs) := List.perm_middle (l₁ := [a0, a1, a2, a3, a4, a5, a6, a7, a8]) (l₂ := Hs)
theorem qf9 {a0 a1 a2 a3 a4 a5 a6 a7 a8 a9 : HProp} {Hs : List HProp} : List.Perm (a9 :: a0 :: a1 :: a2 :: a3 :: a4 :: a5 :: a6 :: a7 :: a8 :: Hs) (a0 :: a1 :: a2 :: a3 :: a4 :: a5 :: a6 :: a7 :: a8 :: a9 :: Hs) := pf9.symm
theorem aop_f9 {o : Oper} {K : Fr → List HProp → Prop} {a0 a1 a2 a3 a4 a5 a6 a7 a8 a9 : HProp} {Hs : List HProp} (h : AOp P J n o K Φ fr (a9 :: a0 :: a1 :: a2 :: a3 :: a4 :: a5 :: a6 :: a7 :: a8 :: Hs)) : AOp P J n o K Φ fr (a0 :: a1 :: a2 :: a3 :: a4 :: a5 :: a6 :: a7 :: a8 :: a9 :: Hs) := aop_perm pf9 h
theorem aops_f9 {ops : Array Oper} {rest : List Oper} {a0 a1 a2 a3 a4 a5 a6 a7 a8 a9 : HProp} {Hs : List HProp} (h : AOps P J n ops rest Φ fr (a9 :: a0 :: a1 :: a2 :: a3 :: a4 :: a5 :: a6 :: a7 :: a8 :: Hs)) : AOps P J n ops rest Φ fr (a0 :: a1 :: a2 :: a3 :: a4 :: a5 :: a6 :: a7 :: a8 :: a9 :: Hs) := aops_perm pf9 h
theorem awp_f9 {c : Code} {a0 a1 a2 a3 a4 a5 a6 a7 a8 a9 : HProp} {Hs : List HProp} (h : AWP P J n c Φ fr (a9 :: a0 :: a1 :: a2 :: a3 :: a4 :: a5 :: a6 :: a7 :: a8 :: Hs)) : AWP P J n c Φ fr (a0 :: a1 :: a2 :: a3 :: a4 :: a5 :: a6 :: a7 :: a8 :: a9 :: Hs) := awp_perm pf9 h
theorem pf10 {a0 a1 a2 a3 a4 a5 a6 a7 a8 a9 a10 : HProp} {Hs : List HProp} : List.Perm (a0 :: a1 :: a2 :: a3 :: a4 :: a5 :: a6 :: a7 :: a8 :: a9 :: a10 :: Hs) (a10 :: a0 :: a1 :: a2 :: a3 :: a4 :: a5 :: a6 :: a7 :: a8 :: a9 :: Hs) := List.perm_middle (l₁ := [a0, a1, a2, a3, a4, a5, a6, a7, a8, a9]) (l₂ := Hs)
theorem qf10 {a0 a1 a2 a3 a4 a5 a6 a7 a8 a9 a10 : HProp} {Hs : List HProp} : List.Perm (a10 :: a0 :: a1 :: a2 :: a3 :: a4 :: a5 :: a6 :: a7 :: a8 :: a9 :: Hs) (a0 :: a1 :: a2 :: a3 :: a4 :: a5 :: a6 :: a7 :: a8 :: a9 :: a10 :: Hs) := pf10.symm
theorem aop_f10 {o : Oper} {K : Fr → List HProp → Prop} {a0 a1 a2 a3 a4 a5 a6 a7 a8 a9 a10 : HProp} {Hs : List HProp} (h : AOp P J n o K Φ fr (a10 :: a0 :: a1 :: a2 :: a3 :: a4 :: a5 :: a6 :: a7 :: a8 :: a9 :: Hs)) : AOp P J n o K Φ fr (a0 :: a1 :: a2 :: a3 :: a4 :: a5 :: a6 :: a7 :: a8 :: a9 :: a10 :: Hs) := aop_perm pf10 h
theorem aops_f10 {ops : Array Oper} {rest : List Oper} {a0 a1 a2 a3 a4 a5 a6 a7 a8 a9 a10 : HProp} {Hs : List HProp} (h : AOps P J n ops rest Φ fr (a10 :: a0 :: a1 :: a2 :: a3 :: a4 :: a5 :: a6 :: a7 :: a8 :: a9 :: Hs)) : AOps P J n ops rest Φ fr (a0 :: a1 :: a2 :: a3 :: a4 :: a5 :: a6 :: a7 :: a8 :: a9 :: a10 :: Hs) := aops_perm pf10 h
theorem awp_f10 {c : Code} {a0 a1 a2 a3 a4 a5 a6 a7 a8 a9 a10 : HProp} {Hs : List HProp} (h : AWP P J n c Φ fr (a10 :: a0 :: a1 :: a2 :: a3 :: a4 :: a5 :: a6 :: a7 :: a8 :: a9 :: Hs)) : AWP P J n c Φ fr (a0 :: a1 :: a2 :: a3 :: a4 :: a5 :: a6 :: a7 :: a8 :: a9 :: a10 :: Hs) := awp_perm pf10 h
theorem pf11 {a0 a1 a2 a3 a4 a5 a6 a7 a8 a9 a10 a11 : HProp} {Hs : List HProp} : List.Perm (a0 :: a1 :: a2 :: a3 :: a4 :: a5 :: a6 :: a7 :: a8 :: a9 :: a10 :: a11 :: Hs) (a11 :: a0 :: a1 :: a2 :: a3 :: a4 :: a5 :: a6 :: a7 :: a8 :: a9 :: a10 :: Hs) := List.perm_middle (l₁ := [a0, a1, a2, a3, a4, a5, a6, a7, a8, a9, a10]) (l₂ := Hs)
theorem qf11 {a0 a1 a2 a3 a4 a5 a6 a7 a8 a9 a10 a11 : HProp} {Hs : List HProp} : List.Perm (a11 :: a0 :: a1 :: a2 :: a3 :: a4 :: a5 :: a6 :: a7 :: a8 :: a9 :: a10 :: Hs) (a0 :: a1 :: a2 :: a3 :: a4 :: a5 :: a6 :: a7 :: a8 :: a9 :: a10 :: a11 :: Hs) := pf11.symm
theorem aop_f11 {o : Oper} {K : Fr → List HProp → Prop} {a0 a1 a2 a3 a4 a5 a6 a7 a8 a9 a10 a11 : HProp} {Hs : List HProp} (h : AOp P J n o K Φ fr (a11 :: a0 :: a1 :: a2 :: a3 :: a4 :: a5 :: a6 :: a7 :: a8 :: a9 :: a10 :: Hs)) : AOp P J n o K Φ fr (a0 :: a1 :: a2 :: a3 :: a4 :: a5 :: a6 :: a7 :: a8 :: a9 :: a10 :: a11 :: Hs) := aop_perm pf11 h
theorem aops_f11 {ops : Array Oper} {rest : List Oper} {a0 a1 a2 a3 a4 a5 a6 a7 a8 a9 a10 a11 : HProp} {Hs : List HProp} (h : AOps P J n ops rest Φ fr (a11 :: a0 :: a1 :: a2 :: a3 :: a4 :: a5 :: a6 :: a7 :: a8 :: a9 :: a10 :: Hs)) : AOps P J n ops rest Φ fr (a0 :: a1 :: a2 :: a3 :: a4 :: a5 :: a6 :: a7 :: a8 :: a9 :: a10 :: a11 :: Hs) := aops_perm pf11 h
theorem awp_f11 {c : Code} {a0 a1 a2 a3 a4 a5 a6 a7 a8 a9 a10 a11 : HProp} {Hs : List HProp} (h : AWP P J n c Φ fr (a11 :: a0 :: a1 :: a2 :: a3 :: a4 :: a5 :: a6 :: a7 :: a8 :: a9 :: a10 :: Hs)) : AWP P J n c Φ fr (a0 :: a1 :: a2 :: a3 :: a4 :: a5 :: a6 :: a7 :: a8 :: a9 :: a10 :: a11 :: Hs) := awp_perm pf11 h
theorem pf12 {a0 a1 a2 a3 a4 a5 a6 a7 a8 a9 a10 a11 a12 : HProp} {Hs : List HProp} : List.Perm (a0 :: a1 :: a2 :: a3 :: a4 :: a5 :: a6 :: a7 :: a8 :: a9 :: a10 :: a11 :: a12 :: Hs) (a12 :: a0 :: a1 :: a2 :: a3 :: a4 :: a5 :: a6 :: a7 :: a8 :: a9 :: a10 :: a11 :: Hs) := List.perm_middle (l₁ := [a0, a1, a2, a3, a4, a5, a6, a7, a8, a9, a10, a11]) (l₂ := Hs)
theorem qf12 {a0 a1 a2 a3 a4 a5 a6 a7 a8 a9 a10 a11 a12 : HProp} {Hs : List HProp} : List.Perm (a12 :: a0 :: a1 :: a2 :: a3 :: a4 :: a5 :: a6 :: a7 :: a8 :: a9 :: a10 :: a11 :: Hs) (a0 :: a1 :: a2 :: a3 :: a4 :: a5 :: a6 :: a7 :: a8 :: a9 :: a10 :: a11 :: a12 :: Hs) := pf12.symm
theorem aop_f12 {o : Oper} {K : Fr → List HProp → Prop} {a0 a1 a2 a3 a4 a5 a6 a7 a8 a9 a10 a11 a12 : HProp} {Hs : List HProp} (h : AOp P J n o K Φ fr (a12 :: a0 :: a1 :: a2 :: a3 :: a4 :: a5 :: a6 :: a7 :: a8 :: a9 :: a10 :: a11 :: Hs)) : AOp P J n o K Φ fr (a0 :: a1 :: a2 :: a3 :: a4 :: a5 :: a6 :: a7 :: a8 :: a9 :: a10 :: a11 :: a12 :: Hs) := aop_perm pf12 h
theorem aops_f12 {ops : Array Oper} {rest : List Oper} {a0 a1 a2 a3 a4 a5 a6 a7 a8 a9 a10 a11 a12 : HProp} {Hs : List HProp} (h : AOps P J n ops rest Φ fr (a12 :: a0 :: a1 :: a2 :: a3 :: a4 :: a5 :: a6 :: a7 :: a8 :: a9 :: a10 :: a11 :: Hs)) : AOps P J n ops rest Φ fr (a0 :: a1 :: a2 :: a3 :: a4 :: a5 :: a6 :: a7 :: a8 :: a9 :: a10 :: a11 :: a12 :: Hs) := aops_perm pf12 h
theorem awp_f12 {c : Code} {a0 a1 a2 a3 a4 a5 a6 a7 a8 a9 a10 a11 a12 : HProp} {Hs : List HProp} (h : AWP P J n c Φ fr (a12 :: a0 :: a1 :: a2 :: a3 :: a4 :: a5 :: a6 :: a7 :: a8 :: a9 :: a10 :: a11 :: Hs)) : AWP P J n c Φ fr (a0 :: a1 :: a2 :: a3 :: a4 :: a5 :: a6 :: a7 :: a8 :: a9 :: a10 :: a11 :: a12 :: Hs) := awp_perm pf12 h

theorem dp_nil {L : List Oper} {base : Fr} {keep : Lk} {K : Fr → List HProp → Prop} {avs : Nat → Nat → AV} {ahs : Nat → Nat → HProp} {vals : Fr} {Hs : List HProp} (h : K (mkFr base vals keep) Hs) : DP P J n Φ L base keep K avs ahs [] vals Hs := h
theorem dp_fl {L : List Oper} {base : Fr} {keep : Lk} {K : Fr → List HProp → Prop} {avs : Nat → Nat → AV} {ahs : Nat → Nat → HProp} {r : List It} {vals : Fr} {Hs : List HProp} {i : Nat} {lk : Lk} {v : AV} (h : Fev P J n L i (mkFr base vals lk) v Hs)
    (hr : DP P J n Φ L base keep K avs ahs r ((i, v) :: vals) Hs) : DP P J n Φ L base keep K avs ahs (.fl i lk :: r) vals Hs := ⟨v, h, hr⟩
theorem dp_fp {L : List Oper} {base : Fr} {keep : Lk} {K : Fr → List HProp → Prop} {avs : Nat → Nat → AV} {ahs : Nat → Nat → HProp} {r : List It} {vals : Fr} {Hs : List HProp} {i : Nat} {lk : Lk} {v : AV} (h : ∀ Hs', Fev P J n L i (mkFr base vals lk) v Hs')
    (hr : DP P J n Φ L base keep K avs ahs r ((i, v) :: vals) Hs) : DP P J n Φ L base keep K avs ahs (.fp i lk :: r) vals Hs := ⟨v, h, hr⟩
theorem dp_ac {L : List Oper} {base : Fr} {keep : Lk} {K : Fr → List HProp → Prop} {avs : Nat → Nat → AV} {ahs : Nat → Nat → HProp} {r : List It} {vals : Fr} {Hs : List HProp} {i : Nat} {lk : Lk} {re : List (Nat × Lk)} {o : Oper} (ho : L[i]? = some o)
    (h : GOp P J n L o (resK o (mkFr base vals lk) fun v Hs' => Rech P J n L base ((i, v) :: vals) Hs' re ∧ DP P J n Φ L base keep K avs ahs r ((i, v) :: vals) Hs') Φ (mkFr base vals lk) Hs) :
    DP P J n Φ L base keep K avs ahs (.ac i lk re :: r) vals Hs := ⟨o, ho, h⟩
theorem fev_mk {L : List Oper} {i : Nat} {fr : Fr} {v : AV} {Hs : List HProp} {o : Oper} (ho : L[i]? = some o) (h : GOp P J n L o (resK o fr fun v' Hs' => v' = v ∧ Hs'.Perm Hs) AFalse fr Hs) : Fev P J n L i fr v Hs := ⟨o, ho, h⟩
theorem gop {L : List Oper} {o : Oper} {K : Fr → List HProp → Prop} {Hs : List HProp} (hg : o.guard = none) (h : AOp P J n o K Φ fr Hs) : GOp P J n L o K Φ fr Hs := by
  unfold GOp; rw [hg]; exact h
theorem gop_do {L : List Oper} {o : Oper} {K : Fr → List HProp → Prop} {Hs : List HProp} {j t : Nat} {b : Bool} (hg : o.guard = some (j, b)) (ht : dstOf L j = some t) (hb : fget t fr = some (.val (.bool b))) (h : AOp P J n o K Φ fr Hs) : GOp P J n L o K Φ fr Hs := by
  unfold GOp; rw [hg]; exact ⟨t, ht, .inl ⟨hb, h⟩⟩
theorem gop_skip {L : List Oper} {o : Oper} {K : Fr → List HProp → Prop} {Hs : List HProp} {j t d : Nat} {b : Bool} (hg : o.guard = some (j, b)) (ht : dstOf L j = some t) (hb : fget t fr = some (.val (.bool (!b)))) (hd : o.dst = some d) (hn : Nat.blt d n = true)
    (h : K ((d, .tup []) :: fr) Hs) : GOp P J n L o K Φ fr Hs := by
  unfold GOp; rw [hg]; exact ⟨t, ht, .inr ⟨hb, d, hd, hn, h⟩⟩
/-- What is looked at in a float ends so. -/
theorem rk {o : Oper} {Q : AV → List HProp → Prop} {d : Nat} {c : AV} {Hs : List HProp} (hd : o.dst = some d) (h : Q c Hs) : resK o fr Q ((d, c) :: fr) Hs := ⟨c, by rw [hd], h⟩
theorem rk0 {o : Oper} {Q : AV → List HProp → Prop} {Hs : List HProp} (hd : o.dst = none) (h : Q (.tup []) Hs) : resK o fr Q fr Hs := ⟨.tup [], by rw [hd], h⟩

theorem alk_alloc {L : List Oper} {avs : Nat → Nat → AV} {ahs : Nat → Nat → HProp} {i d : Nat} {t ty : TypeId} {ps : String} {af : Array Edge} {s by_ : Nat} {z : Value} (ho : L[i]? = some ⟨some d, .alloc t, ty, ps, af, none⟩) (hT : TI P t s by_ z) (hd : Nat.blt d n = true)
    (ha : ∀ b, avs i b = ptr b 0) (hh : ∀ b, ahs i b = pt b (.cells (z.cells.toList.map .val) t)) : ALk P J n Φ L avs ahs i :=
  ⟨_, d, ho, rfl, rfl, fun K fr Hs h => rAlloc hT hd fun b => by have := h b; rw [ha, hh] at this; exact this⟩
end
end Go.Ab

namespace Go.Ab
open Go

/-- A list of elements, each told by one function. -/
abbrev encs {α : Type} (enc : α → AV) (l : List α) : List AV := l.map enc

section
variable {P : Program} {J : JD} {n : Nat} {Φ : APost} {fr : Fr} {Hs : List HProp} {K : Fr → List HProp → Prop} {ty : TypeId} {ps : String} {af : Array Edge} {g : Option (Nat × Bool)} {d : Nat}

theorem aops_bool {ops : Array Oper} {rest : List Oper} {c : Bool} (h1 : c = true → AOps P J n ops rest Φ ((d, .val (.bool true)) :: fr) Hs) (h2 : c = false → AOps P J n ops rest Φ ((d, .val (.bool false)) :: fr) Hs) :
    AOps P J n ops rest Φ ((d, .val (.bool c)) :: fr) Hs := by
  cases c
  · exact h2 rfl
  · exact h1 rfl
theorem awp_bool {cd : Code} {c : Bool} (h1 : c = true → AWP P J n cd Φ ((d, .val (.bool true)) :: fr) Hs) (h2 : c = false → AWP P J n cd Φ ((d, .val (.bool false)) :: fr) Hs) :
    AWP P J n cd Φ ((d, .val (.bool c)) :: fr) Hs := by
  cases c
  · exact h2 rfl
  · exact h1 rfl
theorem dp_bool {L : List Oper} {base : Fr} {keep : Lk} {K : Fr → List HProp → Prop} {avs : Nat → Nat → AV} {ahs : Nat → Nat → HProp} {r : List It} {vals : Fr} {i : Nat} {c : Bool}
    (h1 : c = true → DP P J n Φ L base keep K avs ahs r ((i, .val (.bool true)) :: vals) Hs) (h2 : c = false → DP P J n Φ L base keep K avs ahs r ((i, .val (.bool false)) :: vals) Hs) :
    DP P J n Φ L base keep K avs ahs r ((i, .val (.bool c)) :: vals) Hs := by
  cases c
  · exact h2 rfl
  · exact h1 rfl

def noAl (items : List It) : Bool := items.all fun x => !x.isAl
theorem noAl_spec {items : List It} (h : noAl items = true) {Q : Nat → Prop} : ∀ i, It.al i ∈ items → Q i := fun i hi => by
  have := List.all_eq_true.1 h _ hi
  cases this
theorem alk_alloc' {L : List Oper} {avs : Nat → Nat → AV} {ahs : Nat → Nat → HProp} {i d : Nat} {t ty : TypeId} {ps : String} {af : Array Edge} {s by_ : Nat} {z : Value} {zs : List AV} (ho : L[i]? = some ⟨some d, .alloc t, ty, ps, af, none⟩) (hT : TI P t s by_ z) (hz : z.cells.toList.map .val = zs) (hd : Nat.blt d n = true)
    (ha : ∀ b, avs i b = ptr b 0) (hh : ∀ b, ahs i b = pt b (.cells zs t)) : ALk P J n Φ L avs ahs i :=
  alk_alloc ho hT hd ha fun b => by rw [hh, hz]

theorem awp_loopW {c : Code} {α : Type} (inv : α → Prop) (frs : α → Fr) (hss : α → List HProp) (μ : α → Nat) (x0 : α) (h0 : inv x0) (hw : Weak fr (frs x0)) (hh : HSub Hs (hss x0))
    (round : ∀ x, inv x → AWP P J n c (aseq (fun fr' Hs' => ∃ x', μ x' < μ x ∧ inv x' ∧ Weak fr' (frs x') ∧ HSub Hs' (hss x')) Φ) (frs x) (hss x)) : AWP P J n (.loop c) Φ fr Hs :=
  awp_loop (fun m fr' Hs' => ∃ x, μ x = m ∧ inv x ∧ Weak fr' (frs x) ∧ HSub Hs' (hss x)) (μ x0) ⟨x0, rfl, h0, hw, hh⟩ fun m fr' Hs' ⟨x, hm, hi, hw', hh'⟩ => by
    subst hm
    refine awp_weak _ hw' (awp_hsub hh' (awp_mono (round x hi) ?_))
    intro e fr2 Hs2 hp
    cases e with
    | normal => obtain ⟨x', h1, h2, h3, h4⟩ := hp; exact ⟨_, h1, x', rfl, h2, h3, h4⟩
    | _ => exact hp

/-- What holds behind a piece that ends normally, told once. -/
theorem awp_cut {c : Code} {α : Type} (inv : α → Prop) (frs : α → Fr) (hss : α → List HProp) (h : AWP P J n c (aseq (fun fr' Hs' => ∃ x, inv x ∧ Weak fr' (frs x) ∧ HSub Hs' (hss x)) Φ) fr Hs)
    {K : Fr → List HProp → Prop} (hK : ∀ x, inv x → ∀ fr' Hs', Weak fr' (frs x) → HSub Hs' (hss x) → K fr' Hs') : AWP P J n c (aseq K Φ) fr Hs :=
  awp_mono h fun e fr2 Hs2 hp => by
    cases e with
    | normal => obtain ⟨x, h1, h2, h3⟩ := hp; exact hK x h1 _ _ h2 h3
    | _ => exact hp
theorem awp_seqcut {c y : Code} {α : Type} (inv : α → Prop) (frs : α → Fr) (hss : α → List HProp) (h : AWP P J n c (aseq (fun fr' Hs' => ∃ x, inv x ∧ Weak fr' (frs x) ∧ HSub Hs' (hss x)) Φ) fr Hs)
    (hK : ∀ x, inv x → AWP P J n y Φ (frs x) (hss x)) : AWP P J n (.seq c y) Φ fr Hs :=
  awp_seq (awp_cut inv frs hss h fun x hx _ _ hw hh => awp_weak _ hw (awp_hsub hh (hK x hx)))

def kLo : IntKind → Int
  | .i8 => -128 | .i16 => -32768 | .i32 => -2147483648 | .i64 => -9223372036854775808 | _ => 0
def kHi : IntKind → Int
  | .i8 => 127 | .i16 => 32767 | .i32 => 2147483647 | .i64 => 9223372036854775807 | .u8 => 255 | .u16 => 65535 | .u32 => 4294967295 | .u64 => 18446744073709551615
theorem wrap_id {k : IntKind} {a : Int} (h1 : kLo k ≤ a) (h2 : a ≤ kHi k) : k.wrap a = a := by
  cases k <;> simp only [kLo, kHi] at h1 h2 <;> simp only [IntKind.wrap, IntKind.bits, IntKind.signed] <;> simp <;> omega
theorem rConvId {s t : TypeId} {x : Operand} {k j : IntKind} {b : Int} {ds : TypeDesc} (hs : P.underlying s = some ds) (ht : P.underlying t = some (.int k)) (hd : Nat.blt d n = true) (hx : oget fr x = some (.val (.int j b)))
    (h1 : kLo k ≤ b) (h2 : b ≤ kHi k) (hK : K ((d, .val (.int k b)) :: fr) Hs) : AOp P J n ⟨some d, .convert s t x, ty, ps, af, g⟩ K Φ fr Hs :=
  rConv (by rw [hs]; rfl) ht hd hx (wrap_id h1 h2) hK
theorem rConvE {s t : TypeId} {x : Operand} {k j : IntKind} {b : Int} {ds : TypeDesc} (hs : P.underlying s = some ds) (ht : P.underlying t = some (.int k)) (hd : Nat.blt d n = true) (hx : oget fr x = some (.val (.int j b))) {r : Int} (hr : k.wrap b = r)
    (hK : K ((d, .val (.int k r)) :: fr) Hs) : AOp P J n ⟨some d, .convert s t x, ty, ps, af, g⟩ K Φ fr Hs :=
  rConv (by rw [hs]; rfl) ht hd hx hr hK

/-- '==' with nil, and between plain values: by the run. -/
theorem rEqRun {op : BinOp} {t u : TypeId} {x y : Operand} {a b : Value} {r : Bool} (hd : Nat.blt d n = true) (hx : oget fr x = some (.val a)) (hy : oget fr y = some (.val b))
    (hr : ∀ w : World, (do eqGuard op t x y a b; binOp op t a b : Sem Value).run P w = .ok (.bool r) w) (hK : K ((d, .val (.bool r)) :: fr) Hs) :
    AOp P J n ⟨some d, .binOp op t x y u, ty, ps, af, g⟩ K Φ fr Hs := rBin hd hx hy hr hK
theorem equal_of {t : TypeId} {x y : Value} {r : Bool} {w : World} (h : ∀ k, (Op.equalIn (k + 1) t x y).run P w = .ok r w) : (Op.equal t x y).run P w = .ok r w := h 9999
theorem eq_pn {t e : TypeId} (ht : P.underlying t = some (.pointer e)) (a : Option Addr) (w : World) : (Op.equal t (.pointer a) (.pointer none)).run P w = .ok a.isNone w :=
  equal_of fun k => by cases a <;> simp [Op.equalIn, run_underlying ht]
theorem eq_sn {t e : TypeId} (ht : P.underlying t = some (.slice e)) (a : Option Addr) (l c : Nat) (w : World) : (Op.equal t (.slice a l c) (.slice none 0 0)).run P w = .ok a.isNone w :=
  equal_of fun k => by cases a <;> simp [Op.equalIn, run_underlying ht]
theorem rEqPN {t u e : TypeId} {x : Operand} {a : Option Addr} (ht : P.underlying t = some (.pointer e)) (hd : Nat.blt d n = true) (hx : oget fr x = some (.val (.pointer a))) (hK : K ((d, .val (.bool a.isNone)) :: fr) Hs) :
    AOp P J n ⟨some d, .binOp .eql t x (.const (.pointer none)) u, ty, ps, af, g⟩ K Φ fr Hs :=
  rBin hd hx rfl (fun w => by simp [eqGuard, binOp, eq_pn ht]) hK
theorem rNePN {t u e : TypeId} {x : Operand} {a : Option Addr} (ht : P.underlying t = some (.pointer e)) (hd : Nat.blt d n = true) (hx : oget fr x = some (.val (.pointer a))) (hK : K ((d, .val (.bool a.isSome)) :: fr) Hs) :
    AOp P J n ⟨some d, .binOp .neq t x (.const (.pointer none)) u, ty, ps, af, g⟩ K Φ fr Hs :=
  rBin hd hx rfl (fun w => by cases a <;> simp [eqGuard, binOp, eq_pn ht]) hK
/-- A slice that is told, against nil: nil, if it is, or may be. -/
theorem sl_nil {I : Im} {v : Value} {m : Nat} {xs : List AV} (h : Rel I v (.sl m xs)) : (v = .slice none 0 0 ∧ xs = []) ∨ ∃ p len cap, v = .slice (some p) len cap := by
  cases h with
  | slnil => exact .inl ⟨rfl, rfl⟩
  | sl => exact .inr ⟨_, _, _, rfl⟩
theorem aop_bin {op : BinOp} {t u : TypeId} {x y : Operand} {α : Type} (av : α → AV) (hd : Nat.blt d n = true)
    (h : ∀ (I : Im) (a : Act) (w : World), FrRel I n fr a.tmps → ∃ s v, (do eqGuard op t x y (a.eval x) (a.eval y); binOp op t (a.eval x) (a.eval y) : Sem Value).run P w = .ok v w ∧ Rel I v (av s))
    (hK : ∀ s, K ((d, av s) :: fr) Hs) : AOp P J n ⟨some d, .binOp op t x y u, ty, ps, af, g⟩ K Φ fr Hs :=
  aop_of hd av (fun _ => Hs) (fun F I a w hs => by
    obtain ⟨s, v, h1, h2⟩ := h I a w hs.frame
    refine ⟨s, I, v, w, Im.le_refl I, ?_, hs.sep, h2⟩
    simp only [execOp]
    rw [Sem.run_bind, h1]
    rfl) hK
theorem rEqSN {t u e : TypeId} {x : Operand} {c : AV} {m : Nat} {xs : List AV} (ht : P.underlying t = some (.slice e)) (hd : Nat.blt d n = true) (hx : oget fr x = some c) (hc : AsSl c m xs) (hK : ∀ b : Bool, (b = true → xs = []) → K ((d, .val (.bool b)) :: fr) Hs) :
    AOp P J n ⟨some d, .binOp .eql t x (.const (.slice none 0 0)) u, ty, ps, af, g⟩ K Φ fr Hs :=
  aop_bin (fun s : { b : Bool // b = true → xs = [] } => .val (.bool s.1)) hd (fun I a w hf => by
    rcases sl_nil (hc.rel (hf.oget hx)) with ⟨h1, h2⟩ | ⟨p, len, cap, h1⟩
    · exact ⟨⟨true, fun _ => h2⟩, .bool true, by rw [h1]; simp [eqGuard, binOp, eq_sn ht, Act.eval], .val _⟩
    · exact ⟨⟨false, fun h => by cases h⟩, .bool false, by rw [h1]; simp [eqGuard, binOp, eq_sn ht, Act.eval], .val _⟩) fun s => hK s.1 s.2
theorem rNeSN {t u e : TypeId} {x : Operand} {c : AV} {m : Nat} {xs : List AV} (ht : P.underlying t = some (.slice e)) (hd : Nat.blt d n = true) (hx : oget fr x = some c) (hc : AsSl c m xs) (hK : ∀ b : Bool, (b = false → xs = []) → K ((d, .val (.bool b)) :: fr) Hs) :
    AOp P J n ⟨some d, .binOp .neq t x (.const (.slice none 0 0)) u, ty, ps, af, g⟩ K Φ fr Hs :=
  aop_bin (fun s : { b : Bool // b = false → xs = [] } => .val (.bool s.1)) hd (fun I a w hf => by
    rcases sl_nil (hc.rel (hf.oget hx)) with ⟨h1, h2⟩ | ⟨p, len, cap, h1⟩
    · exact ⟨⟨false, fun _ => h2⟩, .bool false, by rw [h1]; simp [eqGuard, binOp, eq_sn ht, Act.eval], .val _⟩
    · exact ⟨⟨true, fun h => by cases h⟩, .bool true, by rw [h1]; simp [eqGuard, binOp, eq_sn ht, Act.eval], .val _⟩) fun s => hK s.1 s.2

-- told by one function
theorem rAppendM {α : Type} {enc : α → AV} {x y : Operand} {t e : TypeId} {m by_ : Nat} {z : Value} {o : Option (Nat × Nat)} {l l' : List α} {cy : AV} (ht : P.underlying t = some (.slice e)) (hT : TI P e m by_ z) (hz : z.cells.size = m) (hd : Nat.blt d n = true)
    (hx : oget fr x = some (.own m o (l.map enc))) (hy : oget fr y = some cy) (hc : AsSl cy m (l'.map enc)) (hmax : l.length + l'.length ≤ 4611686018427387904) (hbytes : (l.length + l'.length) * by_ ≤ 140737488355328)
    (hK : ∀ o', K ((d, .own m o' ((l ++ l').map enc)) :: fr) (rowO m e o' (l ++ l').length :: Hs)) :
    AOp P J n ⟨some d, .call ⟨.builtin .append, #[x, y], #[t, t]⟩, ty, ps, af, g⟩ K Φ fr (rowO m e o l.length :: Hs) := by
  have := rAppend (P := P) (J := J) (Φ := Φ) (Hs := Hs) (K := K) (ty := ty) (ps := ps) (af := af) (g := g) ht hT hz hd hx hy hc (by simp; omega) (by simpa using hbytes) (by simpa using hK)
  simpa using this
theorem rAppendMN {α : Type} {enc : α → AV} {x y : Operand} {t e : TypeId} {m by_ : Nat} {z : Value} {l' : List α} {cy : AV} (ht : P.underlying t = some (.slice e)) (hT : TI P e m by_ z) (hz : z.cells.size = m) (hd : Nat.blt d n = true)
    (hx : oget fr x = some (.val (.slice none 0 0))) (hy : oget fr y = some cy) (hc : AsSl cy m (l'.map enc)) (hmax : l'.length ≤ 4611686018427387904) (hbytes : l'.length * by_ ≤ 140737488355328)
    (hK : ∀ o', K ((d, .own m o' (l'.map enc)) :: fr) (rowO m e o' l'.length :: Hs)) :
    AOp P J n ⟨some d, .call ⟨.builtin .append, #[x, y], #[t, t]⟩, ty, ps, af, g⟩ K Φ fr Hs :=
  rAppendNil ht hT hz hd hx hy hc (by simp; omega) (by simpa using hbytes) (by simpa using hK)
theorem rIdxM' {α : Type} {enc : α → AV} {t e : TypeId} {x y : Operand} {c : AV} {m by_ : Nat} {z : Value} {l : List α} {k : IntKind} {i : Int} (ht : P.underlying t = some (.slice e)) (hT : TI P e m by_ z) (hd : Nat.blt d n = true)
    (hx : oget fr x = some c) (hc : AsSl c m (l.map enc)) (hy : oget fr y = some (.val (.int k i))) (h0 : 0 ≤ i) {el : α} (hi : l[i.toNat]? = some el) (hK : K ((d, .ip (enc el).cells) :: fr) Hs) :
    AOp P J n ⟨some d, .indexAddr t x y, ty, ps, af, g⟩ K Φ fr Hs :=
  rIdxS ht hT hd hx hc hy h0 (by rw [List.getElem?_map, hi]; rfl) hK
theorem rSliceM {α : Type} {enc : α → AV} {t e : TypeId} {x : Operand} {lo hi : Option Operand} {c : AV} {m by_ : Nat} {z : Value} {xs : List α} {l h : Nat} (ht : P.underlying t = some (.slice e)) (hT : TI P e m by_ z) (hd : Nat.blt d n = true)
    (hx : oget fr x = some c) (hc : AsSl c m (xs.map enc))
    (hlo : match lo with | none => l = 0 | some y => ∃ k, oget fr y = some (.val (.int k (l : Int)))) (hhi : match hi with | none => h = xs.length | some y => ∃ k, oget fr y = some (.val (.int k (h : Int))))
    (h1 : l ≤ h) (h2 : h ≤ xs.length) (hK : K ((d, .sl m (((xs.take h).drop l).map enc)) :: fr) Hs) :
    AOp P J n ⟨some d, .slice t x lo hi none, ty, ps, af, g⟩ K Φ fr Hs :=
  rSlice_ (l := l) (h := h) ht hT hd hx hc hlo (by cases hi <;> simpa using hhi) h1 (by simpa using h2) (by simpa [List.map_drop, List.map_take] using hK)
theorem rLenM {α : Type} {enc : α → AV} {x : Operand} {t : TypeId} {e : TypeId} {c : AV} {m : Nat} {xs : List α} (ht : P.underlying t = some (.slice e)) (hd : Nat.blt d n = true) (hx : oget fr x = some c) (hc : AsSl c m (xs.map enc))
    (hK : K ((d, .val (.int .i64 (xs.length : Int))) :: fr) Hs) : AOp P J n ⟨some d, .call ⟨.builtin .len, #[x], #[t]⟩, ty, ps, af, g⟩ K Φ fr Hs :=
  rLen ht hd hx hc (by simpa using hK)
end
end Go.Ab
