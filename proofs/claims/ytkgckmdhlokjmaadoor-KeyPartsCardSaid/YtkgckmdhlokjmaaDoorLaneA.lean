/-
  The lane, part A: a small calculus over the kit's 'Code.wp' and 'Calls': the frame is known by a short list of slots with their values, nothing else of it is kept.
  Generic in the program: nothing here speaks of a given program.
-/
import Derived.WalkKit
import Derived.Deep.Quiet
namespace Go.Lane

abbrev Slots := List (Nat × Value)

def look : Slots → Nat → Option Value
  | [], _ => none
  | (k, v) :: r, i => bif Nat.beq k i then some v else look r i

theorem look_cons (k : Nat) (v : Value) (r : Slots) (i : Nat) : look ((k, v) :: r) i = if k = i then some v else look r i := by
  simp only [look]
  by_cases h : k = i
  · subst h; simp
  · have : Nat.beq k i = false := by cases hb : Nat.beq k i with | false => rfl | true => exact (h (Nat.eq_of_beq_eq_true hb)).elim
    simp [this, h]

/-- The frame has 'n' slots, no deferred calls, and holds in its slots what 'E' says. -/
structure Env (n : Nat) (E : Slots) (a : Act) : Prop where
  size : a.tmps.size = n
  defers : a.defers = []
  get : ∀ i v, look E i = some v → a.tmps.getD i undef = v

def Sub : Slots → Slots → Prop
  | [], _ => True
  | (k, v) :: r, E => look E k = some v ∧ Sub r E

theorem Sub.look {E : Slots} : ∀ {F : Slots}, Sub F E → ∀ i v, look F i = some v → look E i = some v
  | [], _, i, v, h => by simp [Lane.look] at h
  | (k, u) :: r, h, i, v, hl => by
    rw [look_cons] at hl
    split at hl
    · rename_i hk; subst hk; cases hl; exact h.1
    · exact Sub.look h.2 i v hl

/-- What 'F' tells, 'E' tells. -/
def Le (F E : Slots) : Prop := ∀ i v, look F i = some v → look E i = some v
theorem Le.refl (E : Slots) : Le E E := fun _ _ h => h
theorem Le.skip {F E : Slots} {k : Nat} {v : Value} (hk : Lane.look F k = none) (h : Le F E) : Le F ((k, v) :: E) := fun i u hl => by
  rw [look_cons]
  split
  · rename_i hi; subst hi; rw [hk] at hl; cases hl
  · exact h i u hl
theorem Le.ofSub {F E : Slots} (h : Sub F E) : Le F E := fun i v hl => h.look i v hl
theorem Env.le {n : Nat} {E F : Slots} {a : Act} (h : Env n E a) (hs : Le F E) : Env n F a :=
  ⟨h.size, h.defers, fun i v hl => h.get i v (hs i v hl)⟩

theorem Env.sub {n : Nat} {E F : Slots} {a : Act} (h : Env n E a) (hs : Sub F E) : Env n F a :=
  ⟨h.size, h.defers, fun i v hl => h.get i v (hs.look i v hl)⟩

def ev (E : Slots) : Operand → Option Value
  | .tmp t => look E t
  | .const v => some v
  | .global g => some (.pointer (some ⟨g, 0, none⟩))
  | .func f => some (.func (.func f) #[] #[])

theorem Env.eval {n : Nat} {E : Slots} {a : Act} (h : Env n E a) {x : Operand} {v : Value} (hx : ev E x = some v) : a.eval x = v := by
  cases x with
  | tmp t => exact h.get t v hx
  | const v => simpa [ev, Act.eval] using hx
  | global g => simpa [ev, Act.eval] using hx
  | func f => simpa [ev, Act.eval] using hx

def upd (E : Slots) (d : Option Tmp) (v : Value) : Slots :=
  match d with
  | some d => (d, v) :: E
  | none => E

def fits (n : Nat) (d : Option Tmp) : Bool :=
  match d with
  | some d => Nat.blt d n
  | none => true

theorem Env.put {n : Nat} {E : Slots} {a : Act} (h : Env n E a) {d : Option Tmp} (hd : fits n d = true) (v : Value) : Env n (upd E d v) (a.put d v) := by
  cases d with
  | none => exact h
  | some d =>
    have hd' : d < n := by simpa [fits, Nat.blt_eq] using hd
    refine ⟨by simp [Act.put, h.size], h.defers, fun i u hl => ?_⟩
    simp only [upd, look_cons] at hl
    simp only [Act.put, Array.getD_eq_getD_getElem?, Array.getElem?_setIfInBounds]
    split at hl
    · rename_i hk; subst hk; cases hl
      simp [h.size, hd']
    · rename_i hk
      have := h.get i u hl
      rw [Array.getD_eq_getD_getElem?] at this
      simp [hk, this]

/-- What holds at an exit, the frame known by slots. -/
def lift (n : Nat) (Q : Exit → Slots → World → Prop) : Exit → Act → World → Prop :=
  fun e a w => ∃ E, Env n E a ∧ Q e E w

structure TC (P : Program) (n : Nat) (c : Code) (E : Slots) (w : World) (Q : Exit → Slots → World → Prop) : Prop where
  run : ∀ a, Env n E a → c.wp P (lift n Q) a w

def onNormal (n : Nat) (Q : Slots → World → Prop) : Exit → Act → World → Prop :=
  fun e a w => e = .normal ∧ ∃ E, Env n E a ∧ Q E w

structure TL (P : Program) (n : Nat) (ops : Array Oper) (l : List Oper) (E : Slots) (w : World) (Q : Slots → World → Prop) : Prop where
  run : ∀ a, Env n E a → wpList P ops (onNormal n Q) l a w

section
variable {P : Program} {n : Nat} {E : Slots} {w : World} {Q : Exit → Slots → World → Prop} {K : Slots → World → Prop}

theorem TC.mono {c : Code} {Q' : Exit → Slots → World → Prop} (h : TC P n c E w Q) (hq : ∀ e E w, Q e E w → Q' e E w) : TC P n c E w Q' :=
  ⟨fun a ha => wp_mono (h.run a ha) fun _ _ _ ⟨E', h1, h2⟩ => ⟨E', h1, hq _ _ _ h2⟩⟩

theorem TC.sub {c : Code} {F : Slots} (hs : Sub F E) (h : TC P n c F w Q) : TC P n c E w Q := ⟨fun a ha => h.run a (ha.sub hs)⟩

theorem TL.sub {ops : Array Oper} {l : List Oper} {F : Slots} (hs : Sub F E) (h : TL P n ops l F w K) : TL P n ops l E w K := ⟨fun a ha => h.run a (ha.sub hs)⟩

theorem TC.skip (h : Q .normal E w) : TC P n .skip E w Q := ⟨fun _ ha => wp_skip ⟨E, ha, h⟩⟩
theorem TC.exit {id : Nat} (h : Q (.exit id) E w) : TC P n (.exit id) E w Q := ⟨fun _ ha => wp_exit ⟨E, ha, h⟩⟩
theorem TC.ret (h : Q .ret E w) : TC P n .ret E w Q := ⟨fun _ ha => wp_ret ⟨E, ha, h⟩⟩

/-- Behind the first of two. -/
structure Thn (P : Program) (n : Nat) (y : Code) (Q : Exit → Slots → World → Prop) (e : Exit) (E : Slots) (w : World) : Prop where
  out : match e with | .normal => TC P n y E w Q | e => Q e E w

theorem Thn.go {y : Code} (h : TC P n y E w Q) : Thn P n y Q .normal E w := ⟨h⟩
theorem Thn.exit {y : Code} {id : Nat} (h : Q (.exit id) E w) : Thn P n y Q (.exit id) E w := ⟨h⟩
theorem Thn.ret {y : Code} (h : Q .ret E w) : Thn P n y Q .ret E w := ⟨h⟩

theorem TC.seq {x y : Code} (h : TC P n x E w (Thn P n y Q)) : TC P n (.seq x y) E w Q := ⟨fun a ha => by
  refine wp_seq (wp_mono (h.run a ha) fun e a' w' ⟨E', h1, h2⟩ => ?_)
  cases e with
  | normal => exact h2.out.run a' h1
  | exit id => exact ⟨E', h1, h2.out⟩
  | goto l => exact ⟨E', h1, h2.out⟩
  | ret => exact ⟨E', h1, h2.out⟩
  | panic ch => exact ⟨E', h1, h2.out⟩
  | outgrown => exact ⟨E', h1, h2.out⟩⟩

/-- At a block's end. -/
structure Blk (id : Nat) (Q : Exit → Slots → World → Prop) (e : Exit) (E : Slots) (w : World) : Prop where
  out : match e with | .exit i => if i = id then Q .normal E w else Q (.exit i) E w | e => Q e E w

theorem Blk.go {id : Nat} (h : Q .normal E w) : Blk id Q .normal E w := ⟨h⟩
theorem Blk.hit {id : Nat} (h : Q .normal E w) : Blk id Q (.exit id) E w := ⟨by simp [h]⟩
theorem Blk.miss {id i : Nat} (hi : Nat.beq i id = false) (h : Q (.exit i) E w) : Blk id Q (.exit i) E w := ⟨by
  have : i ≠ id := by intro e; subst e; simp at hi
  simp [this, h]⟩
theorem Blk.ret {id : Nat} (h : Q .ret E w) : Blk id Q .ret E w := ⟨h⟩

theorem TC.block {id : Nat} {x : Code} (h : TC P n x E w (Blk id Q)) : TC P n (.block id x) E w Q := ⟨fun a ha => by
  refine wp_block (wp_mono (h.run a ha) fun e a' w' ⟨E', h1, h2⟩ => ?_)
  have h2 := h2.out
  cases e with
  | normal => exact ⟨E', h1, h2⟩
  | exit i =>
    simp only [Exit.inBlock]
    by_cases hi : i = id
    · simp only [hi, if_true] at h2 ⊢; exact ⟨E', h1, h2⟩
    · simp only [hi, if_false] at h2 ⊢; exact ⟨E', h1, h2⟩
  | goto l => exact ⟨E', h1, h2⟩
  | ret => exact ⟨E', h1, h2⟩
  | panic ch => exact ⟨E', h1, h2⟩
  | outgrown => exact ⟨E', h1, h2⟩⟩

theorem TC.cond {c : Operand} {x y : Code} {t : Bool} (hc : ev E c = some (.bool t)) (ht : t = true → TC P n x E w Q) (hf : t = false → TC P n y E w Q) : TC P n (.cond c x y) E w Q :=
  ⟨fun a ha => wp_cond_split (ha.eval hc) (fun h => (ht h).run a ha) (fun h => (hf h).run a ha)⟩
theorem TC.condP {c : Operand} {x y : Code} {p : Prop} [Decidable p] (hc : ev E c = some (.bool (decide p))) (ht : p → TC P n x E w Q) (hf : ¬ p → TC P n y E w Q) : TC P n (.cond c x y) E w Q :=
  TC.cond hc (fun h => ht (of_decide_eq_true h)) (fun h => hf (of_decide_eq_false h))
theorem TC.condT {c : Operand} {x y : Code} {t : Bool} (hc : ev E c = some (.bool t)) (h : t = true) (ht : TC P n x E w Q) : TC P n (.cond c x y) E w Q :=
  TC.cond hc (fun _ => ht) (fun h' => by rw [h] at h'; cases h')
theorem TC.condF {c : Operand} {x y : Code} {t : Bool} (hc : ev E c = some (.bool t)) (h : t = false) (hf : TC P n y E w Q) : TC P n (.cond c x y) E w Q :=
  TC.cond hc (fun h' => by rw [h] at h'; cases h') (fun _ => hf)

/-- At a loop's round's end. -/
structure Lp {ι : Type} (A : ι → Slots) (H : ι → World → Prop) (μ : ι → Nat) (i : ι) (Q : Exit → Slots → World → Prop) (e : Exit) (E : Slots) (w : World) : Prop where
  out : match e with | .normal => ∃ j, Sub (A j) E ∧ H j w ∧ μ j < μ i | e => Q e E w

theorem Lp.go {ι : Type} {A : ι → Slots} {H : ι → World → Prop} {μ : ι → Nat} {i : ι} (j : ι) (h1 : Sub (A j) E) (h2 : H j w) (h3 : μ j < μ i) : Lp A H μ i Q .normal E w := ⟨⟨j, h1, h2, h3⟩⟩
theorem Lp.exit {ι : Type} {A : ι → Slots} {H : ι → World → Prop} {μ : ι → Nat} {i : ι} {id : Nat} (h : Q (.exit id) E w) : Lp A H μ i Q (.exit id) E w := ⟨h⟩
theorem Lp.ret {ι : Type} {A : ι → Slots} {H : ι → World → Prop} {μ : ι → Nat} {i : ι} (h : Q .ret E w) : Lp A H μ i Q .ret E w := ⟨h⟩

theorem TC.loop {ι : Type} (A : ι → Slots) (H : ι → World → Prop) (μ : ι → Nat) (i₀ : ι) {x : Code} (hs : Sub (A i₀) E) (h0 : H i₀ w)
    (round : ∀ i w, H i w → TC P n x (A i) w (Lp A H μ i Q)) : TC P n (.loop x) E w Q := ⟨fun a ha => by
  intro b k cs
  have key : ∀ m i, μ i = m → ∀ a w, Env n (A i) a → H i w →
      ∃ e a' w', lift n Q e a' w' ∧ Arrives P (lone (b.at a (.code x :: .inLoop x :: k)) cs w) b k cs e a' w' := by
    intro m
    induction m using Nat.strongRecOn with
    | _ m ih =>
      intro i hm a w ha hI
      obtain ⟨e, a₁, w₁, ⟨E₁, hE₁, hq⟩, harr⟩ := (round i w hI).run a ha b (.inLoop x :: k) cs
      have hq := hq.out
      cases e with
      | normal =>
        obtain ⟨j, hs, hI₁, hlt⟩ := hq
        obtain ⟨e₂, a₂, w₂, hq₂, harr₂⟩ := ih (μ j) (hm ▸ hlt) j rfl a₁ w₁ (hE₁.sub hs) hI₁
        exact ⟨e₂, a₂, w₂, hq₂, .of_steps (Steps.trans harr (.one step_inLoop)) harr₂⟩
      | exit id => exact ⟨_, a₁, w₁, ⟨E₁, hE₁, hq⟩, .pass (x := .inLoop x) rfl (fun _ _ => .inl (by simp)) harr⟩
      | goto l => exact ⟨_, a₁, w₁, ⟨E₁, hE₁, hq⟩, .pass (x := .inLoop x) rfl (fun _ _ => .inl (by simp)) harr⟩
      | ret => exact ⟨_, a₁, w₁, ⟨E₁, hE₁, hq⟩, .pass (x := .inLoop x) rfl (fun _ _ => .inl (by simp)) harr⟩
      | panic ch => exact ⟨_, a₁, w₁, ⟨E₁, hE₁, hq⟩, .pass (x := .inLoop x) rfl (fun _ _ => .inl (by simp)) harr⟩
      | outgrown => exact ⟨_, a₁, w₁, ⟨E₁, hE₁, hq⟩, .pass (x := .inLoop x) rfl (fun _ _ => .inl (by simp)) harr⟩
  obtain ⟨e, a', w', hq, harr⟩ := key _ i₀ rfl a w (ha.sub hs) h0
  exact ⟨e, a', w', hq, .of_steps (.one step_loop) harr⟩⟩

theorem TC.loop1 {ι : Type} (A : ι → Slots) (H : ι → World → Prop) (μ : ι → Nat) (i₀ : ι) {x : Code} (hs : Sub (A i₀) E) (h0 : H i₀ w)
    (round : ∀ i w, H i w → TC P n x (A i) w (Lp A H μ i Q)) : TC P n (.loop x) E w Q := TC.loop A H μ i₀ hs h0 round
theorem TC.loop2 {ι κ : Type} (A : ι → κ → Slots) (H : ι → κ → World → Prop) (μ : ι → κ → Nat) (i₀ : ι) (j₀ : κ) {x : Code} (hs : Sub (A i₀ j₀) E) (h0 : H i₀ j₀ w)
    (round : ∀ i j w, H i j w → TC P n x (A i j) w (Lp (fun p : ι × κ => A p.1 p.2) (fun p => H p.1 p.2) (fun p => μ p.1 p.2) (i, j) Q)) : TC P n (.loop x) E w Q :=
  TC.loop (fun p : ι × κ => A p.1 p.2) (fun p => H p.1 p.2) (fun p => μ p.1 p.2) (i₀, j₀) hs h0 fun p w h => round p.1 p.2 w h
theorem TC.loop3 {ι κ τ : Type} (A : ι → κ → τ → Slots) (H : ι → κ → τ → World → Prop) (μ : ι → κ → τ → Nat) (i₀ : ι) (j₀ : κ) (k₀ : τ) {x : Code} (hs : Sub (A i₀ j₀ k₀) E) (h0 : H i₀ j₀ k₀ w)
    (round : ∀ i j k w, H i j k w → TC P n x (A i j k) w (Lp (fun p : ι × κ × τ => A p.1 p.2.1 p.2.2) (fun p => H p.1 p.2.1 p.2.2) (fun p => μ p.1 p.2.1 p.2.2) (i, j, k) Q)) : TC P n (.loop x) E w Q :=
  TC.loop (fun p : ι × κ × τ => A p.1 p.2.1 p.2.2) (fun p => H p.1 p.2.1 p.2.2) (fun p => μ p.1 p.2.1 p.2.2) (i₀, j₀, k₀) hs h0 fun p w h => round p.1 p.2.1 p.2.2 w h
theorem TC.loop4 {ι κ τ ρ : Type} (A : ι → κ → τ → ρ → Slots) (H : ι → κ → τ → ρ → World → Prop) (μ : ι → κ → τ → ρ → Nat) (i₀ : ι) (j₀ : κ) (k₀ : τ) (l₀ : ρ) {x : Code} (hs : Sub (A i₀ j₀ k₀ l₀) E) (h0 : H i₀ j₀ k₀ l₀ w)
    (round : ∀ i j k l w, H i j k l w → TC P n x (A i j k l) w (Lp (fun p : ι × κ × τ × ρ => A p.1 p.2.1 p.2.2.1 p.2.2.2) (fun p => H p.1 p.2.1 p.2.2.1 p.2.2.2) (fun p => μ p.1 p.2.1 p.2.2.1 p.2.2.2) (i, j, k, l) Q)) : TC P n (.loop x) E w Q :=
  TC.loop (fun p : ι × κ × τ × ρ => A p.1 p.2.1 p.2.2.1 p.2.2.2) (fun p => H p.1 p.2.1 p.2.2.1 p.2.2.2) (fun p => μ p.1 p.2.1 p.2.2.1 p.2.2.2) (i₀, j₀, k₀, l₀) hs h0 fun p w h => round p.1 p.2.1 p.2.2.1 p.2.2.2 w h

/-- A meeting point: what holds behind 'x', said once, then 'y'. -/
theorem TC.cut {ι : Type} (A : ι → Slots) (H : ι → World → Prop) {x y : Code}
    (h1 : ∀ K : Slots → World → Prop, (∀ i E w, Sub (A i) E → H i w → K E w) → TC P n x E w (fun e E w => match e with | .normal => K E w | e => Thn P n y Q e E w))
    (h2 : ∀ i w, H i w → TC P n y (A i) w Q) : TC P n (.seq x y) E w Q :=
  TC.seq ((h1 (fun E w => TC P n y E w Q) (fun i _ _ hs hH => (h2 i _ hH).sub hs)).mono fun e _ _ hq => by
    cases e with
    | normal => exact ⟨hq⟩
    | _ => exact hq)

theorem TC.cut0 (A : Slots) (H : World → Prop) {x y : Code}
    (h1 : ∀ K : Slots → World → Prop, (∀ E w, Sub A E → H w → K E w) → TC P n x E w (fun e E w => match e with | .normal => K E w | e => Thn P n y Q e E w))
    (h2 : ∀ w, H w → TC P n y A w Q) : TC P n (.seq x y) E w Q := TC.cut (fun _ : Unit => A) (fun _ => H) (fun K hK => h1 K fun E w => hK () E w) (fun _ w h => h2 w h)
theorem TC.cut1 {ι : Type} (A : ι → Slots) (H : ι → World → Prop) {x y : Code}
    (h1 : ∀ K : Slots → World → Prop, (∀ i E w, Sub (A i) E → H i w → K E w) → TC P n x E w (fun e E w => match e with | .normal => K E w | e => Thn P n y Q e E w))
    (h2 : ∀ i w, H i w → TC P n y (A i) w Q) : TC P n (.seq x y) E w Q := TC.cut A H h1 h2
theorem TC.cut2 {ι κ : Type} (A : ι → κ → Slots) (H : ι → κ → World → Prop) {x y : Code}
    (h1 : ∀ K : Slots → World → Prop, (∀ i j E w, Sub (A i j) E → H i j w → K E w) → TC P n x E w (fun e E w => match e with | .normal => K E w | e => Thn P n y Q e E w))
    (h2 : ∀ i j w, H i j w → TC P n y (A i j) w Q) : TC P n (.seq x y) E w Q :=
  TC.cut (fun p : ι × κ => A p.1 p.2) (fun p => H p.1 p.2) (fun K hK => h1 K fun i j E w => hK (i, j) E w) (fun p w h => h2 p.1 p.2 w h)
theorem TC.cut3 {ι κ τ : Type} (A : ι → κ → τ → Slots) (H : ι → κ → τ → World → Prop) {x y : Code}
    (h1 : ∀ K : Slots → World → Prop, (∀ i j k E w, Sub (A i j k) E → H i j k w → K E w) → TC P n x E w (fun e E w => match e with | .normal => K E w | e => Thn P n y Q e E w))
    (h2 : ∀ i j k w, H i j k w → TC P n y (A i j k) w Q) : TC P n (.seq x y) E w Q :=
  TC.cut (fun p : ι × κ × τ => A p.1 p.2.1 p.2.2) (fun p => H p.1 p.2.1 p.2.2) (fun K hK => h1 K fun i j k E w => hK (i, j, k) E w) (fun p w h => h2 p.1 p.2.1 p.2.2 w h)

/-! ## Regions -/
theorem TC.region {id : Nat} {l : List Oper} (h : TL P n l.toArray l E w (fun E w => Q .normal E w)) : TC P n (.region id l.toArray false) E w Q := ⟨fun a ha =>
  wp_mono (wp_region_lit (h.run a ha)) fun e a' w' ⟨he, E', h1, h2⟩ => by subst he; exact ⟨E', h1, h2⟩⟩

variable {ops : Array Oper} {o : Oper} {rest : List Oper}

theorem TL.done (h : K E w) : TL P n ops [] E w K := ⟨fun _ ha => wpList_nil ⟨rfl, E, ha, h⟩⟩

theorem wanted_none (hg : o.guard = none) (y : Nat → Option Bool) : Region.wanted o y = true := by simp [Region.wanted, hg]

/-- An operation that yields a value. -/
theorem TL.op (hg : o.guard = none) (hd : fits n o.dst = true) (v : Value) (w' : World)
    (hrun : ∀ a, Env n E a → (execOp a.eval o).run P w = .ok (.value v) w') (h : TL P n ops rest (upd E o.dst v) w' K) : TL P n ops (o :: rest) E w K := ⟨fun a ha => by
  refine wpList_plain hg fun K' hK => ?_
  unfold Oper.wp
  rw [hrun a ha]
  exact hK _ _ (h.run _ (ha.put hd v))⟩

/-- An operation that yields nothing. -/
theorem TL.opSkip (hg : o.guard = none) (hd : o.dst = none) (w' : World)
    (hrun : ∀ a, Env n E a → (execOp a.eval o).run P w = .ok .skip w') (h : TL P n ops rest E w' K) : TL P n ops (o :: rest) E w K := ⟨fun a ha => by
  refine wpList_plain hg fun K' hK => ?_
  unfold Oper.wp
  rw [hrun a ha]
  refine hK _ _ (h.run _ ?_)
  rw [hd]; exact ha⟩

/-- A guard that says yes: as if it were not there. -/
theorem TL.guardYes {j : Nat} {t : Bool} {d : Tmp} {d' : Option Tmp} {op' : Op} {ty : TypeId} {pos : String} {aft : Array Edge} (hj : (ops[j]?).bind (·.dst) = some d) (hb : look E d = some (.bool t)) (hd : Nat.blt d n = true)
    (h : TL P n ops (⟨d', op', ty, pos, aft, none⟩ :: rest) E w K) : TL P n ops (⟨d', op', ty, pos, aft, some (j, t)⟩ :: rest) E w K := ⟨fun a ha => by
  have hy : yielded ops a.tmps j = some t := by
    have h1 := ha.get d _ hb
    have hdn : d < n := by simpa [Nat.blt_eq] using hd
    have h2 : a.tmps[d]? = some (.bool t) := by
      rw [Array.getD_eq_getD_getElem?, Array.getElem?_eq_getElem (by rw [ha.size]; exact hdn)] at h1
      rw [Array.getElem?_eq_getElem (by rw [ha.size]; exact hdn)]
      simpa using h1
    simp only [yielded, hj, Option.bind_some, h2]
  have h3 := h.run a ha
  unfold wpList at h3 ⊢
  have e1 : Region.wanted ⟨d', op', ty, pos, aft, some (j, t)⟩ (yielded ops a.tmps) = true := by simp [Region.wanted, hy]
  have e2 : Region.wanted ⟨d', op', ty, pos, aft, none⟩ (yielded ops a.tmps) = true := by simp [Region.wanted]
  rw [if_pos e1]
  rw [if_pos e2] at h3
  exact h3⟩

/-- A guard that says no: passed over. -/
theorem TL.guardNo {j : Nat} {t u : Bool} {d : Tmp} {d' : Option Tmp} {op' : Op} {ty : TypeId} {pos : String} {aft : Array Edge} (hj : (ops[j]?).bind (·.dst) = some d) (hb : look E d = some (.bool u)) (htu : (u == t) = false) (hd : Nat.blt d n = true) (hd' : fits n d' = true)
    (h : TL P n ops rest (upd E d' undef) w K) : TL P n ops (⟨d', op', ty, pos, aft, some (j, t)⟩ :: rest) E w K := ⟨fun a ha => by
  have hy : yielded ops a.tmps j = some u := by
    have h1 := ha.get d _ hb
    have hdn : d < n := by simpa [Nat.blt_eq] using hd
    have h2 : a.tmps[d]? = some (.bool u) := by
      rw [Array.getD_eq_getD_getElem?, Array.getElem?_eq_getElem (by rw [ha.size]; exact hdn)] at h1
      rw [Array.getElem?_eq_getElem (by rw [ha.size]; exact hdn)]
      simpa using h1
    simp only [yielded, hj, Option.bind_some, h2]
  unfold wpList
  have e1 : Region.wanted ⟨d', op', ty, pos, aft, some (j, t)⟩ (yielded ops a.tmps) = false := by
    cases u <;> cases t <;> simp_all [Region.wanted]
  rw [if_neg (by rw [e1]; simp)]
  exact h.run _ (ha.put hd' undef)⟩

/-- A guard whose own operation was passed over: passed over. -/
theorem TL.guardUndef {j : Nat} {t : Bool} {d : Tmp} {d' : Option Tmp} {op' : Op} {ty : TypeId} {pos : String} {aft : Array Edge} (hj : (ops[j]?).bind (·.dst) = some d) (hb : look E d = some undef) (hd : Nat.blt d n = true) (hd' : fits n d' = true)
    (h : TL P n ops rest (upd E d' undef) w K) : TL P n ops (⟨d', op', ty, pos, aft, some (j, t)⟩ :: rest) E w K := ⟨fun a ha => by
  have hy : yielded ops a.tmps j = none := by
    have h1 := ha.get d _ hb
    have hdn : d < n := by simpa [Nat.blt_eq] using hd
    have h2 : a.tmps[d]? = some undef := by
      rw [Array.getD_eq_getD_getElem?, Array.getElem?_eq_getElem (by rw [ha.size]; exact hdn)] at h1
      rw [Array.getElem?_eq_getElem (by rw [ha.size]; exact hdn)]
      simpa using h1
    simp only [yielded, hj, Option.bind_some, h2, undef]
  unfold wpList
  have e1 : Region.wanted ⟨d', op', ty, pos, aft, some (j, t)⟩ (yielded ops a.tmps) = false := by
    simp [Region.wanted, hy]
  rw [if_neg (by rw [e1]; simp)]
  exact h.run _ (ha.put hd' undef)⟩

theorem TL.em {p : Prop} [Decidable p] {d : Tmp} {l : List Oper} (h1 : p → TL P n ops l ((d, .bool true) :: E) w K) (h2 : ¬ p → TL P n ops l ((d, .bool false) :: E) w K) : TL P n ops l ((d, .bool (decide p)) :: E) w K := by
  by_cases hp : p
  · rw [decide_eq_true hp]; exact h1 hp
  · rw [decide_eq_false hp]; exact h2 hp
theorem TL.emB {b : Bool} {d : Tmp} {l : List Oper} (h1 : b = true → TL P n ops l ((d, .bool true) :: E) w K) (h2 : b = false → TL P n ops l ((d, .bool false) :: E) w K) : TL P n ops l ((d, .bool b) :: E) w K := by
  cases b
  · exact h2 rfl
  · exact h1 rfl
theorem TC.le {c : Code} {F : Slots} (hs : Le F E) (h : TC P n c F w Q) : TC P n c E w Q := ⟨fun a ha => h.run a (ha.le hs)⟩
theorem Le.here {F G : Slots} {d : Tmp} {b : Bool} {p : Prop} [Decidable p] (h1 : look G d = some (.bool b)) (h2 : decide p = b) (h : Le F G) : Le ((d, .bool (decide p)) :: F) G := fun i v hl => by
  rw [look_cons] at hl
  split at hl
  · rename_i hi; subst hi; cases hl; rw [h2]; exact h1
  · exact h i v hl
/-- What a region with guards tells of a truth, said once; the world is left alone. -/
theorem TC.regionBool {id : Nat} {l : List Oper} {d : Tmp} {p : Prop} [Decidable p] {y : Code}
    (h1 : ∀ K' : Slots → World → Prop, (∀ G, Le ((d, .bool (decide p)) :: E) G → K' G w) → TL P n l.toArray l E w K') (h2 : TC P n y ((d, .bool (decide p)) :: E) w Q) : TC P n (.seq (.region id l.toArray false) y) E w Q :=
  TC.seq (TC.region (h1 _ fun _ hs => ⟨h2.le hs⟩))

/-- The value of a whole region, said once. -/
theorem TL.said (F : Slots) (w' : World) {l : List Oper} (h1 : ∀ K' : Slots → World → Prop, (∀ G, Sub F G → K' G w') → TL P n ops l E w K') (h2 : ∀ G, Sub F G → K G w') : TL P n ops l E w K := h1 K h2

theorem TC.regionSaid {id : Nat} {l : List Oper} (F : Slots) (w' : World) (h1 : ∀ K' : Slots → World → Prop, (∀ G, Sub F G → K' G w') → TL P n l.toArray l E w K')
    {y : Code} (h2 : TC P n y F w' Q) : TC P n (.seq (.region id l.toArray false) y) E w Q :=
  TC.seq (TC.region (h1 _ fun _ hs => ⟨h2.sub hs⟩))

/-! ## Calls -/
def Callable (P : Program) (f : FuncId) : Prop := ∃ fn, P.funcs[f]? = some fn ∧ (fn.name == "runtime.NumGoroutine") = false ∧ fn.body.isNone = false

theorem run_callFunc {f : FuncId} (hf : Callable P f) (args : Array Value) (w : World) : (callFunc f args).run P w = .ok (.enter f args) w := by
  obtain ⟨fn, h1, h2, h3⟩ := hf
  have h2' : fn.name ≠ "runtime.NumGoroutine" := by simpa using h2
  have h3' : fn.body ≠ none := by intro e; rw [e] at h3; cases h3
  simp [callFunc, h1, h2', h3']

/-- What a call hands back, and what became of the world. -/
def Rets (P : Program) (f : FuncId) (args : Array Value) (w : World) (R : Value → World → Prop) : Prop :=
  Calls P f args w fun e w' => ∃ v, e = .returned v ∧ R v w'

theorem Rets.mono {f : FuncId} {args : Array Value} {R R' : Value → World → Prop} (h : Rets P f args w R) (hr : ∀ v w', R v w' → R' v w') : Rets P f args w R' :=
  Calls.mono h fun _ _ ⟨v, he, hR⟩ => ⟨v, he, hr _ _ hR⟩

def evs (E : Slots) : List Operand → Option (List Value)
  | [] => some []
  | x :: r => match ev E x, evs E r with
    | some v, some vs => some (v :: vs)
    | _, _ => none

theorem Env.evals {a : Act} (ha : Env n E a) : ∀ {xs : List Operand} {vs : List Value}, evs E xs = some vs → xs.map a.eval = vs
  | [], vs, h => by simp [evs] at h; simp [h]
  | x :: r, vs, h => by
    simp only [evs] at h
    split at h
    · rename_i v vs' h1 h2
      cases h
      simp [ha.eval h1, Env.evals ha h2]
    · cases h

theorem TL.enter {f : FuncId} {vs : Array Value} {w1 : World} {R : Value → World → Prop} (hg : o.guard = none) (hd : fits n o.dst = true)
    (hrun : ∀ a, Env n E a → (execOp a.eval o).run P w = .ok (.enter f vs) w1) (hc : Rets P f vs w1 R)
    (h : ∀ v w', R v w' → TL P n ops rest (upd E o.dst v) w' K) : TL P n ops (o :: rest) E w K := ⟨fun a ha => by
  refine wpList_plain hg fun K' hK => ?_
  unfold Oper.wp
  rw [hrun a ha, Oper.upon_enter]
  exact Calls.mono hc fun e w' ⟨v, he, hR⟩ => by subst he; exact hK _ _ ((h v w' hR).run _ (ha.put hd v))⟩

/-- A call of a named function. -/
theorem TL.call {f : FuncId} {xs : List Operand} {ts : Array TypeId} {vs : List Value} {R : Value → World → Prop} {d : Option Tmp} {ty : TypeId} {pos : String} {aft : Array Edge} (hf : Callable P f)
    (hxs : evs E xs = some vs) (hd : fits n d = true) (hc : Rets P f vs.toArray w R)
    (h : ∀ v w', R v w' → TL P n ops rest (upd E d v) w' K) : TL P n ops (⟨d, .call { callee := .value (.func f), args := xs.toArray, argTypes := ts }, ty, pos, aft, none⟩ :: rest) E w K :=
  TL.enter rfl hd (fun a ha => by
    have e := ha.evals hxs
    simp [execOp, resolve, Act.eval, Deferred.ofValue, invoke, run_callFunc hf, e]) hc h

/-- A call of a function value. -/
theorem TL.callVal {f : FuncId} {g : Operand} {first captured : Array Value} {xs : List Operand} {ts : Array TypeId} {vs : List Value} {R : Value → World → Prop} {d : Option Tmp} {ty : TypeId} {pos : String} {aft : Array Edge} (hf : Callable P f)
    (hgv : ev E g = some (.func (.func f) first captured)) (hxs : evs E xs = some vs) (hd : fits n d = true) (hc : Rets P f (first ++ vs.toArray ++ captured) w R)
    (h : ∀ v w', R v w' → TL P n ops rest (upd E d v) w' K) : TL P n ops (⟨d, .call { callee := .value g, args := xs.toArray, argTypes := ts }, ty, pos, aft, none⟩ :: rest) E w K :=
  TL.enter rfl hd (fun a ha => by
    have e := ha.evals hxs
    simp [execOp, resolve, ha.eval hgv, Deferred.ofValue, invoke, run_callFunc hf, e]) hc h

/-! ## A function's contract from its body -/
def start : Nat → List Value → Slots
  | _, [] => []
  | k, v :: r => (k, v) :: start (k + 1) r

theorem look_start : ∀ (vs : List Value) (k i : Nat) (v : Value), look (start k vs) i = some v → k ≤ i ∧ vs[i - k]? = some v
  | [], k, i, v, h => by simp [start, look] at h
  | u :: r, k, i, v, h => by
    rw [start, look_cons] at h
    split at h
    · rename_i hk; subst hk; cases h; simp
    · rename_i hk
      have := look_start r (k + 1) i v h
      refine ⟨by omega, ?_⟩
      have e : i - k = (i - (k + 1)) + 1 := by omega
      rw [e]; simpa using this.2

def oneOf : List Value → Value
  | [v] => v
  | vs => .tuple vs.toArray

def looks (E : Slots) : List Tmp → Option (List Value)
  | [] => some []
  | t :: r => match look E t, looks E r with
    | some v, some vs => some (v :: vs)
    | _, _ => none

/-- At a function's end. -/
structure Ends (P : Program) (n : Nat) (fn : Func) (R : Value → World → Prop) (e : Exit) (E : Slots) (w : World) : Prop where
  out : (e = .ret ∨ e = .normal) ∧ ∃ v, (∀ a, Env n E a → (results fn a.tmps).run P w = .ok v w) ∧ R v w

theorem looks_get {a : Act} (ha : Env n E a) : ∀ {ts : List Tmp} {vs : List Value}, looks E ts = some vs → ts.map (fun t => a.tmps.getD t undef) = vs
  | [], vs, h => by simp [looks] at h; simp [h]
  | t :: r, vs, h => by
    simp only [looks] at h
    split at h
    · rename_i v vs' h1 h2
      cases h
      rw [List.map_cons, looks_get ha h2, ha.get t v h1]
    · cases h

theorem run_results_tmps {fn : Func} {ts : List Tmp} (hr : fn.results = (ts.map ResultVar.tmp).toArray) (tmps : Array Value) (w : World) :
    (results fn tmps).run P w = .ok (oneOf (ts.map fun t => tmps.getD t undef)) w := by
  have key : ∀ ts : List Tmp, (ts.mapM fun t => (pure (tmps.getD t undef) : Sem Value)).run P w = .ok (ts.map fun t => tmps.getD t undef) w := by
    intro ts
    induction ts with
    | nil => simp
    | cons t r ih => simp only [List.mapM_cons, Sem.run_bind, Sem.run_pure, Result.andThen_ok, ih, List.map_cons]
  unfold results
  rw [hr]
  simp only [Array.mapM_eq_mapM_toList, List.mapM_map, Sem.run_bind, Sem.run_map]
  show ((Sem.run P (List.mapM (fun t => (pure (tmps.getD t undef) : Sem Value)) ts) w).andThen _).andThen _ = _
  rw [key]
  simp only [Result.andThen_ok, Sem.run_pure]
  match ts with
  | [] => simp [oneOf]
  | [t] => simp [oneOf]
  | t :: u :: r => simp [oneOf]

theorem Ends.ret {fn : Func} {R : Value → World → Prop} (ts : List Tmp) {vs : List Value} (hr : fn.results = (ts.map ResultVar.tmp).toArray) (h1 : looks E ts = some vs) (h2 : R (oneOf vs) w) : Ends P n fn R .ret E w :=
  ⟨.inl rfl, _, fun a ha => by rw [run_results_tmps hr, looks_get ha h1], h2⟩
theorem Ends.normal {fn : Func} {R : Value → World → Prop} (ts : List Tmp) {vs : List Value} (hr : fn.results = (ts.map ResultVar.tmp).toArray) (h1 : looks E ts = some vs) (h2 : R (oneOf vs) w) : Ends P n fn R .normal E w :=
  ⟨.inr rfl, _, fun a ha => by rw [run_results_tmps hr, looks_get ha h1], h2⟩

theorem env_start {vs : List Value} (h : vs.length ≤ n) : Env n (start 0 vs) { tmps := vs.toArray ++ Array.replicate (n - vs.length) undef, defers := [] } :=
  ⟨by simp; omega, rfl, fun i v hl => by
    have h2 := (look_start vs 0 i v hl).2
    have hi : i < vs.length := by
      rcases Nat.lt_or_ge i vs.length with h | h
      · exact h
      · rw [List.getElem?_eq_none (by omega)] at h2; cases h2
    rw [Array.getD_eq_getD_getElem?, Array.getElem?_append_left (by simpa using hi)]
    simp only [List.getElem?_toArray]
    rw [show vs[i]? = some v from by simpa using h2]
    rfl⟩

theorem Rets.of {f : FuncId} {fn : Func} {c : Code} {vs : List Value} {R : Value → World → Prop} (hf : P.funcs[f]? = some fn) (hb : fn.body = some c) (hn : fn.ntmps = n) (hle : Nat.ble vs.length n = true)
    (h : TC P n c (start 0 vs) w (Ends P n fn R)) : Rets P f vs.toArray w R := by
  refine calls_of_wp hf hb ?_
  have hle' : vs.length ≤ n := by simpa [Nat.ble_eq] using hle
  have := h.run _ (env_start hle')
  simp only [hn, List.size_toArray]
  refine wp_mono this fun e a w' ⟨E', hE, hq⟩ => ?_
  obtain ⟨he, v, hv, hR⟩ := hq.out
  rcases he with rfl | rfl
  · exact ⟨hE.defers, v, hv a hE, v, rfl, hR⟩
  · exact ⟨hE.defers, v, hv a hE, v, rfl, hR⟩

end
end Go.Lane
