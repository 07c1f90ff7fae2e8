/- Slots, resources and the judgement TK: a walk's state as two lists. Own work for this project; no program in sight. -/
import Derived.Test.YtfofkjajlfphjaaEngA
import Derived.WalkKit
import Derived.WalkSpells
import Derived.WalkLawsBesides
namespace Go.Proofs.Ytfofkjajlfphjaa
open Go Go.RowKit

/-! ## slots -/
abbrev Sl := List (Nat × Value)
def lk (t : Nat) : Sl → Option Value
  | [] => none
  | p :: l => bif Nat.beq t p.1 then some p.2 else lk t l
def ev (L : Sl) : Operand → Option Value
  | .tmp t => lk t L
  | .const v => some v
  | .global g => some (.pointer (some ⟨g, 0, none⟩))
  | .func f => some (.func (.func f) #[] #[])

structure Agr (n : Nat) (a : Act) (L : Sl) : Prop where
  df : a.defers = []
  sz : a.tmps.size = n
  at_ : ∀ t v, lk t L = some v → a.tmps[t]? = some v

theorem Agr.ev {n : Nat} {a : Act} {L : Sl} (h : Agr n a L) {x : Operand} {v : Value} (e : ev L x = some v) : a.eval x = v := by
  cases x with
  | tmp t => have := h.at_ t v e; simp [Act.eval, Array.getD_eq_getD_getElem?, this]
  | const u => simpa [Ytfofkjajlfphjaa.ev, Act.eval] using e
  | global g => simpa [Ytfofkjajlfphjaa.ev, Act.eval] using e
  | func f => simpa [Ytfofkjajlfphjaa.ev, Act.eval] using e

theorem Agr.put {n : Nat} {a : Act} {L : Sl} (h : Agr n a L) {d : Nat} (hd : Nat.blt d n = true) (v : Value) : Agr n (a.put (some d) v) ((d, v) :: L) := by
  have hd' : d < n := by simpa [Nat.blt_eq] using hd
  refine ⟨h.df, by simp [Act.put, h.sz], fun t u e => ?_⟩
  simp only [lk] at e
  by_cases c : t = d
  · subst c
    simp at e
    subst e
    simp [Act.put, h.sz, hd']
  · have : Nat.beq t d = false := by
      cases hb : Nat.beq t d with
      | false => rfl
      | true => exact absurd (Nat.eq_of_beq_eq_true hb) c
    rw [this] at e
    have := h.at_ t u e
    simp only [Act.put]
    rw [Array.getElem?_setIfInBounds_ne (fun e => c e.symm)]
    exact this
theorem Agr.putNone {n : Nat} {a : Act} {L : Sl} (h : Agr n a L) (v : Value) : Agr n (a.put none v) L := h
theorem Agr.sub {n : Nat} {a : Act} {L L' : Sl} (h : Agr n a L) (hs : ∀ t v, lk t L' = some v → lk t L = some v) : Agr n a L' := ⟨h.df, h.sz, fun t v e => h.at_ t v (hs t v e)⟩

/-- Every slot of L' stands so in L (asked slot by slot). -/
def subS (L : Sl) : Sl → Prop
  | [] => True
  | p :: l => lk p.1 L = some p.2 ∧ subS L l
theorem subS.lk {L : Sl} : ∀ {L' : Sl}, subS L L' → ∀ t v, lk t L' = some v → lk t L = some v
  | [], _, _, _, e => by simp [Ytfofkjajlfphjaa.lk] at e
  | p :: l, h, t, v, e => by
    simp only [Ytfofkjajlfphjaa.lk] at e
    cases hb : Nat.beq t p.1 with
    | true => rw [hb] at e; have := Nat.eq_of_beq_eq_true hb; subst this; simp at e; subst e; exact h.1
    | false => rw [hb] at e; exact subS.lk h.2 t v e

/-! ## worlds -/
/-- Of the blocks of w none has turned, but those of E; nothing has gone. -/
structure Fo (E : Nat → Prop) (w w' : World) : Prop where
  os : w'.os = w.os
  tape : w'.tape = w.tape
  output : w'.output = w.output
  size : w.heap.size ≤ w'.heap.size
  block : ∀ k, k < w.heap.size → ¬ E k → w'.heap[k]? = w.heap[k]?

theorem Fo.refl (E : Nat → Prop) (w : World) : Fo E w w := ⟨rfl, rfl, rfl, Nat.le_refl _, fun _ _ _ => rfl⟩
theorem Fo.trans {E E' : Nat → Prop} {w w1 w2 : World} (h : Fo E w w1) (h' : Fo E' w1 w2) (hE : ∀ k, E' k → E k ∨ w.heap.size ≤ k) : Fo E w w2 :=
  ⟨h'.os.trans h.os, h'.tape.trans h.tape, h'.output.trans h.output, Nat.le_trans h.size h'.size, fun k hk hn =>
    (h'.block k (Nat.lt_of_lt_of_le hk h.size) (fun e => by rcases hE k e with h1 | h1; exact hn h1; omega)).trans (h.block k hk hn)⟩
theorem Fo.mono {E E' : Nat → Prop} {w w' : World} (h : Fo E w w') (hE : ∀ k, E k → E' k) : Fo E' w w' := ⟨h.os, h.tape, h.output, h.size, fun k hk hn => h.block k hk (fun e => hn (hE k e))⟩
theorem Fo.below {w w' : World} (h : Fo (fun _ => False) w w') : Below w.heap.size w w' := ⟨h.os, h.tape, h.output, h.size, fun k hk => h.block k hk id⟩
theorem Fo.grown {w w' : World} {row : Option Nat} (h : w.grownBy w' row) : Fo (fun k => some k = row) w w' := ⟨h.os, h.tape, h.output, h.size, h.block⟩
theorem Fo.drew {E : Nat → Prop} {w w' : World} (h : Fo E w w') : Fo E w { w' with drawn := w'.drawn + 1 } := ⟨h.os, h.tape, h.output, h.size, h.block⟩
theorem Fo.cell {E : Nat → Prop} {w w' : World} (h : Fo E w w') {a : Addr} {v : Value} (hc : w.cell? a = some v) (hE : ¬ E a.block) : w'.cell? a = some v := by
  have hb := World.block_lt_of_cell? w a hc
  simpa [World.cell?, h.block a.block hb hE] using hc

/-- A piece of memory: the blocks that it speaks of, and what it says. -/
structure Res where
  fp : Nat → Prop
  holds : World → Prop
  loc : ∀ w w' : World, (∀ k, fp k → w'.heap[k]? = w.heap[k]?) → holds w → holds w'
  bnd : ∀ w : World, holds w → ∀ k, fp k → k < w.heap.size

def Hs (w : World) : List Res → Prop
  | [] => True
  | r :: H => r.holds w ∧ Hs w H
def Fs : List Res → Nat → Prop
  | [], _ => False
  | r :: H, k => r.fp k ∨ Fs H k
def Dj : List Res → Prop
  | [] => True
  | r :: H => (∀ k, r.fp k → ¬ Fs H k) ∧ Dj H

theorem Hs.mem {w : World} : ∀ {H : List Res}, Hs w H → ∀ r ∈ H, r.holds w
  | _ :: _, h, _, .head _ => h.1
  | _ :: _, h, r, .tail _ hm => Hs.mem h.2 r hm
theorem Fs.of_mem : ∀ {H : List Res} {r : Res}, r ∈ H → ∀ {k}, r.fp k → Fs H k
  | _ :: _, _, .head _, _, hk => .inl hk
  | _ :: _, _, .tail _ hm, _, hk => .inr (Fs.of_mem hm hk)
theorem Fs.bnd {w : World} : ∀ {H : List Res}, Hs w H → ∀ k, Fs H k → k < w.heap.size
  | [], _, _, hk => hk.elim
  | r :: _, h, k, .inl hk => r.bnd w h.1 k hk
  | _ :: _, h, k, .inr hk => Fs.bnd h.2 k hk
theorem Hs.loc {w w' : World} : ∀ {H : List Res}, (∀ k, Fs H k → w'.heap[k]? = w.heap[k]?) → Hs w H → Hs w' H
  | [], _, _ => trivial
  | r :: _, hl, h => ⟨r.loc w w' (fun k hk => hl k (.inl hk)) h.1, Hs.loc (fun k hk => hl k (.inr hk)) h.2⟩
theorem Hs.sub {w : World} : ∀ {H H' : List Res}, H'.Sublist H → Hs w H → Hs w H'
  | _, _, .slnil, h => h
  | _, _, .cons _ hs, h => Hs.sub hs h.2
  | _, _, .cons_cons _ hs, h => ⟨h.1, Hs.sub hs h.2⟩
theorem Fs.sub : ∀ {H H' : List Res}, H'.Sublist H → ∀ {k}, Fs H' k → Fs H k
  | _, _, .slnil, _, h => h
  | _, _, .cons _ hs, _, h => .inr (Fs.sub hs h)
  | _, _, .cons_cons _ hs, _, h => h.imp id (Fs.sub hs)
theorem Dj.sub : ∀ {H H' : List Res}, H'.Sublist H → Dj H → Dj H'
  | _, _, .slnil, h => h
  | _, _, .cons _ hs, h => Dj.sub hs h.2
  | _, _, .cons_cons _ hs, h => ⟨fun k hk hf => h.1 k hk (Fs.sub hs hf), Dj.sub hs h.2⟩

/-- What a walk stands in: the frame's size, the world at the call, the blocks that may turn. -/
structure Cx where
  n : Nat
  w0 : World
  E : Nat → Prop

structure St (c : Cx) (w : World) (H : List Res) : Prop where
  fr : Fo c.E c.w0 w
  hs : Hs w H
  dj : Dj H
  own : ∀ k, Fs H k → c.E k ∨ c.w0.heap.size ≤ k

theorem St.sub {c : Cx} {w : World} {H H' : List Res} (h : St c w H) (s : H'.Sublist H) : St c w H' := ⟨h.fr, h.hs.sub s, h.dj.sub s, fun k hk => h.own k (Fs.sub s hk)⟩
theorem St.drew {c : Cx} {w : World} {H : List Res} (h : St c w H) : St c { w with drawn := w.drawn + 1 } H := ⟨h.fr.drew, Hs.loc (w := w) (fun _ _ => rfl) h.hs, h.dj, h.own⟩
theorem St.mem {c : Cx} {w : World} {H : List Res} (h : St c w H) {r : Res} (hm : r ∈ H) : r.holds w := h.hs.mem r hm

/-- One piece is turned for others, in new memory or its own: all else stays. -/
theorem St.turn {c : Cx} {w w' : World} {H1 H2 : List Res} {r : Res} {N : List Res} (h : St c w (H1 ++ r :: H2)) (hf : Fo r.fp w w') (hN : Hs w' N) (hd : Dj N)
    (ho : ∀ k, Fs N k → r.fp k ∨ w.heap.size ≤ k) : St c w' (N ++ (H1 ++ H2)) := by
  have split : ∀ {A B : List Res} {k}, Fs (A ++ B) k ↔ Fs A k ∨ Fs B k := by
    intro A B k
    induction A with
    | nil => simp [Fs]
    | cons x A ih => simp [Fs, ih, or_assoc]
  have dsplit : ∀ {A B : List Res}, Dj (A ++ B) ↔ Dj A ∧ Dj B ∧ ∀ k, Fs A k → ¬ Fs B k := by
    intro A B
    induction A with
    | nil => simp [Fs, Dj]
    | cons x A ih =>
      simp only [List.cons_append, Dj, ih, Fs, split]
      constructor
      · rintro ⟨h1, h2, h3, h4⟩
        exact ⟨⟨fun k hk hf => h1 k hk (.inl hf), h2⟩, h3, fun k hk hf => hk.elim (fun hk => h1 k hk (.inr hf)) (fun hk => h4 k hk hf)⟩
      · rintro ⟨⟨h1, h2⟩, h3, h4⟩
        exact ⟨fun k hk hf => hf.elim (h1 k hk) (h4 k (.inl hk)), h2, h3, fun k hk => h4 k (.inr hk)⟩
  have hsplit : ∀ {A B : List Res} {w : World}, Hs w (A ++ B) ↔ Hs w A ∧ Hs w B := by
    intro A B w
    induction A with
    | nil => simp [Hs]
    | cons x A ih => simp [Hs, ih, and_assoc]
  obtain ⟨d1, ⟨d2, d3⟩, d4⟩ := dsplit.1 h.dj
  obtain ⟨s1, s2, s3⟩ := hsplit.1 h.hs
  have hlt : ∀ k, Fs (H1 ++ H2) k → k < w.heap.size := fun k hk => Fs.bnd (hsplit.2 ⟨s1, s3⟩) k hk
  have hno : ∀ k, Fs (H1 ++ H2) k → ¬ r.fp k := fun k hk hr => by
    rcases split.1 hk with h1 | h1
    · exact d4 k h1 (.inl hr)
    · exact d2 k hr h1
  refine ⟨h.fr.trans hf (fun k hk => h.own k (split.2 (.inr (.inl hk)))), hsplit.2 ⟨hN, Hs.loc (fun k hk => hf.block k (hlt k hk) (hno k hk)) (hsplit.2 ⟨s1, s3⟩)⟩, ?_, ?_⟩
  · refine dsplit.2 ⟨hd, dsplit.2 ⟨d1, d3, fun k h1 h2 => d4 k h1 (.inr h2)⟩, fun k hk hk' => ?_⟩
    rcases ho k hk with h1 | h1
    · exact hno k hk' h1
    · have := hlt k hk'; omega
  · intro k hk
    rcases split.1 hk with hk | hk
    · rcases ho k hk with h1 | h1
      · exact h.own k (split.2 (.inr (.inl h1)))
      · exact .inr (Nat.le_trans h.fr.size h1)
    · rcases split.1 hk with hk | hk
      · exact h.own k (split.2 (.inl hk))
      · exact h.own k (split.2 (.inr (.inr hk)))

/-- New memory beside all that is there. -/
theorem St.new {c : Cx} {w w' : World} {H N : List Res} (h : St c w H) (hf : Fo (fun _ => False) w w') (hN : Hs w' N) (hd : Dj N) (ho : ∀ k, Fs N k → w.heap.size ≤ k) : St c w' (N ++ H) := by
  let r : Res := ⟨fun _ => False, fun _ => True, fun _ _ _ _ => trivial, fun _ _ _ hk => hk.elim⟩
  have h' : St c w ([] ++ r :: H) := ⟨h.fr, ⟨trivial, h.hs⟩, ⟨fun _ hk => hk.elim, h.dj⟩, fun k hk => h.own k (hk.resolve_left id)⟩
  exact St.turn h' hf hN hd (fun k hk => .inr (ho k hk))

/-! ## the judgement -/
def TK (c : Cx) (K : Act → World → Prop) (L : Sl) (H : List Res) : Prop := ∀ a w, Agr c.n a L → St c w H → K a w

section
variable {c : Cx} {K K' : Act → World → Prop} {L L' : Sl} {H H' : List Res} {P : Program} {Q : Exit → Act → World → Prop}

theorem tk_mono (h : TK c K L H) (hk : ∀ a w, K a w → K' a w) : TK c K' L H := fun a w ha hw => hk a w (h a w ha hw)
/-- slots and pieces are forgotten -/
theorem tk_sub (L' : Sl) (H' : List Res) (hL : subS L L') (hH : H'.Sublist H) (h : TK c K L' H') : TK c K L H := fun a w ha hw => h a w (ha.sub hL.lk) (hw.sub hH)
theorem tk_subL (L' : Sl) (hL : subS L L') (h : TK c K L' H) : TK c K L H := fun a w ha hw => h a w (ha.sub hL.lk) hw

theorem tk_seq {x y : Code} (h : TK c (x.wp P (Exit.then (y.wp P Q) Q)) L H) : TK c ((Code.seq x y).wp P Q) L H := fun a w ha hw => wp_seq (h a w ha hw)
theorem tk_skip (h : TK c (Q .normal) L H) : TK c (Code.skip.wp P Q) L H := fun a w ha hw => wp_skip (h a w ha hw)
theorem tk_exit {id : Nat} (h : TK c (Q (.exit id)) L H) : TK c ((Code.exit id).wp P Q) L H := fun a w ha hw => wp_exit (h a w ha hw)
theorem tk_retc (h : TK c (Q .ret) L H) : TK c (Code.ret.wp P Q) L H := fun a w ha hw => wp_ret (h a w ha hw)
theorem tk_block {id : Nat} {x : Code} (h : TK c (x.wp P (Exit.inBlock id Q)) L H) : TK c ((Code.block id x).wp P Q) L H := fun a w ha hw => wp_block (h a w ha hw)
theorem tk_cond {x : Operand} {s t : Code} {b : Bool} (hx : ev L x = some (.bool b)) (ht : b = true → TK c (s.wp P Q) L H) (hf : b = false → TK c (t.wp P Q) L H) :
    TK c ((Code.cond x s t).wp P Q) L H := fun a w ha hw => by
  have hc := ha.ev hx
  cases b with
  | true => exact wp_cond hc (ht rfl a w ha hw)
  | false => exact wp_cond hc (hf rfl a w ha hw)
theorem tk_cond1 {x : Operand} {s t : Code} (hx : ev L x = some (.bool true)) (h : TK c (s.wp P Q) L H) : TK c ((Code.cond x s t).wp P Q) L H :=
  tk_cond hx (fun _ => h) (fun e => by cases e)
theorem tk_cond0 {x : Operand} {s t : Code} (hx : ev L x = some (.bool false)) (h : TK c (t.wp P Q) L H) : TK c ((Code.cond x s t).wp P Q) L H :=
  tk_cond hx (fun e => by cases e) (fun _ => h)
theorem tk_condP {x : Operand} {s t : Code} {p : Prop} [Decidable p] (hx : ev L x = some (.bool (decide p))) (ht : p → TK c (s.wp P Q) L H) (hf : ¬ p → TK c (t.wp P Q) L H) :
    TK c ((Code.cond x s t).wp P Q) L H := tk_cond hx (fun e => ht (of_decide_eq_true e)) (fun e => hf (of_decide_eq_false e))

theorem tk_then {nx : Act → World → Prop} (h : TK c nx L H) : TK c (Exit.then nx Q .normal) L H := h
theorem tk_then_exit {nx : Act → World → Prop} {id : Nat} (h : TK c (Q (.exit id)) L H) : TK c (Exit.then nx Q (.exit id)) L H := h
theorem tk_then_ret {nx : Act → World → Prop} (h : TK c (Q .ret) L H) : TK c (Exit.then nx Q .ret) L H := h
theorem tk_in_normal {id : Nat} (h : TK c (Q .normal) L H) : TK c (Exit.inBlock id Q .normal) L H := h
theorem tk_in_ret {id : Nat} (h : TK c (Q .ret) L H) : TK c (Exit.inBlock id Q .ret) L H := h
theorem tk_in_hit {id : Nat} (h : TK c (Q .normal) L H) : TK c (Exit.inBlock id Q (.exit id)) L H := fun a w ha hw => by simp only [Exit.inBlock, if_true]; exact h a w ha hw
theorem tk_in_miss {id i : Nat} (hne : Nat.beq i id = false) (h : TK c (Q (.exit i)) L H) : TK c (Exit.inBlock id Q (.exit i)) L H := fun a w ha hw => by
  have : i ≠ id := fun e => by rw [e] at hne; simp at hne
  simp only [Exit.inBlock, if_neg this]; exact h a w ha hw

theorem tk_region {id : Nat} {l : List Oper} (h : TK c (wpList P l.toArray Q l) L H) : TK c ((Code.region id l.toArray false).wp P Q) L H := fun a w ha hw => wp_region_lit (h a w ha hw)
theorem tk_nil {ops : Array Oper} (h : TK c (Q .normal) L H) : TK c (wpList P ops Q []) L H := h

/-- a loop: at each round's head the state is one of a family's; a number goes down -/
theorem tk_loop {X : Type} {body : Code} (I : X → Prop) (LI : X → Sl) (HI : X → List Res) (μ : X → Nat) (x0 : X) (hI : I x0) (hL : subS L (LI x0)) (hH : (HI x0).Sublist H)
    (round : ∀ x, I x → TK c (body.wp P (Exit.then (fun a w => ∃ y, I y ∧ μ y < μ x ∧ Agr c.n a (LI y) ∧ St c w (HI y)) Q)) (LI x) (HI x)) :
    TK c ((Code.loop body).wp P Q) L H := by
  intro a w ha hw b k cs
  have key : ∀ n x, μ x = n → I x → ∀ a w, Agr c.n a (LI x) → St c w (HI x) →
      ∃ e a' w', Q e a' w' ∧ Arrives P (lone (b.at a (.code body :: .inLoop body :: k)) cs w) b k cs e a' w' := by
    intro n
    induction n using Nat.strongRecOn with
    | _ n ih =>
      intro x hn hx a w ha hw
      obtain ⟨e, a₁, w₁, hq, harr⟩ := round x hx a w ha hw b (.inLoop body :: k) cs
      cases e with
      | normal =>
        obtain ⟨y, hy, hlt, ha1, hw1⟩ := hq
        obtain ⟨e₂, a₂, w₂, hq₂, harr₂⟩ := ih (μ y) (hn ▸ hlt) y rfl hy a₁ w₁ ha1 hw1
        exact ⟨e₂, a₂, w₂, hq₂, .of_steps (Steps.trans harr (.one step_inLoop)) harr₂⟩
      | exit id => exact ⟨_, a₁, w₁, hq, .pass (x := .inLoop body) rfl (fun _ _ => .inl (by simp)) harr⟩
      | goto l => exact ⟨_, a₁, w₁, hq, .pass (x := .inLoop body) rfl (fun _ _ => .inl (by simp)) harr⟩
      | ret => exact ⟨_, a₁, w₁, hq, .pass (x := .inLoop body) rfl (fun _ _ => .inl (by simp)) harr⟩
      | panic ch => exact ⟨_, a₁, w₁, hq, .pass (x := .inLoop body) rfl (fun _ _ => .inl (by simp)) harr⟩
      | outgrown => exact ⟨_, a₁, w₁, hq, .pass (x := .inLoop body) rfl (fun _ _ => .inl (by simp)) harr⟩
  obtain ⟨e, a', w', hq, harr⟩ := key _ x0 rfl hI a w (ha.sub hL.lk) (hw.sub hH)
  exact ⟨e, a', w', hq, .of_steps (.one step_loop) harr⟩
theorem tk_again {X : Type} {I : X → Prop} {LI : X → Sl} {HI : X → List Res} {m : Nat} {μ : X → Nat} (y : X) (hI : I y) (hm : μ y < m) (hL : subS L (LI y)) (hH : (HI y).Sublist H) :
    TK c (Exit.then (fun a w => ∃ y, I y ∧ μ y < m ∧ Agr c.n a (LI y) ∧ St c w (HI y)) Q .normal) L H := fun _ _ ha hw => ⟨y, hI, hm, ha.sub hL.lk, hw.sub hH⟩
end
end Go.Proofs.Ytfofkjajlfphjaa
