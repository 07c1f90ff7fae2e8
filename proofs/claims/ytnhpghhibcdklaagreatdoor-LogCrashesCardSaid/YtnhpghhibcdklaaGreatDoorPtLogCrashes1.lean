/- Texts of the claim LogCrashes, part 1 of 6: EngOne, EngTwo, SumPure, Names. Own work. -/
import Derived.Deep.AppendSrc
import Derived.Deep.Quiet
import Derived.KernelRfl
import Derived.Laws.BitsAllLaws
import Derived.Laws.BytesArg
import Derived.Laws.StructEq
import Derived.Lib.ConvBytes
import Derived.OpenShut
import Derived.Orders
import Derived.ProofKit
import Derived.Test.YtnhpghhibcdklaaGreatDoorProg
import Derived.WalkKit
import Derived.WalkLawsBesides
import Derived.WalkSpells
set_option linter.unusedSimpArgs false
set_option linter.unusedVariables false
/- Regions whose order is drawn: quiet operations may be taken first where a chosen condition on the world is kept. Own work for this project; no program in sight. -/
namespace Go.Proofs.YtnhpghhibcdklaaGreatDoor
/-- lengths, by reckoning -/
theorem lenP {p : Prop} (h : p := by first | omega | (simp only [List.length_map, List.length_append, List.length_take, List.length_drop, List.length_set, List.length_cons, List.length_nil, List.length_replicate]; omega) | (simp; done) | (simp; omega)) : p := h
open Go
section
variable {P : Program} {ops : Array Oper} {Q : Exit → Act → World → Prop} {S : World → Prop} {X : List Nat}

/-- Whatever comes up next; what is carried out keeps S, unless it is one of X. -/
def AnyX (P : Program) (ops : Array Oper) (Q : Exit → Act → World → Prop) (S : World → Prop) (X : List Nat) : Nat → Array Bool → Act → World → Prop
  | 0, l, a, w => Region.ready .any ops l = [] ∧ Q .normal a w
  | f + 1, l, a, w => (Region.ready .any ops l = [] → Q .normal a w) ∧
      ∀ i ∈ Region.ready .any ops l, wpOp P ops Q i (fun a' w' => (i ∈ X ∨ (S w → S w')) ∧ AnyX P ops Q S X f (l.setIfInBounds i true) a' w') a w

theorem AnyX.toAny : ∀ (f : Nat) (l : Array Bool) (a : Act) (w : World), AnyX P ops Q S X f l a w → wpAny P .any ops Q f l a w
  | 0, _, _, _, h => h
  | f + 1, _, _, _, h => ⟨h.1, fun i hi => wpOp_mono (fun _ _ h' => AnyX.toAny f _ _ _ h'.2) (h.2 i hi)⟩

/-- o leaves v, and nothing else, in every world that meets S0. -/
def YX (P : Program) (ops : Array Oper) (S0 : World → Prop) (o : Oper) (v : Value) (a : Act) : Prop :=
  (Region.wanted o (yielded ops a.tmps) = true ∧ ∀ w, S0 w → (execOp a.eval o).run P w = .ok (.value v) w) ∨
  (Region.wanted o (yielded ops a.tmps) = false ∧ v = undef)

theorem YX.op {S0 : World → Prop} {i : Nat} {o : Oper} {v : Value} {a : Act} (hi : ops[i]? = some o) (hy : YX P ops S0 o v a)
    {K : Act → World → Prop} {w : World} (hS : S0 w) (h : K (a.put o.dst v) w) : wpOp P ops Q i K a w := by
  unfold wpOp
  simp only [hi]
  rcases hy with ⟨hw, hv⟩ | ⟨hw, rfl⟩
  · simp only [hw, if_true, Oper.wp, hv w hS, Oper.upon]; exact .inl h
  · simp only [hw, Bool.false_eq_true, if_false]; exact h

theorem YX.same {S0 : World → Prop} {o : Oper} {v : Value} {a a' : Act} (hy : YX P ops S0 o v a) (he : execOp a'.eval o = execOp a.eval o)
    (hw : Region.wanted o (yielded ops a'.tmps) = Region.wanted o (yielded ops a.tmps)) : YX P ops S0 o v a' := by
  unfold YX at *
  rw [he, hw]
  exact hy

theorem op_past {S0 : World → Prop} {j : Nat} {oi oj : Oper} {v : Value} (hj : ops[j]? = some oj) (hap : oi.apart ops oj = true)
    (hsi : ∀ cs b, oi.op ≠ .select cs b) (hsj : ∀ cs b, oj.op ≠ .select cs b)
    (hQ : ∀ c a w, Q (.panic c) (a.put oi.dst v) w → Q (.panic c) a w) {K : Act → World → Prop} {a : Act} {w : World}
    (hy : YX P ops S0 oi v a) (h : wpOp P ops Q j K (a.put oi.dst v) w) :
    wpOp P ops Q j (fun a' w' => YX P ops S0 oi v a' ∧ K (a'.put oi.dst v) w') a w := by
  obtain ⟨h1, h2, h3⟩ := Oper.apart_spec hap
  have keep : ∀ (a : Act), YX P ops S0 oi v a → ∀ u, YX P ops S0 oi v (a.put oj.dst u) := fun a hy u =>
    hy.same (execOp_put oi hsi a oj.dst u h3) (wanted_put oi a oj.dst u h3)
  have keepD : ∀ d, YX P ops S0 oi v { a with defers := d :: a.defers } := fun d => hy.same rfl rfl
  unfold wpOp at *
  simp only [hj] at *
  rw [wanted_put oj a oi.dst v h1] at h
  split
  · rename_i hw
    simp only [hw, if_true] at h
    rcases h with h | ⟨hasks, hlets⟩
    case inr => exact .inr ⟨by unfold Oper.asks at *; rw [execOp_put oj hsj a oi.dst v h1] at hasks; exact hasks, hlets⟩
    refine .inl ?_
    unfold Oper.wp at *
    rw [execOp_put oj hsj a oi.dst v h1] at h
    generalize (execOp a.eval oj).run P w = r at *
    cases r with
    | ok n w' =>
      cases n <;> simp only [Oper.upon] at h ⊢
      case value u => exact ⟨keep a hy u, by rw [← Act.put_comm a v u h2]; exact h⟩
      case skip => exact ⟨keep a hy _, by rw [← Act.put_comm a v undef h2]; exact h⟩
      case defer d =>
        refine ⟨keep _ (keepD d) _, ?_⟩
        rw [← Act.put_comm _ v undef h2, ← Act.put_defers]
        exact h
      case enter f args =>
        refine Calls.mono h fun e w'' he => ?_
        cases e with
        | returned u => exact ⟨keep a hy u, by rw [← Act.put_comm a v u h2]; exact he⟩
        | panicked c => exact hQ _ _ _ he
        | outgrown => exact he
      case row row args => exact Rows.mono h fun u w'' he => ⟨keep a hy u, by rw [← Act.put_comm a v u h2]; exact he⟩
    | halt x w' =>
      cases x <;> simp only [Oper.upon] at h ⊢
      case panic u => exact hQ _ _ _ h
  · rename_i hw
    simp only [hw] at h
    exact ⟨keep a hy _, by rw [← Act.put_comm a v undef h2]; exact h⟩

/-- An operation that may come up now may be taken first. -/
theorem AnyX.first {S0 : World → Prop} {i : Nat} {oi : Oper} {v : Value} (hi : ops[i]? = some oi) (hsel : ∀ (j : Nat) (o : Oper) cs b, ops[j]? = some o → o.op ≠ .select cs b)
    (hQ : ∀ c a w, Q (.panic c) (a.put oi.dst v) w → Q (.panic c) a w)
    (hS0 : (∀ w, S0 w) ∨ (S0 = S ∧ ∀ j ∈ X, j ≠ i ∧ ∃ oj, ops[j]? = some oj ∧ ∃ e ∈ oj.after, Region.binds .any e = true ∧ e.on = i)) :
    ∀ (f : Nat) (l : Array Bool) (a : Act) (w : World),
      (∀ j oj, ops[j]? = some oj → j ≠ i → l.getD j true = false → (∀ e ∈ oj.after, Region.binds .any e = true → e.on ≠ i) → oi.apart ops oj = true) →
      i ∈ Region.ready .any ops l → YX P ops S0 oi v a → S0 w →
      AnyX P ops Q S X f (l.setIfInBounds i true) (a.put oi.dst v) w → AnyX P ops Q S X (f + 1) l a w := by
  intro f
  induction f with
  | zero =>
    intro l a w _ hr hy hS H
    refine ⟨fun h => (by rw [h] at hr; cases hr), fun j hj => ?_⟩
    by_cases hji : j = i
    · subst hji; exact hy.op hi hS ⟨.inr id, H⟩
    · have := ready_mono hj hji
      rw [H.1] at this
      cases this
  | succ f ih =>
    intro l a w hfree hr hy hS H
    refine ⟨fun h => (by rw [h] at hr; cases hr), fun j hj => ?_⟩
    by_cases hji : j = i
    · subst hji; exact hy.op hi hS ⟨.inr id, H⟩
    · have h1 := H.2 j (ready_mono hj hji)
      obtain ⟨hjun, oj, hoj, hall⟩ := mem_ready.1 hj
      have hnot : ∀ e ∈ oj.after, Region.binds .any e = true → e.on ≠ i := fun e he hb heq => by
        have h1 := hall e he hb
        have h0 := (mem_ready.1 hr).1
        rw [heq] at h1
        rcases Nat.lt_or_ge i l.size with h' | h'
        · simp [h'] at h0 h1; rw [h0] at h1; cases h1
        · simp [Array.getElem?_eq_none h'] at h1
      have h2 := op_past hoj (hfree j oj hoj hji hjun hnot) (fun cs b => hsel i oi cs b hi) (fun cs b => hsel j oj cs b hoj) hQ hy h1
      have hjX : (∀ w, S0 w) ∨ (S0 = S ∧ j ∉ X) := by
        rcases hS0 with h | ⟨h, hX⟩
        · exact .inl h
        · refine .inr ⟨h, fun hx => ?_⟩
          obtain ⟨_, oj', hoj', e, he, hb, heq⟩ := hX j hx
          rw [hoj] at hoj'; cases hoj'
          exact hnot e he hb heq
      have hfree' : ∀ k ok, ops[k]? = some ok → k ≠ i → (l.setIfInBounds j true).getD k true = false →
          (∀ e ∈ ok.after, Region.binds .any e = true → e.on ≠ i) → oi.apart ops ok = true := fun k ok hk hki hun hno => by
        refine hfree k ok hk hki ?_ hno
        cases hc : l.getD k true with
        | false => rfl
        | true =>
          by_cases hkj : j = k
          · subst hkj
            rcases Nat.lt_or_ge j l.size with h' | h'
            · simp [h'] at hun
            · simp [h'] at hun
          · rw [getD_set_ne true hkj] at hun; rw [hun] at hc; cases hc
      refine wpOp_mono (fun a' w' hh => ?_) h2
      obtain ⟨hy', hSj, H'⟩ := hh
      refine ⟨hSj, ?_⟩
      have hS0' : S0 w' := by
        rcases hjX with h | ⟨h, hx⟩
        · exact h w'
        · subst h; exact hSj.resolve_left hx hS
      refine ih (l.setIfInBounds j true) a' w' hfree' (ready_mono hr (fun e => hji e.symm)) hy' hS0' ?_
      have e : (l.setIfInBounds j true).setIfInBounds i true = (l.setIfInBounds i true).setIfInBounds j true := by
        rw [Array.setIfInBounds_comm]; exact hji
      rw [e]; exact H'
end
end Go.Proofs.YtnhpghhibcdklaaGreatDoor

/- Slots, resources and the judgement TK: a walk's state as two lists. Own work for this project; no program in sight. -/
namespace Go.Proofs.YtnhpghhibcdklaaGreatDoor
open Go Go.RowKit

/-! ## slots -/
abbrev Sl := List (Nat × Value)
noncomputable def lk (t : Nat) (L : Sl) : Option Value := List.rec (motive := fun _ => Option Value) none (fun p _ r => Prod.rec (motive := fun _ => Option Value) (fun i v => bif Nat.beq t i then some v else r) p) L
theorem lk_nil {t : Nat} : lk t [] = none := rfl
theorem lk_cons {t : Nat} {p : Nat × Value} {l : Sl} : lk t (p :: l) = bif Nat.beq t p.1 then some p.2 else lk t l := by cases p; rfl
noncomputable def ev (L : Sl) : Operand → Option Value
  | .tmp t => lk t L
  | .const v => some v
  | .global g => some (.pointer (some ⟨g, 0, none⟩))
  | .func f => some (.func (.func f) #[] #[])

structure Agr (n : Nat) (a : Act) (L : Sl) : Prop where
  df : a.defers = []
  sz : a.tmps.size = n
  at_ : ∀ t v, lk t L = some v → a.tmps[t]? = some v

theorem Agr.ev {n : Nat} {a : Act} {L : Sl} (h : Agr n a L) {x : Operand} {v : Value} (e : ev L x = some v) : a.eval x = v := by
  cases x with
  | tmp t => have := h.at_ t v e; simp [Act.eval, Array.getD_eq_getD_getElem?, this]
  | const u => simpa [YtnhpghhibcdklaaGreatDoor.ev, Act.eval] using e
  | global g => simpa [YtnhpghhibcdklaaGreatDoor.ev, Act.eval] using e
  | func f => simpa [YtnhpghhibcdklaaGreatDoor.ev, Act.eval] using e

theorem Agr.put {n : Nat} {a : Act} {L : Sl} (h : Agr n a L) {d : Nat} (hd : Nat.blt d n = true) (v : Value) : Agr n (a.put (some d) v) ((d, v) :: L) := by
  have hd' : d < n := by simpa [Nat.blt_eq] using hd
  refine ⟨h.df, by simp [Act.put, h.sz], fun t u e => ?_⟩
  simp only [lk_cons] at e
  by_cases c : t = d
  · subst c
    simp at e
    subst e
    simp [Act.put, h.sz, hd']
  · have : Nat.beq t d = false := by
      cases hb : Nat.beq t d with
      | false => rfl
      | true => exact absurd (Nat.eq_of_beq_eq_true hb) c
    rw [this] at e
    have := h.at_ t u e
    simp only [Act.put]
    rw [Array.getElem?_setIfInBounds_ne (fun e => c e.symm)]
    exact this
theorem Agr.putNone {n : Nat} {a : Act} {L : Sl} (h : Agr n a L) (v : Value) : Agr n (a.put none v) L := h
theorem Agr.sub {n : Nat} {a : Act} {L L' : Sl} (h : Agr n a L) (hs : ∀ t v, lk t L' = some v → lk t L = some v) : Agr n a L' := ⟨h.df, h.sz, fun t v e => h.at_ t v (hs t v e)⟩

/-- Every slot of L' stands so in L (asked slot by slot). -/
def subS (L : Sl) : Sl → Prop
  | [] => True
  | p :: l => lk p.1 L = some p.2 ∧ subS L l
theorem subS.lk {L : Sl} : ∀ {L' : Sl}, subS L L' → ∀ t v, lk t L' = some v → lk t L = some v
  | [], _, _, _, e => by simp [YtnhpghhibcdklaaGreatDoor.lk_nil] at e
  | p :: l, h, t, v, e => by
    simp only [YtnhpghhibcdklaaGreatDoor.lk_cons] at e
    cases hb : Nat.beq t p.1 with
    | true => rw [hb] at e; have := Nat.eq_of_beq_eq_true hb; subst this; simp at e; subst e; exact h.1
    | false => rw [hb] at e; exact subS.lk h.2 t v e

/-! ## worlds -/
/-- Of the blocks of w none has turned, but those of E; nothing has gone. -/
structure Fo (E : Nat → Prop) (w w' : World) : Prop where
  os : w'.os = w.os
  tape : w'.tape = w.tape
  output : w'.output = w.output
  size : w.heap.size ≤ w'.heap.size
  block : ∀ k, k < w.heap.size → ¬ E k → w'.heap[k]? = w.heap[k]?

theorem Fo.refl (E : Nat → Prop) (w : World) : Fo E w w := ⟨rfl, rfl, rfl, Nat.le_refl _, fun _ _ _ => rfl⟩
theorem Fo.trans {E E' : Nat → Prop} {w w1 w2 : World} (h : Fo E w w1) (h' : Fo E' w1 w2) (hE : ∀ k, E' k → E k ∨ w.heap.size ≤ k) : Fo E w w2 :=
  ⟨h'.os.trans h.os, h'.tape.trans h.tape, h'.output.trans h.output, Nat.le_trans h.size h'.size, fun k hk hn =>
    (h'.block k (Nat.lt_of_lt_of_le hk h.size) (fun e => by rcases hE k e with h1 | h1; exact hn h1; omega)).trans (h.block k hk hn)⟩
theorem Fo.mono {E E' : Nat → Prop} {w w' : World} (h : Fo E w w') (hE : ∀ k, E k → E' k) : Fo E' w w' := ⟨h.os, h.tape, h.output, h.size, fun k hk hn => h.block k hk (fun e => hn (hE k e))⟩
theorem Fo.below {w w' : World} (h : Fo (fun _ => False) w w') : Below w.heap.size w w' := ⟨h.os, h.tape, h.output, h.size, fun k hk => h.block k hk id⟩
theorem Fo.grown {w w' : World} {row : Option Nat} (h : w.grownBy w' row) : Fo (fun k => some k = row) w w' := ⟨h.os, h.tape, h.output, h.size, h.block⟩
theorem Fo.drew {E : Nat → Prop} {w w' : World} (h : Fo E w w') : Fo E w { w' with drawn := w'.drawn + 1 } := ⟨h.os, h.tape, h.output, h.size, h.block⟩
theorem Fo.cell {E : Nat → Prop} {w w' : World} (h : Fo E w w') {a : Addr} {v : Value} (hc : w.cell? a = some v) (hE : ¬ E a.block) : w'.cell? a = some v := by
  have hb := World.block_lt_of_cell? w a hc
  simpa [World.cell?, h.block a.block hb hE] using hc

/-- A piece of memory: the blocks that it speaks of, and what it says. -/
structure Res where
  fp : Nat → Prop
  holds : World → Prop
  loc : ∀ w w' : World, (∀ k, fp k → w'.heap[k]? = w.heap[k]?) → holds w → holds w'
  bnd : ∀ w : World, holds w → ∀ k, fp k → k < w.heap.size

def Hs (w : World) : List Res → Prop
  | [] => True
  | r :: H => r.holds w ∧ Hs w H
def Fs : List Res → Nat → Prop
  | [], _ => False
  | r :: H, k => r.fp k ∨ Fs H k
def Dj : List Res → Prop
  | [] => True
  | r :: H => (∀ k, r.fp k → ¬ Fs H k) ∧ Dj H

theorem Hs.mem {w : World} : ∀ {H : List Res}, Hs w H → ∀ r ∈ H, r.holds w
  | _ :: _, h, _, .head _ => h.1
  | _ :: _, h, r, .tail _ hm => Hs.mem h.2 r hm
theorem Fs.of_mem : ∀ {H : List Res} {r : Res}, r ∈ H → ∀ {k}, r.fp k → Fs H k
  | _ :: _, _, .head _, _, hk => .inl hk
  | _ :: _, _, .tail _ hm, _, hk => .inr (Fs.of_mem hm hk)
theorem Fs.bnd {w : World} : ∀ {H : List Res}, Hs w H → ∀ k, Fs H k → k < w.heap.size
  | [], _, _, hk => hk.elim
  | r :: _, h, k, .inl hk => r.bnd w h.1 k hk
  | _ :: _, h, k, .inr hk => Fs.bnd h.2 k hk
theorem Hs.loc {w w' : World} : ∀ {H : List Res}, (∀ k, Fs H k → w'.heap[k]? = w.heap[k]?) → Hs w H → Hs w' H
  | [], _, _ => trivial
  | r :: _, hl, h => ⟨r.loc w w' (fun k hk => hl k (.inl hk)) h.1, Hs.loc (fun k hk => hl k (.inr hk)) h.2⟩
theorem Hs.sub {w : World} : ∀ {H H' : List Res}, H'.Sublist H → Hs w H → Hs w H'
  | _, _, .slnil, h => h
  | _, _, .cons _ hs, h => Hs.sub hs h.2
  | _, _, .cons_cons _ hs, h => ⟨h.1, Hs.sub hs h.2⟩
theorem Fs.sub : ∀ {H H' : List Res}, H'.Sublist H → ∀ {k}, Fs H' k → Fs H k
  | _, _, .slnil, _, h => h
  | _, _, .cons _ hs, _, h => .inr (Fs.sub hs h)
  | _, _, .cons_cons _ hs, _, h => h.imp id (Fs.sub hs)
theorem Dj.sub : ∀ {H H' : List Res}, H'.Sublist H → Dj H → Dj H'
  | _, _, .slnil, h => h
  | _, _, .cons _ hs, h => Dj.sub hs h.2
  | _, _, .cons_cons _ hs, h => ⟨fun k hk hf => h.1 k hk (Fs.sub hs hf), Dj.sub hs h.2⟩

/-- What a walk stands in: the frame's size, the world at the call, the blocks that may turn. -/
structure Cx where
  n : Nat
  w0 : World
  E : Nat → Prop

structure St (c : Cx) (w : World) (H : List Res) : Prop where
  fr : Fo c.E c.w0 w
  hs : Hs w H
  dj : Dj H
  own : ∀ k, Fs H k → c.E k ∨ c.w0.heap.size ≤ k

theorem St.sub {c : Cx} {w : World} {H H' : List Res} (h : St c w H) (s : H'.Sublist H) : St c w H' := ⟨h.fr, h.hs.sub s, h.dj.sub s, fun k hk => h.own k (Fs.sub s hk)⟩
theorem St.drew {c : Cx} {w : World} {H : List Res} (h : St c w H) : St c { w with drawn := w.drawn + 1 } H := ⟨h.fr.drew, Hs.loc (w := w) (fun _ _ => rfl) h.hs, h.dj, h.own⟩
theorem St.mem {c : Cx} {w : World} {H : List Res} (h : St c w H) {r : Res} (hm : r ∈ H) : r.holds w := h.hs.mem r hm

/-- One piece is turned for others, in new memory or its own: all else stays. -/
theorem St.turn {c : Cx} {w w' : World} {H1 H2 : List Res} {r : Res} {N : List Res} (h : St c w (H1 ++ r :: H2)) (hf : Fo r.fp w w') (hN : Hs w' N) (hd : Dj N)
    (ho : ∀ k, Fs N k → r.fp k ∨ w.heap.size ≤ k) : St c w' (N ++ (H1 ++ H2)) := by
  have split : ∀ {A B : List Res} {k}, Fs (A ++ B) k ↔ Fs A k ∨ Fs B k := by
    intro A B k
    induction A with
    | nil => simp [Fs]
    | cons x A ih => simp [Fs, ih, or_assoc]
  have dsplit : ∀ {A B : List Res}, Dj (A ++ B) ↔ Dj A ∧ Dj B ∧ ∀ k, Fs A k → ¬ Fs B k := by
    intro A B
    induction A with
    | nil => simp [Fs, Dj]
    | cons x A ih =>
      simp only [List.cons_append, Dj, ih, Fs, split]
      constructor
      · rintro ⟨h1, h2, h3, h4⟩
        exact ⟨⟨fun k hk hf => h1 k hk (.inl hf), h2⟩, h3, fun k hk hf => hk.elim (fun hk => h1 k hk (.inr hf)) (fun hk => h4 k hk hf)⟩
      · rintro ⟨⟨h1, h2⟩, h3, h4⟩
        exact ⟨fun k hk hf => hf.elim (h1 k hk) (h4 k (.inl hk)), h2, h3, fun k hk => h4 k (.inr hk)⟩
  have hsplit : ∀ {A B : List Res} {w : World}, Hs w (A ++ B) ↔ Hs w A ∧ Hs w B := by
    intro A B w
    induction A with
    | nil => simp [Hs]
    | cons x A ih => simp [Hs, ih, and_assoc]
  obtain ⟨d1, ⟨d2, d3⟩, d4⟩ := dsplit.1 h.dj
  obtain ⟨s1, s2, s3⟩ := hsplit.1 h.hs
  have hlt : ∀ k, Fs (H1 ++ H2) k → k < w.heap.size := fun k hk => Fs.bnd (hsplit.2 ⟨s1, s3⟩) k hk
  have hno : ∀ k, Fs (H1 ++ H2) k → ¬ r.fp k := fun k hk hr => by
    rcases split.1 hk with h1 | h1
    · exact d4 k h1 (.inl hr)
    · exact d2 k hr h1
  refine ⟨h.fr.trans hf (fun k hk => h.own k (split.2 (.inr (.inl hk)))), hsplit.2 ⟨hN, Hs.loc (fun k hk => hf.block k (hlt k hk) (hno k hk)) (hsplit.2 ⟨s1, s3⟩)⟩, ?_, ?_⟩
  · refine dsplit.2 ⟨hd, dsplit.2 ⟨d1, d3, fun k h1 h2 => d4 k h1 (.inr h2)⟩, fun k hk hk' => ?_⟩
    rcases ho k hk with h1 | h1
    · exact hno k hk' h1
    · have := hlt k hk'; omega
  · intro k hk
    rcases split.1 hk with hk | hk
    · rcases ho k hk with h1 | h1
      · exact h.own k (split.2 (.inr (.inl h1)))
      · exact .inr (Nat.le_trans h.fr.size h1)
    · rcases split.1 hk with hk | hk
      · exact h.own k (split.2 (.inl hk))
      · exact h.own k (split.2 (.inr (.inr hk)))

/-- New memory beside all that is there. -/
theorem St.new {c : Cx} {w w' : World} {H N : List Res} (h : St c w H) (hf : Fo (fun _ => False) w w') (hN : Hs w' N) (hd : Dj N) (ho : ∀ k, Fs N k → w.heap.size ≤ k) : St c w' (N ++ H) := by
  let r : Res := ⟨fun _ => False, fun _ => True, fun _ _ _ _ => trivial, fun _ _ _ hk => hk.elim⟩
  have h' : St c w ([] ++ r :: H) := ⟨h.fr, ⟨trivial, h.hs⟩, ⟨fun _ hk => hk.elim, h.dj⟩, fun k hk => h.own k (hk.resolve_left id)⟩
  exact St.turn h' hf hN hd (fun k hk => .inr (ho k hk))

/-! ## the judgement -/
def TK (c : Cx) (K : Act → World → Prop) (L : Sl) (H : List Res) : Prop := ∀ a w, Agr c.n a L → St c w H → K a w

section
variable {c : Cx} {K K' : Act → World → Prop} {L L' : Sl} {H H' : List Res} {P : Program} {Q : Exit → Act → World → Prop}

theorem tk_subL (L' : Sl) (hL : subS L L') (h : TK c K L' H) : TK c K L H := fun a w ha hw => h a w (ha.sub hL.lk) hw

theorem tk_seq {x y : Code} (h : TK c (x.wp P (Exit.then (y.wp P Q) Q)) L H) : TK c ((Code.seq x y).wp P Q) L H := fun a w ha hw => wp_seq (h a w ha hw)
theorem tk_skip (h : TK c (Q .normal) L H) : TK c (Code.skip.wp P Q) L H := fun a w ha hw => wp_skip (h a w ha hw)
theorem tk_exit {id : Nat} (h : TK c (Q (.exit id)) L H) : TK c ((Code.exit id).wp P Q) L H := fun a w ha hw => wp_exit (h a w ha hw)
theorem tk_retc (h : TK c (Q .ret) L H) : TK c (Code.ret.wp P Q) L H := fun a w ha hw => wp_ret (h a w ha hw)
theorem tk_block {id : Nat} {x : Code} (h : TK c (x.wp P (Exit.inBlock id Q)) L H) : TK c ((Code.block id x).wp P Q) L H := fun a w ha hw => wp_block (h a w ha hw)
theorem tk_cond {x : Operand} {s t : Code} {b : Bool} (hx : ev L x = some (.bool b)) (ht : b = true → TK c (s.wp P Q) L H) (hf : b = false → TK c (t.wp P Q) L H) :
    TK c ((Code.cond x s t).wp P Q) L H := fun a w ha hw => by
  have hc := ha.ev hx
  cases b with
  | true => exact wp_cond hc (ht rfl a w ha hw)
  | false => exact wp_cond hc (hf rfl a w ha hw)
theorem tk_cond1 {x : Operand} {s t : Code} (hx : ev L x = some (.bool true)) (h : TK c (s.wp P Q) L H) : TK c ((Code.cond x s t).wp P Q) L H :=
  tk_cond hx (fun _ => h) (fun e => by cases e)
theorem tk_cond0 {x : Operand} {s t : Code} (hx : ev L x = some (.bool false)) (h : TK c (t.wp P Q) L H) : TK c ((Code.cond x s t).wp P Q) L H :=
  tk_cond hx (fun e => by cases e) (fun _ => h)
theorem tk_condP {x : Operand} {s t : Code} {p : Prop} [Decidable p] (hx : ev L x = some (.bool (decide p))) (ht : p → TK c (s.wp P Q) L H) (hf : ¬ p → TK c (t.wp P Q) L H) :
    TK c ((Code.cond x s t).wp P Q) L H := tk_cond hx (fun e => ht (of_decide_eq_true e)) (fun e => hf (of_decide_eq_false e))

theorem tk_then {nx : Act → World → Prop} (h : TK c nx L H) : TK c (Exit.then nx Q .normal) L H := h
theorem tk_then_exit {nx : Act → World → Prop} {id : Nat} (h : TK c (Q (.exit id)) L H) : TK c (Exit.then nx Q (.exit id)) L H := h
theorem tk_then_ret {nx : Act → World → Prop} (h : TK c (Q .ret) L H) : TK c (Exit.then nx Q .ret) L H := h
theorem tk_in_normal {id : Nat} (h : TK c (Q .normal) L H) : TK c (Exit.inBlock id Q .normal) L H := h
theorem tk_in_ret {id : Nat} (h : TK c (Q .ret) L H) : TK c (Exit.inBlock id Q .ret) L H := h
theorem tk_in_hit {id : Nat} (h : TK c (Q .normal) L H) : TK c (Exit.inBlock id Q (.exit id)) L H := fun a w ha hw => by simp only [Exit.inBlock, if_true]; exact h a w ha hw
theorem tk_in_miss {id i : Nat} (hne : Nat.beq i id = false) (h : TK c (Q (.exit i)) L H) : TK c (Exit.inBlock id Q (.exit i)) L H := fun a w ha hw => by
  have : i ≠ id := fun e => by rw [e] at hne; simp at hne
  simp only [Exit.inBlock, if_neg this]; exact h a w ha hw

theorem tk_region {id : Nat} {l : List Oper} (h : TK c (wpList P l.toArray Q l) L H) : TK c ((Code.region id l.toArray false).wp P Q) L H := fun a w ha hw => wp_region_lit (h a w ha hw)
theorem tk_nil {ops : Array Oper} (h : TK c (Q .normal) L H) : TK c (wpList P ops Q []) L H := h

/-- a loop: at each round's head the state is one of a family's; a number goes down -/
theorem tk_loop {X : Type} {body : Code} (I : X → Prop) (LI : X → Sl) (HI : X → List Res) (μ : X → Nat) (x0 : X) (hI : I x0) (hL : subS L (LI x0)) (hH : (HI x0).Sublist H)
    (round : ∀ x, I x → TK c (body.wp P (Exit.then (fun a w => ∃ y, I y ∧ μ y < μ x ∧ Agr c.n a (LI y) ∧ St c w (HI y)) Q)) (LI x) (HI x)) :
    TK c ((Code.loop body).wp P Q) L H := by
  intro a w ha hw b k cs
  have key : ∀ n x, μ x = n → I x → ∀ a w, Agr c.n a (LI x) → St c w (HI x) →
      ∃ e a' w', Q e a' w' ∧ Arrives P (lone (b.at a (.code body :: .inLoop body :: k)) cs w) b k cs e a' w' := by
    intro n
    induction n using Nat.strongRecOn with
    | _ n ih =>
      intro x hn hx a w ha hw
      obtain ⟨e, a₁, w₁, hq, harr⟩ := round x hx a w ha hw b (.inLoop body :: k) cs
      cases e with
      | normal =>
        obtain ⟨y, hy, hlt, ha1, hw1⟩ := hq
        obtain ⟨e₂, a₂, w₂, hq₂, harr₂⟩ := ih (μ y) (hn ▸ hlt) y rfl hy a₁ w₁ ha1 hw1
        exact ⟨e₂, a₂, w₂, hq₂, .of_steps (Steps.trans harr (.one step_inLoop)) harr₂⟩
      | exit id => exact ⟨_, a₁, w₁, hq, .pass (x := .inLoop body) rfl (fun _ _ => .inl (by simp)) harr⟩
      | goto l => exact ⟨_, a₁, w₁, hq, .pass (x := .inLoop body) rfl (fun _ _ => .inl (by simp)) harr⟩
      | ret => exact ⟨_, a₁, w₁, hq, .pass (x := .inLoop body) rfl (fun _ _ => .inl (by simp)) harr⟩
      | panic ch => exact ⟨_, a₁, w₁, hq, .pass (x := .inLoop body) rfl (fun _ _ => .inl (by simp)) harr⟩
      | outgrown => exact ⟨_, a₁, w₁, hq, .pass (x := .inLoop body) rfl (fun _ _ => .inl (by simp)) harr⟩
  obtain ⟨e, a', w', hq, harr⟩ := key _ x0 rfl hI a w (ha.sub hL.lk) (hw.sub hH)
  exact ⟨e, a', w', hq, .of_steps (.one step_loop) harr⟩
theorem tk_again {X : Type} {I : X → Prop} {LI : X → Sl} {HI : X → List Res} {m : Nat} {μ : X → Nat} (y : X) (hI : I y) (hm : μ y < m) (hL : subS L (LI y)) (hH : (HI y).Sublist H) :
    TK c (Exit.then (fun a w => ∃ y, I y ∧ μ y < m ∧ Agr c.n a (LI y) ∧ St c w (HI y)) Q .normal) L H := fun _ _ ha hw => ⟨y, hI, hm, ha.sub hL.lk, hw.sub hH⟩
end
end Go.Proofs.YtnhpghhibcdklaaGreatDoor

/- What each quiet operation leaves, and the steps of a walk over them. Own work for this project; no program in sight. -/
namespace Go.Proofs.YtnhpghhibcdklaaGreatDoor
open Go Go.RowKit

abbrev I (n : Int) : Value := .int .i64 n
abbrev B (b : UInt8) : Value := .int .u8 (b.toNat : Int)
abbrev W4 (x : UInt32) : Value := .int .u32 (x.toNat : Int)
abbrev Str (l : List UInt8) : Value := .string ⟨l.toArray⟩
abbrev IN (n : Nat) : Value := .int .i64 (n : Int)
abbrev PT (b : Nat) : Value := .pointer (some ⟨b, 0, none⟩)
abbrev bo (b : Bool) : Value := .bool b

/-- o leaves v and nothing else, whatever the frame and the world (that meet L and S) -/
def Y (P : Program) (n : Nat) (S : World → Prop) (L : Sl) (o : Oper) (v : Value) : Prop :=
  ∀ a w, Agr n a L → S w → (execOp a.eval o).run P w = .ok (.value v) w

section
variable {P : Program} {n : Nat} {S : World → Prop} {L : Sl} {dst : Option Tmp} {rty : TypeId} {pos : String} {af : Array Edge} {gd : Option (Nat × Bool)}
  {t t' : TypeId} {x y z : Operand} {v u : Value}

theorem Y.cast {o : Oper} (h : Y P n S L o v) (e : v = u) : Y P n S L o u := e ▸ h
theorem Y.weak {S' : World → Prop} {o : Oper} (h : Y P n S L o v) (e : ∀ w, S' w → S w) : Y P n S' L o v := fun a w ha hs => h a w ha (e w hs)

theorem y_move (hx : ev L x = some v) : Y P n S L ⟨dst, .move x, rty, pos, af, gd⟩ v := fun a w ha _ => by
  have := ha.ev hx; simp [execOp, this]
theorem y_assign (hx : ev L x = some v) : Y P n S L ⟨dst, .assign x, rty, pos, af, gd⟩ v := fun a w ha _ => by
  have := ha.ev hx; simp [execOp, this]
theorem y_pick1 (hx : ev L x = some (.bool true)) (hy : ev L y = some v) : Y P n S L ⟨dst, .pick x y z, rty, pos, af, gd⟩ v := fun a w ha _ => by
  have h1 := ha.ev hx; have h2 := ha.ev hy; simp [execOp, h1, h2, asBool]
theorem y_pick0 (hx : ev L x = some (.bool false)) (hz : ev L z = some v) : Y P n S L ⟨dst, .pick x y z, rty, pos, af, gd⟩ v := fun a w ha _ => by
  have h1 := ha.ev hx; have h2 := ha.ev hz; simp [execOp, h1, h2, asBool]
theorem y_extract {vs : Array Value} {i : Nat} (hx : ev L x = some (.tuple vs)) (hi : vs[i]? = some v) : Y P n S L ⟨dst, .extract x i, rty, pos, af, gd⟩ v := fun a w ha _ => by
  have h1 := ha.ev hx; simp [execOp, h1, Instr.extract, hi]
theorem y_nilCheck {ad : Addr} (hx : ev L x = some (.pointer (some ad))) : Y P n S L ⟨dst, .nilCheck x, rty, pos, af, gd⟩ (.pointer (some ad)) := fun a w ha _ => by
  have h1 := ha.ev hx; simp [execOp, h1]

/-! ### numbers -/
theorem y_add {k : IntKind} {a b : Int} (hx : ev L x = some (.int k a)) (hy : ev L y = some (.int k b)) : Y P n S L ⟨dst, .binOp .add t x y t', rty, pos, af, gd⟩ (.int k (k.wrap (a + b))) := fun q w ha _ => by
  have h1 := ha.ev hx; have h2 := ha.ev hy; simp [execOp, h1, h2, eqGuard_add, binOp_add, Op.intArith]
theorem y_sub {k : IntKind} {a b : Int} (hx : ev L x = some (.int k a)) (hy : ev L y = some (.int k b)) : Y P n S L ⟨dst, .binOp .sub t x y t', rty, pos, af, gd⟩ (.int k (k.wrap (a - b))) := fun q w ha _ => by
  have h1 := ha.ev hx; have h2 := ha.ev hy; simp [execOp, h1, h2, eqGuard_sub, binOp_sub, Op.intArith]
theorem y_mul {k : IntKind} {a b : Int} (hx : ev L x = some (.int k a)) (hy : ev L y = some (.int k b)) : Y P n S L ⟨dst, .binOp .mul t x y t', rty, pos, af, gd⟩ (.int k (k.wrap (a * b))) := fun q w ha _ => by
  have h1 := ha.ev hx; have h2 := ha.ev hy; simp [execOp, h1, h2, eqGuard_mul, binOp_mul, Op.intArith]
theorem wrap_in {a : Int} (h0 : -9223372036854775808 ≤ a) (h1 : a ≤ 9223372036854775807) : IntKind.i64.wrap a = a := IntWalk.i64_in _ (by omega)
theorem y_addI {a b : Int} (hx : ev L x = some (I a)) (hy : ev L y = some (I b)) (h : -9223372036854775808 ≤ a + b ∧ a + b ≤ 9223372036854775807) :
    Y P n S L ⟨dst, .binOp .add t x y t', rty, pos, af, gd⟩ (I (a + b)) := (y_add hx hy).cast (by rw [wrap_in h.1 h.2])
theorem y_subI {a b : Int} (hx : ev L x = some (I a)) (hy : ev L y = some (I b)) (h : -9223372036854775808 ≤ a - b ∧ a - b ≤ 9223372036854775807) :
    Y P n S L ⟨dst, .binOp .sub t x y t', rty, pos, af, gd⟩ (I (a - b)) := (y_sub hx hy).cast (by rw [wrap_in h.1 h.2])
theorem y_mulI {a b : Int} (hx : ev L x = some (I a)) (hy : ev L y = some (I b)) (h : -9223372036854775808 ≤ a * b ∧ a * b ≤ 9223372036854775807) :
    Y P n S L ⟨dst, .binOp .mul t x y t', rty, pos, af, gd⟩ (I (a * b)) := (y_mul hx hy).cast (by rw [wrap_in h.1 h.2])
theorem y_quo {k : IntKind} {a b : Int} (hx : ev L x = some (.int k a)) (hy : ev L y = some (.int k b)) (h : b ≠ 0) : Y P n S L ⟨dst, .binOp .quo t x y t', rty, pos, af, gd⟩ (.int k (k.wrap (a.tdiv b))) := fun q w ha _ => by
  have h1 := ha.ev hx; have h2 := ha.ev hy; simp [execOp, h1, h2, eqGuard_quo, binOp_quo, Op.intDiv, h]
theorem y_rem {k : IntKind} {a b : Int} (hx : ev L x = some (.int k a)) (hy : ev L y = some (.int k b)) (h : b ≠ 0) : Y P n S L ⟨dst, .binOp .rem t x y t', rty, pos, af, gd⟩ (.int k (a.tmod b)) := fun q w ha _ => by
  have h1 := ha.ev hx; have h2 := ha.ev hy; simp [execOp, h1, h2, eqGuard_rem, binOp_rem, Op.intDiv, h]
theorem y_quoI {a b : Int} (hx : ev L x = some (I a)) (hy : ev L y = some (I b)) (h : 0 ≤ a ∧ a ≤ 9223372036854775807 ∧ 1 ≤ b) :
    Y P n S L ⟨dst, .binOp .quo t x y t', rty, pos, af, gd⟩ (I (a / b)) := (y_quo hx hy (by omega)).cast (by
      have e : a.tdiv b = a / b := Int.tdiv_eq_ediv_of_nonneg h.1
      have h1 : 0 ≤ a / b := Int.ediv_nonneg h.1 (by omega)
      have h2 : a / b ≤ a := Int.ediv_le_self _ h.1
      rw [e, wrap_in (by omega) (by omega)])
theorem y_remI {a b : Int} (hx : ev L x = some (I a)) (hy : ev L y = some (I b)) (h : 0 ≤ a ∧ 1 ≤ b) :
    Y P n S L ⟨dst, .binOp .rem t x y t', rty, pos, af, gd⟩ (I (a % b)) := (y_rem hx hy (by omega)).cast (by rw [Int.tmod_eq_emod_of_nonneg h.1])
theorem y_cmp {k : IntKind} {a b : Int} {op : BinOp} {r : Bool} (hx : ev L x = some (.int k a)) (hy : ev L y = some (.int k b))
    (h : Op.intCmp op a b = pure (.bool r)) (ho : op = .lss ∨ op = .leq ∨ op = .gtr ∨ op = .geq ∨ op = .eql ∨ op = .neq) : Y P n S L ⟨dst, .binOp op t x y t', rty, pos, af, gd⟩ (.bool r) := fun q w ha _ => by
  have h1 := ha.ev hx; have h2 := ha.ev hy
  have e : eqGuard op t x y (.int k a) (.int k b) = pure () := eqGuard_at_int op t x y _ k a
  rcases ho with rfl | rfl | rfl | rfl | rfl | rfl <;> simp [execOp, h1, h2, e, binOp, h]
theorem y_lss {k : IntKind} {a b : Int} (hx : ev L x = some (.int k a)) (hy : ev L y = some (.int k b)) : Y P n S L ⟨dst, .binOp .lss t x y t', rty, pos, af, gd⟩ (.bool (decide (a < b))) :=
  y_cmp hx hy rfl (by simp)
theorem y_leq {k : IntKind} {a b : Int} (hx : ev L x = some (.int k a)) (hy : ev L y = some (.int k b)) : Y P n S L ⟨dst, .binOp .leq t x y t', rty, pos, af, gd⟩ (.bool (decide (a ≤ b))) :=
  y_cmp hx hy rfl (by simp)
theorem y_gtr {k : IntKind} {a b : Int} (hx : ev L x = some (.int k a)) (hy : ev L y = some (.int k b)) : Y P n S L ⟨dst, .binOp .gtr t x y t', rty, pos, af, gd⟩ (.bool (decide (b < a))) :=
  y_cmp hx hy rfl (by simp)
theorem y_geq {k : IntKind} {a b : Int} (hx : ev L x = some (.int k a)) (hy : ev L y = some (.int k b)) : Y P n S L ⟨dst, .binOp .geq t x y t', rty, pos, af, gd⟩ (.bool (decide (b ≤ a))) :=
  y_cmp hx hy rfl (by simp)
theorem y_eql {k : IntKind} {a b : Int} (hx : ev L x = some (.int k a)) (hy : ev L y = some (.int k b)) : Y P n S L ⟨dst, .binOp .eql t x y t', rty, pos, af, gd⟩ (.bool (decide (a = b))) :=
  (y_cmp hx hy rfl (by simp)).cast (congrArg Value.bool (by rw [Bool.eq_iff_iff]; simp))
theorem y_neq {k : IntKind} {a b : Int} (hx : ev L x = some (.int k a)) (hy : ev L y = some (.int k b)) : Y P n S L ⟨dst, .binOp .neq t x y t', rty, pos, af, gd⟩ (.bool (decide (¬ a = b))) :=
  (y_cmp hx hy rfl (by simp)).cast (congrArg Value.bool (by rw [Bool.eq_iff_iff]; simp))
theorem bool_t {p : Prop} [Decidable p] (h : p) : Value.bool (decide p) = .bool true := by simp [h]
theorem bool_f {p : Prop} [Decidable p] (h : ¬ p) : Value.bool (decide p) = .bool false := by simp [h]
theorem y_not {b : Bool} (hx : ev L x = some (.bool b)) : Y P n S L ⟨dst, .unOp .not t x, rty, pos, af, gd⟩ (.bool (!b)) := fun q w ha _ => by
  have h1 := ha.ev hx; simp [execOp, h1, Op.unary]
theorem y_neg {k : IntKind} {a : Int} (hx : ev L x = some (.int k a)) : Y P n S L ⟨dst, .unOp .neg t x, rty, pos, af, gd⟩ (.int k (k.wrap (0 - a))) := fun q w ha _ => by
  have h1 := ha.ev hx; simp [execOp, h1, Op.unary, Op.intArith]
theorem y_bits {k : IntKind} {a b : Int} {op : BinOp} (hx : ev L x = some (.int k a)) (hy : ev L y = some (.int k b)) (ho : op = .and ∨ op = .or ∨ op = .xor) :
    Y P n S L ⟨dst, .binOp op t x y t', rty, pos, af, gd⟩ (.int k (bits op k a b)) := fun q w ha _ => by
  have h1 := ha.ev hx; have h2 := ha.ev hy
  rcases ho with rfl | rfl | rfl
  · simp [execOp, h1, h2, eqGuard_and, binOp_and, intBits_and]
  · simp [execOp, h1, h2, eqGuard_or, binOp_or, intBits_or]
  · simp [execOp, h1, h2, eqGuard_xor, binOp_xor, intBits_xor]
theorem y_shl {k k' : IntKind} {a b : Int} (hx : ev L x = some (.int k a)) (hy : ev L y = some (.int k' b)) (h : 0 ≤ b) :
    Y P n S L ⟨dst, .binOp .shl t x y t', rty, pos, af, gd⟩ (.int k (k.wrap (a * 2 ^ (min b.toNat k.bits)))) := fun q w ha _ => by
  have h1 := ha.ev hx; have h2 := ha.ev hy; have h3 : ¬ b < 0 := by omega
  simp [execOp, h1, h2, eqGuard_shl, binOp_shl, Op.shift, h3]
theorem y_shr {k k' : IntKind} {a b : Int} (hx : ev L x = some (.int k a)) (hy : ev L y = some (.int k' b)) (h : 0 ≤ b) :
    Y P n S L ⟨dst, .binOp .shr t x y t', rty, pos, af, gd⟩ (.int k (a.fdiv (2 ^ (min b.toNat k.bits)))) := fun q w ha _ => by
  have h1 := ha.ev hx; have h2 := ha.ev hy; have h3 : ¬ b < 0 := by omega
  simp [execOp, h1, h2, eqGuard_shr, binOp_shr, Op.shift, h3]
theorem y_conv {k k' : IntKind} {a : Int} (hx : ev L x = some (.int k' a)) (hs : (P.underlying t).isSome = true) (hd : P.underlying t' = some (.int k)) :
    Y P n S L ⟨dst, .convert t t' x, rty, pos, af, gd⟩ (.int k (k.wrap a)) := fun q w ha _ => by
  have h1 := ha.ev hx
  obtain ⟨d, hd'⟩ := Option.isSome_iff_exists.1 hs
  simp [execOp, h1, convert, underlying, hd, hd', Conv.intToInt]

/-! ### places -/
def scB (P : Program) (t : TypeId) : Bool := match P.underlying t with
  | some (.struct _) | some (.array ..) | none => false
  | some _ => true
theorem scB_run {w : World} (h : scB P t = true) : (isAgg t).run P w = .ok false w := by
  unfold scB at h
  cases e : P.underlying t with
  | none => rw [e] at h; simp at h
  | some d => rw [e] at h; cases d <;> simp_all [isAgg, underlying]
theorem y_load {ad : Addr} (hx : ev L x = some (.pointer (some ad))) (ht : scB P t = true) (hc : ∀ w, S w → w.cell? ad = some v) :
    Y P n S L ⟨dst, .load t x, rty, pos, af, gd⟩ v := fun q w ha hs => by
  have h1 := ha.ev hx
  simp [execOp, h1, Instr.loadAt, Instr.sureAddr, loadVar, scB_run ht, hc w hs]
/-- a type whose values lie in several cells -/
def agB (P : Program) (t : TypeId) (k : Nat) : Bool := (match P.underlying t with
  | some (.struct _) | some (.array ..) => true
  | _ => false) && (match P.info? t with | some i => Nat.beq i.size k | none => false)
theorem agB_run {k : Nat} {w : World} (h : agB P t k = true) : (isAgg t).run P w = .ok true w ∧ (Go.sizeOf t).run P w = .ok k w := by
  unfold agB at h
  rw [Bool.and_eq_true] at h
  obtain ⟨h1, h2⟩ := h
  constructor
  · cases e : P.underlying t with
    | none => rw [e] at h1; simp at h1
    | some d => rw [e] at h1; cases d <;> simp_all [isAgg, underlying]
  · cases e : P.info? t with
    | none => rw [e] at h2; simp at h2
    | some i => rw [e] at h2; have := Nat.eq_of_beq_eq_true h2; simp [Go.sizeOf, typeInfo, e, this]
theorem y_loadA {ad : Addr} (k : Nat) {vs : List Value} (hx : ev L x = some (.pointer (some ad))) (ht : agB P t k = true) (hk : vs.length = k) (hc : ∀ w, S w → ∀ j u, vs[j]? = some u → w.cell? (ad.add j) = some u) :
    Y P n S L ⟨dst, .load t x, rty, pos, af, gd⟩ (.agg vs.toArray) := fun q w ha hs => by
  have h1 := ha.ev hx
  have := run_loadCells_list (P := P) (w := w) ad vs (hc w hs)
  rw [hk] at this
  simp [execOp, h1, Instr.loadAt, Instr.sureAddr, loadVar, (agB_run ht).1, (agB_run ht).2, this]
def fldB (P : Program) (t : TypeId) (f off : Nat) : Bool := match P.underlying t with
  | some (.struct fs) => (match fs[f]? with | some fd => Nat.beq fd.offset off && (match P.info? fd.type with | some i => !Nat.beq i.size 0 | none => false) | none => false)
  | _ => false
theorem y_fld {ad : Addr} {f off : Nat} (hx : ev L x = some (.pointer (some ad))) (ht : fldB P t f off = true) :
    Y P n S L ⟨dst, .fieldAddr t x f, rty, pos, af, gd⟩ (.pointer (some (ad.add off))) := fun q w ha hs => by
  have h1 := ha.ev hx
  unfold fldB at ht
  cases e : P.underlying t with
  | none => rw [e] at ht; simp at ht
  | some d =>
    rw [e] at ht
    cases d <;> simp at ht
    rename_i fs
    cases e2 : fs[f]? with
    | none => rw [e2] at ht; simp at ht
    | some fd =>
      rw [e2] at ht
      simp at ht
      obtain ⟨h2, h3⟩ := ht
      cases e3 : P.info? fd.type with
      | none => rw [e3] at h3; simp at h3
      | some i =>
        rw [e3] at h3
        have h3' : ¬ i.size = 0 := fun e => by simp [e] at h3
        simp [execOp, h1, Instr.fieldAt, Instr.sureAddr, underlying, e, e2, fieldPlace, Go.sizeOf, typeInfo, e3, h3', h2]
/-- an array type of so many elements of so many cells -/
def arrB (P : Program) (t : TypeId) (len sz : Nat) : Bool := match P.underlying t with
  | some (.array m e) => Nat.beq m len && (match P.info? e with | some i => Nat.beq i.size sz | none => false)
  | _ => false
def sliB (P : Program) (t : TypeId) (sz : Nat) : Bool := match P.underlying t with
  | some (.slice e) => (match P.info? e with | some i => Nat.beq i.size sz | none => false)
  | _ => false
theorem arrB_run {len sz : Nat} (h : arrB P t len sz = true) : ∃ e, P.underlying t = some (.array len e) ∧ ∀ w, (Go.sizeOf e).run P w = .ok sz w := by
  unfold arrB at h
  cases e : P.underlying t with
  | none => rw [e] at h; simp at h
  | some d =>
    rw [e] at h
    cases d <;> simp at h
    rename_i m el
    obtain ⟨rfl, h2⟩ := h
    cases e3 : P.info? el with
    | none => rw [e3] at h2; simp at h2
    | some i => rw [e3] at h2; simp at h2; exact ⟨el, rfl, fun w => by simp [Go.sizeOf, typeInfo, e3, h2]⟩
theorem sliB_run {sz : Nat} (h : sliB P t sz = true) : ∃ e, P.underlying t = some (.slice e) ∧ ∀ w, (Go.sizeOf e).run P w = .ok sz w := by
  unfold sliB at h
  cases e : P.underlying t with
  | none => rw [e] at h; simp at h
  | some d =>
    rw [e] at h
    cases d <;> simp at h
    rename_i el
    cases e3 : P.info? el with
    | none => rw [e3] at h; simp at h
    | some i => rw [e3] at h; simp at h; exact ⟨el, rfl, fun w => by simp [Go.sizeOf, typeInfo, e3, h]⟩
theorem y_ixA {ad : Addr} {i : Int} {k : IntKind} {len sz : Nat} (hx : ev L x = some (.pointer (some ad))) (hy : ev L y = some (.int k i)) (ht : arrB P t len sz = true) (hi : 0 ≤ i ∧ i < len) :
    Y P n S L ⟨dst, .indexAddr t x y, rty, pos, af, gd⟩ (.pointer (some (ad.add (i.toNat * sz)))) := fun q w ha hs => by
  have h1 := ha.ev hx; have h2 := ha.ev hy
  obtain ⟨e, he, hsz⟩ := arrB_run ht
  simp [execOp, h1, h2, Instr.indexAt, Instr.sureAddr, asIntOf, underlying, he, hi.1, hi.2, hsz]
theorem y_ixS {ad : Addr} {i : Int} {k : IntKind} {len cap sz : Nat} (hx : ev L x = some (.slice (some ad) len cap)) (hy : ev L y = some (.int k i)) (ht : sliB P t sz = true) (hi : 0 ≤ i ∧ i < len) :
    Y P n S L ⟨dst, .indexAddr t x y, rty, pos, af, gd⟩ (.pointer (some (ad.add (i.toNat * sz)))) := fun q w ha hs => by
  have h1 := ha.ev hx; have h2 := ha.ev hy
  obtain ⟨e, he, hsz⟩ := sliB_run ht
  simp [execOp, h1, h2, Instr.indexAt, asIntOf, underlying, he, hi.1, hi.2, hsz]
theorem y_lenS {ad : Option Addr} {len cap : Nat} {e : TypeId} (hx : ev L x = some (.slice ad len cap)) (ht : P.underlying t = some (.slice e)) :
    Y P n S L ⟨dst, .call { callee := .builtin .len, args := #[x], argTypes := #[t] }, rty, pos, af, gd⟩ (I len) := fun q w ha hs => by
  have h1 := ha.ev hx
  simp [execOp, resolve, h1, invoke, builtin, Builtin.len_, underlying, ht, goInt]
theorem y_lenT {s : ByteArray} (hx : ev L x = some (.string s)) (ht : P.underlying t = some .string) :
    Y P n S L ⟨dst, .call { callee := .builtin .len, args := #[x], argTypes := #[t] }, rty, pos, af, gd⟩ (I s.size) := fun q w ha hs => by
  have h1 := ha.ev hx
  simp [execOp, resolve, h1, invoke, builtin, Builtin.len_, underlying, ht, goInt]
theorem y_s2a {ad : Option Addr} {len cap m : Nat} {e : TypeId} (hx : ev L x = some (.slice ad len cap)) (ht : P.underlying t = some (.array m e)) (hm : m ≤ len) :
    Y P n S L ⟨dst, .sliceToArrayPointer t x, rty, pos, af, gd⟩ (.pointer ad) := fun q w ha hs => by
  have h1 := ha.ev hx
  have : ¬ len < m := by omega
  simp [execOp, h1, Instr.arrayAt, underlying, ht, this]
/-- a row of cells in the middle of a value -/
theorem y_ixV {cs : Array Value} {i : Int} {k : IntKind} {len : Nat} {e : TypeId} (hx : ev L x = some (.agg cs)) (hy : ev L y = some (.int k i)) (ht : P.underlying t = some (.array len e)) (he : scB P e = true) (hz : ∀ w, (Go.sizeOf e).run P w = .ok 1 w)
    (hi : 0 ≤ i ∧ i < len) (hv : cs[i.toNat]? = some v) : Y P n S L ⟨dst, .index t x y, rty, pos, af, gd⟩ v := fun q w ha hs => by
  have h1 := ha.ev hx; have h2 := ha.ev hy
  simp [execOp, h1, h2, Instr.index, asIntOf, underlying, ht, hi.1, hi.2, hz, part, scB_run he, hv]
/-- slices -/
theorem sliceBound_ok {k : IntKind} {i : Int} {m : Nat} {code : BoundsCode} {w : World} (h : 0 ≤ i ∧ i ≤ m) : (Instr.sliceBound (.int k i) m code).run P w = .ok i.toNat w := by
  simp [Instr.sliceBound, asIntOf, h.1, h.2]
/-- s[lo:hi] of a slice -/
def cutAd (ad : Option Addr) (lo cap sz : Nat) : Option Addr := if cap = lo then ad else ad.map (·.add (lo * sz))
theorem y_cutS {ad : Option Addr} {len cap sz : Nat} {k k' : IntKind} {lo hi : Int} {xl xh : Operand} (hx : ev L x = some (.slice ad len cap)) (hl : ev L xl = some (.int k lo)) (hh : ev L xh = some (.int k' hi))
    (ht : sliB P t sz = true) (hb : 0 ≤ lo ∧ lo ≤ hi ∧ hi ≤ cap) :
    Y P n S L ⟨dst, .slice t x (some xl) (some xh) none, rty, pos, af, gd⟩ (.slice (cutAd ad lo.toNat cap sz) (hi.toNat - lo.toNat) (cap - lo.toNat)) := fun q w ha hs => by
  have h1 := ha.ev hx; have h2 := ha.ev hl; have h3 := ha.ev hh
  obtain ⟨e, he, hsz⟩ := sliB_run ht
  have b1 : (Instr.sliceBound (.int k' hi) cap .sliceAcap).run P w = .ok hi.toNat w := sliceBound_ok (by omega)
  have b2 : (Instr.sliceBound (.int k lo) hi.toNat .sliceB).run P w = .ok lo.toNat w := sliceBound_ok (by omega)
  simp [execOp, h1, h2, h3, Instr.sliceAt, underlying, he, Instr.slice, Instr.sliceBounds, b1, b2, hsz, cutAd]
theorem y_cutSh {ad : Option Addr} {len cap sz : Nat} {k' : IntKind} {hi : Int} {xh : Operand} (hx : ev L x = some (.slice ad len cap)) (hh : ev L xh = some (.int k' hi))
    (ht : sliB P t sz = true) (hb : 0 ≤ hi ∧ hi ≤ cap) :
    Y P n S L ⟨dst, .slice t x none (some xh) none, rty, pos, af, gd⟩ (.slice ad hi.toNat cap) := fun q w ha hs => by
  have h1 := ha.ev hx; have h3 := ha.ev hh
  obtain ⟨e, he, hsz⟩ := sliB_run ht
  have b1 : (Instr.sliceBound (.int k' hi) cap .sliceAcap).run P w = .ok hi.toNat w := sliceBound_ok (by omega)
  simp [execOp, h1, h3, Instr.sliceAt, underlying, he, Instr.slice, Instr.sliceBounds, b1, hsz]
  cases ad <;> simp [Addr.add]
theorem y_cutSl {ad : Option Addr} {len cap sz : Nat} {k : IntKind} {lo : Int} {xl : Operand} (hx : ev L x = some (.slice ad len cap)) (hl : ev L xl = some (.int k lo))
    (ht : sliB P t sz = true) (hb : 0 ≤ lo ∧ lo ≤ len) :
    Y P n S L ⟨dst, .slice t x (some xl) none none, rty, pos, af, gd⟩ (.slice (cutAd ad lo.toNat cap sz) (len - lo.toNat) (cap - lo.toNat)) := fun q w ha hs => by
  have h1 := ha.ev hx; have h2 := ha.ev hl
  obtain ⟨e, he, hsz⟩ := sliB_run ht
  have b2 : (Instr.sliceBound (.int k lo) len .sliceB).run P w = .ok lo.toNat w := sliceBound_ok (by omega)
  simp [execOp, h1, h2, Instr.sliceAt, underlying, he, Instr.slice, Instr.sliceBounds, b2, hsz, cutAd]
/-- a[:] , a[lo:hi] of an array behind a pointer -/
theorem y_cutA {ad : Addr} {m : Nat} {sz : Nat} (hx : ev L x = some (.pointer (some ad))) (ht : arrB P t m sz = true) :
    Y P n S L ⟨dst, .slice t x none none none, rty, pos, af, gd⟩ (.slice (some ad) m m) := fun q w ha hs => by
  have h1 := ha.ev hx
  obtain ⟨e, he, hsz⟩ := arrB_run ht
  simp [execOp, h1, Instr.sliceAt, underlying, he, Instr.sureAddr, Instr.sliceBounds, hsz, Addr.add]
theorem y_cutAlh {ad : Addr} {m : Nat} {sz : Nat} {k k' : IntKind} {lo hi : Int} {xl xh : Operand} (hx : ev L x = some (.pointer (some ad))) (hl : ev L xl = some (.int k lo)) (hh : ev L xh = some (.int k' hi))
    (ht : arrB P t m sz = true) (hb : 0 ≤ lo ∧ lo ≤ hi ∧ hi ≤ m) :
    Y P n S L ⟨dst, .slice t x (some xl) (some xh) none, rty, pos, af, gd⟩ (.slice (cutAd (some ad) lo.toNat m sz) (hi.toNat - lo.toNat) (m - lo.toNat)) := fun q w ha hs => by
  have h1 := ha.ev hx; have h2 := ha.ev hl; have h3 := ha.ev hh
  obtain ⟨e, he, hsz⟩ := arrB_run ht
  have b1 : (Instr.sliceBound (.int k' hi) m .sliceAlen).run P w = .ok hi.toNat w := sliceBound_ok (by omega)
  have b2 : (Instr.sliceBound (.int k lo) hi.toNat .sliceB).run P w = .ok lo.toNat w := sliceBound_ok (by omega)
  simp [execOp, h1, h2, h3, Instr.sliceAt, underlying, he, Instr.sureAddr, Instr.sliceBounds, b1, b2, hsz, cutAd]
  split <;> rfl
theorem y_cutAh {ad : Addr} {m : Nat} {sz : Nat} {k' : IntKind} {hi : Int} {xh : Operand} (hx : ev L x = some (.pointer (some ad))) (hh : ev L xh = some (.int k' hi))
    (ht : arrB P t m sz = true) (hb : 0 ≤ hi ∧ hi ≤ m) :
    Y P n S L ⟨dst, .slice t x none (some xh) none, rty, pos, af, gd⟩ (.slice (some ad) hi.toNat m) := fun q w ha hs => by
  have h1 := ha.ev hx; have h3 := ha.ev hh
  obtain ⟨e, he, hsz⟩ := arrB_run ht
  have b1 : (Instr.sliceBound (.int k' hi) m .sliceAlen).run P w = .ok hi.toNat w := sliceBound_ok (by omega)
  simp [execOp, h1, h3, Instr.sliceAt, underlying, he, Instr.sureAddr, Instr.sliceBounds, b1, hsz, Addr.add]
theorem y_cutAl {ad : Addr} {m : Nat} {sz : Nat} {k : IntKind} {lo : Int} {xl : Operand} (hx : ev L x = some (.pointer (some ad))) (hl : ev L xl = some (.int k lo))
    (ht : arrB P t m sz = true) (hb : 0 ≤ lo ∧ lo ≤ m) :
    Y P n S L ⟨dst, .slice t x (some xl) none none, rty, pos, af, gd⟩ (.slice (cutAd (some ad) lo.toNat m sz) (m - lo.toNat) (m - lo.toNat)) := fun q w ha hs => by
  have h1 := ha.ev hx; have h2 := ha.ev hl
  obtain ⟨e, he, hsz⟩ := arrB_run ht
  have b2 : (Instr.sliceBound (.int k lo) m .sliceB).run P w = .ok lo.toNat w := sliceBound_ok (by omega)
  simp [execOp, h1, h2, Instr.sliceAt, underlying, he, Instr.sureAddr, Instr.sliceBounds, b2, hsz, cutAd]
  split <;> rfl
end

/-! ## the steps -/
section
variable {c : Cx} {L : Sl} {H : List Res} {P : Program} {Q : Exit → Act → World → Prop} {ops : Array Oper} {rest : List Oper} {o : Oper}

/-- a quiet operation without a guard -/
theorem tk_q {d : Nat} {v : Value} (hd : o.dst = some d) (hg : o.guard = none) (hn : Nat.blt d c.n = true) (hy : Y P c.n (fun w => St c w H) L o v)
    (h : TK c (wpList P ops Q rest) ((d, v) :: L) H) : TK c (wpList P ops Q (o :: rest)) L H := fun a w ha hw => by
  refine wpList_plain hg fun K hK => ?_
  unfold Oper.wp
  rw [hy a w ha hw, Oper.upon_value, hd]
  exact hK _ _ (h _ _ (ha.put hn v) hw)
/-- the same, its value told otherwise -/
theorem tk_qe {d : Nat} {v : Value} (v' : Value) (hd : o.dst = some d) (hg : o.guard = none) (hn : Nat.blt d c.n = true) (hy : Y P c.n (fun w => St c w H) L o v) (e : v = v')
    (h : TK c (wpList P ops Q rest) ((d, v') :: L) H) : TK c (wpList P ops Q (o :: rest)) L H := tk_q hd hg hn (hy.cast e) h
/-- any other operation without a guard: what its run does -/
theorem tk_act (hg : o.guard = none) (h : TK c (fun a w => o.wp P a w (wpList P ops Q rest) Q) L H) : TK c (wpList P ops Q (o :: rest)) L H := fun a w ha hw => by
  unfold wpList
  rw [if_pos (by simp [Region.wanted, hg])]
  exact .inl (h a w ha hw)
theorem wanted_of {a : Act} {j d : Nat} {b b' : Bool} {oj : Oper} (hg : o.guard = some (j, b)) (hj : ops[j]? = some oj) (hd : oj.dst = some d) (ha : Agr c.n a L) (hl : lk d L = some (.bool b')) :
    Region.wanted o (yielded ops a.tmps) = (b' == b) := by
  have := ha.at_ d _ hl
  have hy : yielded ops a.tmps j = some b' := by simp [yielded, hj, hd, this]
  simp only [Region.wanted, hg, hy]
  cases b <;> cases b' <;> rfl
/-- is a guarded operation carried out? -/
noncomputable def gdB (ops : Array Oper) (L : Sl) (o : Oper) : Option Bool := match o.guard with
  | none => some true
  | some (j, b) => match ops[j]? with
    | some oj => match oj.dst with
      | some d => match lk d L with
        | some (.bool b') => some (b' == b)
        | some (.tuple _) => some false
        | _ => none
      | none => none
    | none => none
theorem gdB_wanted {a : Act} {r : Bool} (h : gdB ops L o = some r) (ha : Agr c.n a L) : Region.wanted o (yielded ops a.tmps) = r := by
  unfold gdB at h
  cases hg : o.guard with
  | none => rw [hg] at h; simp at h; subst h; simp [Region.wanted, hg]
  | some p =>
    obtain ⟨j, b⟩ := p
    rw [hg] at h
    cases hj : ops[j]? with
    | none => simp [hj] at h
    | some oj =>
      cases hd : oj.dst with
      | none => simp [hj, hd] at h
      | some d =>
        cases hl : lk d L with
        | none => simp [hj, hd, hl] at h
        | some u =>
          cases u <;> simp [hj, hd, hl] at h
          case bool b' => subst h; exact wanted_of hg hj hd ha hl
          case tuple vs =>
            subst h
            have := ha.at_ d _ hl
            have hy : yielded ops a.tmps j = none := by simp [yielded, hj, hd, this]
            simp only [Region.wanted, hg, hy]
            rfl
/-- a guarded operation that is not carried out -/
theorem tk_gno {d : Nat} (hd : o.dst = some d) (hn : Nat.blt d c.n = true) (hg : gdB ops L o = some false)
    (h : TK c (wpList P ops Q rest) ((d, undef) :: L) H) : TK c (wpList P ops Q (o :: rest)) L H := fun a w ha hw => by
  unfold wpList
  rw [gdB_wanted hg ha, hd]
  exact h _ _ (ha.put hn _) hw
/-- a guarded quiet operation that is carried out -/
theorem tk_gq {d : Nat} {v : Value} (hd : o.dst = some d) (hn : Nat.blt d c.n = true) (hg : gdB ops L o = some true) (hy : Y P c.n (fun w => St c w H) L o v)
    (h : TK c (wpList P ops Q rest) ((d, v) :: L) H) : TK c (wpList P ops Q (o :: rest)) L H := fun a w ha hw => by
  unfold wpList
  rw [gdB_wanted hg ha]
  refine .inl ?_
  unfold Oper.wp
  rw [hy a w ha hw, Oper.upon_value, hd]
  exact h _ _ (ha.put hn v) hw
theorem tk_gact (hg : gdB ops L o = some true) (h : TK c (fun a w => o.wp P a w (wpList P ops Q rest) Q) L H) : TK c (wpList P ops Q (o :: rest)) L H := fun a w ha hw => by
  unfold wpList
  rw [gdB_wanted hg ha]
  exact .inl (h a w ha hw)
end
end Go.Proofs.YtnhpghhibcdklaaGreatDoor

/- Rows of cells as pieces; new memory, stores, calls, returns; a region whose order is drawn. Own work for this project; no program in sight. -/
namespace Go.Proofs.YtnhpghhibcdklaaGreatDoor
open Go Go.RowKit

/-! ## a row of cells -/
def nofr (fr : Nat × Nat) (n : Nat) : Prop := n ≤ fr.1 ∨ fr.2 = fr.1
/-- block b holds just these cells, none of them frozen -/
def cel (b : Nat) (cs : List Value) (T : TypeId) : Res where
  fp k := k = b
  holds w := ∃ fr, w.heap[b]? = some (.cells cs.toArray T fr) ∧ nofr fr cs.length
  loc w w' h := fun ⟨fr, h1, h2⟩ => ⟨fr, (h b rfl).trans h1, h2⟩
  bnd w := fun ⟨fr, h1, _⟩ k hk => by subst hk; exact (Array.getElem?_eq_some_iff.1 h1).1

theorem cel_cell {b : Nat} {cs : List Value} {T : TypeId} {w : World} (h : (cel b cs T).holds w) {o : Nat} {v : Value} (hi : cs[o]? = some v) : w.cell? ⟨b, o, none⟩ = some v := by
  obtain ⟨fr, h1, _⟩ := h
  simp [World.cell?, h1, hi]
theorem cel_free {b : Nat} {cs : List Value} {T : TypeId} {w : World} (h : (cel b cs T).holds w) {o : Nat} (hi : o < cs.length) : w.frozen? ⟨b, o, none⟩ = false := by
  obtain ⟨fr, h1, h2⟩ := h
  obtain ⟨lo, hi'⟩ := fr
  simp only [World.frozen?, h1]
  simp only [nofr] at h2
  rcases h2 with h2 | h2
  · have : ¬ lo ≤ o := by omega
    simp [this]
  · by_cases c : lo ≤ o
    · have : ¬ o < hi' := by omega
      simp [this]
    · simp [c]
section
variable {c : Cx} {L : Sl} {H : List Res} {b o : Nat} {cs : List Value} {T : TypeId} {v : Value}
theorem hc (hm : cel b cs T ∈ H) (hi : cs[o]? = some v) : ∀ w, St c w H → w.cell? ⟨b, o, none⟩ = some v := fun _ hw => cel_cell (hw.mem hm) hi
/-- memory that was there at the call and that nobody turns -/
theorem hro {ad : Addr} (h0 : c.w0.cell? ad = some v) (hE : ¬ c.E ad.block) : ∀ w, St c w H → w.cell? ad = some v := fun _ hw => hw.fr.cell h0 hE
theorem hcs {vs : List Value} (hm : cel b cs T ∈ H) (hi : (cs.drop o).take vs.length = vs) : ∀ w, St c w H → ∀ (j : Nat) (u : Value), vs[j]? = some u → w.cell? ((⟨b, o, none⟩ : Addr).add j) = some u := fun w hw j u hj => by
  have hl : j < vs.length := (List.getElem?_eq_some_iff.1 hj).1
  have e : cs[o + j]? = some u := by
    rw [← hi, List.getElem?_take, if_pos hl, List.getElem?_drop] at hj
    exact hj
  have := cel_cell (hw.mem hm) e
  cases j with
  | zero => simpa [Addr.add] using this
  | succ j => simpa [Addr.add] using this
end

/-! ## new memory -/
theorem St.alloc {c : Cx} {w : World} {H : List Res} (h : St c w H) (cs : Array Value) (T : TypeId) : St c { w with heap := w.heap.push (.cells cs T) } (cel w.heap.size cs.toList T :: H) := by
  have hf : Fo (fun _ => False) w { w with heap := w.heap.push (.cells cs T) } := ⟨rfl, rfl, rfl, by simp, fun k hk _ => by simp [Array.getElem?_push, Nat.ne_of_lt hk]⟩
  refine St.new (N := [cel w.heap.size cs.toList T]) h hf ⟨⟨(0, 0), by simp, .inr rfl⟩, trivial⟩ ⟨fun _ _ h => h, trivial⟩ ?_
  intro k hk
  rcases hk with hk | hk
  · cases hk; exact Nat.le_refl _
  · exact hk.elim

section
variable {c : Cx} {L : Sl} {H : List Res} {P : Program} {Q : Exit → Act → World → Prop} {K : Act → World → Prop}
  {d : Nat} {rty : TypeId} {pos : String} {af : Array Edge} {gd : Option (Nat × Bool)} {t : TypeId} {x y : Operand} {v : Value}

/-- a value is laid into a new variable -/
theorem a_box (hx : ev L x = some v) (hn : Nat.blt d c.n = true)
    (h : ∀ b, TK c K ((d, .pointer (some ⟨b, 0, none⟩)) :: L) (cel b v.cells.toList t :: H)) :
    TK c (fun a w => (⟨some d, .box t x, rty, pos, af, gd⟩ : Oper).wp P a w K Q) L H := fun a w ha hw => by
  have h1 := ha.ev hx
  have e : (execOp a.eval (⟨some d, .box t x, rty, pos, af, gd⟩ : Oper)).run P w = .ok (.value (.pointer (some ⟨w.heap.size, 0, none⟩))) { w with heap := w.heap.push (.cells v.cells t) } := by
    simp [execOp, h1, Instr.box, newVar, newRow]
  change Oper.upon P _ a K Q ((execOp a.eval _).run P w)
  rw [e, Oper.upon_value]
  exact h w.heap.size _ _ (ha.put hn _) (hw.alloc _ _)
theorem a_alloc {z : Value} (hz : (P.info? t).bind (·.zero) = some z) (hn : Nat.blt d c.n = true)
    (h : ∀ b, TK c K ((d, .pointer (some ⟨b, 0, none⟩)) :: L) (cel b z.cells.toList t :: H)) :
    TK c (fun a w => (⟨some d, .alloc t, rty, pos, af, gd⟩ : Oper).wp P a w K Q) L H := fun a w ha hw => by
  have e : (execOp a.eval (⟨some d, .alloc t, rty, pos, af, gd⟩ : Oper)).run P w = .ok (.value (.pointer (some ⟨w.heap.size, 0, none⟩))) { w with heap := w.heap.push (.cells z.cells t) } := by
    obtain ⟨i, hi, hz'⟩ := Option.bind_eq_some_iff.1 hz
    simp [execOp, Instr.alloc, zeroValue, typeInfo, hi, hz', newVar, newRow]
  change Oper.upon P _ a K Q ((execOp a.eval _).run P w)
  rw [e, Oper.upon_value]
  exact h w.heap.size _ _ (ha.put hn _) (hw.alloc _ _)

end

/-! ## pieces put together -/
theorem Fs_append {A B : List Res} {k : Nat} : Fs (A ++ B) k ↔ Fs A k ∨ Fs B k := by
  induction A with
  | nil => simp [Fs]
  | cons x A ih => simp [Fs, ih, or_assoc]
theorem Dj_append {A B : List Res} : Dj (A ++ B) ↔ Dj A ∧ Dj B ∧ ∀ k, Fs A k → ¬ Fs B k := by
  induction A with
  | nil => simp [Fs, Dj]
  | cons x A ih =>
    simp only [List.cons_append, Dj, ih, Fs, Fs_append]
    constructor
    · rintro ⟨h1, h2, h3, h4⟩
      exact ⟨⟨fun k hk hf => h1 k hk (.inl hf), h2⟩, h3, fun k hk hf => hk.elim (fun hk => h1 k hk (.inr hf)) (fun hk => h4 k hk hf)⟩
    · rintro ⟨⟨h1, h2⟩, h3, h4⟩
      exact ⟨fun k hk hf => hf.elim (h1 k hk) (h4 k (.inl hk)), h2, h3, fun k hk => h4 k (.inr hk)⟩
theorem Hs_append {A B : List Res} {w : World} : Hs w (A ++ B) ↔ Hs w A ∧ Hs w B := by
  induction A with
  | nil => simp [Hs]
  | cons x A ih => simp [Hs, ih, and_assoc]

theorem Fs_perm {A B : List Res} (p : A.Perm B) : ∀ k, Fs A k → Fs B k := by
  induction p with
  | nil => exact fun _ h => h
  | cons x _ ih => exact fun k h => h.imp id (ih k)
  | swap x y l => exact fun k h => by simp only [Fs] at *; rcases h with h | h | h <;> simp [h]
  | trans _ _ ih1 ih2 => exact fun k h => ih2 k (ih1 k h)
theorem Hs_perm {w : World} {A B : List Res} (p : A.Perm B) : Hs w A → Hs w B := by
  induction p with
  | nil => exact id
  | cons x _ ih => exact fun h => ⟨h.1, ih h.2⟩
  | swap x y l => exact fun h => ⟨h.2.1, h.1, h.2.2⟩
  | trans _ _ ih1 ih2 => exact fun h => ih2 (ih1 h)
theorem Dj_perm {A B : List Res} (p : A.Perm B) : Dj A → Dj B := by
  induction p with
  | nil => exact id
  | cons x q ih => exact fun h => ⟨fun k hk hf => h.1 k hk (Fs_perm q.symm k hf), ih h.2⟩
  | swap x y l => exact fun h => ⟨fun k hk hf => hf.elim (fun hy => h.1 k hy (.inl hk)) (fun hl => h.2.1 k hk hl), fun k hk hl => h.1 k hk (.inr hl), h.2.2⟩
  | trans _ _ ih1 ih2 => exact fun h => ih2 (ih1 h)
theorem St.perm {c : Cx} {w : World} {A B : List Res} (h : St c w A) (p : A.Perm B) : St c w B := ⟨h.fr, Hs_perm p h.hs, Dj_perm p h.dj, fun k hk => h.own k (Fs_perm p.symm k hk)⟩
theorem tk_perm {c : Cx} {L : Sl} {H : List Res} {K : Act → World → Prop} (H' : List Res) (p : H.Perm H') (h : TK c K L H') : TK c K L H := fun a w ha hw => h a w ha (hw.perm p)
theorem perm_mid {A B C : List Res} : (B ++ (A ++ C)).Perm (A ++ (B ++ C)) := by
  rw [← List.append_assoc, ← List.append_assoc]
  exact List.perm_append_comm.append_right _

/-- The pieces H0 are given to a call and come back as N; the others, Hr, stay. -/
theorem St.call {c : Cx} {w w' : World} {H H0 Hr N : List Res} (h : St c w H) (hp : (H0 ++ Hr).Perm H) (hf : Fo (Fs H0) w w') (hN : Hs w' N) (hd : Dj N) (ho : ∀ k, Fs N k → Fs H0 k ∨ w.heap.size ≤ k) : St c w' (N ++ Hr) := by
  have hFs : ∀ {A B : List Res}, A.Perm B → ∀ k, Fs A k → Fs B k := by
    intro A B p
    induction p with
    | nil => exact fun _ h => h
    | cons x _ ih => exact fun k h => h.imp id (ih k)
    | swap x y l => exact fun k h => by simp only [Fs] at *; rcases h with h | h | h <;> simp [h]
    | trans _ _ ih1 ih2 => exact fun k h => ih2 k (ih1 k h)
  have hHs : ∀ {A B : List Res}, A.Perm B → Hs w A → Hs w B := by
    intro A B p
    induction p with
    | nil => exact id
    | cons x _ ih => exact fun h => ⟨h.1, ih h.2⟩
    | swap x y l => exact fun h => ⟨h.2.1, h.1, h.2.2⟩
    | trans _ _ ih1 ih2 => exact fun h => ih2 (ih1 h)
  have hDj : ∀ {A B : List Res}, A.Perm B → Dj A → Dj B := by
    intro A B p
    induction p with
    | nil => exact id
    | cons x q ih => exact fun h => ⟨fun k hk hf => h.1 k hk (hFs q.symm k hf), ih h.2⟩
    | swap x y l => exact fun h => ⟨fun k hk hf => hf.elim (fun hy => h.1 k hy (.inl hk)) (fun hl => h.2.1 k hk hl), fun k hk hl => h.1 k hk (.inr hl), h.2.2⟩
    | trans _ _ ih1 ih2 => exact fun h => ih2 (ih1 h)
  have hs := Hs_append.1 (hHs hp.symm h.hs)
  have dj := Dj_append.1 (hDj hp.symm h.dj)
  have hlt : ∀ k, Fs Hr k → k < w.heap.size := fun k hk => Fs.bnd hs.2 k hk
  refine ⟨h.fr.trans hf (fun k hk => h.own k (hFs hp k (Fs_append.2 (.inl hk)))), Hs_append.2 ⟨hN, Hs.loc (fun k hk => hf.block k (hlt k hk) (fun h0 => dj.2.2 k h0 hk)) hs.2⟩, Dj_append.2 ⟨hd, dj.2.1, fun k hk hr => ?_⟩, fun k hk => ?_⟩
  · rcases ho k hk with h1 | h1
    · exact dj.2.2 k h1 hr
    · have := hlt k hr; omega
  · rcases Fs_append.1 hk with hk | hk
    · rcases ho k hk with h1 | h1
      · exact h.own k (hFs hp k (Fs_append.2 (.inl h1)))
      · exact .inr (Nat.le_trans h.fr.size h1)
    · exact h.own k (hFs hp k (Fs_append.2 (.inr hk)))


section
variable {c : Cx} {L : Sl} {H : List Res} {P : Program} {Q : Exit → Act → World → Prop} {K : Act → World → Prop}
  {d : Nat} {rty : TypeId} {pos : String} {af : Array Edge} {gd : Option (Nat × Bool)} {t : TypeId} {x y : Operand} {v : Value}

/-! ## stores -/
theorem run_storeCells (P : Program) (b : Nat) (T : TypeId) : ∀ (vs : List Value) (o i : Nat) (w : World) (cs : List Value) (fr : Nat × Nat),
    w.heap[b]? = some (.cells cs.toArray T fr) → nofr fr cs.length → (∀ u ∈ vs, u.oneCell' = true) → o + i + vs.length ≤ cs.length →
    ∃ w', (storeCells ⟨b, o, none⟩ vs i).run P w = .ok () w' ∧ w'.heap[b]? = some (.cells (cs.take (o + i) ++ vs ++ cs.drop (o + i + vs.length)).toArray T fr) ∧ Fo (fun k => k = b) w w' := by
  intro vs
  induction vs with
  | nil =>
    intro o i w cs fr hb hf _ _
    exact ⟨w, by simp [storeCells], by simpa using hb, Fo.refl _ _⟩
  | cons v vs ih =>
    intro o i w cs fr hb hf hone hlen
    simp only [List.length_cons] at hlen
    have had : ((⟨b, o, none⟩ : Addr).add i) = ⟨b, o + i, none⟩ := by cases i <;> simp [Addr.add]
    have hc : w.cell? ⟨b, o + i, none⟩ = some cs[o + i] := by
      simp only [World.cell?, hb]; simp
    have hfz : w.frozen? ⟨b, o + i, none⟩ = false := cel_free (b := b) (cs := cs) (T := T) ⟨fr, hb, hf⟩ (by omega)
    have h1 : (store ((⟨b, o, none⟩ : Addr).add i) v).run P w = .ok () (w.setCell ⟨b, o + i, none⟩ v) := by
      rw [had, run_store P w _ _ _ (hone v (by simp)), hc]
      simp [hfz]
    have hb1 : (w.setCell ⟨b, o + i, none⟩ v).heap[b]? = some (.cells (cs.set (o + i) v).toArray T fr) := by
      simp only [World.setCell, Array.getElem?_modify, if_true, hb, Option.map_some]
      simp
    have hfo : Fo (fun k => k = b) w (w.setCell ⟨b, o + i, none⟩ v) := ⟨rfl, rfl, rfl, by simp [World.setCell], fun k _ hk => by
      simp only [World.setCell, Array.getElem?_modify]
      rw [if_neg (fun e => hk e.symm)]⟩
    obtain ⟨w', h2, h3, h4⟩ := ih o (i + 1) (w.setCell ⟨b, o + i, none⟩ v) (cs.set (o + i) v) fr hb1 (by simpa using hf) (fun u hu => hone u (by simp [hu])) (by simp; omega)
    refine ⟨w', ?_, ?_, hfo.trans h4 (fun k hk => .inl hk)⟩
    · simp only [storeCells, Sem.run_bind, h1, Result.andThen]
      exact h2
    · rw [h3]
      congr 3
      have e1 : o + (i + 1) = (o + i) + 1 := by omega
      rw [e1]
      have e2 : (cs.set (o + i) v).take (o + i + 1) = cs.take (o + i) ++ [v] := by
        apply List.ext_getElem?
        intro j
        rw [List.getElem?_take, List.getElem?_append, List.getElem?_set, List.length_take, Nat.min_eq_left (by omega)]
        by_cases c1 : j < o + i
        · rw [if_pos (by omega), if_neg (by omega), if_pos c1, List.getElem?_take, if_pos c1]
        · rw [if_neg c1]
          by_cases c2 : j = o + i
          · subst c2; simp; omega
          · rw [if_neg (by omega)]
            have : j - (o + i) = (j - (o + i) - 1) + 1 := by omega
            rw [this]; simp
      have e3 : (cs.set (o + i) v).drop (o + i + 1 + vs.length) = cs.drop (o + i + (vs.length + 1)) := by
        rw [List.drop_set, if_pos (by omega)]
        congr 1; omega
      rw [e2, e3]
      simp

def szB (P : Program) (t : TypeId) (k : Nat) : Bool := match P.info? t with | some i => Nat.beq i.size k | none => false
theorem szB_run {k : Nat} {w : World} (h : szB P t k = true) : (Go.sizeOf t).run P w = .ok k w := by
  unfold szB at h
  cases e : P.info? t with
  | none => rw [e] at h; simp at h
  | some i => rw [e] at h; have := Nat.eq_of_beq_eq_true h; simp [Go.sizeOf, typeInfo, e, this]

/-- a store into a row of one's own; the row's place in the list is written out -/
theorem a_store {H1 H2 : List Res} {b o : Nat} {cs vs : List Value} {T : TypeId} {k : Nat} (hx : ev L x = some (.pointer (some ⟨b, o, none⟩))) (hy : ev L y = some v) (hv : v.cells.toList = vs) (ht : szB P t k = true) (hk : vs.length = k)
    (hH : H = H1 ++ cel b cs T :: H2) (hone : ∀ u ∈ vs, u.oneCell' = true) (hlen : o + k ≤ cs.length)
    (h : TK c K L (H1 ++ cel b (cs.take o ++ vs ++ cs.drop (o + k)) T :: H2)) :
    TK c (fun a w => (⟨none, .store t x y, rty, pos, af, gd⟩ : Oper).wp P a w K Q) L H := fun a w ha hw => by
  subst hH
  have h1 := ha.ev hx; have h2 := ha.ev hy
  obtain ⟨fr, hb, hf⟩ := hw.mem (r := cel b cs T) (by simp)
  obtain ⟨w', h3, h4, h5⟩ := run_storeCells P b T vs o 0 w cs fr hb hf hone (by omega)
  have hsz : v.cells.size = k := by rw [← hk, ← hv]; simp
  have e : (execOp a.eval (⟨none, .store t x y, rty, pos, af, gd⟩ : Oper)).run P w = .ok .skip w' := by
    simp only [execOp, h1, h2, Instr.storeAt, Instr.sureAddr, storeVar]
    simp [szB_run ht, hsz, hv, h3]
  change Oper.upon P _ a K Q ((execOp a.eval _).run P w)
  rw [e, Oper.upon_skip]
  refine h _ _ (ha.putNone _) (St.perm (St.turn (N := [cel b (cs.take o ++ vs ++ cs.drop (o + k)) T]) hw h5 ⟨⟨fr, by simpa [hk] using h4, ?_⟩, trivial⟩ ⟨fun _ _ h => h, trivial⟩ ?_) perm_mid)
  · have : (cs.take o ++ vs ++ cs.drop (o + k)).length = cs.length := by simp; omega
    rw [this]; exact hf
  · intro j hj
    rcases hj with hj | hj
    · exact .inl hj
    · exact hj.elim

/-! ## calls -/
/-- What a function does: it ends; its result and the new state of the pieces H0 that were given to it, N x, are as R says; nothing else of what was there turns. -/
def Spec (P : Program) (f : FuncId) (args : List Value) (w : World) (H0 : List Res) {X : Type} (R : X → Prop) (res : X → Value) (N : X → List Res) : Prop :=
  Calls P f args.toArray w fun e w' => ∃ x, R x ∧ e = .returned (res x) ∧ Fo (Fs H0) w w' ∧ Hs w' (N x) ∧ Dj (N x) ∧ ∀ k, Fs (N x) k → Fs H0 k ∨ w.heap.size ≤ k

noncomputable def evs (L : Sl) : List Operand → Option (List Value)
  | [] => some []
  | x :: xs => match ev L x, evs L xs with
    | some v, some vs => some (v :: vs)
    | _, _ => none
theorem evs_map {n : Nat} {a : Act} {L : Sl} (ha : Agr n a L) : ∀ {xs : List Operand} {vs : List Value}, evs L xs = some vs → xs.map a.eval = vs
  | [], vs, h => by simp [evs] at h; subst h; rfl
  | x :: xs, vs, h => by
    simp only [evs] at h
    cases h1 : ev L x with
    | none => simp [h1] at h
    | some v =>
      cases h2 : evs L xs with
      | none => simp [h1, h2] at h
      | some us => simp [h1, h2] at h; subst h; simp [ha.ev h1, evs_map ha h2]

/-- a function of the program with a body, no entry of the machine's own -/
def bodyB (P : Program) (f : FuncId) : Bool := match P.funcs[f]? with
  | some fn => fn.name != "runtime.NumGoroutine" && fn.body.isSome
  | none => false
theorem callFunc_run {f : FuncId} {args : Array Value} {w : World} (h : bodyB P f = true) : (callFunc f args).run P w = .ok (.enter f args) w := by
  unfold bodyB at h
  cases e : P.funcs[f]? with
  | none => rw [e] at h; simp at h
  | some fn =>
    rw [e] at h
    simp at h
    obtain ⟨h1, h2⟩ := h
    obtain ⟨bd, h3⟩ := Option.isSome_iff_exists.1 h2
    simp [callFunc, e, h1, h3]
theorem a_call {f : FuncId} {xs : List Operand} {aty : Array TypeId} {vs : List Value} {dst : Option Tmp} {X : Type} {H0 : List Res} (H1 H2 : List Res) {R : X → Prop} {res : X → Value} {N : X → List Res}
    (hx : evs L xs = some vs) (hf : bodyB P f = true)
    (hs : ∀ w, St c w H → Spec P f vs w H0 R res N) (hH : H = H1 ++ (H0 ++ H2))
    (h : ∀ x, R x → ∀ a w w', Agr c.n a L → St c w H → St c w' (H1 ++ (N x ++ H2)) → K (a.put dst (res x)) w') :
    TK c (fun a w => (⟨dst, .call { callee := .value (.func f), args := xs.toArray, argTypes := aty }, rty, pos, af, gd⟩ : Oper).wp P a w K Q) L H := fun a w ha hw => by
  have h1 := evs_map ha hx
  have e : (execOp a.eval (⟨dst, .call { callee := .value (.func f), args := xs.toArray, argTypes := aty }, rty, pos, af, gd⟩ : Oper)).run P w = .ok (.enter f vs.toArray) w := by
    have : a.eval (.func f) = .func (.func f) #[] #[] := rfl
    simp [execOp, resolve, this, Deferred.ofValue, invoke, h1, callFunc_run hf]
  change Oper.upon P _ a K Q ((execOp a.eval _).run P w)
  rw [e, Oper.upon_enter]
  refine Calls.mono (hs w hw) ?_
  rintro e w' ⟨x, hR, rfl, hfo, hN, hd, ho⟩
  exact h x hR a w w' ha hw ((hw.call (Hr := H1 ++ H2) (hH ▸ perm_mid) hfo hN hd ho).perm perm_mid)
/-- the same, where the result goes into a slot -/
theorem a_callv {f : FuncId} {xs : List Operand} {aty : Array TypeId} {vs : List Value} {X : Type} {H0 : List Res} (H1 H2 : List Res) {R : X → Prop} {res : X → Value} {N : X → List Res}
    (hx : evs L xs = some vs) (hf : bodyB P f = true) (hn : Nat.blt d c.n = true)
    (hs : ∀ w, St c w H → Spec P f vs w H0 R res N) (hH : H = H1 ++ (H0 ++ H2))
    (h : ∀ x, R x → TK c K ((d, res x) :: L) (H1 ++ (N x ++ H2))) :
    TK c (fun a w => (⟨some d, .call { callee := .value (.func f), args := xs.toArray, argTypes := aty }, rty, pos, af, gd⟩ : Oper).wp P a w K Q) L H :=
  a_call H1 H2 hx hf hs hH fun x hR _ _ _ ha _ hw' => h x hR _ _ (ha.put hn _) hw'

/-! ## a function's beginning and its end -/
def params : Nat → List Value → Sl
  | _, [] => []
  | i, v :: vs => (i, v) :: params (i + 1) vs
theorem params_lk : ∀ (vs : List Value) (i t : Nat) (v : Value), lk t (params i vs) = some v → ∃ j, t = i + j ∧ vs[j]? = some v
  | [], _, _, _, h => by simp [params, lk_nil] at h
  | u :: vs, i, t, v, h => by
    simp only [params, lk_cons] at h
    cases hb : Nat.beq t i with
    | true => rw [hb] at h; have := Nat.eq_of_beq_eq_true hb; simp at h; exact ⟨0, by simp [this], by simp [h]⟩
    | false =>
      rw [hb] at h
      obtain ⟨j, h1, h2⟩ := params_lk vs (i + 1) t v h
      exact ⟨j + 1, by omega, by simpa using h2⟩
theorem spec_of {f : FuncId} {fn : Func} {code : Code} {args : List Value} {w : World} {H0 : List Res} {X : Type} {R : X → Prop} {res : X → Value} {N : X → List Res} {n : Nat}
    (hf : P.funcs[f]? = some fn) (hb : fn.body = some code) (hn : fn.ntmps = n) (hs : Hs w H0) (hd : Dj H0) (hlen : Nat.ble args.length n = true)
    (h : TK ⟨n, w, Fs H0⟩ (code.wp P (bodyPost P fn fun e w' => ∃ x, R x ∧ e = .returned (res x) ∧ Fo (Fs H0) w w' ∧ Hs w' (N x) ∧ Dj (N x) ∧ ∀ k, Fs (N x) k → Fs H0 k ∨ w.heap.size ≤ k)) (params 0 args) H0) :
    Spec P f args w H0 R res N := by
  refine calls_of_wp hf hb (h _ _ ⟨rfl, ?_, ?_⟩ ⟨Fo.refl _ _, hs, hd, fun k hk => .inl hk⟩)
  · have := Nat.le_of_ble_eq_true hlen
    simp [hn]; omega
  · intro t v hl
    obtain ⟨j, rfl, h2⟩ := params_lk args 0 t v hl
    have hj : j < args.length := (List.getElem?_eq_some_iff.1 h2).1
    simp only [Nat.zero_add, Array.getElem?_append, List.size_toArray, if_pos hj]
    simpa using h2
/-- the end: one result or several, out of slots -/
theorem tk_ret {fn : Func} {w0 : World} {n : Nat} {H0 : List Res} {X : Type} {R : X → Prop} {res : X → Value} {N : X → List Res} {e : Exit} (x : X) (hR : R x) (he : e = .ret ∨ e = .normal)
    (hr : ∀ a w, Agr n a L → St ⟨n, w0, Fs H0⟩ w H → (results fn a.tmps).run P w = .ok (res x) w) (hH : (N x).Sublist H) :
    TK ⟨n, w0, Fs H0⟩ (bodyPost P fn (fun e w' => ∃ x, R x ∧ e = .returned (res x) ∧ Fo (Fs H0) w0 w' ∧ Hs w' (N x) ∧ Dj (N x) ∧ ∀ k, Fs (N x) k → Fs H0 k ∨ w0.heap.size ≤ k) e) L H := fun a w ha hw => by
  have hw' := hw.sub hH
  have q : a.defers = [] ∧ ∃ v, (results fn a.tmps).run P w = .ok v w ∧ ∃ x, R x ∧ Ending.returned v = .returned (res x) ∧ Fo (Fs H0) w0 w ∧ Hs w (N x) ∧ Dj (N x) ∧ ∀ k, Fs (N x) k → Fs H0 k ∨ w0.heap.size ≤ k :=
    ⟨ha.df, res x, hr a w ha hw, x, hR, rfl, hw'.fr, hw'.hs, hw'.dj, hw'.own⟩
  rcases he with rfl | rfl <;> exact q
theorem r0 {fn : Func} {n : Nat} {S : World → Prop} (h : fn.results = #[]) : ∀ a w, Agr n a L → S w → (results fn a.tmps).run P w = .ok (.tuple #[]) w := fun a w _ _ => by simp [results, h]
theorem r1 {fn : Func} {n p : Nat} {S : World → Prop} {v : Value} (h : fn.results = #[.tmp p]) (hv : lk p L = some v) : ∀ a w, Agr n a L → S w → (results fn a.tmps).run P w = .ok v w := fun a w ha _ => by
  have := ha.at_ p v hv
  rw [results_tmp h, Array.getD_eq_getD_getElem?, this]; rfl
theorem r2 {fn : Func} {n p q : Nat} {S : World → Prop} {v u : Value} (h : fn.results = #[.tmp p, .tmp q]) (hv : lk p L = some v) (hu : lk q L = some u) : ∀ a w, Agr n a L → S w → (results fn a.tmps).run P w = .ok (.tuple #[v, u]) w := fun a w ha _ => by
  have h1 := ha.at_ p v hv; have h2 := ha.at_ q u hu
  rw [results_tmp2 h, Array.getD_eq_getD_getElem?, Array.getD_eq_getD_getElem?, h1, h2]; rfl
end
end Go.Proofs.YtnhpghhibcdklaaGreatDoor

/- A region whose order is drawn, walked by the judgement TK. Own work for this project; no program in sight. -/
namespace Go.Proofs.YtnhpghhibcdklaaGreatDoor
open Go Go.RowKit
section
variable {c : Cx} {L : Sl} {H : List Res} {P : Program} {Q : Exit → Act → World → Prop} {ops : Array Oper} {S : World → Prop} {X : List Nat} {f : Nat} {l : Array Bool}

theorem tk_draw {id : Nat} (S : World → Prop) (X : List Nat) (hm : P.follows .mixedOrders = true) (h : TK c (AnyX P ops Q S X ops.size (Array.replicate ops.size false)) L H) :
    TK c ((Code.region id ops true).wp P Q) L H := fun a w ha hw => by
  refine wp_region_any hm ?_
  exact AnyX.toAny _ _ _ _ (h a _ ha hw.drew)

/-- may operation i be taken first? -/
def okB (ops : Array Oper) (l : Array Bool) (i : Nat) : Bool := Region.noSelect ops && (Region.free .any ops l i && (Region.ready .any ops l).contains i)
/-- do all of X wait for i? -/
def waitB (ops : Array Oper) (X : List Nat) (i : Nat) : Bool := X.all fun j => !Nat.beq j i && match ops[j]? with
  | some oj => oj.after.any (fun e => Region.binds .any e && e.on == i)
  | none => false
theorem waitB_spec {i : Nat} (h : waitB ops X i = true) : ∀ j ∈ X, j ≠ i ∧ ∃ oj, ops[j]? = some oj ∧ ∃ e ∈ oj.after, Region.binds .any e = true ∧ e.on = i := by
  intro j hj
  have := List.all_eq_true.1 h j hj
  rw [Bool.and_eq_true] at this
  obtain ⟨h1, h2⟩ := this
  refine ⟨fun e => by subst e; simp at h1, ?_⟩
  cases ho : ops[j]? with
  | none => simp [ho] at h2
  | some oj =>
    simp only [ho] at h2
    obtain ⟨e, he, hb⟩ := Array.any_eq_true'.1 h2
    simp only [Bool.and_eq_true, beq_iff_eq] at hb
    exact ⟨oj, rfl, e, he, hb.1, hb.2⟩

/-- a quiet operation that asks nothing of memory is taken -/
theorem tx_q (i : Nat) {oi : Oper} {d : Nat} {v : Value} (hi : ops[i]? = some oi) (hok : okB ops l i = true) (hd : oi.dst = some d) (hn : Nat.blt d c.n = true) (hg : gdB ops L oi = some true)
    (hQ : ∀ ch a w, Q (.panic ch) (a.put (some d) v) w → Q (.panic ch) a w) (hy : Y P c.n (fun _ => True) L oi v)
    (h : TK c (AnyX P ops Q S X f (l.setIfInBounds i true)) ((d, v) :: L) H) : TK c (AnyX P ops Q S X (f + 1) l) L H := fun a w ha hw => by
  simp only [okB, Bool.and_eq_true] at hok
  obtain ⟨h1, h2, h3⟩ := hok
  refine AnyX.first (S0 := fun _ => True) (v := v) hi (Region.noSelect_spec h1) (by rw [hd]; exact hQ) (.inl fun _ => trivial) f l a w (Region.free_spec hi h2) (by simpa using h3) (.inl ⟨gdB_wanted hg ha, fun w' _ => hy a w' ha trivial⟩) trivial ?_
  rw [hd]
  exact h _ _ (ha.put hn v) hw
/-- a guarded operation that is not carried out is taken -/
theorem tx_no (i : Nat) {oi : Oper} {d : Nat} (hi : ops[i]? = some oi) (hok : okB ops l i = true) (hd : oi.dst = some d) (hn : Nat.blt d c.n = true) (hg : gdB ops L oi = some false)
    (hQ : ∀ ch a w, Q (.panic ch) (a.put (some d) undef) w → Q (.panic ch) a w)
    (h : TK c (AnyX P ops Q S X f (l.setIfInBounds i true)) ((d, undef) :: L) H) : TK c (AnyX P ops Q S X (f + 1) l) L H := fun a w ha hw => by
  simp only [okB, Bool.and_eq_true] at hok
  obtain ⟨h1, h2, h3⟩ := hok
  refine AnyX.first (S0 := fun _ => True) (v := undef) hi (Region.noSelect_spec h1) (by rw [hd]; exact hQ) (.inl fun _ => trivial) f l a w (Region.free_spec hi h2) (by simpa using h3) (.inr ⟨gdB_wanted hg ha, rfl⟩) trivial ?_
  rw [hd]
  exact h _ _ (ha.put hn _) hw
/-- a quiet operation that asks S of memory is taken -/
theorem tx_l (i : Nat) {oi : Oper} {d : Nat} {v : Value} (hi : ops[i]? = some oi) (hok : okB ops l i = true) (hX : waitB ops X i = true) (hd : oi.dst = some d) (hn : Nat.blt d c.n = true) (hg : gdB ops L oi = some true)
    (hQ : ∀ ch a w, Q (.panic ch) (a.put (some d) v) w → Q (.panic ch) a w) (hS : ∀ w, St c w H → S w) (hy : Y P c.n S L oi v)
    (h : TK c (AnyX P ops Q S X f (l.setIfInBounds i true)) ((d, v) :: L) H) : TK c (AnyX P ops Q S X (f + 1) l) L H := fun a w ha hw => by
  simp only [okB, Bool.and_eq_true] at hok
  obtain ⟨h1, h2, h3⟩ := hok
  refine AnyX.first (S0 := S) (v := v) hi (Region.noSelect_spec h1) (by rw [hd]; exact hQ) (.inr ⟨rfl, waitB_spec hX⟩) f l a w (Region.free_spec hi h2) (by simpa using h3) (.inl ⟨gdB_wanted hg ha, fun w' hw' => hy a w' ha hw'⟩) (hS w hw) ?_
  rw [hd]
  exact h _ _ (ha.put hn v) hw
/-- one that acts, alone ready, after which S need not hold -/
theorem tx_x (i : Nat) {oi : Oper} (hi : ops[i]? = some oi) (hr : Region.ready .any ops l = [i]) (hx : X.contains i = true) (hg : gdB ops L oi = some true)
    (h : TK c (fun a w => oi.wp P a w (AnyX P ops Q S X f (l.setIfInBounds i true)) Q) L H) : TK c (AnyX P ops Q S X (f + 1) l) L H := fun a w ha hw => by
  refine ⟨fun h0 => (by rw [hr] at h0; cases h0), fun j hj => ?_⟩
  rw [hr] at hj
  simp only [List.mem_singleton] at hj
  subst hj
  unfold wpOp
  simp only [hi]
  rw [if_pos (gdB_wanted hg ha)]
  exact .inl (Oper.wp_mono (fun a' w' h' => ⟨.inl (by simpa using hx), h'⟩) (h a w ha hw))
/-- one that acts, alone ready, and S holds behind it -/
theorem tx_a (i : Nat) {oi : Oper} (hi : ops[i]? = some oi) (hr : Region.ready .any ops l = [i]) (hg : gdB ops L oi = some true)
    (h : TK c (fun a w => oi.wp P a w (fun a w => S w ∧ AnyX P ops Q S X f (l.setIfInBounds i true) a w) Q) L H) : TK c (AnyX P ops Q S X (f + 1) l) L H := fun a w ha hw => by
  refine ⟨fun h0 => (by rw [hr] at h0; cases h0), fun j hj => ?_⟩
  rw [hr] at hj
  simp only [List.mem_singleton] at hj
  subst hj
  unfold wpOp
  simp only [hi]
  rw [if_pos (gdB_wanted hg ha)]
  exact .inl (Oper.wp_mono (fun a' w' h' => ⟨.inr fun _ => h'.1, h'.2⟩) (h a w ha hw))
/-- whichever of several comes up: each is walked -/
def AllX (P : Program) (ops : Array Oper) (Q : Exit → Act → World → Prop) (S : World → Prop) (X : List Nat) (f : Nat) (l : Array Bool) (c : Cx) (L : Sl) (H : List Res) : List Nat → Prop
  | [] => True
  | i :: is => (∃ oi, ops[i]? = some oi ∧ gdB ops L oi = some true ∧ TK c (fun a w => oi.wp P a w (fun a w => S w ∧ AnyX P ops Q S X f (l.setIfInBounds i true) a w) Q) L H) ∧ AllX P ops Q S X f l c L H is
theorem AllX.mem : ∀ {is : List Nat}, AllX P ops Q S X f l c L H is → ∀ i ∈ is, ∃ oi, ops[i]? = some oi ∧ gdB ops L oi = some true ∧ TK c (fun a w => oi.wp P a w (fun a w => S w ∧ AnyX P ops Q S X f (l.setIfInBounds i true) a w) Q) L H
  | _ :: _, h, _, .head _ => h.1
  | _ :: _, h, i, .tail _ hm => AllX.mem h.2 i hm
theorem tx_all {is : List Nat} (hr : Region.ready .any ops l = is) (hne : is.isEmpty = false) (h : AllX P ops Q S X f l c L H is) : TK c (AnyX P ops Q S X (f + 1) l) L H := fun a w ha hw => by
  refine ⟨fun h0 => (by rw [hr] at h0; rw [h0] at hne; cases hne), fun j hj => ?_⟩
  rw [hr] at hj
  obtain ⟨oi, hi, hg, h'⟩ := h.mem j hj
  unfold wpOp
  simp only [hi]
  rw [if_pos (gdB_wanted hg ha)]
  exact .inl (Oper.wp_mono (fun a' w' h' => ⟨.inr fun _ => h'.1, h'.2⟩) (h' a w ha hw))
theorem tk_S {K : Act → World → Prop} (hS : ∀ w, St c w H → S w) (h : TK c K L H) : TK c (fun a w => S w ∧ K a w) L H := fun a w ha hw => ⟨hS w hw, h a w ha hw⟩
theorem tx_done (hr : Region.ready .any ops l = []) (h : TK c (Q .normal) L H) : TK c (AnyX P ops Q S X f l) L H := fun a w ha hw => by
  have := h a w ha hw
  cases f with
  | zero => exact ⟨hr, this⟩
  | succ f => exact ⟨fun _ => this, by rw [hr]; simp⟩
end
end Go.Proofs.YtnhpghhibcdklaaGreatDoor

/- More of what quiet operations leave: bytes and words, places written out. Own work for this project; no program in sight. -/
namespace Go.Proofs.YtnhpghhibcdklaaGreatDoor
open Go Go.RowKit
section
variable {P : Program} {n : Nat} {S : World → Prop} {L : Sl} {dst : Option Tmp} {rty : TypeId} {pos : String} {af : Array Edge} {gd : Option (Nat × Bool)}
  {t t' : TypeId} {x y z : Operand} {v u : Value}

/-! ### bytes -/
theorem b_lt (a : UInt8) : a.toNat < 256 := a.toNat_lt
theorem y_xor8 {a b : UInt8} (hx : ev L x = some (B a)) (hy : ev L y = some (B b)) : Y P n S L ⟨dst, .binOp .xor t x y t', rty, pos, af, gd⟩ (B (a ^^^ b)) :=
  (y_bits hx hy (by simp)).cast (by rw [u8_xor_nat _ _ (b_lt a) (b_lt b)]; simp only [B, UInt8.toNat_xor])
theorem y_and8 {a b : UInt8} (hx : ev L x = some (B a)) (hy : ev L y = some (B b)) : Y P n S L ⟨dst, .binOp .and t x y t', rty, pos, af, gd⟩ (B (a &&& b)) :=
  (y_bits hx hy (by simp)).cast (by rw [u8_and_nat _ _ (b_lt a) (b_lt b)]; simp only [B, UInt8.toNat_and])
theorem y_or8 {a b : UInt8} (hx : ev L x = some (B a)) (hy : ev L y = some (B b)) : Y P n S L ⟨dst, .binOp .or t x y t', rty, pos, af, gd⟩ (B (a ||| b)) :=
  (y_bits hx hy (by simp)).cast (by rw [u8_or_nat _ _ (b_lt a) (b_lt b)]; simp only [B, UInt8.toNat_or])
theorem ofNat8 (m : Nat) : B (UInt8.ofNat m) = .int .u8 ((m : Int) % 256) := by
  have e : (UInt8.ofNat m).toNat = m % 256 := by simp
  have e2 : ((m % 256 : Nat) : Int) = (m : Int) % 256 := by omega
  simp only [B, e, e2]
theorem y_shl8 {a : UInt8} {k' : IntKind} {m : Nat} (hx : ev L x = some (B a)) (hy : ev L y = some (.int k' (m : Int))) (hm : m ≤ 8) :
    Y P n S L ⟨dst, .binOp .shl t x y t', rty, pos, af, gd⟩ (B (UInt8.ofNat (a.toNat * 2 ^ m))) :=
  (y_shl hx hy (by omega)).cast (by
    rw [ofNat8, IntKind.wrap_u8]
    have e : min ((m : Int)).toNat IntKind.u8.bits = m := by simp [IntKind.bits]; omega
    rw [e]; congr 1)
theorem y_shr8 {a : UInt8} {k' : IntKind} {m : Nat} (hx : ev L x = some (B a)) (hy : ev L y = some (.int k' (m : Int))) (hm : m ≤ 8) :
    Y P n S L ⟨dst, .binOp .shr t x y t', rty, pos, af, gd⟩ (B (UInt8.ofNat (a.toNat / 2 ^ m))) :=
  (y_shr hx hy (by omega)).cast (by
    have e : min ((m : Int)).toNat IntKind.u8.bits = m := by simp [IntKind.bits]; omega
    have e2 : a.toNat / 2 ^ m < 256 := Nat.lt_of_le_of_lt (Nat.div_le_self _ _) (b_lt a)
    have e3 : ((a.toNat : Int)).fdiv (2 ^ m) = ((a.toNat / 2 ^ m : Nat) : Int) := by
      rw [Int.fdiv_eq_ediv_of_nonneg _ (Int.le_of_lt (Int.pow_pos (by decide)))]
      simp
    have e4 : (UInt8.ofNat (a.toNat / 2 ^ m)).toNat = a.toNat / 2 ^ m := by simp [Nat.mod_eq_of_lt e2]
    rw [e, e3]
    simp only [B, e4])
theorem y_neg8 {a : UInt8} (hx : ev L x = some (B a)) : Y P n S L ⟨dst, .unOp .neg t x, rty, pos, af, gd⟩ (B (-a)) :=
  (y_neg hx).cast (by
    rw [IntKind.wrap_u8]
    have e : (-a).toNat = (256 - a.toNat) % 256 := by rw [UInt8.toNat_neg]
    simp only [B, e]
    have := b_lt a
    congr 1; omega)
theorem y_conv8i {a : UInt8} (hx : ev L x = some (B a)) (hs : (P.underlying t).isSome = true) (hd : P.underlying t' = some (.int .i64)) : Y P n S L ⟨dst, .convert t t' x, rty, pos, af, gd⟩ (I a.toNat) :=
  (y_conv hx hs hd).cast (by have := b_lt a; rw [wrap_in (by omega) (by omega)])
theorem y_convi8 {k : IntKind} {m : Nat} (hx : ev L x = some (.int k (m : Int))) (hs : (P.underlying t).isSome = true) (hd : P.underlying t' = some (.int .u8)) : Y P n S L ⟨dst, .convert t t' x, rty, pos, af, gd⟩ (B (UInt8.ofNat m)) :=
  (y_conv hx hs hd).cast (by rw [ofNat8, IntKind.wrap_u8])

theorem y_convi64 {k k' : IntKind} {m : Nat} (hx : ev L x = some (.int k' (m : Int))) (hs : (P.underlying t).isSome = true) (hd : P.underlying t' = some (.int k)) (hm : k.wrap (m : Int) = (m : Int)) : Y P n S L ⟨dst, .convert t t' x, rty, pos, af, gd⟩ (.int k (m : Int)) :=
  (y_conv hx hs hd).cast (by rw [hm])
theorem wrap_u64 {m : Nat} (h : m < 18446744073709551616) : IntKind.u64.wrap (m : Int) = (m : Int) := by rw [IntKind.wrap_u64]; omega
theorem y_addU {a b : Nat} (hx : ev L x = some (.int .u64 (a : Int))) (hy : ev L y = some (.int .u64 (b : Int))) (h : a + b < 18446744073709551616) : Y P n S L ⟨dst, .binOp .add t x y t', rty, pos, af, gd⟩ (.int .u64 ((a + b : Nat) : Int)) :=
  (y_add hx hy).cast (by have := wrap_u64 h; rw [Int.natCast_add] at this ⊢; rw [this])
theorem fdiv_nat (a m : Nat) : ((a : Int)).fdiv (2 ^ m) = ((a / 2 ^ m : Nat) : Int) := by
  rw [Int.fdiv_eq_ediv_of_nonneg _ (Int.le_of_lt (Int.pow_pos (by decide)))]
  simp
theorem y_shrN {k k' : IntKind} {a m : Nat} (hx : ev L x = some (.int k (a : Int))) (hy : ev L y = some (.int k' (m : Int))) (hm : m ≤ k.bits) : Y P n S L ⟨dst, .binOp .shr t x y t', rty, pos, af, gd⟩ (.int k ((a / 2 ^ m : Nat) : Int)) :=
  (y_shr hx hy (by omega)).cast (by
    have e : min ((m : Int)).toNat k.bits = m := by simp; omega
    rw [e, fdiv_nat])
theorem y_addN {a b : Nat} (hx : ev L x = some (I (a : Int))) (hy : ev L y = some (I (b : Int))) (h : a + b < 9223372036854775808) : Y P n S L ⟨dst, .binOp .add t x y t', rty, pos, af, gd⟩ (I ((a + b : Nat) : Int)) :=
  (y_addI hx hy (by omega)).cast (by rw [Int.natCast_add])
theorem y_quoN {a b : Nat} (hx : ev L x = some (I (a : Int))) (hy : ev L y = some (I (b : Int))) (h : a < 9223372036854775808 ∧ 0 < b) : Y P n S L ⟨dst, .binOp .quo t x y t', rty, pos, af, gd⟩ (I ((a / b : Nat) : Int)) :=
  (y_quoI hx hy (by omega)).cast (by rw [Int.natCast_ediv])
theorem y_remN {a b : Nat} (hx : ev L x = some (I (a : Int))) (hy : ev L y = some (I (b : Int))) (h : 0 < b) : Y P n S L ⟨dst, .binOp .rem t x y t', rty, pos, af, gd⟩ (I ((a % b : Nat) : Int)) :=
  (y_remI hx hy (by omega)).cast (by rw [Int.natCast_emod])
theorem y_mulN {a b : Nat} (hx : ev L x = some (I (a : Int))) (hy : ev L y = some (I (b : Int))) (h : a * b < 9223372036854775808) : Y P n S L ⟨dst, .binOp .mul t x y t', rty, pos, af, gd⟩ (I ((a * b : Nat) : Int)) :=
  (y_mul hx hy).cast (by rw [← Int.natCast_mul, wrap_in (by omega) (by omega)])

/-! ### places written out -/
theorem add_w (b o m : Nat) : (⟨b, o, none⟩ : Addr).add m = ⟨b, o + m, none⟩ := by cases m <;> simp [Addr.add]
theorem y_fldN {b o f : Nat} (off : Nat) (hx : ev L x = some (.pointer (some ⟨b, o, none⟩))) (ht : fldB P t f off = true) :
    Y P n S L ⟨dst, .fieldAddr t x f, rty, pos, af, gd⟩ (.pointer (some ⟨b, o + off, none⟩)) := (y_fld hx ht).cast (by rw [add_w])
theorem y_ixAN {b o : Nat} {i : Nat} {k : IntKind} (len sz : Nat) (hx : ev L x = some (.pointer (some ⟨b, o, none⟩))) (hy : ev L y = some (.int k (i : Int))) (ht : arrB P t len sz = true) (hi : i < len) :
    Y P n S L ⟨dst, .indexAddr t x y, rty, pos, af, gd⟩ (.pointer (some ⟨b, o + i * sz, none⟩)) := (y_ixA hx hy ht (by omega)).cast (by rw [add_w]; rfl)
theorem y_ixAI {b o : Nat} {i : Int} {k : IntKind} (len sz : Nat) (j : Nat) (hx : ev L x = some (.pointer (some ⟨b, o, none⟩))) (hy : ev L y = some (.int k i)) (ht : arrB P t len sz = true) (hi : i = (j : Int) ∧ j < len) :
    Y P n S L ⟨dst, .indexAddr t x y, rty, pos, af, gd⟩ (.pointer (some ⟨b, o + j * sz, none⟩)) := by
  obtain ⟨rfl, h⟩ := hi
  exact y_ixAN len sz hx hy ht h
theorem y_ixSN {b o : Nat} {i : Nat} {k : IntKind} {len cap : Nat} (sz : Nat) (hx : ev L x = some (.slice (some ⟨b, o, none⟩) len cap)) (hy : ev L y = some (.int k (i : Int))) (ht : sliB P t sz = true) (hi : i < len) :
    Y P n S L ⟨dst, .indexAddr t x y, rty, pos, af, gd⟩ (.pointer (some ⟨b, o + i * sz, none⟩)) := (y_ixS hx hy ht (by omega)).cast (by rw [add_w]; rfl)
theorem y_fld0 {b o f : Nat} (hx : ev L x = some (.pointer (some ⟨b, o, none⟩))) (ht : fldB P t f 0 = true) :
    Y P n S L ⟨dst, .fieldAddr t x f, rty, pos, af, gd⟩ (.pointer (some ⟨b, o, none⟩)) := (y_fld hx ht).cast (by rw [add_w]; rfl)
theorem y_ixAN1 {b o : Nat} {i : Nat} {k : IntKind} (len : Nat) (hx : ev L x = some (.pointer (some ⟨b, o, none⟩))) (hy : ev L y = some (.int k (i : Int))) (ht : arrB P t len 1 = true) (hi : i < len) :
    Y P n S L ⟨dst, .indexAddr t x y, rty, pos, af, gd⟩ (.pointer (some ⟨b, o + i, none⟩)) := (y_ixAN len 1 hx hy ht hi).cast (by rw [Nat.mul_one])
theorem y_ixA01 {b : Nat} {i : Nat} {k : IntKind} (len : Nat) (hx : ev L x = some (.pointer (some ⟨b, 0, none⟩))) (hy : ev L y = some (.int k (i : Int))) (ht : arrB P t len 1 = true) (hi : i < len) :
    Y P n S L ⟨dst, .indexAddr t x y, rty, pos, af, gd⟩ (.pointer (some ⟨b, i, none⟩)) := (y_ixAN1 len hx hy ht hi).cast (by rw [Nat.zero_add])
theorem y_ixSN1 {b o : Nat} {i : Nat} {k : IntKind} {len cap : Nat} (hx : ev L x = some (.slice (some ⟨b, o, none⟩) len cap)) (hy : ev L y = some (.int k (i : Int))) (ht : sliB P t 1 = true) (hi : i < len) :
    Y P n S L ⟨dst, .indexAddr t x y, rty, pos, af, gd⟩ (.pointer (some ⟨b, o + i, none⟩)) := (y_ixSN 1 hx hy ht hi).cast (by rw [Nat.mul_one])
theorem y_ixS01 {b : Nat} {i : Nat} {k : IntKind} {len cap : Nat} (hx : ev L x = some (.slice (some ⟨b, 0, none⟩) len cap)) (hy : ev L y = some (.int k (i : Int))) (ht : sliB P t 1 = true) (hi : i < len) :
    Y P n S L ⟨dst, .indexAddr t x y, rty, pos, af, gd⟩ (.pointer (some ⟨b, i, none⟩)) := (y_ixSN1 hx hy ht hi).cast (by rw [Nat.zero_add])
end
theorem getB {l : List UInt8} {i : Nat} (h : i < l.length) : (l.map B)[i]? = some (B (l.getD i 0)) := by simp [List.getD_eq_getElem?_getD, h]
theorem tk_drawS {c : Cx} {L : Sl} {H : List Res} {P : Program} {Q : Exit → Act → World → Prop} {ops : Array Oper} {id : Nat} (X : List Nat) (hm : P.follows .mixedOrders = true)
    (h : TK c (AnyX P ops Q (fun w => St c w H) X ops.size (Array.replicate ops.size false)) L H) : TK c ((Code.region id ops true).wp P Q) L H := tk_draw _ X hm h
/-- a store of one cell -/
theorem a_store1 {c : Cx} {L : Sl} {H : List Res} {P : Program} {Q : Exit → Act → World → Prop} {K : Act → World → Prop} {rty : TypeId} {pos : String} {af : Array Edge} {gd : Option (Nat × Bool)} {t : TypeId} {x y : Operand} {v : Value}
    {H1 H2 : List Res} {b o : Nat} {cs : List Value} {T : TypeId} (hx : ev L x = some (.pointer (some ⟨b, o, none⟩))) (hy : ev L y = some v) (ht : szB P t 1 = true) (hone : v.oneCell' = true)
    (hH : H = H1 ++ cel b cs T :: H2) (hlen : o < cs.length) (h : TK c K L (H1 ++ cel b (cs.set o v) T :: H2)) :
    TK c (fun a w => (⟨none, .store t x y, rty, pos, af, gd⟩ : Oper).wp P a w K Q) L H := by
  have hc : v.cells.toList = [v] := by cases v <;> first | rfl | simp [Value.oneCell'] at hone
  refine a_store (vs := [v]) hx hy hc ht rfl hH (by simpa using hone) (by omega) ?_
  have e : cs.take o ++ [v] ++ cs.drop (o + 1) = cs.set o v := by rw [List.set_eq_take_append_cons_drop, if_pos hlen]; simp
  rw [e]; exact h
end Go.Proofs.YtnhpghhibcdklaaGreatDoor

/- Arrays as values, results in memory, builds, joins of ways. Own work for this project; no program in sight. -/
namespace Go.Proofs.YtnhpghhibcdklaaGreatDoor
open Go Go.RowKit
abbrev Ag (l : List UInt8) : Value := .agg (l.map B).toArray
section
variable {c : Cx} {L : Sl} {H : List Res} {P : Program} {Q : Exit → Act → World → Prop} {K : Act → World → Prop} {n : Nat} {S : World → Prop} {dst : Option Tmp} {w0 : World} {H0 : List Res}
  {d : Nat} {rty : TypeId} {pos : String} {af : Array Edge} {gd : Option (Nat × Bool)} {t t' : TypeId} {x y z : Operand} {v u : Value}

/-- pieces told otherwise -/
theorem tk_H (H' : List Res) (e : H = H') (h : TK c K L H') : TK c K L H := e ▸ h
theorem a_boxL {cs : List Value} (hx : ev L x = some (.agg cs.toArray)) (hn : Nat.blt d c.n = true) (h : ∀ b, TK c K ((d, .pointer (some ⟨b, 0, none⟩)) :: L) (cel b cs t :: H)) :
    TK c (fun a w => (⟨some d, .box t x, rty, pos, af, gd⟩ : Oper).wp P a w K Q) L H := a_box hx hn h
theorem a_box1 (hx : ev L x = some v) (hone : v.oneCell' = true) (hn : Nat.blt d c.n = true) (h : ∀ b, TK c K ((d, .pointer (some ⟨b, 0, none⟩)) :: L) (cel b [v] t :: H)) :
    TK c (fun a w => (⟨some d, .box t x, rty, pos, af, gd⟩ : Oper).wp P a w K Q) L H := a_box hx hn (by
      have e : v.cells.toList = [v] := by cases v <;> first | rfl | simp [Value.oneCell'] at hone
      rw [e]; exact h)
theorem a_allocL {cs : List Value} (hz : (P.info? t).bind (·.zero) = some (.agg cs.toArray)) (hn : Nat.blt d c.n = true) (h : ∀ b, TK c K ((d, .pointer (some ⟨b, 0, none⟩)) :: L) (cel b cs t :: H)) :
    TK c (fun a w => (⟨some d, .alloc t, rty, pos, af, gd⟩ : Oper).wp P a w K Q) L H := a_alloc hz hn h
theorem a_alloc1 (hz : (P.info? t).bind (·.zero) = some v) (hone : v.oneCell' = true) (hn : Nat.blt d c.n = true) (h : ∀ b, TK c K ((d, .pointer (some ⟨b, 0, none⟩)) :: L) (cel b [v] t :: H)) :
    TK c (fun a w => (⟨some d, .alloc t, rty, pos, af, gd⟩ : Oper).wp P a w K Q) L H := a_alloc hz hn (by
      have e : v.cells.toList = [v] := by cases v <;> first | rfl | simp [Value.oneCell'] at hone
      rw [e]; exact h)
/-- the whole row is stored anew -/
theorem a_storeW {H1 H2 : List Res} {b : Nat} {cs vs : List Value} {T : TypeId} (k : Nat) (hx : ev L x = some (.pointer (some ⟨b, 0, none⟩))) (hy : ev L y = some (.agg vs.toArray)) (ht : szB P t k = true)
    (hH : H = H1 ++ cel b cs T :: H2) (hk : vs.length = k ∧ cs.length = k) (hone : ∀ u ∈ vs, u.oneCell' = true) (h : TK c K L (H1 ++ cel b vs T :: H2)) :
    TK c (fun a w => (⟨none, .store t x y, rty, pos, af, gd⟩ : Oper).wp P a w K Q) L H := by
  refine a_store (k := k) (vs := vs) hx hy rfl ht hk.1 hH hone (by omega) ?_
  have e : cs.take 0 ++ vs ++ cs.drop (0 + k) = vs := by simp [hk.2]
  rw [e]; exact h
/-- several cells of a row are stored -/
theorem a_storeL {H1 H2 : List Res} {b o : Nat} {cs vs : List Value} {T : TypeId} (k : Nat) (hx : ev L x = some (.pointer (some ⟨b, o, none⟩))) (hy : ev L y = some (.agg vs.toArray)) (ht : szB P t k = true)
    (hH : H = H1 ++ cel b cs T :: H2) (hk : vs.length = k) (hone : ∀ u ∈ vs, u.oneCell' = true) (hlen : o + k ≤ cs.length) (h : TK c K L (H1 ++ cel b (cs.take o ++ vs ++ cs.drop (o + k)) T :: H2)) :
    TK c (fun a w => (⟨none, .store t x y, rty, pos, af, gd⟩ : Oper).wp P a w K Q) L H := a_store (k := k) (vs := vs) hx hy rfl ht hk hH hone hlen h
theorem oneB {l : List UInt8} : ∀ u ∈ l.map B, u.oneCell' = true := by
  intro u hu
  obtain ⟨a, _, rfl⟩ := List.mem_map.1 hu
  rfl

/-! ### builds -/
noncomputable def evp (L : Sl) : List (Nat × Operand) → Option (List (Nat × Value))
  | [] => some []
  | p :: xs => match ev L p.2, evp L xs with
    | some v, some vs => some ((p.1, v) :: vs)
    | _, _ => none
theorem evp_map {a : Act} (ha : Agr n a L) : ∀ {xs : List (Nat × Operand)} {vs : List (Nat × Value)}, evp L xs = some vs → xs.map (fun p => (p.1, a.eval p.2)) = vs
  | [], vs, h => by simp [evp] at h; subst h; rfl
  | p :: xs, vs, h => by
    simp only [evp] at h
    cases h1 : ev L p.2 with
    | none => simp [h1] at h
    | some v =>
      cases h2 : evp L xs with
      | none => simp [h1, h2] at h
      | some us => simp [h1, h2] at h; subst h; simp [ha.ev h1, evp_map ha h2]
theorem y_build {xs : List (Nat × Operand)} {vs : List (Nat × Value)} (hx : evp L xs = some vs) (hb : ∀ w, (Instr.build t vs.toArray).run P w = .ok v w) :
    Y P n S L ⟨dst, .build t xs.toArray, rty, pos, af, gd⟩ v := fun a w ha _ => by
  have h1 := evp_map ha hx
  have e : (xs.toArray.map fun (p : Nat × Operand) => (p.1, a.eval p.2)) = vs.toArray := by rw [List.map_toArray, h1]
  have e2 := hb w
  simp only [execOp]
  simp only [e, Sem.run_bind, e2, Result.andThen]
  rfl

/-! ### pointers -/
theorem y_pnil {p : Option Addr} (hx : ev L x = some (.pointer p)) (hy : ev L y = some (.pointer none)) (h : P.underlying t = some (.pointer (P.pointee t))) : Y P n S L ⟨dst, .binOp .eql t x y t', rty, pos, af, gd⟩ (.bool p.isNone) := fun a w ha _ => by
  have h1 := ha.ev hx; have h2 := ha.ev hy
  simp [execOp, h1, h2, eqGuard_at_pointer, run_eql_pointer_nil w t p h]
theorem y_pnnil {p : Option Addr} (hx : ev L x = some (.pointer p)) (hy : ev L y = some (.pointer none)) (h : P.underlying t = some (.pointer (P.pointee t))) : Y P n S L ⟨dst, .binOp .neq t x y t', rty, pos, af, gd⟩ (.bool (!p.isNone)) := fun a w ha _ => by
  have h1 := ha.ev hx; have h2 := ha.ev hy
  simp [execOp, h1, h2, eqGuard_at_pointer, run_neq_pointer_nil w t p h]

/-! ### cuts of arrays, told in numbers -/
theorem y_cutAN {b o : Nat} {k k' : IntKind} {il ih : Int} {xl xh : Operand} (m sz : Nat) (lo hi : Nat) (hx : ev L x = some (.pointer (some ⟨b, o, none⟩))) (hl : ev L xl = some (.int k il)) (hh : ev L xh = some (.int k' ih))
    (ht : arrB P t m sz = true) (hb : il = (lo : Int) ∧ ih = (hi : Int) ∧ lo ≤ hi ∧ hi ≤ m ∧ lo < m) :
    Y P n S L ⟨dst, .slice t x (some xl) (some xh) none, rty, pos, af, gd⟩ (.slice (some ⟨b, o + lo * sz, none⟩) (hi - lo) (m - lo)) := by
  obtain ⟨rfl, rfl, h1, h2, h3⟩ := hb
  refine (y_cutAlh hx hl hh ht ⟨by omega, by omega, by omega⟩).cast ?_
  have e : ¬ m = lo := by omega
  simp only [cutAd, Int.toNat_natCast, if_neg e, Option.map_some, add_w]

theorem y_cutSlN {b o len cap : Nat} {k : IntKind} {il : Int} {xl : Operand} (sz lo : Nat) (hx : ev L x = some (.slice (some ⟨b, o, none⟩) len cap)) (hl : ev L xl = some (.int k il))
    (ht : sliB P t sz = true) (hb : il = (lo : Int) ∧ lo ≤ len ∧ lo < cap) :
    Y P n S L ⟨dst, .slice t x (some xl) none none, rty, pos, af, gd⟩ (.slice (some ⟨b, o + lo * sz, none⟩) (len - lo) (cap - lo)) := by
  obtain ⟨rfl, h1, h3⟩ := hb
  refine (y_cutSl hx hl ht ⟨by omega, by omega⟩).cast ?_
  have e : ¬ cap = lo := by omega
  simp only [cutAd, Int.toNat_natCast, if_neg e, Option.map_some, add_w]
/-! ### a result that lies in memory -/
theorem rc {fn : Func} {p b o : Nat} {ty : TypeId} {vs : List Value} (h : fn.results = #[.cell p ty]) (hp : lk p L = some (.pointer (some ⟨b, o, none⟩))) (ht : agB P ty vs.length = true)
    (hc : ∀ w, S w → ∀ (j : Nat) (u : Value), vs[j]? = some u → w.cell? ((⟨b, o, none⟩ : Addr).add j) = some u) :
    ∀ a w, Agr n a L → S w → (results fn a.tmps).run P w = .ok (.agg vs.toArray) w := fun a w ha hs => by
  have h1 := ha.at_ p _ hp
  have e1 : a.tmps.getD p undef = .pointer (some ⟨b, o, none⟩) := by rw [Array.getD_eq_getD_getElem?, h1]; rfl
  have e2 := run_loadCells_list (P := P) (w := w) ⟨b, o, none⟩ vs (hc w hs)
  have e3 : (loadVar ty ⟨b, o, none⟩).run P w = .ok (.agg vs.toArray) w := by simp [loadVar, (agB_run ht).1, (agB_run ht).2, e2]
  have e4 : (results fn a.tmps) = (do let v ← (do loadVar ty (← asAddr (a.tmps.getD p undef))); pure v) := by
    unfold results; rw [h]; simp
  rw [e4, e1]
  simp [asAddr, e3]
/-- the whole of a row -/
theorem hcw {b : Nat} {cs : List Value} {T : TypeId} (hm : cel b cs T ∈ H) : ∀ w, St c w H → ∀ (j : Nat) (u : Value), cs[j]? = some u → w.cell? ((⟨b, 0, none⟩ : Addr).add j) = some u := fun w hw j u hj => by
  rw [add_w, Nat.zero_add]
  exact cel_cell (hw.mem hm) hj

/-! ### a test that is not decided: both ways -/
theorem tk_qs {ops : Array Oper} {rest : List Oper} {o : Oper} {p : Prop} [Decidable p] (hd : o.dst = some d) (hg : o.guard = none) (hn : Nat.blt d c.n = true) (hy : Y P c.n (fun w => St c w H) L o (.bool (decide p)))
    (h1 : p → TK c (wpList P ops Q rest) ((d, .bool true) :: L) H) (h2 : ¬ p → TK c (wpList P ops Q rest) ((d, .bool false) :: L) H) : TK c (wpList P ops Q (o :: rest)) L H := by
  by_cases hp : p
  · exact tk_qe _ hd hg hn hy (bool_t hp) (h1 hp)
  · exact tk_qe _ hd hg hn hy (bool_f hp) (h2 hp)
theorem tk_gqe {ops : Array Oper} {rest : List Oper} {o : Oper} (v' : Value) (hd : o.dst = some d) (hn : Nat.blt d c.n = true) (hg : gdB ops L o = some true) (hy : Y P c.n (fun w => St c w H) L o v) (e : v = v')
    (h : TK c (wpList P ops Q rest) ((d, v') :: L) H) : TK c (wpList P ops Q (o :: rest)) L H := tk_gq hd hn hg (hy.cast e) h
theorem tk_gqs {ops : Array Oper} {rest : List Oper} {o : Oper} {p : Prop} [Decidable p] (hd : o.dst = some d) (hn : Nat.blt d c.n = true) (hg : gdB ops L o = some true) (hy : Y P c.n (fun w => St c w H) L o (.bool (decide p)))
    (h1 : p → TK c (wpList P ops Q rest) ((d, .bool true) :: L) H) (h2 : ¬ p → TK c (wpList P ops Q rest) ((d, .bool false) :: L) H) : TK c (wpList P ops Q (o :: rest)) L H := by
  by_cases hp : p
  · exact tk_gqe _ hd hn hg hy (bool_t hp) (h1 hp)
  · exact tk_gqe _ hd hn hg hy (bool_f hp) (h2 hp)
/-! ### some cells of a row of bytes -/
theorem hcsB {b o m : Nat} {l : List UInt8} {T : TypeId} (hm : cel b (l.map B) T ∈ H) : ∀ w, St c w H → ∀ (j : Nat) (u : Value), (((l.drop o).take m).map B)[j]? = some u → w.cell? ((⟨b, o, none⟩ : Addr).add j) = some u := fun w hw j u hj => by
  rw [add_w]
  refine cel_cell (hw.mem hm) ?_
  rw [List.getElem?_map, List.getElem?_take] at hj
  split at hj
  · rw [List.getElem?_drop] at hj; rw [List.getElem?_map]; exact hj
  · cases hj
theorem hroB {b o q m : Nat} {l : List UInt8} (h0 : ∀ j, j < l.length → c.w0.cell? ⟨b, q + j, none⟩ = some (B (l.getD j 0))) (hE : ¬ c.E b) : ∀ w, St c w H → ∀ (j : Nat) (u : Value), (((l.drop o).take m).map B)[j]? = some u → w.cell? ((⟨b, q + o, none⟩ : Addr).add j) = some u := fun w hw j u hj => by
  rw [add_w]
  rw [List.getElem?_map, List.getElem?_take] at hj
  split at hj
  · rw [List.getElem?_drop] at hj
    cases hl : l[o + j]? with
    | none => rw [hl] at hj; cases hj
    | some a =>
      rw [hl] at hj; cases hj
      have hlt := (List.getElem?_eq_some_iff.1 hl).1
      have := hw.fr.cell (h0 (o + j) hlt) hE
      rw [List.getD_eq_getElem?_getD, hl] at this
      rw [Nat.add_assoc]; exact this
  · cases hj

/-! ### ways that meet -/
theorem tk_seqI {X : Type} {s r : Code} (I : X → Prop) (LI : X → Sl) (HI : X → List Res)
    (h1 : TK c (s.wp P (Exit.then (fun a w => ∃ g, I g ∧ Agr c.n a (LI g) ∧ St c w (HI g)) Q)) L H) (h2 : ∀ g, I g → TK c (r.wp P Q) (LI g) (HI g)) : TK c ((Code.seq s r).wp P Q) L H := fun a w ha hw =>
  wp_seq (wp_mono (h1 a w ha hw) (fun e a' w' q => by
    cases e <;> first
      | exact q
      | (obtain ⟨g, hg, ha', hw'⟩ := q; exact h2 g hg a' w' ha' hw')))
theorem tk_to {X : Type} {I : X → Prop} {LI : X → Sl} {HI : X → List Res} (g : X) (hI : I g) (hL : subS L (LI g)) (hH : (HI g).Sublist H) :
    TK c (Exit.then (fun a w => ∃ g, I g ∧ Agr c.n a (LI g) ∧ St c w (HI g)) Q .normal) L H := fun _ _ ha hw => ⟨g, hI, ha.sub hL.lk, hw.sub hH⟩
end
theorem St.ne {c : Cx} {w : World} {H : List Res} {ad : Addr} {v : Value} {b : Nat} {cs : List Value} {T : TypeId} (h : St c w H) (h0 : c.w0.cell? ad = some v) (hE : ¬ c.E ad.block) (hm : cel b cs T ∈ H) : ad.block ≠ b := fun e => by
  have hb := World.block_lt_of_cell? c.w0 ad h0
  rcases h.own b (Fs.of_mem hm (k := b) rfl) with h1 | h1
  · exact hE (e ▸ h1)
  · omega
theorem ixb (b : UInt8) : 0 ≤ (b.toNat : Int) ∧ (b.toNat : Int) < ((256 : Nat) : Int) := by have := b_lt b; omega
/-- a byte is stored into a row of bytes -/
theorem a_store1B {c : Cx} {L : Sl} {H : List Res} {P : Program} {Q : Exit → Act → World → Prop} {K : Act → World → Prop} {rty : TypeId} {pos : String} {af : Array Edge} {gd : Option (Nat × Bool)} {t : TypeId} {x y : Operand}
    {H1 H2 : List Res} {b o : Nat} {l : List UInt8} {v : UInt8} {T : TypeId} (hx : ev L x = some (.pointer (some ⟨b, o, none⟩))) (hy : ev L y = some (B v)) (ht : szB P t 1 = true)
    (hH : H = H1 ++ cel b (l.map B) T :: H2) (hlen : o < l.length) (h : TK c K L (H1 ++ cel b ((l.set o v).map B) T :: H2)) :
    TK c (fun a w => (⟨none, .store t x y, rty, pos, af, gd⟩ : Oper).wp P a w K Q) L H :=
  a_store1 hx hy ht rfl hH (by simpa using hlen) (by rw [← List.map_set]; exact h)
theorem y_ixA0I {P : Program} {n : Nat} {S : World → Prop} {L : Sl} {dst : Option Tmp} {rty : TypeId} {pos : String} {af : Array Edge} {gd : Option (Nat × Bool)} {t : TypeId} {x y : Operand}
    {b : Nat} {i : Int} {k : IntKind} (len : Nat) (j : Nat) (hx : ev L x = some (.pointer (some ⟨b, 0, none⟩))) (hy : ev L y = some (.int k i)) (ht : arrB P t len 1 = true) (hi : i = (j : Int) ∧ j < len) :
    Y P n S L ⟨dst, .indexAddr t x y, rty, pos, af, gd⟩ (.pointer (some ⟨b, j, none⟩)) := (y_ixAI len 1 j hx hy ht hi).cast (by rw [Nat.zero_add, Nat.mul_one])
theorem getBA {l : List UInt8} {b : UInt8} (h : b.toNat < l.length) : (l.map B).toArray[((b.toNat : Int)).toNat]? = some (B (l.getD b.toNat 0)) := by
  simp [List.getD_eq_getElem?_getD, h]
end Go.Proofs.YtnhpghhibcdklaaGreatDoor

/- Slices of one's own: append, slice literals, strings and bytes. Own work for this project; no program in sight. -/
namespace Go.Proofs.YtnhpghhibcdklaaGreatDoor
open Go Go.RowKit

/-- v is a slice of n elements (size cells each) that owns its row: nil, or in block g; its cells are xs -/
def own (v : Value) (n : Nat) (xs : List Value) (_e : TypeId) (size : Nat) : Res where
  fp k := v.ownBlock = some k
  holds w := xs.length = n * size ∧ ((v = .slice none 0 0 ∧ n = 0) ∨ ∃ g o cap cur fr T, v = .slice (some ⟨g, o, none⟩) n cap ∧ w.heap[g]? = some (.cells cur T fr) ∧ nofr fr cur.size ∧ n ≤ cap ∧ cap ≤ maxLen ∧ o + cap * size ≤ cur.size ∧ (cur.toList.drop o).take (n * size) = xs)
  loc w w' h := by
    rintro ⟨h1, h2⟩
    refine ⟨h1, h2.imp id ?_⟩
    rintro ⟨g, o, cap, cur, fr, T, rfl, hg, r⟩
    exact ⟨g, o, cap, cur, fr, T, rfl, (h g rfl).trans hg, r⟩
  bnd w := by
    rintro ⟨_, h2⟩ k hk
    rcases h2 with ⟨rfl, _⟩ | ⟨g, o, cap, cur, fr, T, rfl, hg, _⟩
    · simp [Value.ownBlock] at hk
    · simp [Value.ownBlock] at hk; subst hk; exact (Array.getElem?_eq_some_iff.1 hg).1
abbrev ownB (v : Value) (l : List UInt8) (e : TypeId) : Res := own v l.length (l.map B) e 1

theorem own_nil {w : World} {e : TypeId} {size : Nat} : (own (.slice none 0 0) 0 [] e size).holds w := ⟨by simp, .inl ⟨rfl, rfl⟩⟩
/-- what an owned slice is: nil, or an address with its cells -/
theorem own_cells {v : Value} {n : Nat} {xs : List Value} {e : TypeId} {size : Nat} {w : World} (h : (own v n xs e size).holds w) :
    (v = .slice none 0 0 ∧ n = 0 ∧ xs = []) ∨ ∃ g o cap, v = .slice (some ⟨g, o, none⟩) n cap ∧ n ≤ cap ∧ cap ≤ maxLen ∧ ∀ j u, xs[j]? = some u → w.cell? ⟨g, o + j, none⟩ = some u := by
  obtain ⟨h1, h2⟩ := h
  rcases h2 with ⟨rfl, rfl⟩ | ⟨g, o, cap, cur, fr, T, rfl, hg, hf, hc, hm, hs, ht⟩
  · exact .inl ⟨rfl, rfl, List.eq_nil_of_length_eq_zero (by simpa using h1)⟩
  · refine .inr ⟨g, o, cap, rfl, hc, hm, fun j u hj => ?_⟩
    rw [cell_of_row w g (o + j) cur T fr hg]
    rw [← ht, List.getElem?_take] at hj
    split at hj
    · rw [List.getElem?_drop] at hj; simpa using hj
    · cases hj

theorem run_append_room' {P : Program} {w : World} {t ty e T : TypeId} {i : TypeInfo} (ht : P.underlying t = some (.slice e)) (hi : P.info? e = some i) {g o n cap : Nat} {cur : Array Value} {fr : Nat × Nat} (hg : w.heap[g]? = some (.cells cur T fr)) (hf : nofr fr cur.size)
    {a : Addr} {m c : Nat} {news : List Value} (hl : news.length = m * i.size) (hnews : ∀ j u, news[j]? = some u → w.cell? (a.add j) = some u) (h1 : ∀ u ∈ news, u.oneCell' = true) (hroom : n + m ≤ cap) (hs : o + cap * i.size ≤ cur.size) :
    ∃ w', (Builtin.append_ #[t, t] ty #[.slice (some ⟨g, o, none⟩) n cap, .slice (some a) m c]).run P w = .ok (.slice (some ⟨g, o, none⟩) (n + m) cap) w' ∧
      w'.heap[g]? = some (.cells (cur.toList.take (o + n * i.size) ++ news ++ cur.toList.drop (o + n * i.size + news.length)).toArray T fr) ∧ Fo (fun k => k = g) w w' := by
  have hfc := run_firstCells_some (P := P) w i.size m a m c news hl hnews
  have hfit : o + n * i.size + 0 + news.length ≤ cur.toList.length := by
    have := Nat.mul_le_mul_right i.size hroom
    rw [Nat.add_mul] at this
    rw [hl, Array.length_toList]; omega
  obtain ⟨w', h2, h3, h4⟩ := run_storeCells P g T news (o + n * i.size) 0 w cur.toList fr (by simpa using hg) (by simpa using hf) h1 hfit
  simp only [Nat.add_zero] at h3
  refine ⟨w', ?_, h3, h4⟩
  simp [Builtin.append_, run_underlying ht, sizeOf, typeInfo, hi, Builtin.lenOf, hroom, hfc, add_w, h2]

theorem run_app {P : Program} {w : World} {t ty e : TypeId} {i : TypeInfo} {z : Value} (ht : P.underlying t = some (.slice e)) (hi : P.info? e = some i) (hz : i.zero = some z) (hzs : z.cells.size = i.size) (_hsz : 0 < i.size)
    {v : Value} {n : Nat} {xs : List Value} (hown : (own v n xs e i.size).holds w) {a : Addr} {m c : Nat} {news : List Value} (hl : news.length = m * i.size) (hnews : ∀ j u, news[j]? = some u → w.cell? (a.add j) = some u) (h1 : ∀ u ∈ news, u.oneCell' = true)
    (h63 : n + m ≤ maxLen) (hbytes : (n + m) * i.bytes ≤ 140737488355328) :
    ∃ v' w', (Builtin.append_ #[t, t] ty #[v, .slice (some a) m c]).run P w = .ok v' w' ∧ (own v' (n + m) (xs ++ news) e i.size).holds w' ∧ Fo (fun k => v.ownBlock = some k) w w' ∧ (∀ k, v'.ownBlock = some k → v.ownBlock = some k ∨ w.heap.size ≤ k) := by
  have hsmall : n + m ≤ 9223372036854775807 := by simp only [maxLen] at h63; omega
  have hlen : (xs ++ news).length = (n + m) * i.size := by rw [List.length_append, hown.1, hl, Nat.add_mul]
  have grown : ∀ (old : Nat), old < n + m → ∀ E,
      (own (.slice (some ⟨w.heap.size, 0, none⟩) (n + m) (grownCap w (n + m) old e)) (n + m) (xs ++ news) e i.size).holds (w.drew.alloc (.cells (xs.toArray ++ news.toArray ++ Builtin.zeroCells z.cells (grownCap w (n + m) old e - (n + m))) e)) ∧
      Fo E w (w.drew.alloc (.cells (xs.toArray ++ news.toArray ++ Builtin.zeroCells z.cells (grownCap w (n + m) old e - (n + m))) e)) := by
    intro old ho E
    have hge := grownCap_ge w (n + m) old e
    have hcm : grownCap w (n + m) old e ≤ maxLen := grownCap_le_maxLen w (n + m) old e h63
    refine ⟨⟨hlen, .inr ⟨w.heap.size, 0, _, _, (0, 0), e, rfl, heap_alloc_new w.drew _, .inr rfl, hge, hcm, ?_, ?_⟩⟩, ⟨rfl, rfl, rfl, by simp, fun k hk _ => Below.heap_alloc w.drew _ k hk⟩⟩
    · rw [Nat.zero_add]
      apply Nat.le_of_eq
      simp only [Array.size_append, List.size_toArray, size_zeroCells, hzs, hown.1, hl, ← Nat.add_mul]
      congr 1
      omega
    · rw [List.drop_zero]
      simp only [Array.toList_append, List.append_assoc]
      rw [← List.append_assoc, ← hlen]
      exact List.take_left
  obtain ⟨hx1, hx2⟩ := hown
  rcases hx2 with ⟨rfl, rfl⟩ | ⟨g, o, cap, cur, fr, T, rfl, hg, hf, hnc, hcm, hcs, htake⟩
  · have hx : xs = [] := List.eq_nil_of_length_eq_zero (by simpa using hx1)
    subst hx
    by_cases hm : m = 0
    · subst hm
      have hn : news = [] := List.eq_nil_of_length_eq_zero (by simpa using hl)
      subst hn
      refine ⟨.slice none 0 0, w, ?_, own_nil, Fo.refl _ _, fun k hk => .inl hk⟩
      simp [Builtin.append_, run_underlying ht, sizeOf, typeInfo, hi, Builtin.lenOf, Builtin.firstCells, loadCells, loadCellsFrom]
    · have hr := run_append_nil (P := P) w t ty e i z ht hi hz a m c news hl hnews (by omega) (by omega) (by have hb := hbytes; simp only [Nat.zero_add] at hb; omega)
      have hgr := grown 0 (by omega) (fun k => (Value.slice none 0 0).ownBlock = some k)
      simp only [Nat.zero_add, List.nil_append, Array.empty_append] at hgr ⊢
      exact ⟨_, _, hr, hgr.1, hgr.2, fun k hk => by simp [Value.ownBlock] at hk; exact .inr (by omega)⟩
  · by_cases hroom : n + m ≤ cap
    · obtain ⟨w', hr, hb, hfo⟩ := run_append_room' (ty := ty) ht hi hg hf hl hnews h1 hroom hcs
      have hmul : (n + m) * i.size ≤ cap * i.size := Nat.mul_le_mul_right _ hroom
      have hmul2 : (n + m) * i.size = n * i.size + m * i.size := Nat.add_mul _ _ _
      have hsz' : (cur.toList.take (o + n * i.size) ++ news ++ cur.toList.drop (o + n * i.size + news.length)).length = cur.size := by
        simp only [List.length_append, List.length_take, List.length_drop, Array.length_toList, hl]
        omega
      refine ⟨_, w', hr, ⟨hlen, .inr ⟨g, o, cap, _, fr, T, rfl, hb, ?_, hroom, hcm, ?_, ?_⟩⟩, hfo.mono (fun k hk => by simp [Value.ownBlock, hk]), fun k hk => .inl hk⟩
      · rw [List.size_toArray, hsz']; exact hf
      · rw [List.size_toArray, hsz']; exact hcs
      · have e1 : cur.toList.take (o + n * i.size) = cur.toList.take o ++ xs := by rw [List.take_add, htake]
        have e2 : (cur.toList.take o).length = o := by rw [List.length_take, Array.length_toList]; omega
        rw [e1, List.append_assoc, List.append_assoc, List.drop_left' e2, ← List.append_assoc, ← hlen]
        exact List.take_left
    · have holds : ∀ j u, xs[j]? = some u → w.cell? ((⟨g, o, none⟩ : Addr).add j) = some u := fun j u hj => by
        rcases own_cells (w := w) (e := e) ⟨hx1, .inr ⟨g, o, cap, cur, fr, T, rfl, hg, hf, hnc, hcm, hcs, htake⟩⟩ with ⟨h0, _⟩ | ⟨g', o', cap', h0, _, _, hc⟩
        · cases h0
        · cases h0; rw [add_w]; exact hc j u hj
      have hr := run_append_grow (P := P) w t ty e i z ht hi hz ⟨g, o, none⟩ n cap xs hx1 holds a m c news hl hnews (by omega) (by omega) (growslice_fits (by omega) hbytes)
      have hgr := grown cap (by omega) (fun k => (Value.slice (some ⟨g, o, none⟩) n cap).ownBlock = some k)
      exact ⟨_, _, hr, hgr.1, hgr.2, fun k hk => by simp [Value.ownBlock] at hk; exact .inr (by omega)⟩

section
variable {c : Cx} {L : Sl} {H : List Res} {P : Program} {Q : Exit → Act → World → Prop} {K : Act → World → Prop} {d : Nat} {rty : TypeId} {pos : String} {af : Array Edge} {gd : Option (Nat × Bool)} {t t' : TypeId} {x y : Operand} {v : Value}

/-- an element type: its size in cells, in bytes, its zero -/
def elB (P : Program) (t e : TypeId) (size bytes : Nat) : Prop := P.underlying t = some (.slice e) ∧ ∃ i z, P.info? e = some i ∧ i.zero = some z ∧ z.cells.size = size ∧ i.size = size ∧ i.bytes = bytes ∧ 0 < size

/-- append to an owned slice of what can be read -/
theorem a_append {H1 H2 : List Res} {n m cp : Nat} {xs news : List Value} {e : TypeId} {size bytes : Nat} {ad : Addr} (hx : ev L x = some v) (hy : ev L y = some (.slice (some ad) m cp)) (he : elB P t e size bytes) (hn : Nat.blt d c.n = true)
    (hH : H = H1 ++ own v n xs e size :: H2) (hl : news.length = m * size) (hnews : ∀ w, St c w H → ∀ (j : Nat) (u : Value), news[j]? = some u → w.cell? (ad.add j) = some u) (h1 : ∀ u ∈ news, u.oneCell' = true)
    (hb : n + m ≤ 140737488355328 ∧ (n + m) * bytes ≤ 140737488355328) (h : ∀ v', TK c K ((d, v') :: L) (H1 ++ own v' (n + m) (xs ++ news) e size :: H2)) :
    TK c (fun a w => (⟨some d, .call { callee := .builtin .append, args := #[x, y], argTypes := #[t, t] }, rty, pos, af, gd⟩ : Oper).wp P a w K Q) L H := fun a w ha hw => by
  subst hH
  have h2 := ha.ev hx; have h3 := ha.ev hy
  obtain ⟨ht, i, z, hi, hz, hzs, rfl, rfl, hsz⟩ := he
  obtain ⟨v', w', hr, ho, hf, hk⟩ := run_app (ty := rty) (c := cp) ht hi hz hzs hsz (hw.mem (r := own v n xs e i.size) (by simp)) hl (hnews w hw) h1 (by simp only [maxLen]; omega) hb.2
  have e : (execOp a.eval (⟨some d, .call { callee := .builtin .append, args := #[x, y], argTypes := #[t, t] }, rty, pos, af, gd⟩ : Oper)).run P w = .ok (.value v') w' := by
    simp [execOp, resolve, h2, h3, invoke, builtin, hr]
  change Oper.upon P _ a K Q ((execOp a.eval _).run P w)
  rw [e, Oper.upon_value]
  exact h v' _ _ (ha.put hn _) ((St.turn (N := [own v' (n + m) (xs ++ news) _ _]) hw hf ⟨ho, trivial⟩ ⟨fun _ _ h => h, trivial⟩ (fun k h => by
    rcases h with h | h
    · exact hk k h
    · exact h.elim)).perm perm_mid)

/-- a slice literal -/
theorem a_slit {xs : List (Nat × Operand)} {vs : List (Nat × Value)} {e : TypeId} {m : Nat} {cs : List Value} (hx : evp L xs = some vs) (hn : Nat.blt d c.n = true)
    (hb : ∀ w, (Instr.buildSlice t m vs.toArray).run P w = .ok (.slice (some ⟨w.heap.size, 0, none⟩) m m) { w with heap := w.heap.push (.cells cs.toArray e) })
    (h : ∀ b, TK c K ((d, .slice (some ⟨b, 0, none⟩) m m) :: L) (cel b cs e :: H)) :
    TK c (fun a w => (⟨some d, .buildSlice t m xs.toArray, rty, pos, af, gd⟩ : Oper).wp P a w K Q) L H := fun a w ha hw => by
  have h1 := evp_map ha hx
  have e1 : (xs.toArray.map fun (p : Nat × Operand) => (p.1, a.eval p.2)) = vs.toArray := by rw [List.map_toArray, h1]
  have e : (execOp a.eval (⟨some d, .buildSlice t m xs.toArray, rty, pos, af, gd⟩ : Oper)).run P w = .ok (.value (.slice (some ⟨w.heap.size, 0, none⟩) m m)) { w with heap := w.heap.push (.cells cs.toArray e) } := by
    have e2 := hb w
    simp only [execOp]
    simp only [e1, Sem.run_bind, e2, Result.andThen]
    rfl
  change Oper.upon P _ a K Q ((execOp a.eval _).run P w)
  rw [e, Oper.upon_value]
  exact h w.heap.size _ _ (ha.put hn _) (hw.alloc cs.toArray _)

/-- bytes as a string -/
theorem foldl_push (l : List UInt8) : ∀ (r : ByteArray), (l.map fun b => (b.toNat : Int)).foldl (fun r n => r.push (UInt8.ofNat n.toNat)) r = ⟨r.data ++ l.toArray⟩ := by
  induction l with
  | nil => intro r; simp
  | cons b l ih =>
    intro r
    simp only [List.map_cons, List.foldl_cons, ih, Int.toNat_natCast, UInt8.ofNat_toNat]
    simp [ByteArray.push]
theorem run_str {P : Program} {w : World} {t t' e : TypeId} {ad : Addr} {cap : Nat} {l : List UInt8} (hs : P.underlying t = some (.slice e)) (he : P.underlying e = some (.int .u8)) (hd : P.underlying t' = some .string)
    (hl : ∀ j b, l[j]? = some b → w.cell? (ad.add j) = some (B b)) : (convert t t' (.slice (some ad) l.length cap)).run P w = .ok (Str l) w := by
  rw [run_convert_bytes_string w t t' e _ _ cap hs he hd]
  have := run_bytesToString (P := P) w ad l.length cap (l.map fun b => (b.toNat : Int)) ?_
  · rw [this, foldl_push]; simp [Str]
  · have h2 := run_loadCells_list (P := P) (w := w) ad (l.map B) (fun j u hj => by
      rw [List.getElem?_map] at hj
      cases hb : l[j]? with
      | none => rw [hb] at hj; cases hj
      | some b => rw [hb] at hj; cases hj; exact hl j b hb)
    rw [List.length_map] at h2
    rw [h2]; simp [List.map_map, Function.comp_def]
/-- the elements of a slice (one cell each) can be read -/
def RdS (w : World) (v : Value) (vs : List Value) : Prop := (v = .slice none 0 0 ∧ vs = []) ∨ ∃ ad cap, v = .slice (some ad) vs.length cap ∧ vs.length ≤ cap ∧ ∀ j u, vs[j]? = some u → w.cell? (ad.add j) = some u
abbrev RdB (w : World) (v : Value) (l : List UInt8) : Prop := RdS w v (l.map B)
def adOf : Value → Addr
  | .slice (some a) _ _ => a
  | _ => default
def cpOf : Value → Nat
  | .slice _ _ c => c
  | _ => 0
theorem RdS.cell {w : World} {vs : List Value} (h : RdS w v vs) {j : Nat} {u : Value} (hj : vs[j]? = some u) : w.cell? ((adOf v).add j) = some u := by
  rcases h with ⟨rfl, rfl⟩ | ⟨ad, cap, rfl, _, hc⟩
  · cases hj
  · exact hc j u hj
theorem RdS.form {w : World} {vs : List Value} (h : RdS w v vs) : (∃ ad, v = .slice ad vs.length (cpOf v) ∧ ∀ (j : Nat) (u : Value), vs[j]? = some u → ad = some (adOf v)) ∧ vs.length ≤ cpOf v := by
  rcases h with ⟨rfl, rfl⟩ | ⟨ad, cap, rfl, h1, hc⟩
  · exact ⟨⟨none, rfl, fun j u hj => by cases hj⟩, Nat.le_refl _⟩
  · exact ⟨⟨some ad, rfl, fun _ _ _ => rfl⟩, h1⟩
theorem RdS.one {w : World} {vs : List Value} (h : RdS w v vs) : v.oneCell' = true := by
  rcases h with ⟨rfl, _⟩ | ⟨ad, cap, rfl, _⟩ <;> rfl
theorem y_lenR {n : Nat} {S : World → Prop} {dst : Option Tmp} {w0 : World} {vs : List Value} {e : TypeId} (hx : ev L x = some v) (hv : RdS w0 v vs) (ht : P.underlying t = some (.slice e)) :
    Y P n S L ⟨dst, .call { callee := .builtin .len, args := #[x], argTypes := #[t] }, rty, pos, af, gd⟩ (I vs.length) := by
  obtain ⟨⟨ad, hf, _⟩, _⟩ := hv.form
  rw [hf] at hx
  exact y_lenS hx ht
theorem y_ixR {n : Nat} {S : World → Prop} {dst : Option Tmp} {w0 : World} {vs : List Value} {j : Nat} {k : IntKind} (hx : ev L x = some v) (hy : ev L y = some (.int k (j : Int))) (hv : RdS w0 v vs) (hj : j < vs.length) (ht : sliB P t 1 = true) :
    Y P n S L ⟨dst, .indexAddr t x y, rty, pos, af, gd⟩ (.pointer (some ((adOf v).add j))) := by
  obtain ⟨⟨ad, hf, h2⟩, _⟩ := hv.form
  have h3 := h2 j vs[j] (List.getElem?_eq_getElem hj)
  rw [h3] at hf
  rw [hf] at hx
  refine (y_ixS hx hy ht (by omega)).cast ?_
  rw [Int.toNat_natCast, Nat.mul_one]
theorem hrd {vs : List Value} {j : Nat} {u : Value} (hv : RdS c.w0 v vs) (hj : vs[j]? = some u) (hE : ¬ c.E (adOf v).block) : ∀ w, St c w H → w.cell? ((adOf v).add j) = some u := fun _ hw =>
  hw.fr.cell (hv.cell hj) (by rw [show ((adOf v).add j).block = (adOf v).block by cases j <;> simp [Addr.add]]; exact hE)
theorem y_str {n : Nat} {S : World → Prop} {dst : Option Tmp} {e : TypeId} {l : List UInt8} (hx : ev L x = some v) (hs : P.underlying t = some (.slice e)) (he : P.underlying e = some (.int .u8)) (hd : P.underlying t' = some .string)
    (hl : ∀ w, S w → RdB w v l) : Y P n S L ⟨dst, .convert t t' x, rty, pos, af, gd⟩ (Str l) := fun a w ha hw => by
  have h1 := ha.ev hx
  rcases hl w hw with ⟨rfl, h0⟩ | ⟨ad, cap, rfl, _, hc⟩
  · have h0' : l = [] := List.map_eq_nil_iff.1 h0
    subst h0'
    have : (convert t t' (.slice none 0 0)).run P w = .ok (Str []) w := by
      rw [run_convert_bytes_string w t t' e _ _ _ hs he hd]; simp [Conv.bytesToString, Str]; rfl
    simp [execOp, h1, this]
  · have h2 := run_str (cap := cap) (l := l) hs he hd (fun j b hj => hc j _ (by rw [List.getElem?_map, hj]; rfl))
    rw [List.length_map] at h1
    simp [execOp, h1, h2]
theorem own_rdS {w : World} {n : Nat} {xs : List Value} {e : TypeId} (h : (own v n xs e 1).holds w) : RdS w v xs := by
  have hl : xs.length = n := by have := h.1; omega
  rcases own_cells h with ⟨rfl, _, h0⟩ | ⟨g, o, cap, rfl, hc, _, hr⟩
  · exact .inl ⟨rfl, h0⟩
  · refine .inr ⟨⟨g, o, none⟩, cap, by rw [hl], by omega, fun j u hj => ?_⟩
    rw [add_w]
    exact hr j _ hj
theorem cel_rd {w : World} {b o m cp : Nat} {vs cs : List Value} {T : TypeId} (h : (cel b cs T).holds w) (hl : (cs.drop o).take vs.length = vs) (hm : m = vs.length) (hcp : m ≤ cp) : RdS w (.slice (some ⟨b, o, none⟩) m cp) vs := by
  subst hm
  refine .inr ⟨⟨b, o, none⟩, cp, rfl, hcp, fun j u hj => ?_⟩
  rw [add_w]
  have hlt : j < vs.length := (List.getElem?_eq_some_iff.1 hj).1
  refine cel_cell h ?_
  rw [← hl, List.getElem?_take, if_pos hlt, List.getElem?_drop] at hj
  exact hj

/-- a nil slice is owned -/
theorem tk_own0 (e : TypeId) (h : TK c K L (own (.slice none 0 0) 0 [] e 1 :: H)) : TK c K L H := fun a w ha hw =>
  h a w ha (St.new (N := [own (.slice none 0 0) 0 [] e 1]) hw (Fo.refl _ _) ⟨own_nil, trivial⟩ ⟨fun _ _ h => h, trivial⟩ (fun k hk => by
    rcases hk with hk | hk
    · cases hk
    · exact hk.elim))

/-! ### slice literals of one cell -/
theorem run_slit1 {w : World} {e : TypeId} {bytes : Nat} (he : elB P t e 1 bytes) (hone : v.oneCell' = true) :
    (Instr.buildSlice t 1 #[(0, v)]).run P w = .ok (.slice (some ⟨w.heap.size, 0, none⟩) 1 1) { w with heap := w.heap.push (.cells [v].toArray e) } := by
  obtain ⟨ht, i, z, hi, hz, hzs, hs, _, _⟩ := he
  have hv : v.cells = #[v] := by cases v <;> first | rfl | simp [Value.oneCell'] at hone
  simp [Instr.buildSlice, underlying, ht, Go.sizeOf, typeInfo, hi, hs, zeroValue, hz, Instr.fill, hv, newRow]
  have e : Array.range 1 = #[0] := rfl
  rw [e]; simp
theorem a_slit1 {o : Operand} {e : TypeId} {bytes : Nat} (hx : ev L o = some v) (hone : v.oneCell' = true) (he : elB P t e 1 bytes) (hn : Nat.blt d c.n = true)
    (h : ∀ b, TK c K ((d, .slice (some ⟨b, 0, none⟩) 1 1) :: L) (cel b [v] e :: H)) :
    TK c (fun a w => (⟨some d, .buildSlice t 1 #[(0, o)], rty, pos, af, gd⟩ : Oper).wp P a w K Q) L H :=
  a_slit (xs := [(0, o)]) (vs := [(0, v)]) (by simp [evp, hx]) hn (fun _ => run_slit1 he hone) h
theorem y_minI {n : Nat} {S : World → Prop} {dst : Option Tmp} {a b : Int} {ty : Array TypeId} (hx : ev L x = some (I a)) (hy : ev L y = some (I b)) :
    Y P n S L ⟨dst, .call { callee := .builtin .min, args := #[x, y], argTypes := ty }, rty, pos, af, gd⟩ (I (if b < a then b else a)) := fun q w ha _ => by
  have h1 := ha.ev hx; have h2 := ha.ev hy
  simp [execOp, resolve, h1, h2, invoke, builtin, Builtin.min_, Builtin.min2, List.foldlM]
end
end Go.Proofs.YtnhpghhibcdklaaGreatDoor

/- Comparisons of bools, strings and arrays of bytes; make. Own work for this project; no program in sight. -/
namespace Go.Proofs.YtnhpghhibcdklaaGreatDoor
open Go Go.RowKit
section
variable {P : Program} {n : Nat} {S : World → Prop} {L : Sl} {dst : Option Tmp} {rty : TypeId} {pos : String} {af : Array Edge} {gd : Option (Nat × Bool)}
  {t t' : TypeId} {x y z : Operand} {v u : Value}

theorem list_beq {l m : List UInt8} : (l == m) = decide (l = m) := by rw [Bool.eq_iff_iff]; simp
theorem y_strEq {l m : List UInt8} (hx : ev L x = some (Str l)) (hy : ev L y = some (Str m)) : Y P n S L ⟨dst, .binOp .eql t x y t', rty, pos, af, gd⟩ (.bool (decide (l = m))) := fun q w ha _ => by
  have h1 := ha.ev hx; have h2 := ha.ev hy
  simp [execOp, h1, h2, eqGuard_at_string, binOp, Op.stringOp, list_beq]
theorem y_strNe {l m : List UInt8} (hx : ev L x = some (Str l)) (hy : ev L y = some (Str m)) : Y P n S L ⟨dst, .binOp .neq t x y t', rty, pos, af, gd⟩ (.bool (decide (¬ l = m))) := fun q w ha _ => by
  have h1 := ha.ev hx; have h2 := ha.ev hy
  simp [execOp, h1, h2, eqGuard_at_string, binOp, Op.stringOp, list_beq]

/-! ### arrays of bytes -/
theorem run_part_byte {w : World} {l : List UInt8} {e : TypeId} (he : scB P e = true) {i : Nat} (hi : i < l.length) : (part e (l.map B).toArray i).run P w = .ok (B (l.getD i 0)) w := by
  simp [part, scB_run he, List.getD_eq_getElem?_getD, hi]
theorem run_eq_byte {w : World} {d : Nat} {e : TypeId} {k : IntKind} (he : P.underlying e = some (.int k)) (a b : UInt8) : (Op.equalIn (d + 1) e (B a) (B b)).run P w = .ok (decide (a = b)) w := by
  rw [Op.equalIn, Sem.run_bind, run_underlying he]
  simp only [Result.andThen, if_true, Sem.run_pure]
  congr 1
  by_cases h : a = b
  · simp [h]
  · have : ¬ (a.toNat : Int) = b.toNat := fun e => h (UInt8.toNat.inj (by omega))
    simp [h, this]
theorem run_forIn_false {w : World} (G : Nat → Option Bool × Unit → Sem (ForInStep (Option Bool × Unit))) (g : Nat → Bool) : ∀ (is : List Nat),
    (∀ i ∈ is, ∀ s, (G i s).run P w = .ok (if g i then .yield (none, ()) else .done (some false, ())) w) →
    (forIn is ((none, ()) : Option Bool × Unit) G).run P w = .ok (if is.all g then (none, ()) else (some false, ())) w
  | [], _ => by simp
  | i :: is, h => by
    have h1 := h i (by simp) (none, ())
    have h2 := run_forIn_false G g is (fun j hj => h j (by simp [hj]))
    rw [List.forIn_cons, Sem.run_bind, h1]
    simp only [Result.andThen]
    cases hg : g i with
    | true => simp [hg] at h2 ⊢; exact h2
    | false => simp [hg]
theorem run_eq_bytes {w : World} {d : Nat} {e : TypeId} {k : IntKind} {len : Nat} {l m : List UInt8} (ht : P.underlying t = some (.array len e)) (he : P.underlying e = some (.int k)) (hz : szB P e 1 = true) (hl : l.length = len) (hm : m.length = len) :
    (Op.equalIn (d + 2) t (.agg (l.map B).toArray) (.agg (m.map B).toArray)).run P w = .ok (decide (l = m)) w := by
  have hsc : scB P e = true := by simp [scB, he]
  rw [Op.equalIn, Sem.run_bind, run_underlying ht]
  simp only [Result.andThen, Sem.run_bind, szB_run hz, Std.Legacy.Range.forIn_eq_forIn_range', Std.Legacy.Range.size]
  rw [show (len - 0 + 1 - 1) / 1 = len by simp]
  rw [run_forIn_false (P := P) (w := w) _ (fun i => decide (l.getD i 0 = m.getD i 0)) (List.range' 0 len) (fun i hi s => by
    have hi' : i < len := by have := List.mem_range'_1.1 hi; omega
    simp only [Nat.mul_one, Sem.run_bind, run_part_byte hsc (show i < l.length by omega), run_part_byte hsc (show i < m.length by omega), Result.andThen, run_eq_byte he]
    by_cases hc : l.getD i 0 = m.getD i 0
    · simp only [hc, decide_true, Bool.not_true, Bool.false_eq_true, if_false, if_true, Sem.run_pure]
    · simp only [hc, decide_false, Bool.not_false, Bool.false_eq_true, if_false, if_true, Sem.run_pure])]
  by_cases hlm : l = m
  · subst hlm
    simp
  · have : ¬ ((List.range' 0 len).all fun i => decide (l.getD i 0 = m.getD i 0)) = true := fun h => hlm (by
      apply List.ext_getElem (by omega)
      intro j h1 h2
      have := List.all_eq_true.1 h j (List.mem_range'_1.2 ⟨by omega, by omega⟩)
      simpa [List.getD_eq_getElem?_getD, h1, h2] using this)
    simp only [if_neg this, hlm, decide_false, Sem.run_pure]
theorem y_agEq {e : TypeId} {k : IntKind} {len : Nat} {l m : List UInt8} (hx : ev L x = some (Ag l)) (hy : ev L y = some (Ag m)) (ht : P.underlying t = some (.array len e)) (he : P.underlying e = some (.int k)) (hz : szB P e 1 = true) (hg : P.eqGuardType P.depth t = false) (hl : l.length = len ∧ m.length = len) :
    Y P n S L ⟨dst, .binOp .eql t x y t', rty, pos, af, gd⟩ (.bool (decide (l = m))) := fun q w ha _ => by
  have h1 := ha.ev hx; have h2 := ha.ev hy
  have e1 : (binOp .eql t (Ag l) (Ag m)) = (do pure (Value.bool (← Op.equal t (Ag l) (Ag m)))) := rfl
  have e2 : (Op.equal t (Ag l) (Ag m)).run P w = .ok (decide (l = m)) w := run_eq_bytes (d := 9998) ht he hz hl.1 hl.2
  have e3 : (eqGuard .eql t x y (Ag l) (Ag m)).run P w = .ok () w := by simp [eqGuard, Ag, hg]
  simp only [execOp, h1, h2, e1]
  rw [Sem.run_bind, Sem.run_bind, e3, Result.andThen, Sem.run_bind, e2]; rfl
end

/-! ### make, of bytes -/
section
variable {c : Cx} {L : Sl} {H : List Res} {P : Program} {Q : Exit → Act → World → Prop} {K : Act → World → Prop} {d : Nat} {rty : TypeId} {pos : String} {af : Array Edge} {gd : Option (Nat × Bool)} {t : TypeId} {x y : Operand} {v : Value}
end
end Go.Proofs.YtnhpghhibcdklaaGreatDoor

/- The shell of a row whose law returns true and whose arguments read as before; the opening of arguments. Own work for this project; no program in sight. -/
namespace Go.Proofs.YtnhpghhibcdklaaGreatDoor
open Go Go.RowKit Go.ChangeShapes Go.WideShapes
section
variable {H : Type} {enc : TypeId × Value → H} {P : Program} {W : World} {t : TypeId} {v : Value} {d : DataW H} {ps : List MemPlace}

def readAll (P : Program) (ts : List TypeId) : Bool := ts.all fun t => P.readableRec t && decide (t < P.types.size)

theorem trodAll_below (hl : laidOutB P = true) {W W' : World} (hb : Below W.heap.size W W') : ∀ {ts : List TypeId} {vs : List Value} {ds : List (DataW H)} {p : List MemPlace}, readAll P ts = true →
    DataW.TrodAll enc P W 0 (fun _ => true) true ts vs ds p → (∀ x ∈ p, x.block < W.heap.size) → DataW.TrodAll enc P W' 0 (fun b => decide (b < W.heap.size)) true ts vs ds p
  | [], [], [], _, _, h, _ => h
  | [], [], _ :: _, _, _, h, _ => h.elim
  | [], _ :: _, _, _, _, h, _ => h.elim
  | _ :: _, [], _, _, _, h, _ => h.elim
  | _ :: _, _ :: _, [], _, _, h, _ => h.elim
  | t :: ts, v :: vs, d :: ds, _, hr, h, hlt => by
    obtain ⟨p, q, h1, h2, rfl⟩ := h
    simp only [readAll, List.all_cons, Bool.and_eq_true, decide_eq_true_eq] at hr
    exact ⟨p, q, Below.trod hl hr.1.1 hr.1.2 h1 hb (fun x hx => hlt x (by simp [hx])), trodAll_below hl hb (by simpa [readAll] using hr.2) h2 (fun x hx => hlt x (by simp [hx])), rfl⟩

theorem trodAll_len {base : Nat} {sp : Nat → Bool} {held : Bool} : ∀ {ts : List TypeId} {vs : List Value} {ds : List (DataW H)} {p : List MemPlace}, DataW.TrodAll enc P W base sp held ts vs ds p → ds.length = ts.length
  | [], [], [], _, _ => rfl
  | [], [], _ :: _, _, h => h.elim
  | [], _ :: _, _, _, h => h.elim
  | _ :: _, [], _, _, h => h.elim
  | _ :: _, _ :: _, [], _, h => h.elim
  | t :: ts, v :: vs, d :: ds, _, h => by
    obtain ⟨p, q, _, h2, _⟩ := h
    simp [trodAll_len h2]

/-- THE ROW: the law's walk gives 'true' and turns no old memory. -/
theorem row_true {K : FuncId} {fn : Func} {s : ChangeSpec} {args : Array Value} {ds gs : List (DataW H)} {before : List MemPlace} {b : TypeId} {apart handsOn : Bool}
    (hW : DataW.Whole enc P fn.params.toList s.vars apart W args.toList ds gs before)
    (hl : laidOutB P = true) (hr : readAll P fn.params.toList = true) (hv : s.vars = [])
    (hb : fn.resultTypes = #[b]) (ub : P.underlying b = some .bool)
    (hs : ∀ ds' : List (DataW H), ds'.length = fn.params.toList.length → (s.fn H (ds' ++ gs)).results = [.lit (.bool true)] ∧ (s.fn H (ds' ++ gs)).args = ds' ∧ (s.fn H (ds' ++ gs)).vars = gs)
    (core : Spec P K args.toList W [] (fun _ : Unit => True) (fun _ => .bool true) (fun _ => [])) :
    Calls P K args W fun e W' => ∃ v, e = .returned v ∧ s.post enc P fn apart true handsOn false W args v W' := by
  have core' : Calls P K args W fun e w' => ∃ x : Unit, True ∧ e = .returned (.bool true) ∧ Fo (Fs []) W w' ∧ Hs w' [] ∧ Dj [] ∧ ∀ k, Fs [] k → Fs [] k ∨ W.heap.size ≤ k := by
    have := core; unfold Spec at this; simpa using this
  refine core'.mono fun e W' ⟨_, _, he, hf, _⟩ => ⟨_, he, ?_⟩
  have hbel : Below W.heap.size W W' := (hf.mono (fun k h => by simp [Fs] at h)).below
  have hlt := hW.lt
  have hW' := hW
  obtain ⟨p, q, hA, hV, rfl, hfz, hnd⟩ := hW
  obtain ⟨h1, h2, h3⟩ := hs ds (trodAll_len hA)
  refine ⟨ds, gs, _, [], p, q, hW', ?_, ?_, ?_, hbel.frame _, fun h => by cases h⟩
  · rw [h1, hb]; exact trodAll_mk1 (shut_bool ub true)
  · rw [h2]; exact trodAll_below hl hbel hr hA (fun x hx => hlt x (by simp [hx]))
  · rw [h3, hv]; rw [hv] at hV; obtain ⟨rfl, rfl⟩ := trodVars_none hV; exact rfl

/- OPENING -/
theorem wf_u8 {n : Int} (h : (Lit.int .u8 n).wf = true) : ∃ b : UInt8, Value.int .u8 n = B b := by
  simp [Lit.wf, IntKind.min, IntKind.max, IntKind.signed, IntKind.bits] at h
  refine ⟨UInt8.ofNat n.toNat, ?_⟩
  have : (UInt8.ofNat n.toNat).toNat = n.toNat := by simp; omega
  simp only [B, this]
  congr 1; omega
section
variable {base : Nat} {sp : Nat → Bool} {held : Bool} {fuel : Nat} {cs : List Value} {x : DataW H × List MemPlace}
theorem op_u8 (ht : P.underlying t = some (.int .u8)) (h : DataW.trod enc P W base sp held fuel t cs = some x) : ∃ b : UInt8, cs = [B b] := by
  obtain ⟨n, rfl, _, hw⟩ := DataW.trod_int ht h
  obtain ⟨b, hb⟩ := wf_u8 hw
  exact ⟨b, by rw [hb]⟩
theorem op_i64 (ht : P.underlying t = some (.int .i64)) (h : DataW.trod enc P W base sp held fuel t cs = some x) : ∃ n : Int, cs = [I n] ∧ -9223372036854775808 ≤ n ∧ n ≤ 9223372036854775807 := by
  obtain ⟨n, rfl, _, hw⟩ := DataW.trod_int ht h
  exact ⟨n, rfl, bounds_i64 hw⟩
theorem op_str (ht : P.underlying t = some .string) (h : DataW.trod enc P W base sp held fuel t cs = some x) : ∃ l : List UInt8, cs = [Str l] ∧ l.length ≤ maxLen := by
  obtain ⟨s, rfl, _, hw⟩ := DataW.trod_string ht h
  refine ⟨s.data.toList, ?_, ?_⟩
  · show [Value.string s] = [Value.string ⟨s.data.toList.toArray⟩]; rw [Array.toArray_toList]
  · rw [Array.length_toList]; exact hw

theorem bytes_of_each (cs : List Value) (h : ∀ (i : Nat) (v : Value), cs[i]? = some v → ∃ b : UInt8, v = B b) : ∃ l : List UInt8, cs = l.map B := by
  induction cs with
  | nil => exact ⟨[], rfl⟩
  | cons c cs ih =>
    obtain ⟨b, rfl⟩ := h 0 c rfl
    obtain ⟨l, rfl⟩ := ih (fun i v hv => h (i + 1) v (by simpa using hv))
    exact ⟨b :: l, rfl⟩

theorem op_arr8 {k : Nat} {e : TypeId} (ht : P.underlying t = some (.array k e)) (he : P.underlying e = some (.int .u8)) (hc : P.cellsOf e = 1) (hk : P.cellsOf t = k)
    (h : DataW.trod enc P W base sp held fuel t cs = some x) : ∃ l : List UInt8, l.length = k ∧ cs = l.map B := by
  obtain ⟨xs, m, _, _, hl, hx, hi⟩ := DataW.trod_array ht h
  obtain ⟨l, rfl⟩ := bytes_of_each cs (fun i v hv => by
    have hik : i < k := by have := (List.getElem?_eq_some_iff.1 hv).1; omega
    have h1 := hi i hik
    rw [hc, Nat.mul_one] at h1
    cases hxi : xs[i]? with
    | none => simp at hxi; omega
    | some y =>
      rw [hxi] at h1
      obtain ⟨b, hb⟩ := op_u8 he h1
      refine ⟨b, ?_⟩
      have h2 : (cs.drop i).head? = some v := by simpa using hv
      cases hd : cs.drop i with
      | nil => rw [hd] at h2; cases h2
      | cons u r =>
        rw [hd] at hb h2
        simp at hb h2
        rw [← h2, hb])
  exact ⟨l, by simpa [hk] using hl, rfl⟩

/-- the field of a struct -/
theorem op_fld {fs : Array Field} (ht : P.underlying t = some (.struct fs)) (h : DataW.trod enc P W base sp held fuel t cs = some x) (i : Nat) {f : Field} (hf : fs[i]? = some f) :
    ∃ n y, DataW.trod enc P W base sp held n f.type ((cs.drop f.offset).take (P.cellsOf f.type)) = some y := by
  obtain ⟨xs, n, _, _, _, hx, hi⟩ := DataW.trod_struct ht h
  have h1 := hi i f hf
  cases hxi : xs[i]? with
  | none => have := (Array.getElem?_eq_some_iff.1 hf).1; simp at hxi; omega
  | some y => exact ⟨n, y, by rw [h1, hxi]⟩
theorem op_fldO {fs : Array Field} (ht : P.underlying t = some (.struct fs)) (h : DataW.trod enc P W base sp held fuel t cs = some x) (i ty o k : Nat) (hf : (fs[i]?).map (fun f => (f.type, f.offset)) = some (ty, o)) (hk : P.cellsOf ty = k) :
    ∃ n y, DataW.trod enc P W base sp held n ty ((cs.drop o).take k) = some y := by
  cases hi : fs[i]? with
  | none => rw [hi] at hf; cases hf
  | some f =>
    rw [hi] at hf
    simp only [Option.map_some, Option.some.injEq, Prod.mk.injEq] at hf
    obtain ⟨rfl, rfl⟩ := hf
    subst hk
    exact op_fld ht h i hi
theorem op_len {fs : Array Field} (ht : P.underlying t = some (.struct fs)) (h : DataW.trod enc P W base sp held fuel t cs = some x) : cs.length = P.cellsOf t := by
  obtain ⟨xs, n, _, _, hl, _⟩ := DataW.trod_struct ht h
  exact hl
end

/- values -/
end
end Go.Proofs.YtnhpghhibcdklaaGreatDoor

/- Readable slices: parts of them, appending them; strings: their bytes. Own work for this project; no program in sight. -/
namespace Go.Proofs.YtnhpghhibcdklaaGreatDoor
open Go Go.RowKit
/-- s[lo:hi] -/
def cutR (v : Value) (lo hi : Nat) : Value := match v with
  | .slice ad _ cap => .slice (cutAd ad lo cap 1) (hi - lo) (cap - lo)
  | u => u
theorem add_add (a : Addr) (i j : Nat) : (a.add i).add j = a.add (i + j) := by
  unfold Addr.add
  split
  · subst_vars; simp
  · split
    · subst_vars; simp; omega
    · rw [if_neg (by omega)]; simp only []; congr 1; omega
theorem RdS.cut {w : World} {v : Value} {vs : List Value} {lo hi : Nat} (h : RdS w v vs) (hb : lo ≤ hi ∧ hi ≤ vs.length) : RdS w (cutR v lo hi) ((vs.drop lo).take (hi - lo)) := by
  have hl : ((vs.drop lo).take (hi - lo)).length = hi - lo := by simp; omega
  rcases h with ⟨rfl, rfl⟩ | ⟨ad, cap, rfl, hc, hr⟩
  · simp at hb
    obtain ⟨rfl, rfl⟩ : lo = 0 ∧ hi = 0 := by omega
    exact .inl ⟨by simp [cutR, cutAd], by simp⟩
  · simp only [cutR]
    by_cases e : cap = lo
    · refine .inr ⟨ad, cap - lo, by simp [cutAd, e, hl], by omega, fun j u hj => ?_⟩
      have := (List.getElem?_eq_some_iff.1 hj).1
      omega
    · refine .inr ⟨ad.add lo, cap - lo, by simp [cutAd, e, hl], by omega, fun j u hj => ?_⟩
      have hlt := (List.getElem?_eq_some_iff.1 hj).1
      rw [hl] at hlt
      rw [List.getElem?_take, if_pos hlt, List.getElem?_drop] at hj
      have hc1 := hr _ _ hj
      rw [add_add]; exact hc1
theorem add_block (a : Addr) (i : Nat) : (a.add i).block = a.block := by unfold Addr.add; split <;> rfl
theorem adOf_cut {v : Value} {lo hi : Nat} : (adOf (cutR v lo hi)).block = (adOf v).block := by
  cases v with
  | slice ad n cap =>
    cases ad with
    | none => simp [cutR, cutAd, adOf]
    | some a =>
      simp only [cutR, cutAd]
      split <;> simp [adOf, add_block]
  | _ => rfl
section
variable {P : Program} {n : Nat} {S : World → Prop} {L : Sl} {dst : Option Tmp} {rty : TypeId} {pos : String} {af : Array Edge} {gd : Option (Nat × Bool)}
  {t t' : TypeId} {x y z : Operand} {v u : Value} {w0 : World} {vs : List Value} {k k' : IntKind} {xl xh : Operand}
theorem y_cutR {il ih : Int} (lo hi : Nat) (hx : ev L x = some v) (hl : ev L xl = some (.int k il)) (hh : ev L xh = some (.int k' ih)) (hv : RdS w0 v vs) (ht : sliB P t 1 = true)
    (hb : il = (lo : Int) ∧ ih = (hi : Int) ∧ lo ≤ hi ∧ hi ≤ vs.length) : Y P n S L ⟨dst, .slice t x (some xl) (some xh) none, rty, pos, af, gd⟩ (cutR v lo hi) := by
  obtain ⟨⟨ad, hf, _⟩, h2⟩ := hv.form
  rw [hf] at hx
  obtain ⟨rfl, rfl, h3, h4⟩ := hb
  refine (y_cutS hx hl hh ht (by omega)).cast ?_
  rw [hf]; simp [cutR, cpOf]
theorem y_cutRh {ih : Int} (hi : Nat) (hx : ev L x = some v) (hh : ev L xh = some (.int k' ih)) (hv : RdS w0 v vs) (ht : sliB P t 1 = true)
    (hb : ih = (hi : Int) ∧ hi ≤ vs.length) : Y P n S L ⟨dst, .slice t x none (some xh) none, rty, pos, af, gd⟩ (cutR v 0 hi) := by
  obtain ⟨⟨ad, hf, _⟩, h2⟩ := hv.form
  rw [hf] at hx
  obtain ⟨rfl, h4⟩ := hb
  refine (y_cutSh hx hh ht (by omega)).cast ?_
  generalize cpOf v = cp at *
  have e : cutAd ad 0 cp 1 = ad := by
    unfold cutAd; split
    · rfl
    · cases ad <;> simp [Addr.add]
  rw [hf]; simp only [cutR]
  rw [e]; simp
theorem y_cutRl {il : Int} (lo : Nat) (hx : ev L x = some v) (hl : ev L xl = some (.int k il)) (hv : RdS w0 v vs) (ht : sliB P t 1 = true)
    (hb : il = (lo : Int) ∧ lo ≤ vs.length) : Y P n S L ⟨dst, .slice t x (some xl) none none, rty, pos, af, gd⟩ (cutR v lo vs.length) := by
  obtain ⟨⟨ad, hf, _⟩, h2⟩ := hv.form
  rw [hf] at hx
  obtain ⟨rfl, h4⟩ := hb
  refine (y_cutSl hx hl ht (by omega)).cast ?_
  rw [hf]; simp [cutR, cpOf]
/-- a string's byte -/
theorem y_ixT {l : List UInt8} {i : Nat} {ii : Int} (hx : ev L x = some (Str l)) (hy : ev L y = some (.int k ii)) (ht : P.underlying t = some .string) (hi : ii = (i : Int) ∧ i < l.length) :
    Y P n S L ⟨dst, .index t x y, rty, pos, af, gd⟩ (B (l.getD i 0)) := fun q w ha _ => by
  have h1 := ha.ev hx; have h2 := ha.ev hy
  obtain ⟨rfl, hi⟩ := hi
  have e : (ByteArray.mk l.toArray)[i]? = some (l.getD i 0) := by
    rw [getElem?_pos _ _ (by simpa [ByteArray.size] using hi)]
    simp [ByteArray.getElem_eq_getElem_data, List.getD_eq_getElem?_getD, hi]
  simp [execOp, h1, h2, Instr.index, asIntOf, underlying, ht, e]
theorem y_lenStr {l : List UInt8} (hx : ev L x = some (Str l)) (ht : P.underlying t = some .string) :
    Y P n S L ⟨dst, .call { callee := .builtin .len, args := #[x], argTypes := #[t] }, rty, pos, af, gd⟩ (I l.length) := (y_lenT hx ht).cast (by simp [ByteArray.size])
end
section
variable {c : Cx} {L : Sl} {H : List Res} {K : Act → World → Prop}
/-- a fact that the pieces bear out at every world -/
theorem tk_form {p : Prop} (h0 : ∀ w, St c w H → p) (h : p → TK c K L H) : TK c K L H := fun a w ha hw => h (h0 w hw) a w ha hw
theorem Fs.of_get {r : Res} {k : Nat} : ∀ {H : List Res} {i : Nat}, H[i]? = some r → r.fp k → Fs H k
  | [], _, h, _ => by simp at h
  | _ :: _, 0, h, hk => by simp at h; subst h; exact .inl hk
  | _ :: H, i + 1, h, hk => .inr (Fs.of_get (H := H) (i := i) (by simpa using h) hk)
theorem dj_at : ∀ {H : List Res} {i j : Nat} {r s : Res}, Dj H → i < j → H[i]? = some r → H[j]? = some s → ∀ k, r.fp k → ¬ s.fp k
  | [], _, _, _, _, _, _, h, _ => by simp at h
  | _ :: H, 0, 0, _, _, _, h, _, _ => by omega
  | _ :: H, 0, j + 1, r, s, hd, _, h, h' => fun k hk hs => by
    simp at h; subst h
    exact hd.1 k hk (Fs.of_get (H := H) (i := j) (by simpa using h') hs)
  | _ :: H, i + 1, 0, _, _, _, h, _, _ => by omega
  | _ :: H, i + 1, j + 1, r, s, hd, hij, h, h' => dj_at (H := H) (i := i) (j := j) hd.2 (by omega) (by simpa using h) (by simpa using h')
/-- two rows in the list are two blocks -/
theorem St.two {w : World} {b b' : Nat} {cs cs' : List Value} {T T' : TypeId} (h : St c w H) (i j : Nat) (hij : i < j) (hi : H[i]? = some (cel b cs T)) (hj : H[j]? = some (cel b' cs' T')) : b ≠ b' := fun e =>
  dj_at h.dj hij hi hj b rfl e
end
section
variable {c : Cx} {L : Sl} {H : List Res} {P : Program} {Q : Exit → Act → World → Prop} {ops : Array Oper} {S S' : World → Prop} {X : List Nat} {f : Nat} {l : Array Bool}
theorem AnyX.and : ∀ (f : Nat) (l : Array Bool) (a : Act) (w : World), S w ∧ S' w → AnyX P ops Q (fun w => S w ∧ S' w) [] f l a w → AnyX P ops Q S [] f l a w
  | 0, _, _, _, _, h => h
  | f + 1, _, _, w, h0, h => ⟨h.1, fun i hi => wpOp_mono (fun _ w' h' => by
      rcases h'.1 with h1 | h1
      · cases h1
      · exact ⟨.inr fun _ => (h1 h0).1, AnyX.and f _ _ _ (h1 h0) h'.2⟩) (h.2 i hi)⟩
end
section
variable {c : Cx} {L : Sl} {H : List Res} {P : Program} {Q : Exit → Act → World → Prop} {K : Act → World → Prop} {d : Nat} {rty : TypeId} {pos : String} {af : Array Edge} {gd : Option (Nat × Bool)} {t t' : TypeId} {x y : Operand} {v u : Value}
/-- append a readable slice of one-cell elements -/
theorem a_appendR {H1 H2 : List Res} {n : Nat} {xs news : List Value} {e : TypeId} {bytes : Nat} (hx : ev L x = some v) (hy : ev L y = some u) (he : elB P t e 1 bytes) (hn : Nat.blt d c.n = true)
    (hH : H = H1 ++ own v n xs e 1 :: H2) (hr : ∀ w, St c w H → RdS w u news) (h1 : ∀ u ∈ news, u.oneCell' = true)
    (hb : n + news.length ≤ 140737488355328 ∧ (n + news.length) * bytes ≤ 140737488355328) (h : ∀ v', TK c K ((d, v') :: L) (H1 ++ own v' (n + news.length) (xs ++ news) e 1 :: H2)) :
    TK c (fun a w => (⟨some d, .call { callee := .builtin .append, args := #[x, y], argTypes := #[t, t] }, rty, pos, af, gd⟩ : Oper).wp P a w K Q) L H := fun a w ha hw => by
  rcases hr w hw with ⟨rfl, rfl⟩ | ⟨ad, cp, rfl, hc, hcell⟩
  · subst hH
    have h2 := ha.ev hx; have h3 := ha.ev hy
    obtain ⟨ht, i, z, hi, hz, hzs, hs1, rfl, hsz⟩ := he
    have hown := hw.mem (r := own v n xs e 1) (by simp)
    have e1 : (Builtin.append_ #[t, t] rty #[v, .slice none 0 0]).run P w = .ok v w := by
      rcases hown.2 with ⟨rfl, rfl⟩ | ⟨g, o, cap, cur, fr, T, rfl, hg, hf, hnc, hcm, hcs, htake⟩
      · simp [Builtin.append_, run_underlying ht, sizeOf, typeInfo, hi, Builtin.lenOf, Builtin.firstCells]
      · simp [Builtin.append_, run_underlying ht, sizeOf, typeInfo, hi, Builtin.lenOf, Builtin.firstCells, hnc, storeCells]
    have e2 : (execOp a.eval (⟨some d, .call { callee := .builtin .append, args := #[x, y], argTypes := #[t, t] }, rty, pos, af, gd⟩ : Oper)).run P w = .ok (.value v) w := by
      simp [execOp, resolve, h2, h3, invoke, builtin, e1]
    change Oper.upon P _ a K Q ((execOp a.eval _).run P w)
    rw [e2, Oper.upon_value]
    have := h v
    simp only [List.length_nil, Nat.add_zero, List.append_nil] at this
    exact this _ _ (ha.put hn _) hw
  · exact (a_append (c := c) (K := K) (Q := Q) (rty := rty) (pos := pos) (af := af) (gd := gd) (L := L) (H := H) (d := d) hx (by
      have h3 := ha.ev hy
      exact hy) he hn hH (by simp) (fun w' hw' j u' hj => by
        rcases hr w' hw' with ⟨h0, _⟩ | ⟨ad', cp', h0, _, hcell'⟩
        · cases h0
        · cases h0; exact hcell' j u' hj) h1 hb h) a w ha hw
theorem RdS.ne {w : World} {v : Value} {vs : List Value} {b : Nat} {cs : List Value} {T : TypeId} (h : St c w H) (hr : RdS c.w0 v vs) (hE : ¬ c.E (adOf v).block) (hm : cel b cs T ∈ H) : vs = [] ∨ (adOf v).block ≠ b := by
  cases vs with
  | nil => exact .inl rfl
  | cons u us =>
    have h0 := hr.cell (j := 0) (u := u) rfl
    have h1 : (adOf v).add 0 = adOf v := by simp [Addr.add]
    rw [h1] at h0
    exact .inr (h.ne h0 hE hm)
end
end Go.Proofs.YtnhpghhibcdklaaGreatDoor

/- Words of 64 bits as natural numbers; bytes of a string; copy. Own work for this project; no program in sight. -/
namespace Go.Proofs.YtnhpghhibcdklaaGreatDoor
open Go Go.RowKit
theorem ofInt_64 (a : Nat) (ha : a < 18446744073709551616) : (BitVec.ofInt 64 (a : Int)).toNat = a := by
  rw [BitVec.ofInt_natCast, BitVec.toNat_ofNat]; exact Nat.mod_eq_of_lt (by omega)
section
variable {P : Program} {n : Nat} {S : World → Prop} {L : Sl} {dst : Option Tmp} {rty : TypeId} {pos : String} {af : Array Edge} {gd : Option (Nat × Bool)}
  {t t' : TypeId} {x y z : Operand} {v u : Value}
theorem y_shlI {a m : Nat} (hx : ev L x = some (I (a : Int))) (hy : ev L y = some (I (m : Int))) (hm : m ≤ 64) (h : a * 2 ^ m < 9223372036854775808) : Y P n S L ⟨dst, .binOp .shl t x y t', rty, pos, af, gd⟩ (I ((a * 2 ^ m : Nat) : Int)) :=
  (y_shl hx hy (by omega)).cast (by
    have e : min ((m : Int)).toNat IntKind.i64.bits = m := by simp [IntKind.bits]; omega
    have e2 : (a : Int) * 2 ^ m = ((a * 2 ^ m : Nat) : Int) := by simp
    rw [e, e2, wrap_in (by omega) (by omega)])
theorem y_subN {a b : Nat} (hx : ev L x = some (I (a : Int))) (hy : ev L y = some (I (b : Int))) (h : b ≤ a ∧ a < 9223372036854775808) : Y P n S L ⟨dst, .binOp .sub t x y t', rty, pos, af, gd⟩ (I ((a - b : Nat) : Int)) :=
  (y_subI hx hy (by omega)).cast (by congr 1; omega)
end
section
variable {c : Cx} {L : Sl} {H : List Res} {P : Program} {Q : Exit → Act → World → Prop} {K : Act → World → Prop} {d : Nat} {rty : TypeId} {pos : String} {af : Array Edge} {gd : Option (Nat × Bool)} {t t' : TypeId} {x y : Operand} {v u : Value}
end
end Go.Proofs.YtnhpghhibcdklaaGreatDoor

/- Owned slices seen as rows; slice literals of three and of none. Own work for this project; no program in sight. -/
namespace Go.Proofs.YtnhpghhibcdklaaGreatDoor
open Go Go.RowKit
section
variable {c : Cx} {L : Sl} {H : List Res} {K : Act → World → Prop}
theorem tk_celOwn {H1 H2 : List Res} {g n : Nat} {cs : List Value} {e T : TypeId} (hH : H = H1 ++ cel g cs T :: H2) (hn : n ≤ cs.length) (hm : cs.length ≤ maxLen)
    (h : TK c K L (H1 ++ own (.slice (some ⟨g, 0, none⟩) n cs.length) n (cs.take n) e 1 :: H2)) : TK c K L H := fun a w ha hw => by
  subst hH
  obtain ⟨fr, hb, hf⟩ := hw.mem (r := cel g cs T) (by simp)
  refine h a w ha ((St.turn (r := cel g cs T) (N := [own (.slice (some ⟨g, 0, none⟩) n cs.length) n (cs.take n) e 1]) hw (Fo.refl _ _) ⟨⟨by simp; omega, .inr ⟨g, 0, cs.length, cs.toArray, fr, T, rfl, hb, by simpa using hf, hn, hm, by simp, by simp⟩⟩, trivial⟩ ⟨fun _ _ h => h, trivial⟩ (fun k hk => ?_)).perm perm_mid)
  rcases hk with hk | hk
  · left; simp [own, Value.ownBlock] at hk; exact hk.symm
  · exact hk.elim
end
section
variable {c : Cx} {L : Sl} {H : List Res} {P : Program} {Q : Exit → Act → World → Prop} {K : Act → World → Prop} {d : Nat} {rty : TypeId} {pos : String} {af : Array Edge} {gd : Option (Nat × Bool)} {t t' : TypeId} {x y : Operand} {v u v0 v1 v2 : Value}
theorem run_slit0 {w : World} {e : TypeId} {bytes : Nat} (he : elB P t e 1 bytes) :
    (Instr.buildSlice t 0 #[]).run P w = .ok (.slice (some ⟨w.heap.size, 0, none⟩) 0 0) { w with heap := w.heap.push (.cells ([] : List Value).toArray e) } := by
  obtain ⟨ht, i, _, hi, _, _, _, _, _⟩ := he
  have e0 : Array.range 0 = #[] := rfl
  simp [Instr.buildSlice, underlying, ht, Go.sizeOf, typeInfo, hi, Instr.fill, newRow, e0]
theorem a_slit0 {e : TypeId} {bytes : Nat} (he : elB P t e 1 bytes) (hn : Nat.blt d c.n = true)
    (h : ∀ v, TK c K ((d, v) :: L) (own v 0 [] e 1 :: H)) :
    TK c (fun a w => (⟨some d, .buildSlice t 0 #[], rty, pos, af, gd⟩ : Oper).wp P a w K Q) L H :=
  a_slit (xs := []) (vs := []) (cs := []) rfl hn (fun _ => run_slit0 he) (fun b => tk_celOwn (H1 := []) (n := 0) rfl (Nat.zero_le _) (by simp) (h _))
/-- a store into an owned slice -/
theorem a_storeOwn {H1 H2 : List Res} {n i : Nat} {xs : List Value} {e : TypeId} (hx : ev L x = some (.pointer (some ((adOf v).add i)))) (hy : ev L y = some u) (hone : u.oneCell' = true) (ht : szB P t 1 = true)
    (hH : H = H1 ++ own v n xs e 1 :: H2) (hi : i < n) (h : TK c K L (H1 ++ own v n (xs.set i u) e 1 :: H2)) :
    TK c (fun a w => (⟨none, .store t x y, rty, pos, af, gd⟩ : Oper).wp P a w K Q) L H := fun a w ha hw => by
  subst hH
  have h1 := ha.ev hx; have h2 := ha.ev hy
  have hm : (own v n xs e 1).holds w := hw.mem (by simp)
  obtain ⟨hl, h3⟩ := hm
  rcases h3 with ⟨rfl, rfl⟩ | ⟨g, o, cap, cur, fr, T, rfl, hg, hf, hc, hcm, hcs, htk⟩
  · omega
  · have had : (adOf (.slice (some ⟨g, o, none⟩) n cap)).add i = ⟨g, o + i, none⟩ := by simp only [adOf]; rw [add_w]
    rw [had] at h1
    have hu : u.cells.toList = [u] := by cases u <;> first | rfl | simp [Value.oneCell'] at hone
    have hus : u.cells.size = 1 := by have := congrArg List.length hu; simpa using this
    have hi2 : o + i < cur.size := by omega
    obtain ⟨w', h4, h5, h6⟩ := run_storeCells P g T [u] (o + i) 0 w cur.toList fr (by simpa using hg) (by simpa using hf) (by simpa using hone) (by simp; omega)
    have e1 : (execOp a.eval (⟨none, .store t x y, rty, pos, af, gd⟩ : Oper)).run P w = .ok .skip w' := by
      simp only [execOp, h1, h2, Instr.storeAt, Instr.sureAddr, storeVar]
      simp [szB_run ht, hus, hu, h4]
    change Oper.upon P _ a K Q ((execOp a.eval _).run P w)
    rw [e1, Oper.upon_skip]
    have e2 : cur.toList.take (o + i + 0) ++ [u] ++ cur.toList.drop (o + i + 0 + [u].length) = cur.toList.set (o + i) u := by
      rw [List.set_eq_take_append_cons_drop, if_pos (by simpa using hi2)]; simp
    rw [e2] at h5
    refine h _ _ (ha.putNone _) (St.perm (St.turn (N := [own (.slice (some ⟨g, o, none⟩) n cap) n (xs.set i u) e 1]) hw (h6.mono (fun k hk => by show some g = some k; rw [hk])) ⟨⟨by simpa using hl, .inr ⟨g, o, cap, (cur.toList.set (o + i) u).toArray, fr, T, rfl, h5, by simpa using hf, hc, hcm, by simpa using hcs, ?_⟩⟩, trivial⟩ ⟨fun _ _ h => h, trivial⟩ ?_) perm_mid)
    · rw [← htk, List.drop_set, if_neg (by omega), List.take_set]; congr 1; omega
    · intro j hj
      rcases hj with hj | hj
      · exact .inl hj
      · exact hj.elim
end
/-! ### short steps: what a printed walk says over and over -/
noncomputable def xqB (ops : Array Oper) (L : Sl) (n i : Nat) : Option (Oper × Nat) := match ops[i]? with
  | some o => match o.dst with
    | some d => match Nat.blt d n with
      | true => match gdB ops L o with
        | some true => some (o, d)
        | _ => none
      | false => none
    | none => none
  | none => none
theorem xqB_spec {ops : Array Oper} {L : Sl} {n i : Nat} {o : Oper} {d : Nat} (h : xqB ops L n i = some (o, d)) : ops[i]? = some o ∧ o.dst = some d ∧ Nat.blt d n = true ∧ gdB ops L o = some true := by
  unfold xqB at h
  repeat' (split at h)
  all_goals first | (cases h; done) | (simp only [Option.some.injEq, Prod.mk.injEq] at h; obtain ⟨rfl, rfl⟩ := h; exact ⟨by assumption, by assumption, by assumption, by assumption⟩)
noncomputable def tqB (o : Oper) (n : Nat) : Option Nat := match o.guard with
  | none => match o.dst with
    | some d => match Nat.blt d n with
      | true => some d
      | false => none
    | none => none
  | some _ => none
theorem tqB_spec {o : Oper} {n d : Nat} (h : tqB o n = some d) : o.dst = some d ∧ o.guard = none ∧ Nat.blt d n = true := by
  unfold tqB at h
  repeat' (split at h)
  all_goals first | (cases h; done) | (simp only [Option.some.injEq] at h; subst h; exact ⟨by assumption, by assumption, by assumption⟩)
noncomputable def gqB (ops : Array Oper) (L : Sl) (o : Oper) (n : Nat) : Option Nat := match o.dst with
  | some d => match Nat.blt d n with
    | true => match gdB ops L o with
      | some true => some d
      | _ => none
    | false => none
  | none => none
theorem gqB_spec {ops : Array Oper} {L : Sl} {o : Oper} {n d : Nat} (h : gqB ops L o n = some d) : o.dst = some d ∧ Nat.blt d n = true ∧ gdB ops L o = some true := by
  unfold gqB at h
  repeat' (split at h)
  all_goals first | (cases h; done) | (simp only [Option.some.injEq] at h; subst h; exact ⟨by assumption, by assumption, by assumption⟩)
section
variable {c : Cx} {L : Sl} {H : List Res} {P : Program} {ops : Array Oper} {Q : Exit → Act → World → Prop} {K : Act → World → Prop} {S : World → Prop} {X : List Nat} {f : Nat} {l : Array Bool} {o oi : Oper} {rest : List Oper} {d : Nat} {v : Value}
theorem s_q (hd : tqB o c.n = some d) (hy : Y P c.n (fun w => St c w H) L o v)
    (h : TK c (wpList P ops Q rest) ((d, v) :: L) H) : TK c (wpList P ops Q (o :: rest)) L H := tk_q (tqB_spec hd).1 (tqB_spec hd).2.1 (tqB_spec hd).2.2 hy h
theorem s_g (hd : gqB ops L o c.n = some d) (hy : Y P c.n (fun w => St c w H) L o v)
    (h : TK c (wpList P ops Q rest) ((d, v) :: L) H) : TK c (wpList P ops Q (o :: rest)) L H := tk_gq (gqB_spec hd).1 (gqB_spec hd).2.1 (gqB_spec hd).2.2 hy h
theorem s_x (i : Nat) (hi : xqB ops L c.n i = some (oi, d)) (hy : Y P c.n (fun _ => True) L oi v)
    (h : TK c (AnyX P ops Q S X f (l.setIfInBounds i true)) ((d, v) :: L) H) (hok : okB ops l i = true := by kernel_rfl)
    (hQ : ∀ ch a w, Q (.panic ch) (a.put (some d) v) w → Q (.panic ch) a w := by exact fun _ _ _ h => h) : TK c (AnyX P ops Q S X (f + 1) l) L H :=
  tx_q i (xqB_spec hi).1 hok (xqB_spec hi).2.1 (xqB_spec hi).2.2.1 (xqB_spec hi).2.2.2 hQ hy h
theorem s_l (i : Nat) (hi : xqB ops L c.n i = some (oi, d)) (hS : ∀ w, St c w H → S w) (hy : Y P c.n S L oi v)
    (h : TK c (AnyX P ops Q S X f (l.setIfInBounds i true)) ((d, v) :: L) H) (hok : okB ops l i = true := by kernel_rfl) (hX : waitB ops X i = true := by kernel_rfl)
    (hQ : ∀ ch a w, Q (.panic ch) (a.put (some d) v) w → Q (.panic ch) a w := by exact fun _ _ _ h => h) : TK c (AnyX P ops Q S X (f + 1) l) L H :=
  tx_l i (xqB_spec hi).1 hok hX (xqB_spec hi).2.1 (xqB_spec hi).2.2.1 (xqB_spec hi).2.2.2 hQ hS hy h
theorem s_r {y : Code} {id : Nat} {l : List Oper} (h : TK c (wpList P l.toArray (Exit.then (y.wp P Q) Q) l) L H) : TK c ((Code.seq (Code.region id l.toArray false) y).wp P Q) L H := tk_seq (tk_region h)
theorem s_n {nx : Act → World → Prop} (h : TK c nx L H) : TK c (wpList P ops (Exit.then nx Q) []) L H := tk_nil (tk_then h)
end
/-! ## short words -/
theorem kR {p : Prop} (h : p := by kernel_rfl) : p := h
theorem oM {p : Prop} (h : p := by omega) : p := h
theorem sI {p : Prop} (h : p := by simp) : p := h
theorem sO {p : Prop} (h : p := by simp; omega) : p := h
theorem dC {p : Prop} (h : p := by decide) : p := h
theorem sB {p : Prop} (h : p := by repeat (first | exact trivial | refine ⟨rfl, ?_⟩)) : p := h
theorem lQ {p : Prop} (h : p := by first | rfl | exact lenP | (simp; omega)) : p := h
theorem rS {p : Prop} (h : p := by first | rfl | simp) : p := h
theorem sW {p : Prop} (h : p := by first | (simp; done) | (simp; omega)) : p := h
noncomputable def nthR {α : Type} (n : Nat) : List α → Option α := Nat.rec (fun l => match l with | [] => none | x :: _ => some x) (fun _ ih l => match l with | [] => none | _ :: t => ih t) n
theorem mm {α : Type} {a : α} : ∀ (n : Nat) {l : List α}, nthR n l = some a → a ∈ l
  | 0, [], h => by cases h
  | 0, x :: _, h => by have h' : some x = some a := h; cases h'; exact .head _
  | _ + 1, [], h => by cases h
  | n + 1, x :: t, h => .tail _ (mm n (l := t) h)
noncomputable def pickR (n : Nat) : List Res → Option (List Res) := Nat.rec (fun l => some l) (fun _ ih l => match l with | [] => none | x :: t => match ih t with | some (y :: t') => some (y :: x :: t') | _ => none) n
theorem pk : ∀ (n : Nat) {l l' : List Res}, pickR n l = some l' → l.Perm l'
  | 0, l, l', h => by have h' : some l = some l' := h; cases h'; exact .refl _
  | n + 1, [], _, h => by cases h
  | n + 1, x :: t, l', h => by
    have h' : (match pickR n t with | some (y :: t') => some (y :: x :: t') | _ => none) = some l' := h
    cases hp : pickR n t with
    | none => rw [hp] at h'; cases h'
    | some u =>
      rw [hp] at h'
      cases u with
      | nil => cases h'
      | cons y t' => simp only [Option.some.injEq] at h'; subst h'; exact (List.Perm.cons x (pk n hp)).trans (.swap _ _ _)
noncomputable def picksR (ns : List Nat) : List Res → Option (List Res) := List.rec (fun l => some l) (fun n _ ih l => match pickR n l with | some l' => ih l' | none => none) ns
theorem pks : ∀ (ns : List Nat) {l l' : List Res}, picksR ns l = some l' → l.Perm l'
  | [], l, l', h => by have h' : some l = some l' := h; cases h'; exact .refl _
  | n :: ns, l, l', h => by
    have h' : (match pickR n l with | some l' => picksR ns l' | none => none) = some l' := h
    cases hp : pickR n l with
    | none => rw [hp] at h'; cases h'
    | some u => rw [hp] at h'; exact (pk n hp).trans (pks ns h')
noncomputable def cutR' (n : Nat) : List Res → Option (Res × List Res) := Nat.rec (fun l => match l with | [] => none | x :: t => some (x, t)) (fun _ ih l => match l with | [] => none | _ :: t => ih t) n
noncomputable def selR (ns : List Nat) : List Res → Option (List Res) := List.rec (fun _ => some []) (fun n _ ih l => match cutR' n l with | some (x, t) => (match ih t with | some t' => some (x :: t') | none => none) | none => none) ns
theorem cutR'_sub : ∀ (n : Nat) {l t : List Res} {x : Res}, cutR' n l = some (x, t) → (x :: t).Sublist l
  | 0, [], _, _, h => by cases h
  | 0, y :: u, t, x, h => by have h' : some (y, u) = some (x, t) := h; cases h'; exact .refl _
  | n + 1, [], _, _, h => by cases h
  | n + 1, y :: u, t, x, h => .cons _ (cutR'_sub n (l := u) h)
theorem selR_sub : ∀ (ns : List Nat) {l l' : List Res}, selR ns l = some l' → l'.Sublist l
  | [], l, l', h => by have h' : some [] = some l' := h; cases h'; exact List.nil_sublist _
  | n :: ns, l, l', h => by
    have h' : (match cutR' n l with | some (x, t) => (match selR ns t with | some t' => some (x :: t') | none => none) | none => none) = some l' := h
    cases hc : cutR' n l with
    | none => rw [hc] at h'; cases h'
    | some xt =>
      obtain ⟨x, t⟩ := xt; rw [hc] at h'; dsimp only at h'
      cases hs : selR ns t with
      | none => rw [hs] at h'; cases h'
      | some t' => rw [hs] at h'; simp only [Option.some.injEq] at h'; subst h'; exact (List.Sublist.cons_cons x (selR_sub ns hs)).trans (cutR'_sub n hc)
noncomputable def dropR (n : Nat) : List Res → Option (List Res) := Nat.rec (fun l => some l) (fun _ ih l => match l with | [] => none | _ :: t => ih t) n
theorem dropR_sub : ∀ (n : Nat) {l l' : List Res}, dropR n l = some l' → l'.Sublist l
  | 0, l, l', h => by have h' : some l = some l' := h; cases h'; exact .refl _
  | _ + 1, [], _, h => by cases h
  | n + 1, _ :: t, _, h => .cons _ (dropR_sub n (l := t) h)
noncomputable def selT (ns : List Nat) (k : Nat) : List Res → Option (List Res) := List.rec (fun l => dropR k l) (fun n _ ih l => match cutR' n l with | some (x, t) => (match ih t with | some t' => some (x :: t') | none => none) | none => none) ns
theorem selT_sub : ∀ (ns : List Nat) {k : Nat} {l l' : List Res}, selT ns k l = some l' → l'.Sublist l
  | [], k, l, l', h => dropR_sub k h
  | n :: ns, k, l, l', h => by
    have h' : (match cutR' n l with | some (x, t) => (match selT ns k t with | some t' => some (x :: t') | none => none) | none => none) = some l' := h
    cases hc : cutR' n l with
    | none => rw [hc] at h'; cases h'
    | some xt =>
      obtain ⟨x, t⟩ := xt; rw [hc] at h'; dsimp only at h'
      cases hs : selT ns k t with
      | none => rw [hs] at h'; cases h'
      | some t' => rw [hs] at h'; simp only [Option.some.injEq] at h'; subst h'; exact (List.Sublist.cons_cons x (selT_sub ns hs)).trans (cutR'_sub n hc)
theorem kD {c : Cx} {w : World} {H H' : List Res} (n : Nat) (h : dropR n H = some H') (q : St c w H) : St c w H' := q.sub (dropR_sub n h)
theorem kT {c : Cx} {w : World} {H H' : List Res} (ns : List Nat) (k : Nat) (h : selT ns k H = some H') (q : St c w H) : St c w H' := q.sub (selT_sub ns h)
theorem kS {c : Cx} {w : World} {H H' : List Res} (ns : List Nat) (h : selR ns H = some H') (q : St c w H) : St c w H' := q.sub (selR_sub ns h)
section
variable {c : Cx} {L : Sl} {H : List Res} {P : Program} {ops : Array Oper} {Q : Exit → Act → World → Prop} {K : Act → World → Prop} {S : World → Prop} {X : List Nat} {f : Nat} {l : Array Bool} {dst : Option Nat} {rest : List Oper} {x : Operand} {rty : TypeId} {pos : String} {af : Array Edge} {gd : Option (Nat × Bool)} {d : Nat} {v : Value} {oi : Oper}
theorem tk_ps {H' : List Res} (ns : List Nat) (p : picksR ns H = some H') (h : TK c K L H') : TK c K L H := tk_perm _ (pks ns p) h
/-- one piece told otherwise -/
theorem tk_R {H1 H2 : List Res} {r r' : Res} (hH : H = H1 ++ r :: H2) (e : r = r') (h : TK c K L (H1 ++ r' :: H2)) : TK c K L H := by
  subst hH; subst e; exact h
theorem q_m (hd : tqB ⟨dst, .move x, rty, pos, af, gd⟩ c.n = some d) (hx : ev L x = some v) (h : TK c (wpList P ops Q rest) ((d, v) :: L) H) : TK c (wpList P ops Q (⟨dst, .move x, rty, pos, af, gd⟩ :: rest)) L H := s_q hd (y_move hx) h
theorem q_a (hd : tqB ⟨dst, .assign x, rty, pos, af, gd⟩ c.n = some d) (hx : ev L x = some v) (h : TK c (wpList P ops Q rest) ((d, v) :: L) H) : TK c (wpList P ops Q (⟨dst, .assign x, rty, pos, af, gd⟩ :: rest)) L H := s_q hd (y_assign hx) h
end
end Go.Proofs.YtnhpghhibcdklaaGreatDoor

set_option linter.unusedSimpArgs false
set_option linter.unusedVariables false
/- What the second printer asks: rows in segments, words of 32 bits, pieces that are only read, regions that keep a chosen list of pieces. Own work for this project; no program in sight. -/
namespace Go.Proofs.YtnhpghhibcdklaaGreatDoor
open Go Go.RowKit

/-! ## rows in segments -/
theorem gA {l1 l2 : List Value} {k o i : Nat} {v : Value} (h1 : l1.length = k) (ho : o = k + i) (h : l2[i]? = some v) : (l1 ++ l2)[o]? = some v := by
  subst ho; subst h1
  rw [List.getElem?_append_right (by omega)]; simpa using h
theorem gM {α : Type} {f : α → Value} {l : List α} {i : Nat} {d : α} (h : i < l.length) : (l.map f)[i]? = some (f (l.getD i d)) := by simp [List.getD_eq_getElem?_getD, h]
theorem gM1 {α : Type} {f : α → Value} {l : List α} {r : List Value} {i : Nat} {d : α} (h : i < l.length) : (l.map f ++ r)[i]? = some (f (l.getD i d)) := by
  rw [List.getElem?_append_left (by simpa using h)]; exact gM h
theorem sM {α : Type} {f : α → Value} {l : List α} {i : Nat} {v : α} : (l.map f).set i (f v) = (l.set i v).map f := List.map_set.symm
theorem sM1 {α : Type} {f : α → Value} {l : List α} {r : List Value} {i : Nat} {v : α} (h : i < l.length) : (l.map f ++ r).set i (f v) = (l.set i v).map f ++ r := by
  rw [List.set_append_left _ _ (by simpa using h), sM]
theorem sA {l1 l2 l2' : List Value} {k o i : Nat} {v : Value} (h1 : l1.length = k) (ho : o = k + i) (h : l2.set i v = l2') : (l1 ++ l2).set o v = l1 ++ l2' := by
  subst ho; subst h1
  rw [List.set_append_right _ _ (by omega), ← h]
  congr 2; omega
theorem oneW {l : List UInt32} : ∀ u ∈ l.map W4, u.oneCell' = true := by
  intro u hu
  obtain ⟨a, _, rfl⟩ := List.mem_map.1 hu
  rfl
abbrev Pre (w : World) (H0 : List Res) : Prop := Hs w H0 ∧ Dj H0
theorem St.pre {c : Cx} {w : World} {H0 Hr : List Res} (hw : St c w (H0 ++ Hr)) : Pre w H0 := ⟨(Hs_append.1 hw.hs).1, (Dj_append.1 hw.dj).1⟩

/-! parts of rows in segments -/
theorem dsW {α : Type} {f : α → Value} {l : List α} : ((l.map f).drop 0).take (l.map f).length = l.map f := by rw [List.drop_zero, List.take_length]
theorem dsW1 {α : Type} {f : α → Value} {l : List α} {r : List Value} : ((l.map f ++ r).drop 0).take (l.map f).length = l.map f := by rw [List.drop_zero, List.take_left]
theorem dsA {l1 l2 vs : List Value} {k o i : Nat} (h1 : l1.length = k) (ho : o = k + i) (h : (l2.drop i).take vs.length = vs) : ((l1 ++ l2).drop o).take vs.length = vs := by
  subst ho; subst h1
  rw [← List.drop_drop, List.drop_left]; exact h
/-- slices of bytes, with what they hold -/
abbrev Sb := Value × List UInt8
def dP : Sb := (.slice none 0 0, [])
theorem getD_mem {α : Type} {l : List α} {i : Nat} {d : α} (h : i < l.length) : l.getD i d ∈ l := by
  rw [List.getD_eq_getElem?_getD, List.getElem?_eq_getElem h]; exact List.getElem_mem h

/-! ## pieces that are only read -/
def Ro (E : Nat → Prop) (w : World) (p : Res) : Prop := p.holds w ∧ ∀ k, p.fp k → ¬ E k
theorem Ro.st {c : Cx} {p : Res} {w : World} {H : List Res} (h : Ro c.E c.w0 p) (hw : St c w H) : p.holds w :=
  p.loc _ _ (fun k hk => hw.fr.block k (p.bnd _ h.1 k hk) (h.2 k hk)) h.1
theorem Ro.call {c : Cx} {p : Res} {w : World} {H0 Hr : List Res} (h : Ro c.E c.w0 p) (hw : St c w (H0 ++ Hr)) : Ro (Fs H0) w p :=
  ⟨h.st hw, fun k hk hf => by
    rcases hw.own k (Fs_append.2 (.inl hf)) with h1 | h1
    · exact h.2 k hk h1
    · have := p.bnd _ h.1 k hk; omega⟩
/-- out of a piece that is not handed on -/
theorem Ro.out {c : Cx} {p q : Res} {w : World} {H0 Hr : List Res} (hw : St c w (H0 ++ Hr)) (hq : q ∈ Hr) (h : q.holds w → p.holds w) (hf : ∀ k, p.fp k → q.fp k) : Ro (Fs H0) w p :=
  ⟨h (hw.mem (by simp [hq])), fun k hk h0 => (Dj_append.1 hw.dj).2.2 k h0 (Fs.of_mem hq (hf k hk))⟩
theorem Ro.nil {w : World} {p : Res} (h : p.holds w) : Ro (Fs []) w p := ⟨h, fun _ _ h => h⟩
/-- the cells of a slice, as a piece -/
def rd (v : Value) (vs : List Value) : Res where
  fp k := vs ≠ [] ∧ (adOf v).block = k
  holds w := RdS w v vs
  loc w w' h hr := by
    rcases hr with hr | ⟨ad, cp, rfl, hc, hr⟩
    · exact .inl hr
    · refine .inr ⟨ad, cp, rfl, hc, fun j u hj => ?_⟩
      have hb : (ad.add j).block = ad.block := by cases j <;> simp [Addr.add]
      have hne : vs ≠ [] := fun e => by subst e; cases hj
      have := h ad.block ⟨hne, rfl⟩
      have h2 := hr j u hj
      simp only [World.cell?, hb] at h2 ⊢
      rw [this]; exact h2
  bnd w hr k hk := by
    obtain ⟨hne, rfl⟩ := hk
    cases vs with
    | nil => exact (hne rfl).elim
    | cons u us =>
      have h0 := hr.cell (j := 0) (u := u) rfl
      rw [show (adOf v).add 0 = adOf v by simp [Addr.add]] at h0
      exact World.block_lt_of_cell? w _ h0
abbrev rdB (v : Value) (l : List UInt8) : Res := rd v (l.map B)
theorem Ro.rd {c : Cx} {v : Value} {vs : List Value} {w : World} {H : List Res} (h : Ro c.E c.w0 (YtnhpghhibcdklaaGreatDoor.rd v vs)) (hw : St c w H) : RdS w v vs := h.st hw
theorem RdS.nil {w : World} : RdS w (.slice none 0 0) [] := .inl ⟨rfl, rfl⟩
theorem RdS.cutB {w : World} {v : Value} {l : List UInt8} {lo hi : Nat} (h : RdB w v l) (hb : lo ≤ hi ∧ hi ≤ l.length) : RdB w (cutR v lo hi) ((l.drop lo).take (hi - lo)) := by
  have := RdS.cut h (lo := lo) (hi := hi) (by simpa using hb)
  rwa [← List.map_drop, ← List.map_take] at this
theorem RdS.cutBh {w : World} {v : Value} {l : List UInt8} {hi : Nat} (h : RdB w v l) (hb : hi ≤ l.length) : RdB w (cutR v 0 hi) (l.take hi) := by
  have := RdS.cutB h (lo := 0) (hi := hi) ⟨Nat.zero_le _, hb⟩
  simpa using this
theorem RdS.cutBl {w : World} {v : Value} {l : List UInt8} {lo : Nat} (h : RdB w v l) (hb : lo ≤ l.length) : RdB w (cutR v lo l.length) (l.drop lo) := by
  have := RdS.cutB h (lo := lo) (hi := l.length) ⟨hb, Nat.le_refl _⟩
  rwa [List.take_of_length_le (by simp)] at this
theorem Ro.cutB {E : Nat → Prop} {w : World} {v : Value} {l : List UInt8} {lo hi : Nat} (h : Ro E w (rdB v l)) (hb : lo ≤ hi ∧ hi ≤ l.length) : Ro E w (rdB (cutR v lo hi) ((l.drop lo).take (hi - lo))) :=
  ⟨RdS.cutB h.1 hb, fun k hk => h.2 k ⟨fun e => hk.1 (by simp at e; simp [e]), by rw [← hk.2, adOf_cut]⟩⟩
theorem Ro.cutBh {E : Nat → Prop} {w : World} {v : Value} {l : List UInt8} {hi : Nat} (h : Ro E w (rdB v l)) (hb : hi ≤ l.length) : Ro E w (rdB (cutR v 0 hi) (l.take hi)) := by
  have := Ro.cutB h (lo := 0) (hi := hi) ⟨Nat.zero_le _, hb⟩
  simpa using this
theorem Ro.cutBl {E : Nat → Prop} {w : World} {v : Value} {l : List UInt8} {lo : Nat} (h : Ro E w (rdB v l)) (hb : lo ≤ l.length) : Ro E w (rdB (cutR v lo l.length) (l.drop lo)) := by
  have := Ro.cutB h (lo := lo) (hi := l.length) ⟨hb, Nat.le_refl _⟩
  rwa [List.take_of_length_le (by simp)] at this
theorem cel_rdE {w : World} {b o m cp : Nat} {vs cs : List Value} {T : TypeId} (h : (cel b cs T).holds w) (hl : (cs.drop o).take vs.length = vs) (hm : m = vs.length) (hcp : m ≤ cp) : RdS w (.slice (some ⟨b, o, none⟩) m cp) vs := cel_rd h hl hm hcp
/-- a part of a row that is not handed on -/
theorem Ro.cel {c : Cx} {w : World} {H0 Hr : List Res} {b o m cp : Nat} {vs cs : List Value} {T : TypeId} (hw : St c w (H0 ++ Hr)) (hq : cel b cs T ∈ Hr) (hl : (cs.drop o).take vs.length = vs) (hm : m = vs.length) (hcp : m ≤ cp) : Ro (Fs H0) w (YtnhpghhibcdklaaGreatDoor.rd (.slice (some ⟨b, o, none⟩) m cp) vs) :=
  Ro.out hw hq (fun h => cel_rd h hl hm hcp) (fun k hk => hk.2.symm)
theorem Ro.own {c : Cx} {w : World} {H0 Hr : List Res} {v : Value} {n : Nat} {xs : List Value} {e : TypeId} (hw : St c w (H0 ++ Hr)) (hq : own v n xs e 1 ∈ Hr) : Ro (Fs H0) w (YtnhpghhibcdklaaGreatDoor.rd v xs) :=
  ⟨own_rdS (hw.mem (r := YtnhpghhibcdklaaGreatDoor.own v n xs e 1) (by simp [hq])), fun k hk h0 => (Dj_append.1 hw.dj).2.2 k h0 (Fs.of_mem hq (by
    rcases own_cells (hw.mem (r := YtnhpghhibcdklaaGreatDoor.own v n xs e 1) (by simp [hq])) with ⟨_, _, h⟩ | ⟨g, o, cap, rfl, _⟩
    · exact (hk.1 h).elim
    · rw [← hk.2]; rfl))⟩
theorem rd_take {w : World} {v : Value} {l : List UInt8} {m : Nat} (h : RdB w v l) (_hm : m ≤ l.length) : ∀ (j : Nat) (u : Value), ((l.take m).map B)[j]? = some u → w.cell? ((adOf v).add j) = some u := fun j u hj => h.cell (by
  rw [List.getElem?_map, List.getElem?_take] at hj
  split at hj
  · rw [List.getElem?_map]; exact hj
  · cases hj)

section
variable {c : Cx} {L : Sl} {H : List Res} {P : Program} {Q : Exit → Act → World → Prop} {K : Act → World → Prop} {n : Nat} {S : World → Prop} {dst : Option Tmp}
  {d : Nat} {rty : TypeId} {pos : String} {af : Array Edge} {gd : Option (Nat × Bool)} {t t' : TypeId} {x y z : Operand} {v u : Value} {k k' : IntKind} {xl xh : Operand}

/-- a slot told otherwise -/
theorem tk_re (t : Nat) (v v' : Value) (hl : lk t L = some v) (e : v = v') (h : TK c K ((t, v') :: L) H) : TK c K L H := fun a w ha hw =>
  h a w ⟨ha.df, ha.sz, fun s u hs => by
    rw [lk_cons] at hs
    cases hb : Nat.beq s t with
    | true => rw [hb] at hs; have := Nat.eq_of_beq_eq_true hb; subst this; simp at hs; subst hs; subst e; exact ha.at_ _ _ hl
    | false => rw [hb] at hs; exact ha.at_ _ _ hs⟩ hw
theorem tk_drawH {ops : Array Oper} {id : Nat} (H' : List Res) (X : List Nat) (hm : P.follows .mixedOrders = true)
    (h : TK c (AnyX P ops Q (fun w => St c w H') X ops.size (Array.replicate ops.size false)) L H) : TK c ((Code.region id ops true).wp P Q) L H := tk_draw _ X hm h
theorem hseg {b o : Nat} {cs pre vs post : List Value} {T : TypeId} (hm : cel b cs T ∈ H) (ho : pre.length = o) (e : cs = pre ++ (vs ++ post)) : ∀ w, St c w H → ∀ (j : Nat) (u : Value), vs[j]? = some u → w.cell? ((⟨b, o, none⟩ : Addr).add j) = some u := fun w hw j u hj => by
  rw [add_w]
  have hlt : j < vs.length := (List.getElem?_eq_some_iff.1 hj).1
  refine cel_cell (hw.mem hm) ?_
  subst e; subst ho
  rw [List.getElem?_append_right (by omega), List.getElem?_append_left (by omega)]
  simpa using hj
theorem a_storeE {H1 H2 : List Res} {b o : Nat} {cs cs' : List Value} {T : TypeId} (hx : ev L x = some (.pointer (some ⟨b, o, none⟩))) (hy : ev L y = some v) (ht : szB P t 1 = true) (hone : v.oneCell' = true)
    (hH : H = H1 ++ cel b cs T :: H2) (hlen : o < cs.length) (e : cs.set o v = cs') (h : TK c K L (H1 ++ cel b cs' T :: H2)) :
    TK c (fun a w => (⟨none, .store t x y, rty, pos, af, gd⟩ : Oper).wp P a w K Q) L H := a_store1 hx hy ht hone hH hlen (e ▸ h)
theorem a_storeLE {H1 H2 : List Res} {b o : Nat} {cs cs' pre mid post vs : List Value} {T : TypeId} (k : Nat) (hx : ev L x = some (.pointer (some ⟨b, o, none⟩))) (hy : ev L y = some (.agg vs.toArray)) (ht : szB P t k = true)
    (hH : H = H1 ++ cel b cs T :: H2) (hk : vs.length = k ∧ mid.length = k ∧ pre.length = o) (hone : ∀ u ∈ vs, u.oneCell' = true) (e : cs = pre ++ (mid ++ post)) (e' : cs' = pre ++ (vs ++ post)) (h : TK c K L (H1 ++ cel b cs' T :: H2)) :
    TK c (fun a w => (⟨none, .store t x y, rty, pos, af, gd⟩ : Oper).wp P a w K Q) L H := by
  obtain ⟨h1, h2, h3⟩ := hk
  have e1 : cs.take o ++ vs ++ cs.drop (o + k) = cs' := by
    subst e; subst e'; subst h3
    rw [List.take_left, ← List.drop_drop, List.drop_left, List.append_assoc]
    congr 2
    rw [← h2, List.drop_left]
  exact a_store (k := k) (vs := vs) hx hy rfl ht h1 hH hone (by subst e; simp; omega) (e1 ▸ h)

/-! ### words of 32 bits -/
theorem w_lt (a : UInt32) : a.toNat < 4294967296 := a.toNat_lt
theorem y_addW {a b : UInt32} (hx : ev L x = some (W4 a)) (hy : ev L y = some (W4 b)) : Y P n S L ⟨dst, .binOp .add t x y t', rty, pos, af, gd⟩ (W4 (a + b)) :=
  (y_add hx hy).cast (by
    rw [IntKind.wrap_u32]
    simp only [W4, UInt32.toNat_add]
    congr 1)
theorem y_xorW {a b : UInt32} (hx : ev L x = some (W4 a)) (hy : ev L y = some (W4 b)) : Y P n S L ⟨dst, .binOp .xor t x y t', rty, pos, af, gd⟩ (W4 (a ^^^ b)) :=
  (y_bits hx hy (by simp)).cast (by rw [u32_xor_nat _ _ (w_lt a) (w_lt b)]; simp only [W4, UInt32.toNat_xor])
theorem y_andW {a b : UInt32} (hx : ev L x = some (W4 a)) (hy : ev L y = some (W4 b)) : Y P n S L ⟨dst, .binOp .and t x y t', rty, pos, af, gd⟩ (W4 (a &&& b)) :=
  (y_bits hx hy (by simp)).cast (by rw [u32_and_nat _ _ (w_lt a) (w_lt b)]; simp only [W4, UInt32.toNat_and])
theorem y_orW {a b : UInt32} (hx : ev L x = some (W4 a)) (hy : ev L y = some (W4 b)) : Y P n S L ⟨dst, .binOp .or t x y t', rty, pos, af, gd⟩ (W4 (a ||| b)) :=
  (y_bits hx hy (by simp)).cast (by rw [u32_or_nat _ _ (w_lt a) (w_lt b)]; simp only [W4, UInt32.toNat_or])
theorem y_shlW {a : UInt32} {m : Nat} (hx : ev L x = some (W4 a)) (hy : ev L y = some (.int k' (m : Int))) (hm : m < 32) :
    Y P n S L ⟨dst, .binOp .shl t x y t', rty, pos, af, gd⟩ (W4 (a <<< UInt32.ofNat m)) :=
  (y_shl hx hy (by omega)).cast (by
    have e : min ((m : Int)).toNat IntKind.u32.bits = m := by simp [IntKind.bits]; omega
    have e3 : (UInt32.ofNat m).toNat = m := by simp; omega
    rw [IntKind.wrap_u32, e]
    simp only [W4, UInt32.toNat_shiftLeft, e3, Nat.mod_eq_of_lt hm, Nat.shiftLeft_eq]
    congr 1)
theorem y_shrW {a : UInt32} {m : Nat} (hx : ev L x = some (W4 a)) (hy : ev L y = some (.int k' (m : Int))) (hm : m < 32) :
    Y P n S L ⟨dst, .binOp .shr t x y t', rty, pos, af, gd⟩ (W4 (a >>> UInt32.ofNat m)) :=
  (y_shr hx hy (by omega)).cast (by
    have e : min ((m : Int)).toNat IntKind.u32.bits = m := by simp [IntKind.bits]; omega
    have e3 : (UInt32.ofNat m).toNat = m := by simp; omega
    rw [e, fdiv_nat]
    simp only [W4, UInt32.toNat_shiftRight, e3, Nat.mod_eq_of_lt hm, Nat.shiftRight_eq_div_pow])
theorem y_conv8W {a : UInt8} (hx : ev L x = some (B a)) (hs : (P.underlying t).isSome = true) (hd : P.underlying t' = some (.int .u32)) : Y P n S L ⟨dst, .convert t t' x, rty, pos, af, gd⟩ (W4 a.toUInt32) :=
  (y_conv hx hs hd).cast (by
    rw [IntKind.wrap_u32]
    have := b_lt a
    simp only [W4, UInt8.toNat_toUInt32]
    congr 1; omega)
theorem y_convW8 {a : UInt32} (hx : ev L x = some (W4 a)) (hs : (P.underlying t).isSome = true) (hd : P.underlying t' = some (.int .u8)) : Y P n S L ⟨dst, .convert t t' x, rty, pos, af, gd⟩ (B a.toUInt8) :=
  (y_conv hx hs hd).cast (by
    rw [IntKind.wrap_u8]
    simp only [B, UInt32.toNat_toUInt8]
    congr 1)
theorem y_shlU {a m : Nat} (hx : ev L x = some (.int .u64 (a : Int))) (hy : ev L y = some (.int k' (m : Int))) (hm : m ≤ 64) (h : a * 2 ^ m < 18446744073709551616) : Y P n S L ⟨dst, .binOp .shl t x y t', rty, pos, af, gd⟩ (.int .u64 ((a * 2 ^ m : Nat) : Int)) :=
  (y_shl hx hy (by omega)).cast (by
    have e : min ((m : Int)).toNat IntKind.u64.bits = m := by simp [IntKind.bits]; omega
    have e2 : (a : Int) * 2 ^ m = ((a * 2 ^ m : Nat) : Int) := by simp
    rw [e, e2, wrap_u64 h])
theorem y_remU {a b : Nat} (hx : ev L x = some (.int .u64 (a : Int))) (hy : ev L y = some (.int .u64 (b : Int))) (h : 0 < b) : Y P n S L ⟨dst, .binOp .rem t x y t', rty, pos, af, gd⟩ (.int .u64 ((a % b : Nat) : Int)) :=
  (y_rem hx hy (by omega)).cast (by rw [Int.tmod_eq_emod_of_nonneg (by omega)]; rfl)
theorem y_lenRN {w0 : World} {vs : List Value} {e : TypeId} {n' : Nat} (hx : ev L x = some v) (hv : RdS w0 v vs) (ht : P.underlying t = some (.slice e)) (hn : vs.length = n') :
    Y P n S L ⟨dst, .call { callee := .builtin .len, args := #[x], argTypes := #[t] }, rty, pos, af, gd⟩ (I ((n' : Nat) : Int)) := hn ▸ y_lenR hx hv ht
theorem y_minN {a b : Nat} {ty : Array TypeId} (hx : ev L x = some (I (a : Int))) (hy : ev L y = some (I (b : Int))) :
    Y P n S L ⟨dst, .call { callee := .builtin .min, args := #[x, y], argTypes := ty }, rty, pos, af, gd⟩ (I ((min a b : Nat) : Int)) := (y_minI hx hy).cast (by
      congr 1
      split <;> omega)

/-! ### cuts told in numbers -/
theorem y_cutAhN {b o : Nat} {ih : Int} (m sz : Nat) (hi : Nat) (hx : ev L x = some (.pointer (some ⟨b, o, none⟩))) (hh : ev L xh = some (.int k' ih))
    (ht : arrB P t m sz = true) (hb : ih = (hi : Int) ∧ hi ≤ m) :
    Y P n S L ⟨dst, .slice t x none (some xh) none, rty, pos, af, gd⟩ (.slice (some ⟨b, o, none⟩) hi m) := by
  obtain ⟨rfl, h2⟩ := hb
  refine (y_cutAh hx hh ht (by omega)).cast ?_
  rw [Int.toNat_natCast]
theorem y_cutAlN {b o : Nat} {il : Int} (m sz : Nat) (lo : Nat) (hx : ev L x = some (.pointer (some ⟨b, o, none⟩))) (hl : ev L xl = some (.int k il))
    (ht : arrB P t m sz = true) (hb : il = (lo : Int) ∧ lo < m) :
    Y P n S L ⟨dst, .slice t x (some xl) none none, rty, pos, af, gd⟩ (.slice (some ⟨b, o + lo * sz, none⟩) (m - lo) (m - lo)) := by
  obtain ⟨rfl, h2⟩ := hb
  refine (y_cutAl hx hl ht (by omega)).cast ?_
  have e : ¬ m = lo := by omega
  simp only [cutAd, Int.toNat_natCast, if_neg e, Option.map_some, add_w]
theorem y_cutAlN1 {b o : Nat} {il : Int} (m sz : Nat) (lo : Nat) (hx : ev L x = some (.pointer (some ⟨b, o, none⟩))) (hl : ev L xl = some (.int k il))
    (ht : arrB P t m 1 = true) (hb : il = (lo : Int) ∧ lo < m) :
    Y P n S L ⟨dst, .slice t x (some xl) none none, rty, pos, af, gd⟩ (.slice (some ⟨b, o + lo, none⟩) (m - lo) (m - lo)) := (y_cutAlN m 1 lo hx hl ht hb).cast (by rw [Nat.mul_one])
theorem y_cutRBlh {l : List UInt8} {w0 : World} {il ih : Int} (lo hi : Nat) (hx : ev L x = some v) (hl : ev L xl = some (.int k il)) (hh : ev L xh = some (.int k' ih)) (hv : RdB w0 v l) (ht : sliB P t 1 = true)
    (hb : lo ≤ hi ∧ hi ≤ l.length) (e1 : il = (lo : Int) := by rfl) (e2 : ih = (hi : Int) := by rfl) : Y P n S L ⟨dst, .slice t x (some xl) (some xh) none, rty, pos, af, gd⟩ (cutR v lo hi) :=
  y_cutR lo hi hx hl hh hv ht (by rw [List.length_map]; exact ⟨e1, e2, hb⟩)
theorem y_cutRBh {l : List UInt8} {w0 : World} {ih : Int} (hi : Nat) (hx : ev L x = some v) (hh : ev L xh = some (.int k' ih)) (hv : RdB w0 v l) (ht : sliB P t 1 = true)
    (hb : hi ≤ l.length) (e2 : ih = (hi : Int) := by rfl) : Y P n S L ⟨dst, .slice t x none (some xh) none, rty, pos, af, gd⟩ (cutR v 0 hi) :=
  y_cutRh hi hx hh hv ht (by rw [List.length_map]; exact ⟨e2, hb⟩)
theorem y_cutRBl {l : List UInt8} {w0 : World} {il : Int} (lo : Nat) (hx : ev L x = some v) (hl : ev L xl = some (.int k il)) (hv : RdB w0 v l) (ht : sliB P t 1 = true)
    (hb : lo ≤ l.length) (e1 : il = (lo : Int) := by rfl) : Y P n S L ⟨dst, .slice t x (some xl) none none, rty, pos, af, gd⟩ (cutR v lo l.length) :=
  (y_cutRl lo hx hl hv ht (by rw [List.length_map]; exact ⟨e1, hb⟩)).cast (by rw [List.length_map])
theorem y_s2aR {l : List UInt8} {w0 : World} {m : Nat} {e : TypeId} (hx : ev L x = some v) (ht : P.underlying t = some (.array m e)) (hv : RdB w0 v l) (hm : m ≤ l.length) (h0 : 0 < m := by decide) :
    Y P n S L ⟨dst, .sliceToArrayPointer t x, rty, pos, af, gd⟩ (.pointer (some (adOf v))) := by
  rcases hv with ⟨rfl, h⟩ | ⟨ad, cap, rfl, _, _⟩
  · have := congrArg List.length h; rw [List.length_map] at this; simp only [List.length_nil] at this; omega
  · exact y_s2a hx ht (by simpa using hm)

/-! ### strings -/
theorem y_catT {l m : List UInt8} (hx : ev L x = some (Str l)) (hy : ev L y = some (Str m)) (h : l.length + m.length ≤ 9223372036854775807) : Y P n S L ⟨dst, .binOp .add t x y t', rty, pos, af, gd⟩ (Str (l ++ m)) := fun q w ha _ => by
  have h1 := ha.ev hx; have h2 := ha.ev hy
  have e : ¬ ((((ByteArray.mk l.toArray).size + (ByteArray.mk m.toArray).size : Nat) : Int) > IntKind.i64.max) := by
    have e0 : IntKind.i64.max = 9223372036854775807 := by decide
    rw [e0]; simp [ByteArray.size]; omega
  have e2 : ByteArray.mk l.toArray ++ ByteArray.mk m.toArray = ByteArray.mk (l ++ m).toArray := by
    apply ByteArray.ext; simp
  have e3 : (binOp .add t (Str l) (Str m)) = Op.stringOp .add ⟨l.toArray⟩ ⟨m.toArray⟩ := rfl
  have e4 : (Op.stringOp .add ⟨l.toArray⟩ ⟨m.toArray⟩).run P w = .ok (Str (l ++ m)) w := by
    simp only [Op.stringOp, if_neg e, e2]; rfl
  simp only [execOp, h1, h2, eqGuard_at_string, e3]
  rw [Sem.run_bind, Sem.run_bind, Sem.run_pure, Result.andThen, e4]; rfl
theorem ext_l {l : List UInt8} {lo hi : Nat} (h : hi ≤ l.length) : (ByteArray.mk l.toArray).extract lo hi = ByteArray.mk ((l.take hi).drop lo).toArray := by
  apply ByteArray.ext
  rw [ByteArray.data_extract]
  simp [List.extract_eq_take_drop, List.drop_take]
theorem y_cutTh {l : List UInt8} {ih : Int} {hi : Nat} (hx : ev L x = some (Str l)) (hh : ev L xh = some (.int k' ih)) (ht : P.underlying t = some .string) (hb : hi ≤ l.length) (e2 : ih = (hi : Int) := by rfl) :
    Y P n S L ⟨dst, .slice t x none (some xh) none, rty, pos, af, gd⟩ (Str (l.take hi)) := fun q w ha hs => by
  have h1 := ha.ev hx; have h3 := ha.ev hh
  subst e2
  have e0 : (ByteArray.mk l.toArray).size = l.length := by simp [ByteArray.size]
  have b1 : (Instr.sliceBound (.int k' (hi : Int)) l.length .sliceAlen).run P w = .ok hi w := by have := sliceBound_ok (P := P) (k := k') (i := (hi : Int)) (m := l.length) (code := .sliceAlen) (w := w) (by omega); simpa using this
  simp [execOp, h1, h3, Instr.sliceAt, underlying, ht, Instr.slice, Instr.sliceBounds, e0, b1, ext_l hb]
theorem y_cutTl {l : List UInt8} {il : Int} {lo : Nat} (hx : ev L x = some (Str l)) (hl : ev L xl = some (.int k il)) (ht : P.underlying t = some .string) (hb : lo ≤ l.length) (e1 : il = (lo : Int) := by rfl) :
    Y P n S L ⟨dst, .slice t x (some xl) none none, rty, pos, af, gd⟩ (Str (l.drop lo)) := fun q w ha hs => by
  have h1 := ha.ev hx; have h2 := ha.ev hl
  subst e1
  have e0 : (ByteArray.mk l.toArray).size = l.length := by simp [ByteArray.size]
  have b2 : (Instr.sliceBound (.int k (lo : Int)) l.length .sliceB).run P w = .ok lo w := by have := sliceBound_ok (P := P) (k := k) (i := (lo : Int)) (m := l.length) (code := .sliceB) (w := w) (by omega); simpa using this
  simp [execOp, h1, h2, Instr.sliceAt, underlying, ht, Instr.slice, Instr.sliceBounds, e0, b2, ext_l (Nat.le_refl l.length)]
theorem y_ixVM {α : Type} {f : α → Value} {l : List α} {d0 : α} {i len : Nat} {e : TypeId} (hx : ev L x = some (.agg (l.map f).toArray)) (hy : ev L y = some (.int k (i : Int))) (ht : P.underlying t = some (.array len e)) (he : scB P e = true) (hz : ∀ w, (Go.sizeOf e).run P w = .ok 1 w)
    (hi : i < len) (hl : i < l.length) : Y P n S L ⟨dst, .index t x y, rty, pos, af, gd⟩ (f (l.getD i d0)) := y_ixV hx hy ht he hz (by omega) (by
      have := gM (f := f) (d := d0) hl
      simpa using this)

/-! ### slice literals of one-cell elements -/
def ixs : Nat → List Value → List (Nat × Value)
  | _, [] => []
  | n, v :: vs => (n, v) :: ixs (n + 1) vs
theorem fill_ixs : ∀ (vs : List Value) (n : Nat) (cs : Array Value), (∀ u ∈ vs, u.oneCell' = true) → n + vs.length ≤ cs.size →
    Instr.fill (fun i => some (i * 1, 1)) cs (ixs n vs) = some (cs.toList.take n ++ vs ++ cs.toList.drop (n + vs.length)).toArray
  | [], n, cs, _, _ => by simp [ixs, Instr.fill]
  | v :: vs, n, cs, h1, hn => by
    have hv : v.cells = #[v] := by
      have := h1 v (by simp)
      cases v <;> first | rfl | simp [Value.oneCell'] at this
    simp only [List.length_cons] at hn
    have hlt : n < cs.size := by omega
    have ih := fill_ixs vs (n + 1) (cs.setIfInBounds n v) (fun u hu => h1 u (by simp [hu])) (by simp; omega)
    have e1 : ¬ ((decide (v.cells.size ≠ 1) || decide (n * 1 + v.cells.size > cs.size)) = true) := by rw [hv]; simp; omega
    simp only [ixs, Instr.fill]
    rw [if_neg e1]
    have e2 : (v.cells.zipIdx.foldl (fun cs (p : Value × Nat) => cs.setIfInBounds (n * 1 + p.2) p.1) cs) = cs.setIfInBounds n v := by rw [hv]; simp
    rw [e2, ih]
    congr 2
    rw [Array.toList_setIfInBounds]
    have e3 : (cs.toList.set n v).take (n + 1) = cs.toList.take n ++ [v] := by
      rw [List.take_add_one]
      rw [List.take_set_of_le (by omega)]
      simp [hlt]
    have e4 : (cs.toList.set n v).drop (n + 1 + vs.length) = cs.toList.drop (n + (v :: vs).length) := by
      rw [List.drop_set, if_pos (by omega)]
      congr 1; simp; omega
    rw [e3, e4]; simp
theorem run_slitN {w : World} {e : TypeId} {bytes : Nat} {vs : List Value} (he : elB P t e 1 bytes) (h1 : ∀ u ∈ vs, u.oneCell' = true) (hs : vs.length ≤ 16777216) :
    (Instr.buildSlice t vs.length (ixs 0 vs).toArray).run P w = .ok (.slice (some ⟨w.heap.size, 0, none⟩) vs.length vs.length) { w with heap := w.heap.push (.cells vs.toArray e) } := by
  obtain ⟨ht, i, z, hi, hz, hzs, hsz, _, _⟩ := he
  have hb : ¬ (vs.length > 2 ^ 24) := by omega
  have key : ∀ cs : Array Value, cs.size = vs.length → Instr.fill (fun i => some (i * 1, 1)) cs (ixs 0 vs) = some vs.toArray := fun cs hc => by
    rw [fill_ixs vs 0 cs h1 (by omega)]
    have : cs.toList.drop (0 + vs.length) = [] := by apply List.drop_of_length_le; simp; omega
    rw [this]; simp
  by_cases h0 : vs.length = 0
  · have : vs = [] := List.eq_nil_of_length_eq_zero h0
    subst this
    have e0 : Array.range 0 = #[] := rfl
    simp [Instr.buildSlice, underlying, ht, Go.sizeOf, typeInfo, hi, hsz, Instr.fill, ixs, newRow, e0]
  · have k2 := key ((Array.range vs.length).map (fun j => z.cells[j % z.cells.size]!)) (by simp)
    simp only [Nat.mul_one] at k2
    simp [Instr.buildSlice, underlying, ht, Go.sizeOf, typeInfo, hi, hsz, zeroValue, hz, h0, hb, newRow, k2]
theorem a_slitN {xs : List (Nat × Operand)} {vs : List Value} {e : TypeId} {bytes m : Nat} (hx : evp L xs = some (ixs 0 vs)) (h1 : ∀ u ∈ vs, u.oneCell' = true) (he : elB P t e 1 bytes) (hn : Nat.blt d c.n = true) (hm : vs.length = m) (hs : m ≤ 16777216)
    (h : ∀ b, TK c K ((d, .slice (some ⟨b, 0, none⟩) m m) :: L) (cel b vs e :: H)) :
    TK c (fun a w => (⟨some d, .buildSlice t m xs.toArray, rty, pos, af, gd⟩ : Oper).wp P a w K Q) L H := by
  subst hm
  exact a_slit hx hn (fun _ => run_slitN he h1 hs) h
/-- copy of a readable slice's cells into a row of one's own -/
theorem a_copyR {H1 H2 : List Res} {b o dl cap m : Nat} {cs cs' pre mid post vs us : List Value} {T e : TypeId} (hx : ev L x = some (.slice (some ⟨b, o, none⟩) dl cap)) (hy : ev L y = some u) (ht : P.underlying t = some (.slice e)) (hz : szB P e 1 = true) (hn : Nat.blt d c.n = true)
    (hH : H = H1 ++ cel b cs T :: H2) (hu : ∀ w, St c w H → RdS w u us) (hm : m = min us.length dl) (hvs : vs = us.take m) (h1 : ∀ q ∈ vs, q.oneCell' = true) (hk : mid.length = m ∧ pre.length = o) (e1 : cs = pre ++ (mid ++ post)) (e2 : cs' = pre ++ (vs ++ post)) (h : TK c K ((d, I ((m : Nat) : Int)) :: L) (H1 ++ cel b cs' T :: H2)) :
    TK c (fun a w => (⟨some d, .call { callee := .builtin .copy, args := #[x, y], argTypes := #[t, t'] }, rty, pos, af, gd⟩ : Oper).wp P a w K Q) L H := fun a w ha hw => by
  have hr := hu w hw
  subst hH
  have h2 := ha.ev hx; have h3 := ha.ev hy
  obtain ⟨fr, hb, hf⟩ := hw.mem (r := cel b cs T) (by simp)
  have hvl : vs.length = m := by rw [hvs]; simp; omega
  obtain ⟨w', h4, h5, h6⟩ := run_storeCells P b T vs o 0 w cs fr hb hf h1 (by rw [e1]; simp; omega)
  have e5 : cs.take o ++ vs ++ cs.drop (o + vs.length) = cs' := by
    obtain ⟨k1, k2⟩ := hk
    subst e1; subst e2; subst k2
    rw [List.take_left, ← List.drop_drop, List.drop_left, List.append_assoc]
    congr 2
    rw [hvl, ← k1, List.drop_left]
  have hrun : (execOp a.eval (⟨some d, .call { callee := .builtin .copy, args := #[x, y], argTypes := #[t, t'] }, rty, pos, af, gd⟩ : Oper)).run P w = .ok (.value (I ((m : Nat) : Int))) w' := by
    rcases hr with ⟨rfl, rfl⟩ | ⟨ad, cp, rfl, hc, hcell⟩
    · have hm0 : m = 0 := by simp at hm; exact hm
      subst hm0
      have hv0 : vs = [] := List.eq_nil_of_length_eq_zero hvl
      subst hv0
      simp [storeCells] at h4
      have h4 := h4
      simp [execOp, resolve, h2, h3, invoke, builtin, Builtin.copy_, underlying, ht, Builtin.lenOf, szB_run hz, Builtin.firstCells, loadCells, loadCellsFrom, storeCells, goInt]
      exact h4
    · have hmin : Nat.min us.length dl = m := hm.symm
      have hfc := run_firstCells_some (P := P) w 1 m ad us.length cp vs (by omega) (fun j q hj => hcell j q (by
        rw [hvs, List.getElem?_take] at hj
        split at hj
        · exact hj
        · cases hj))
      simp only [execOp, resolve, invoke, builtin]
      simp [h2, h3, Builtin.copy_, underlying, ht, Builtin.lenOf, hmin, szB_run hz, hfc, h4, goInt]
  change Oper.upon P _ a K Q ((execOp a.eval _).run P w)
  rw [hrun, Oper.upon_value]
  refine h _ _ (ha.put hn _) (St.perm (St.turn (N := [cel b cs' T]) hw h6 ⟨⟨fr, by simpa [e5] using h5, ?_⟩, trivial⟩ ⟨fun _ _ h => h, trivial⟩ ?_) perm_mid)
  · have : cs'.length = cs.length := by rw [e1, e2]; simp; omega
    rw [this]; exact hf
  · intro j hj
    rcases hj with hj | hj
    · exact .inl hj
    · exact hj.elim
end
end Go.Proofs.YtnhpghhibcdklaaGreatDoor

/- Owned slices seen as lists: made, appended to, stored into; bytes of a string. Own work for this project; no program in sight. -/
namespace Go.Proofs.YtnhpghhibcdklaaGreatDoor
open Go Go.RowKit
abbrev ownM {α : Type} (f : α → Value) (v : Value) (l : List α) (T : TypeId) : Res := own v l.length (l.map f) T 1
theorem ownM_cast {α : Type} {f : α → Value} {v : Value} {l m : List α} {T : TypeId} (h : l = m) : ownM f v l T = ownM f v m T := by rw [h]
section
variable {c : Cx} {L : Sl} {H : List Res} {P : Program} {Q : Exit → Act → World → Prop} {K : Act → World → Prop} {n : Nat} {S : World → Prop} {dst : Option Tmp}
  {d : Nat} {rty : TypeId} {pos : String} {af : Array Edge} {gd : Option (Nat × Bool)} {t t' : TypeId} {x y z : Operand} {v u : Value} {k k' : IntKind} {α : Type} {f : α → Value}
def mkB (P : Program) (t e : TypeId) (z : Value) (bytes : Nat) : Prop := P.underlying t = some (.slice e) ∧ ∃ i, P.info? e = some i ∧ i.zero = some z ∧ i.size = 1 ∧ i.bytes = bytes
theorem a_appM {H1 H2 : List Res} {l m : List α} {T : TypeId} {bytes : Nat} (hx : ev L x = some v) (hy : ev L y = some u) (he : elB P t T 1 bytes) (hn : Nat.blt d c.n = true)
    (hH : H = H1 ++ ownM f v l T :: H2) (hr : ∀ w, St c w H → RdS w u (m.map f)) (h1 : ∀ a, (f a).oneCell' = true)
    (hb : l.length + m.length ≤ 140737488355328 ∧ (l.length + m.length) * bytes ≤ 140737488355328) (h : ∀ v', TK c K ((d, v') :: L) (H1 ++ ownM f v' (l ++ m) T :: H2)) :
    TK c (fun a w => (⟨some d, .call { callee := .builtin .append, args := #[x, y], argTypes := #[t, t] }, rty, pos, af, gd⟩ : Oper).wp P a w K Q) L H :=
  a_appendR (n := l.length) (xs := l.map f) (news := m.map f) hx hy he hn hH hr (fun u hu => by obtain ⟨a, _, rfl⟩ := List.mem_map.1 hu; exact h1 a) (by simpa using hb)
    (fun v' => by have := h v'; simp only [ownM, List.length_append, List.map_append] at this; simpa using this)
theorem tk_ownM0 (T : TypeId) (h : TK c K L (ownM f (.slice none 0 0) [] T :: H)) : TK c K L H := tk_own0 T h
theorem tk_celM {H1 H2 : List Res} {g m : Nat} {l : List α} {T T' : TypeId} (hH : H = H1 ++ cel g (l.map f) T' :: H2) (hl : l.length = m) (hm : m ≤ maxLen)
    (h : TK c K L (H1 ++ ownM f (.slice (some ⟨g, 0, none⟩) m m) l T :: H2)) : TK c K L H := by
  subst hl
  exact tk_celOwn (n := l.length) hH (by simp) (by simpa using hm) (by rw [List.length_map, List.take_of_length_le (by simp)]; exact h)
theorem a_storeM {H1 H2 : List Res} {l : List α} {i : Nat} {q : α} {T : TypeId} (hx : ev L x = some (.pointer (some ((adOf v).add i)))) (hy : ev L y = some (f q)) (hone : (f q).oneCell' = true) (ht : szB P t 1 = true)
    (hH : H = H1 ++ ownM f v l T :: H2) (hi : i < l.length) (h : TK c K L (H1 ++ ownM f v (l.set i q) T :: H2)) :
    TK c (fun a w => (⟨none, .store t x y, rty, pos, af, gd⟩ : Oper).wp P a w K Q) L H :=
  a_storeOwn (n := l.length) (xs := l.map f) hx hy hone ht hH hi (by
    have := h
    simp only [ownM, List.length_set] at this
    rw [List.map_set] at this; exact this)
/-- s[m:] of an owned slice is owned -/
theorem own_cut {w : World} {v : Value} {l : List α} {m : Nat} {T : TypeId} (h : (ownM f v l T).holds w) (hm : m ≤ l.length) : (ownM f (cutR v m l.length) (l.drop m) T).holds w ∧ ∀ k, (cutR v m l.length).ownBlock = some k → v.ownBlock = some k := by
  obtain ⟨h1, h2⟩ := h
  rcases h2 with ⟨rfl, h0⟩ | ⟨g, o, cap, cur, fr, T', rfl, hg, hf, hc, hcm, hcs, ht⟩
  · have : l = [] := List.eq_nil_of_length_eq_zero h0
    subst this
    obtain rfl : m = 0 := by simpa using hm
    refine ⟨⟨by simp, .inl ⟨by simp [cutR, cutAd], rfl⟩⟩, fun k hk => by simp [cutR, cutAd, Value.ownBlock] at hk⟩
  · simp only [cutR, cutAd]
    by_cases e : cap = m
    · have hl : l.drop m = [] := List.drop_eq_nil_of_le (by omega)
      rw [if_pos e]
      refine ⟨⟨by simp [hl], .inr ⟨g, o, cap - m, cur, fr, T', by rw [hl]; congr 1; simp; omega, hg, hf, by rw [hl]; simp, by omega, by omega, by rw [hl]; simp⟩⟩, fun k hk => by simpa [Value.ownBlock] using hk⟩
    · rw [if_neg e]
      refine ⟨⟨by simp, .inr ⟨g, o + m, cap - m, cur, fr, T', by simp [add_w], hg, hf, by simp; omega, by omega, by omega, ?_⟩⟩, fun k hk => by simpa [Value.ownBlock, add_w] using hk⟩
      rw [Nat.mul_one] at ht ⊢
      rw [List.length_drop, List.map_drop, ← ht, List.drop_take, List.drop_drop]
theorem tk_ownCut {H1 H2 : List Res} {l : List α} (m : Nat) {T : TypeId} (hH : H = H1 ++ ownM f v l T :: H2) (hm : m ≤ l.length) (h : TK c K L (H1 ++ ownM f (cutR v m l.length) (l.drop m) T :: H2)) : TK c K L H := fun a w ha hw => by
  subst hH
  obtain ⟨h1, h2⟩ := own_cut (hw.mem (r := ownM f v l T) (by simp)) hm
  exact h a w ha (St.perm (St.turn (N := [ownM f (cutR v m l.length) (l.drop m) T]) hw (Fo.refl _ _) ⟨h1, trivial⟩ ⟨fun _ _ h => h, trivial⟩ (fun k hk => by
    rcases hk with hk | hk
    · exact .inl (h2 k hk)
    · exact hk.elim)) perm_mid)
/-- []byte of a string, owned -/
theorem a_s2bO {e : TypeId} {l : List UInt8} (hx : ev L x = some (Str l)) (hs : P.underlying t = some .string) (hd : P.underlying t' = some (.slice e)) (he : P.underlying e = some (.int .u8)) (hn : Nat.blt d c.n = true) (hl : l.length ≤ maxLen)
    (h : ∀ v, TK c K ((d, v) :: L) (ownB v l e :: H)) :
    TK c (fun a w => (⟨some d, .convert t t' x, rty, pos, af, gd⟩ : Oper).wp P a w K Q) L H := fun a w ha hw => by
  have h1 := ha.ev hx
  have hr := Lib.run_convert_string_bytes w t t' e ⟨l.toArray⟩ hs hd he
  have e0 : (ByteArray.mk l.toArray).size = l.length := by simp [ByteArray.size]
  have e1 : (execOp a.eval (⟨some d, .convert t t' x, rty, pos, af, gd⟩ : Oper)).run P w = .ok (.value (.slice (some ⟨w.heap.size, 0, none⟩) l.length (grownCap w l.length 0 e))) (Lib.bytesWorld w e ⟨l.toArray⟩) := by
    rw [e0] at hr
    simp [execOp, h1, hr]
  change Oper.upon P _ a K Q ((execOp a.eval _).run P w)
  rw [e1, Oper.upon_value]
  have hge := grownCap_ge w l.length 0 e
  have hcm := grownCap_le_maxLen w l.length 0 e hl
  have hcs : (Lib.bytesCells w e ⟨l.toArray⟩).toList = l.map B ++ List.replicate (grownCap w l.length 0 e - l.length) (.int .u8 0) := by
    simp [Lib.bytesCells, e0]
  have hsz : (Lib.bytesCells w e ⟨l.toArray⟩).size = grownCap w l.length 0 e := by
    rw [← Array.length_toList, hcs]; simp; omega
  refine h _ _ _ (ha.put hn _) (St.new (w' := Lib.bytesWorld w e ⟨l.toArray⟩) (N := [ownB (.slice (some ⟨w.heap.size, 0, none⟩) l.length (grownCap w l.length 0 e)) l e]) hw ⟨rfl, rfl, rfl, by rw [Lib.bytesWorld_size]; omega, fun k hk _ => Lib.bytesWorld_at_old w e _ k hk⟩
    ⟨⟨by simp, .inr ⟨w.heap.size, 0, _, Lib.bytesCells w e ⟨l.toArray⟩, _, _, rfl, Lib.bytesWorld_at_new w e _, .inl (by rw [hsz]; exact Nat.le_refl _), hge, hcm, by rw [hsz]; omega, ?_⟩⟩, trivial⟩ ⟨fun _ _ h => h, trivial⟩ (fun k hk => ?_))
  · rw [hcs, Nat.mul_one, List.drop_zero, List.take_left' (by simp)]
  · rcases hk with hk | hk
    · have : some w.heap.size = some k := hk
      cases this; exact Nat.le_refl _
    · exact hk.elim
theorem y_subU {a b : Nat} (hx : ev L x = some (.int .u64 (a : Int))) (hy : ev L y = some (.int .u64 (b : Int))) (h : b ≤ a ∧ a < 18446744073709551616) : Y P n S L ⟨dst, .binOp .sub t x y t', rty, pos, af, gd⟩ (.int .u64 ((a - b : Nat) : Int)) :=
  (y_sub hx hy).cast (by rw [IntKind.wrap_u64]; congr 1; omega)
/-- a slot's value kept as a fact: what a slice of one's own is -/
theorem tk_own1 {v : Value} {xs : List Value} {m : Nat} {T : TypeId} (hm : own v m xs T 1 ∈ H) (h : (∃ w0, RdS w0 v xs) → TK c K L H) : TK c K L H := tk_form (fun w hw => ⟨w, own_rdS (hw.mem hm)⟩) h
end
/-! ### within a drawn region more may be kept from some point on -/
theorem AnyX.more {P : Program} {ops : Array Oper} {Q : Exit → Act → World → Prop} {S S' : World → Prop} (hS : ∀ w, S' w → S w) : ∀ (f : Nat) (l : Array Bool) (a : Act) (w : World), S' w → AnyX P ops Q S' [] f l a w → AnyX P ops Q S [] f l a w
  | 0, _, _, _, _, h => h
  | f + 1, _, _, w, h0, h => ⟨h.1, fun i hi => wpOp_mono (fun _ w' h' => by
      rcases h'.1 with h1 | h1
      · cases h1
      · exact ⟨.inr fun _ => hS _ (h1 h0), AnyX.more hS f _ _ _ (h1 h0) h'.2⟩) (h.2 i hi)⟩
theorem tx_more {c : Cx} {L : Sl} {H H' : List Res} {P : Program} {Q : Exit → Act → World → Prop} {ops : Array Oper} {f : Nat} {l : Array Bool} (H'' : List Res) (h1 : ∀ w, St c w H'' → St c w H') (h0 : ∀ w, St c w H → St c w H'')
    (h : TK c (AnyX P ops Q (fun w => St c w H'') [] f l) L H) : TK c (AnyX P ops Q (fun w => St c w H') [] f l) L H := fun a w ha hw => AnyX.more h1 _ _ _ _ (h0 w hw) (h a w ha hw)

/-! ### a struct's value built of parts -/
def fillL (pl : List (Nat × Nat)) (cs : List Value) : List (Nat × List Value) → Option (List Value)
  | [] => some cs
  | (i, v) :: r => match pl[i]? with
    | none => none
    | some (o, k) => if v.length = k ∧ o + k ≤ cs.length then fillL pl (cs.take o ++ v ++ cs.drop (o + k)) r else none
theorem foldl_set (o : Nat) : ∀ (v : List Value) (j : Nat) (cs : Array Value), o + j + v.length ≤ cs.size →
    ((v.zipIdx j).foldl (fun cs (p : Value × Nat) => cs.setIfInBounds (o + p.2) p.1) cs) = (cs.toList.take (o + j) ++ v ++ cs.toList.drop (o + j + v.length)).toArray
  | [], j, cs, _ => by simp
  | u :: v, j, cs, h => by
    simp only [List.length_cons] at h
    rw [List.zipIdx_cons, List.foldl_cons, foldl_set o v (j + 1) _ (by simp; omega)]
    congr 1
    rw [Array.toList_setIfInBounds]
    have e3 : (cs.toList.set (o + j) u).take (o + (j + 1)) = cs.toList.take (o + j) ++ [u] := by
      rw [show o + (j + 1) = (o + j) + 1 by omega, List.take_add_one, List.take_set_of_le (by omega)]
      have hlt : o + j < cs.size := by omega
      simp [hlt]
    have e4 : (cs.toList.set (o + j) u).drop (o + (j + 1) + v.length) = cs.toList.drop (o + j + (u :: v).length) := by
      rw [List.drop_set, if_pos (by omega)]; congr 1; simp; omega
    rw [e3, e4]; simp
theorem fill_L {pl : List (Nat × Nat)} : ∀ (vs : List (Nat × Value)) (cs : List Value) {r : List Value}, fillL pl cs (vs.map fun p => (p.1, p.2.cells.toList)) = some r → Instr.fill (pl.toArray[·]?) cs.toArray vs = some r.toArray
  | [], cs, r, h => by simp [fillL] at h; subst h; rfl
  | (i, v) :: vs, cs, r, h => by
    simp only [List.map_cons, fillL] at h
    simp only [Instr.fill]
    cases hp : pl[i]? with
    | none => rw [hp] at h; cases h
    | some q =>
      obtain ⟨o, k⟩ := q
      rw [hp] at h
      simp only at h
      have e0 : pl.toArray[i]? = some (o, k) := by simpa using hp
      rw [e0]
      split at h
      · rename_i hc
        obtain ⟨h1, h2⟩ := hc
        have h1' : v.cells.size = k := by simpa using h1
        have e1 : ¬ ((decide (v.cells.size ≠ k) || decide (o + v.cells.size > cs.toArray.size)) = true) := by simp; omega
        simp only
        rw [if_neg e1]
        have e2 := foldl_set o v.cells.toList 0 cs.toArray (by simp; omega)
        have e3 : v.cells.zipIdx.foldl (fun cs (p : Value × Nat) => cs.setIfInBounds (o + p.2) p.1) cs.toArray = (cs.take o ++ v.cells.toList ++ cs.drop (o + k)).toArray := by
          rw [← Array.foldl_toList, Array.toList_zipIdx]
          rw [e2]; simp [h1']
        rw [e3]
        exact fill_L vs _ h
      · cases h
theorem run_build {P : Program} {t : TypeId} {fs : Array Field} {pl : List (Nat × Nat)} {zs cs : List Value} {vs : List (Nat × Value)} (hu : P.underlying t = some (.struct fs)) (hz : ∀ w, (zeroValue t).run P w = .ok (.agg zs.toArray) w)
    (hpl : ∀ w, (fs.mapM fun (f : Field) => (do pure (f.offset, ← Go.sizeOf f.type) : Sem (Nat × Nat))).run P w = .ok pl.toArray w) (hf : fillL pl zs (vs.map fun p => (p.1, p.2.cells.toList)) = some cs) (w : World) : (Instr.build t vs.toArray).run P w = .ok (.agg cs.toArray) w := by
  have h1 := fill_L vs zs hf
  have h2 : (Value.agg zs.toArray).cells = zs.toArray := rfl
  simp only [Instr.build, Sem.run_bind, hz w, Result.andThen, run_underlying hu, hpl w, h2]
  rw [h1]; rfl
/-- what else is there stays; what is not asked for goes -/
theorem Spec.frame {P : Program} {f : FuncId} {args : List Value} {w : World} {H0 F : List Res} {Y : Type} {R : Y → Prop} {res : Y → Value} {N : Y → List Res} (h : Spec P f args w H0 R res N) (hp : Pre w (H0 ++ F)) :
    Spec P f args w (H0 ++ F) R res (fun y => N y ++ F) := by
  refine Calls.mono h ?_
  rintro e w' ⟨y, hR, he, hf, hN, hd, ho⟩
  have hs := Hs_append.1 hp.1
  have dj := Dj_append.1 hp.2
  have hlt : ∀ k, Fs F k → k < w.heap.size := fun k hk => Fs.bnd hs.2 k hk
  refine ⟨y, hR, he, hf.mono fun k hk => Fs_append.2 (.inl hk), Hs_append.2 ⟨hN, Hs.loc (fun k hk => hf.block k (hlt k hk) (fun h0 => dj.2.2 k h0 hk)) hs.2⟩, Dj_append.2 ⟨hd, dj.2.1, fun k hk hr => ?_⟩, fun k hk => ?_⟩
  · rcases ho k hk with h1 | h1
    · exact dj.2.2 k h1 hr
    · have := hlt k hr; omega
  · rcases Fs_append.1 hk with hk | hk
    · rcases ho k hk with h1 | h1
      · exact .inl (Fs_append.2 (.inl h1))
      · exact .inr h1
    · exact .inl (Fs_append.2 (.inr hk))
theorem Spec.less {P : Program} {f : FuncId} {args : List Value} {w : World} {H0 : List Res} {Y : Type} {R : Y → Prop} {res : Y → Value} {N N' : Y → List Res} (h : Spec P f args w H0 R res N) (hs : ∀ y, (N' y).Sublist (N y)) :
    Spec P f args w H0 R res N' := by
  refine Calls.mono h ?_
  rintro e w' ⟨y, hR, he, hf, hN, hd, ho⟩
  exact ⟨y, hR, he, hf, Hs.sub (hs y) hN, Dj.sub (hs y) hd, fun k hk => ho k (Fs.sub (hs y) hk)⟩
end Go.Proofs.YtnhpghhibcdklaaGreatDoor

/- Engine: greatest, more. Own work for this project; no program in sight. -/
namespace Go.Proofs.YtnhpghhibcdklaaGreatDoor
open Go Go.RowKit
theorem RdS.cells {w : World} {v : Value} {vs : List Value} (h : RdS w v vs) : v.cells = #[v] := by
  rcases h with ⟨rfl, _⟩ | ⟨ad, cp, rfl, _⟩ <;> rfl
section
variable {P : Program} {L : Sl} {rty : TypeId} {pos : String} {af : Array Edge} {gd : Option (Nat × Bool)} {x y z : Operand} {n : Nat} {S : World → Prop} {dst : Option Tmp} {t t' : TypeId}
theorem y_maxN {a b : Nat} {ty : Array TypeId} (hx : ev L x = some (I (a : Int))) (hy : ev L y = some (I (b : Int))) :
    Y P n S L ⟨dst, .call { callee := .builtin .max, args := #[x, y], argTypes := ty }, rty, pos, af, gd⟩ (I ((max a b : Nat) : Int)) := fun q w ha _ => by
  have h1 := ha.ev hx; have h2 := ha.ev hy
  simp [execOp, resolve, h1, h2, invoke, builtin, Builtin.max_, Builtin.max2, List.foldlM]
  (repeat' split) <;> omega
theorem run_eqS {w : World} {d m cp : Nat} {e : TypeId} {ad : Option Addr} (ht : P.underlying t = some (.slice e)) : (Op.equalIn (d + 1) t (.slice ad m cp) (.slice none 0 0)).run P w = .ok ad.isNone w := by
  rw [Op.equalIn, Sem.run_bind, run_underlying ht]; cases ad <;> rfl
theorem y_eqS {e : TypeId} {ad : Option Addr} {m cp : Nat} (ht : P.underlying t = some (.slice e)) (hx : ev L x = some (.slice ad m cp)) (hy : ev L y = some (.slice none 0 0)) : Y P n S L ⟨dst, .binOp .eql t x y t', rty, pos, af, gd⟩ (.bool ad.isNone) := fun q w ha _ => by
  have h1 := ha.ev hx; have h2 := ha.ev hy
  have e2 : (Op.equal t (.slice ad m cp) (.slice none 0 0)).run P w = .ok ad.isNone w := run_eqS (d := 9999) ht
  simp [execOp, h1, h2, binOp, e2, eqGuard_at_slice]
theorem y_eqSn {e : TypeId} (ht : P.underlying t = some (.slice e)) (hx : ev L x = some (.slice none 0 0)) (hy : ev L y = some (.slice none 0 0)) : Y P n S L ⟨dst, .binOp .eql t x y t', rty, pos, af, gd⟩ (.bool true) := y_eqS ht hx hy
theorem y_eqSs {e : TypeId} {ad : Addr} {m cp : Nat} (ht : P.underlying t = some (.slice e)) (hx : ev L x = some (.slice (some ad) m cp)) (hy : ev L y = some (.slice none 0 0)) : Y P n S L ⟨dst, .binOp .eql t x y t', rty, pos, af, gd⟩ (.bool false) := y_eqS ht hx hy
end
section
variable {c : Cx} {L : Sl} {H : List Res} {P : Program} {Q : Exit → Act → World → Prop} {K : Act → World → Prop} {n : Nat} {S : World → Prop} {dst : Option Tmp}
  {d : Nat} {rty : TypeId} {pos : String} {af : Array Edge} {gd : Option (Nat × Bool)} {o : Operand}
theorem y_makeFunc {fn : Fn} {xs : List Operand} {cs : List Value} (hx : evs L xs = some cs) : Y P n S L ⟨dst, .makeFunc fn #[] xs.toArray, rty, pos, af, gd⟩ (.func fn #[] cs.toArray) := fun q w ha _ => by
  have h1 := evs_map ha hx
  simp [execOp, Instr.makeFunc, h1]
/-- a call of a function value, what it holds behind the arguments -/
theorem a_callc {f : FuncId} {xs : List Operand} {aty : Array TypeId} {vs cs : List Value} {X : Type} {H0 : List Res} (H1 H2 : List Res) {R : X → Prop} {res : X → Value} {N : X → List Res}
    (ho : ev L o = some (.func (.func f) #[] cs.toArray)) (hx : evs L xs = some vs) (hf : bodyB P f = true) (hn : Nat.blt d c.n = true)
    (hs : ∀ w, St c w H → Spec P f (vs ++ cs) w H0 R res N) (hH : H = H1 ++ (H0 ++ H2))
    (h : ∀ x, R x → TK c K ((d, res x) :: L) (H1 ++ (N x ++ H2))) :
    TK c (fun a w => (⟨some d, .call { callee := .value o, args := xs.toArray, argTypes := aty }, rty, pos, af, gd⟩ : Oper).wp P a w K Q) L H := fun a w ha hw => by
  have h1 := evs_map ha hx
  have h0 := ha.ev ho
  have e : (execOp a.eval (⟨some d, .call { callee := .value o, args := xs.toArray, argTypes := aty }, rty, pos, af, gd⟩ : Oper)).run P w = .ok (.enter f (vs ++ cs).toArray) w := by
    simp [execOp, resolve, h0, Deferred.ofValue, invoke, h1, callFunc_run hf]
  change Oper.upon P _ a K Q ((execOp a.eval _).run P w)
  rw [e, Oper.upon_enter]
  refine Calls.mono (hs w hw) ?_
  rintro e w' ⟨x, hR, rfl, hfo, hN, hd, ho'⟩
  exact h x hR _ _ (ha.put hn _) ((hw.call (Hr := H1 ++ H2) (hH ▸ perm_mid) hfo hN hd ho').perm perm_mid)
end
section
variable {L : Sl} {P : Program} {n : Nat} {S : World → Prop}
theorem cell_run {a : Act} {w : World} {p b o : Nat} {ty : TypeId} {vs : List Value} (ha : Agr n a L) (hp : lk p L = some (.pointer (some ⟨b, o, none⟩))) (ht : agB P ty vs.length = true)
    (hc : ∀ (j : Nat) (u : Value), vs[j]? = some u → w.cell? ((⟨b, o, none⟩ : Addr).add j) = some u) :
    (do loadVar ty (← asAddr (a.tmps.getD p undef))).run P w = .ok (.agg vs.toArray) w := by
  have h1 := ha.at_ p _ hp
  have e1 : a.tmps.getD p undef = .pointer (some ⟨b, o, none⟩) := by rw [Array.getD_eq_getD_getElem?, h1]; rfl
  have e2 := run_loadCells_list (P := P) (w := w) ⟨b, o, none⟩ vs hc
  have e3 : (loadVar ty ⟨b, o, none⟩).run P w = .ok (.agg vs.toArray) w := by simp [loadVar, (agB_run ht).1, (agB_run ht).2, e2]
  rw [e1]
  simp [asAddr, e3]
theorem rct {fn : Func} {p b o q : Nat} {ty : TypeId} {vs : List Value} {u : Value} (h : fn.results = #[.cell p ty, .tmp q]) (hp : lk p L = some (.pointer (some ⟨b, o, none⟩))) (ht : agB P ty vs.length = true)
    (hc : ∀ w, S w → ∀ (j : Nat) (u : Value), vs[j]? = some u → w.cell? ((⟨b, o, none⟩ : Addr).add j) = some u) (hu : lk q L = some u) :
    ∀ a w, Agr n a L → S w → (results fn a.tmps).run P w = .ok (.tuple #[.agg vs.toArray, u]) w := fun a w ha hs => by
  have e1 := cell_run ha hp ht (hc w hs)
  have h2 := ha.at_ q u hu
  have e2 : a.tmps.getD q undef = u := by rw [Array.getD_eq_getD_getElem?, h2]; rfl
  have e4 : (results fn a.tmps) = (do let v ← (do loadVar ty (← asAddr (a.tmps.getD p undef))); pure (.tuple #[v, a.tmps.getD q undef])) := by
    unfold results; rw [h]; simp
  rw [e4, e2, Sem.run_bind, e1]
  rfl
end
section
variable {c : Cx} {L : Sl} {H : List Res} {P : Program} {Q : Exit → Act → World → Prop} {K : Act → World → Prop} {d : Nat} {rty : TypeId} {pos : String} {af : Array Edge} {gd : Option (Nat × Bool)} {t : TypeId} {x : Operand}
/-- []byte("..") of a constant: its row is marked behind its end -/
theorem a_convX {H1 H2 : List Res} {b n m : Nat} {cs : List Value} {T e : TypeId} (hx : ev L x = some (.slice (some ⟨b, 0, none⟩) n m)) (ht : P.underlying t = some (.slice e)) (he : P.underlying e = some (.int .u8)) (hn : Nat.blt d c.n = true)
    (hH : H = H1 ++ cel b cs T :: H2) (h : TK c K ((d, .slice (some ⟨b, 0, none⟩) n m) :: L) (H1 ++ cel b cs T :: H2)) :
    TK c (fun a w => (⟨some d, .convert t t x, rty, pos, af, gd⟩ : Oper).wp P a w K Q) L H := fun a w ha hw => by
  subst hH
  have h1 := ha.ev hx
  obtain ⟨fr, hb, hf⟩ := hw.mem (r := cel b cs T) (by simp)
  have hsh : w.shape? b = some (T, cs.length) := by simp [World.shape?, hb]
  have e1 : (execOp a.eval (⟨some d, .convert t t x, rty, pos, af, gd⟩ : Oper)).run P w = .ok (.value (.slice (some ⟨b, 0, none⟩) n m)) (w.freeze ⟨b, cs.length, none⟩ 1) := by
    simp [execOp, h1, convert, run_underlying ht, run_underlying he, markStringish, hsh]
  change Oper.upon P _ a K Q ((execOp a.eval _).run P w)
  rw [e1, Oper.upon_value]
  have hz : (w.freeze ⟨b, cs.length, none⟩ 1).heap.size = w.heap.size := by simp [World.freeze]
  have hat : (w.freeze ⟨b, cs.length, none⟩ 1).heap[b]? = some (.cells cs.toArray T (if fr.1 == fr.2 then (cs.length, cs.length + 1) else (min fr.1 cs.length, max fr.2 (cs.length + 1)))) := by
    simp [World.freeze, Array.getElem?_modify, hb]
  refine h _ _ (ha.put hn _) (St.perm (St.turn (N := [cel b cs T]) hw ⟨rfl, rfl, rfl, by rw [hz]; exact Nat.le_refl _, fun k hk hne => ?_⟩ ⟨⟨_, hat, ?_⟩, trivial⟩ ⟨fun _ _ h => h, trivial⟩ (fun k hk => ?_)) perm_mid)
  · have hkb : b ≠ k := fun e => hne e.symm
    simp [World.freeze, Array.getElem?_modify, hkb]
  · simp only [nofr] at hf ⊢
    by_cases hq : fr.1 = fr.2
    · left; simp [hq]
    · rcases hf with hf | hf
      · left; rw [if_neg (by simpa using hq)]; show cs.length ≤ min fr.1 cs.length; omega
      · exact absurd hf.symm hq
  · rcases hk with hk | hk
    · exact .inl hk
    · exact hk.elim
end
end Go.Proofs.YtnhpghhibcdklaaGreatDoor

/- Engine: append of a string's bytes. Own work for this project; no program in sight. -/
namespace Go.Proofs.YtnhpghhibcdklaaGreatDoor
open Go Go.RowKit
theorem run_append_room2 {P : Program} {w : World} {t tx ty e T : TypeId} {i : TypeInfo} (ht : P.underlying t = some (.slice e)) (hi : P.info? e = some i) {g o n cap : Nat} {cur : Array Value} {fr : Nat × Nat} (hg : w.heap[g]? = some (.cells cur T fr)) (hf : nofr fr cur.size)
    {x : Value} {m : Nat} {news : List Value} (hx : Src P i.size tx x m news w) (hroom : n + m ≤ cap) (hs : o + cap * i.size ≤ cur.size) :
    ∃ w', (Builtin.append_ #[t, tx] ty #[.slice (some ⟨g, o, none⟩) n cap, x]).run P w = .ok (.slice (some ⟨g, o, none⟩) (n + m) cap) w' ∧
      w'.heap[g]? = some (.cells (cur.toList.take (o + n * i.size) ++ news ++ cur.toList.drop (o + n * i.size + news.length)).toArray T fr) ∧ Fo (fun k => k = g) w w' := by
  have hl := hx.newsLen
  have hfit : o + n * i.size + 0 + news.length ≤ cur.toList.length := by
    have := Nat.mul_le_mul_right i.size hroom
    rw [Nat.add_mul] at this
    rw [hl, Array.length_toList]; omega
  obtain ⟨w', h2, h3, h4⟩ := run_storeCells P g T news (o + n * i.size) 0 w cur.toList fr (by simpa using hg) (by simpa using hf) hx.one hfit
  simp only [Nat.add_zero] at h3
  refine ⟨w', ?_, h3, h4⟩
  rcases hx.kind with ⟨e', hk⟩ | hk <;> simp [Builtin.append_, run_underlying ht, run_underlying hk, sizeOf, typeInfo, hi, hx.len, hroom, hx.cells, add_w, h2]
theorem run_app2 {P : Program} {w : World} {t tx ty e : TypeId} {i : TypeInfo} {z : Value} (ht : P.underlying t = some (.slice e)) (hi : P.info? e = some i) (hz : i.zero = some z) (hzs : z.cells.size = i.size)
    {v x : Value} {n m : Nat} {xs news : List Value} (hown : (own v n xs e i.size).holds w) (hx : Src P i.size tx x m news w)
    (h63 : n + m ≤ maxLen) (hbytes : (n + m) * i.bytes ≤ 140737488355328) :
    ∃ v' w', (Builtin.append_ #[t, tx] ty #[v, x]).run P w = .ok v' w' ∧ (own v' (n + m) (xs ++ news) e i.size).holds w' ∧ Fo (fun k => v.ownBlock = some k) w w' ∧ (∀ k, v'.ownBlock = some k → v.ownBlock = some k ∨ w.heap.size ≤ k) := by
  have hl := hx.newsLen
  have hsmall : n + m ≤ 9223372036854775807 := by simp only [maxLen] at h63; omega
  have hlen : (xs ++ news).length = (n + m) * i.size := by rw [List.length_append, hown.1, hl, Nat.add_mul]
  have grown : ∀ (old : Nat), old < n + m → ∀ E,
      (own (.slice (some ⟨w.heap.size, 0, none⟩) (n + m) (grownCap w (n + m) old e)) (n + m) (xs ++ news) e i.size).holds (w.drew.alloc (.cells ((xs ++ news).toArray ++ Builtin.zeroCells z.cells (grownCap w (n + m) old e - (n + m))) e)) ∧
      Fo E w (w.drew.alloc (.cells ((xs ++ news).toArray ++ Builtin.zeroCells z.cells (grownCap w (n + m) old e - (n + m))) e)) := by
    intro old ho E
    have hge := grownCap_ge w (n + m) old e
    have hcm : grownCap w (n + m) old e ≤ maxLen := grownCap_le_maxLen w (n + m) old e h63
    refine ⟨⟨hlen, .inr ⟨w.heap.size, 0, _, _, (0, 0), e, rfl, heap_alloc_new w.drew _, .inr rfl, hge, hcm, ?_, ?_⟩⟩, ⟨rfl, rfl, rfl, by simp, fun k hk _ => Below.heap_alloc w.drew _ k hk⟩⟩
    · rw [Nat.zero_add]
      apply Nat.le_of_eq
      simp only [Array.size_append, List.size_toArray, size_zeroCells, hzs, hlen, ← Nat.add_mul]
      congr 1
      omega
    · rw [List.drop_zero]
      simp only [Array.toList_append]
      rw [← hlen]
      exact List.take_left
  obtain ⟨hx1, hx2⟩ := hown
  rcases hx2 with ⟨rfl, rfl⟩ | ⟨g, o, cap, cur, fr, T, rfl, hg, hf, hnc, hcm, hcs, htake⟩
  · have hx0 : xs = [] := List.eq_nil_of_length_eq_zero (by simpa using hx1)
    subst hx0
    by_cases hm : m = 0
    · subst hm
      have hn : news = [] := List.eq_nil_of_length_eq_zero (by simpa using hl)
      subst hn
      refine ⟨.slice none 0 0, w, ?_, own_nil, Fo.refl _ _, fun k hk => .inl hk⟩
      rcases hx.kind with ⟨e', hk⟩ | hk <;> simp [Builtin.append_, run_underlying ht, run_underlying hk, sizeOf, typeInfo, hi, hx.len, hx.cells]
    · have hr := run_append_grow_src (P := P) w t tx ty e i z ht hi hz none 0 0 [] (run_firstCells_none w.drew i.size 0 0 0) x m news hx (by omega) (by omega) (growslice_fits (by omega) hbytes)
      have hgr := grown 0 (by omega) (fun k => (Value.slice none 0 0).ownBlock = some k)
      exact ⟨_, _, hr, hgr.1, hgr.2, fun k hk => by simp [Value.ownBlock] at hk; exact .inr (by omega)⟩
  · by_cases hroom : n + m ≤ cap
    · obtain ⟨w', hr, hb, hfo⟩ := run_append_room2 (ty := ty) ht hi hg hf hx hroom hcs
      have hmul : (n + m) * i.size ≤ cap * i.size := Nat.mul_le_mul_right _ hroom
      have hmul2 : (n + m) * i.size = n * i.size + m * i.size := Nat.add_mul _ _ _
      have hsz' : (cur.toList.take (o + n * i.size) ++ news ++ cur.toList.drop (o + n * i.size + news.length)).length = cur.size := by
        simp only [List.length_append, List.length_take, List.length_drop, Array.length_toList, hl]
        omega
      refine ⟨_, w', hr, ⟨hlen, .inr ⟨g, o, cap, _, fr, T, rfl, hb, ?_, hroom, hcm, ?_, ?_⟩⟩, hfo.mono (fun k hk => by simp [Value.ownBlock, hk]), fun k hk => .inl hk⟩
      · rw [List.size_toArray, hsz']; exact hf
      · rw [List.size_toArray, hsz']; exact hcs
      · have e1 : cur.toList.take (o + n * i.size) = cur.toList.take o ++ xs := by rw [List.take_add, htake]
        have e2 : (cur.toList.take o).length = o := by rw [List.length_take, Array.length_toList]; omega
        rw [e1, List.append_assoc, List.append_assoc, List.drop_left' e2, ← List.append_assoc, ← hlen]
        exact List.take_left
    · have holds : ∀ j u, xs[j]? = some u → w.cell? ((⟨g, o, none⟩ : Addr).add j) = some u := fun j u hj => by
        rcases own_cells (w := w) (e := e) ⟨hx1, .inr ⟨g, o, cap, cur, fr, T, rfl, hg, hf, hnc, hcm, hcs, htake⟩⟩ with ⟨h0, _⟩ | ⟨g', o', cap', h0, _, _, hc⟩
        · cases h0
        · cases h0; rw [add_w]; exact hc j u hj
      have hr := run_append_grow_src (P := P) w t tx ty e i z ht hi hz (some ⟨g, o, none⟩) n cap xs (run_firstCells_some w.drew i.size n ⟨g, o, none⟩ n cap xs hx1 (by simpa using holds)) x m news hx (by omega) (by omega) (growslice_fits (by omega) hbytes)
      have hgr := grown cap (by omega) (fun k => (Value.slice (some ⟨g, o, none⟩) n cap).ownBlock = some k)
      exact ⟨_, _, hr, hgr.1, hgr.2, fun k hk => by simp [Value.ownBlock] at hk; exact .inr (by omega)⟩
section
variable {c : Cx} {L : Sl} {H : List Res} {P : Program} {Q : Exit → Act → World → Prop} {K : Act → World → Prop} {d : Nat} {rty : TypeId} {pos : String} {af : Array Edge} {gd : Option (Nat × Bool)} {t tx : TypeId} {x y : Operand} {v : Value}
/-- append a string's bytes to an owned slice of bytes -/
theorem a_appStr {H1 H2 : List Res} {l m : List UInt8} {T : TypeId} {bytes : Nat} (hx : ev L x = some v) (hy : ev L y = some (Str m)) (he : elB P t T 1 bytes) (hk : P.underlying tx = some .string) (hn : Nat.blt d c.n = true)
    (hH : H = H1 ++ ownB v l T :: H2) (hb : l.length + m.length ≤ 140737488355328 ∧ (l.length + m.length) * bytes ≤ 140737488355328) (h : ∀ v', TK c K ((d, v') :: L) (H1 ++ ownB v' (l ++ m) T :: H2)) :
    TK c (fun a w => (⟨some d, .call { callee := .builtin .append, args := #[x, y], argTypes := #[t, tx] }, rty, pos, af, gd⟩ : Oper).wp P a w K Q) L H := fun a w ha hw => by
  subst hH
  have h2 := ha.ev hx; have h3 := ha.ev hy
  obtain ⟨ht, i, z, hi, hz, hzs, hs1, rfl, hsz⟩ := he
  have hS : Src P i.size tx (Str m) m.length (m.map B) w := by
    have := Src.ofString (P := P) w hk ⟨m.toArray⟩
    rw [hs1]
    have e1 : (ByteArray.mk m.toArray).size = m.length := by simp [ByteArray.size]
    have e2 : byteCells ⟨m.toArray⟩ = m.map B := rfl
    rw [e1, e2] at this; exact this
  have ho0 : (own v l.length (l.map B) T i.size).holds w := by rw [hs1]; exact hw.mem (r := ownB v l T) (by simp)
  obtain ⟨v', w', hr, ho, hf, hkk⟩ := run_app2 (ty := rty) ht hi hz (hzs.trans hs1.symm) ho0 hS (by simp only [maxLen]; omega) hb.2
  rw [hs1] at ho
  have e : (execOp a.eval (⟨some d, .call { callee := .builtin .append, args := #[x, y], argTypes := #[t, tx] }, rty, pos, af, gd⟩ : Oper)).run P w = .ok (.value v') w' := by
    simp [execOp, resolve, h2, h3, invoke, builtin, hr]
  change Oper.upon P _ a K Q ((execOp a.eval _).run P w)
  rw [e, Oper.upon_value]
  have ho' : (ownB v' (l ++ m) T).holds w' := by simpa [ownB] using ho
  exact h v' _ _ (ha.put hn _) ((St.turn (N := [ownB v' (l ++ m) T]) hw hf ⟨ho', trivial⟩ ⟨fun _ _ h => h, trivial⟩ (fun k h => by
    rcases h with h | h
    · exact hkk k h
    · exact h.elim)).perm perm_mid)
end
end Go.Proofs.YtnhpghhibcdklaaGreatDoor

/- A struct's value built of its first field alone. Own work for this project; no program in sight. -/
namespace Go.Proofs.YtnhpghhibcdklaaGreatDoor
open Go Go.RowKit
end Go.Proofs.YtnhpghhibcdklaaGreatDoor

/- Comparisons of structs of plain cells. Own work for this project; no program in sight. -/
namespace Go.Proofs.YtnhpghhibcdklaaGreatDoor
open Go Go.RowKit
section
variable {P : Program} {n : Nat} {S : World → Prop} {L : Sl} {dst : Option Tmp} {rty : TypeId} {pos : String} {af : Array Edge} {gd : Option (Nat × Bool)}
  {t t' : TypeId} {x y z : Operand} {v u : Value}
/-- a part of a row of cells, seen as a value: scalar or aggregate -/
def EqC (P : Program) (d : Nat) (t : TypeId) (k : Nat) (W : List Value → Prop) : Prop :=
  ∀ (w : World) (cs ds : Array Value) (o : Nat), W ((cs.toList.drop o).take k) → W ((ds.toList.drop o).take k) →
    ∃ a b r, (part t cs o).run P w = .ok a w ∧ (part t ds o).run P w = .ok b w ∧ (Op.equalIn d t a b).run P w = .ok r w ∧ (r = true ↔ (cs.toList.drop o).take k = (ds.toList.drop o).take k)
theorem eqc_int {d : Nat} (ht : P.underlying t = some (.int .i64)) : EqC P (d + 1) t 1 (fun xs => ∃ z : Int, xs = [I z]) := fun w cs ds o h1 h2 => by
  obtain ⟨a, ha⟩ := h1; obtain ⟨b, hb⟩ := h2
  have sc : scB P t = true := by simp [scB, ht]
  have g : ∀ {cs : Array Value} {a : Int}, (cs.toList.drop o).take 1 = [I a] → cs[o]? = some (I a) := fun {cs a} h => by
    have := congrArg (fun l => l[0]?) h
    simpa using this
  refine ⟨I a, I b, _, ?_, ?_, run_equalIn_int w d t .i64 .i64 a b ht, ?_⟩
  · simp [part, scB_run sc, g ha]
  · simp [part, scB_run sc, g hb]
  · rw [ha, hb]; simp
theorem extract_list {cs : Array Value} {o k : Nat} {l : List Value} (h : (cs.toList.drop o).take k = l) : cs.extract o (o + k) = l.toArray := by
  subst h
  apply Array.ext'
  simp [Array.toList_extract]
theorem eqc_arr {d k : Nat} {e : TypeId} {kk : IntKind} (ht : P.underlying t = some (.array k e)) (hag : agB P t k = true) (he : P.underlying e = some (.int kk)) (hz : szB P e 1 = true) : EqC P (d + 2) t k (fun xs => ∃ l : List UInt8, l.length = k ∧ xs = l.map B) := fun w cs ds o h1 h2 => by
  obtain ⟨l, hl, ha⟩ := h1; obtain ⟨m, hm, hb⟩ := h2
  obtain ⟨g1, g2⟩ := agB_run (w := w) hag
  refine ⟨.agg (l.map B).toArray, .agg (m.map B).toArray, _, ?_, ?_, run_eq_bytes ht he hz hl hm, ?_⟩
  · simp [part, g1, g2, extract_list ha]
  · simp [part, g1, g2, extract_list hb]
  · rw [ha, hb]
    simp only [decide_eq_true_eq]
    refine ⟨fun h => by rw [h], fun h => ?_⟩
    refine List.map_inj_right (fun a b hab => ?_) |>.1 h
    have h3 : (a.toNat : Int) = b.toNat := by simpa [B] using hab
    exact UInt8.toNat.inj (by omega)
/-- fields one behind the other -/
inductive FE (P : Program) (d : Nat) : List Field → Nat → Nat → (List Value → Prop) → Prop
  | nil (o : Nat) : FE P d [] o 0 (fun xs => xs = [])
  | cons {f : Field} {fs : List Field} {o k e : Nat} {W W' : List Value → Prop} (h1 : f.offset = o) (h2 : f.name ≠ "_") (h3 : EqC P d f.type k W) (h4 : FE P d fs (o + k) e W') :
      FE P d (f :: fs) o (k + e) (fun xs => W (xs.take k) ∧ W' (xs.drop k))
theorem FE.run {d : Nat} (w : World) (cs ds : Array Value) : ∀ {fs : List Field} {o e : Nat} {W : List Value → Prop}, FE P d fs o e W → W ((cs.toList.drop o).take e) → W ((ds.toList.drop o).take e) →
    ∃ r, (Op.eqFields d cs ds fs).run P w = .ok r w ∧ (r = true ↔ (cs.toList.drop o).take e = (ds.toList.drop o).take e)
  | _, o, _, _, .nil _, h1, h2 => ⟨true, by simp [Op.eqFields], by simp⟩
  | _, o, _, _, .cons (f := f) (fs := fs) (k := k) (e := e) e1 e2 e3 e4, h1, h2 => by
    have c1 : ∀ {cs : Array Value}, ((cs.toList.drop o).take (k + e)).take k = (cs.toList.drop o).take k := fun {cs} => by rw [List.take_take, Nat.min_eq_left (by omega)]
    have c2 : ∀ {cs : Array Value}, ((cs.toList.drop o).take (k + e)).drop k = (cs.toList.drop (o + k)).take e := fun {cs} => by rw [List.drop_take, List.drop_drop, Nat.add_sub_cancel_left]
    obtain ⟨h11, h12⟩ := h1; obtain ⟨h21, h22⟩ := h2
    rw [c1] at h11 h21; rw [c2] at h12 h22
    obtain ⟨a, b, r, r1, r2, r3, r4⟩ := e3 w cs ds o h11 h21
    obtain ⟨r', ih, ih2⟩ := FE.run w cs ds e4 h12 h22
    have key : ((cs.toList.drop o).take (k + e) = (ds.toList.drop o).take (k + e)) ↔ ((cs.toList.drop o).take k = (ds.toList.drop o).take k ∧ (cs.toList.drop (o + k)).take e = (ds.toList.drop (o + k)).take e) := by
      constructor
      · intro h
        exact ⟨by rw [← c1, h, c1], by rw [← c2, h, c2]⟩
      · rintro ⟨ha, hb⟩
        rw [← List.take_append_drop k ((cs.toList.drop o).take (k + e)), ← List.take_append_drop k ((ds.toList.drop o).take (k + e)), c1, c1, c2, c2, ha, hb]
    simp only [Op.eqFields, e2, ne_eq, not_false_eq_true, if_true, Sem.run_bind, e1, r1, r2, r3, Result.andThen_ok]
    cases r with
    | true =>
      have h := r4.1 rfl
      refine ⟨r', by simpa using ih, ?_⟩
      rw [key, ih2]; simp [h]
    | false =>
      refine ⟨false, by simp, ?_⟩
      rw [key, ← r4]; simp
theorem EqC.weak {d k : Nat} {W W' : List Value → Prop} (h : EqC P d t k W) (hw : ∀ xs, W' xs → W xs) : EqC P d t k W' := fun w cs ds o h1 h2 => h w cs ds o (hw _ h1) (hw _ h2)
theorem eqc_struct {d k : Nat} {fs : Array Field} {W : List Value → Prop} (hag : agB P t k = true) (hts : P.underlying t = some (.struct fs)) (hp : P.stoodInHeld t = false) (hf : FE P d fs.toList 0 k W) : EqC P (d + 1) t k W := fun w cs ds o h1 h2 => by
  obtain rfl : P.fieldsOf t = fs := by simp [Program.fieldsOf, hts]
  have ht := hts
  obtain ⟨g1, g2⟩ := agB_run (w := w) hag
  have e : ∀ {cs : Array Value}, (((cs.toList.drop o).take k).toArray.toList.drop 0).take k = (cs.toList.drop o).take k := fun {cs} => by simp [List.take_take]
  obtain ⟨r, h3, h4⟩ := FE.run w ((cs.toList.drop o).take k).toArray ((ds.toList.drop o).take k).toArray hf (by rw [e]; exact h1) (by rw [e]; exact h2)
  rw [e, e] at h4
  refine ⟨.agg (cs.extract o (o + k)), .agg (ds.extract o (o + k)), r, ?_, ?_, ?_, h4⟩
  · simp [part, g1, g2]
  · simp [part, g1, g2]
  · rw [run_equalIn_struct w d t _ _ ht hp, extract_list (cs := cs) rfl, extract_list (cs := ds) rfl]; exact h3
theorem run_eqAg {d k : Nat} {w : World} {W : List Value → Prop} {xs ys : List Value} {p : Prop} [Decidable p] (hag : agB P t k = true) (he : EqC P d t k W) (hx : W xs) (hy : W ys) (lx : xs.length = k) (ly : ys.length = k) (hp : xs = ys ↔ p) :
    (Op.equalIn d t (.agg xs.toArray) (.agg ys.toArray)).run P w = .ok (decide p) w := by
  have e : ∀ {l : List Value}, l.length = k → ((l.toArray.toList).drop 0).take k = l := fun {l} h => by simp [List.take_of_length_le (Nat.le_of_eq h)]
  obtain ⟨a, b, r, r1, r2, r3, r4⟩ := he w xs.toArray ys.toArray 0 (by rw [e lx]; exact hx) (by rw [e ly]; exact hy)
  obtain ⟨g1, g2⟩ := agB_run (w := w) hag
  have e1 : ∀ {l : List Value}, l.length = k → (part t l.toArray 0).run P w = .ok (.agg l.toArray) w := fun {l} h => by
    simp only [part, Sem.run_bind, g1, g2, Result.andThen_ok, if_true, Sem.run_pure]
    rw [extract_list (l := l) (e h)]
  rw [e1 lx] at r1; rw [e1 ly] at r2
  cases r1; cases r2
  rw [e lx, e ly, hp] at r4
  rw [r3]; congr 1; rw [Bool.eq_iff_iff, r4]; simp
theorem y_stNe {k : Nat} {W : List Value → Prop} {xs ys : List Value} {p : Prop} [Decidable p] (hx : ev L x = some (.agg xs.toArray)) (hy : ev L y = some (.agg ys.toArray)) (hag : agB P t k = true) (he : EqC P 10000 t k W) (h : W xs ∧ W ys ∧ xs.length = k ∧ ys.length = k) (hg : P.eqGuardType P.depth t = false) (hp : xs = ys ↔ p) :
    Y P n S L ⟨dst, .binOp .neq t x y t', rty, pos, af, gd⟩ (.bool (decide (¬ p))) := fun q w ha _ => by
  have h1 := ha.ev hx; have h2 := ha.ev hy
  have e1 : (binOp .neq t (.agg xs.toArray) (.agg ys.toArray)) = (do pure (Value.bool (!(← Op.equal t (.agg xs.toArray) (.agg ys.toArray))))) := rfl
  have e2 : (Op.equal t (.agg xs.toArray) (.agg ys.toArray)).run P w = .ok (decide p) w := run_eqAg (d := 10000) hag he h.1 h.2.1 h.2.2.1 h.2.2.2 hp
  have e3 : (eqGuard .neq t x y (.agg xs.toArray) (.agg ys.toArray)).run P w = .ok () w := by simp [eqGuard, hg]
  simp only [execOp, h1, h2, e1]
  rw [Sem.run_bind, Sem.run_bind, e3, Result.andThen, Sem.run_bind, e2, decide_not]; rfl
end
section
variable {c : Cx} {L : Sl} {H : List Res} {P : Program} {Q : Exit → Act → World → Prop} {K : Act → World → Prop} {d : Nat} {rty : TypeId} {pos : String} {af : Array Edge} {gd : Option (Nat × Bool)} {t t' : TypeId} {x y : Operand}
/-- pieces that are not asked any longer -/
theorem tk_drop {H' : List Res} (hH : H'.Sublist H) (h : TK c K L H') : TK c K L H := fun a w ha hw => h a w ha (hw.sub hH)
end
theorem fill_s0 {a0 b0 x : Value} (hx : x.cells = #[x]) : fillL [(0, 1), (1, 1)] [a0, b0] [(0, x.cells.toList)] = some [x, b0] := by rw [hx]; rfl
end Go.Proofs.YtnhpghhibcdklaaGreatDoor

set_option linter.unusedSimpArgs false
set_option linter.unusedVariables false
namespace Go.Proofs.YtnhpghhibcdklaaGreatDoor
def rr (x : UInt32) (n : Nat) : UInt32 := x >>> UInt32.ofNat n ||| x <<< UInt32.ofNat (32 - n)
theorem rr_def (x : UInt32) (n : Nat) : x <<< UInt32.ofNat (32 - n) ||| x >>> UInt32.ofNat n = rr x n := UInt32.or_comm _ _
def word (l : List UInt8) (i : Nat) : UInt32 :=
  (l.getD (4 * i) 0).toUInt32 <<< UInt32.ofNat 24 ||| (l.getD (4 * i + 1) 0).toUInt32 <<< UInt32.ofNat 16 ||| (l.getD (4 * i + 2) 0).toUInt32 <<< UInt32.ofNat 8 ||| (l.getD (4 * i + 3) 0).toUInt32
theorem or_add (a b k : Nat) (h : b < 2 ^ k) : a * 2 ^ k ||| b = a * 2 ^ k + b := by
  rw [← Nat.shiftLeft_eq, ← Nat.shiftLeft_add_eq_or_of_lt h]
def nextW (l : List UInt8) (ws : List UInt32) (i : Nat) : UInt32 := if i < 16 then word l i else
  ws.getD (i - 16) 0 + ws.getD (i - 7) 0 + (rr (ws.getD (i - 15) 0) 7 ^^^ rr (ws.getD (i - 15) 0) 18 ^^^ ws.getD (i - 15) 0 >>> UInt32.ofNat 3) + (rr (ws.getD (i - 2) 0) 17 ^^^ rr (ws.getD (i - 2) 0) 19 ^^^ ws.getD (i - 2) 0 >>> UInt32.ofNat 10)
def sched (l : List UInt8) : Nat → List UInt32
  | 0 => []
  | k + 1 => sched l k ++ [nextW l (sched l k) k]
@[simp] theorem sched_len (l : List UInt8) : ∀ k, (sched l k).length = k
  | 0 => rfl
  | k + 1 => by simp [sched, sched_len l k]
def schedZ (l : List UInt8) (k : Nat) : List UInt32 := sched l k ++ List.replicate (64 - k) 0
theorem schedZ_len {l : List UInt8} {k : Nat} (h : k ≤ 64) : (schedZ l k).length = 64 := by simp [schedZ]; omega
theorem schedZ_0 {l : List UInt8} : schedZ l 0 = List.replicate 64 0 := rfl
theorem schedZ_64 {l : List UInt8} : schedZ l 64 = sched l 64 := by simp [schedZ]
theorem schedZ_get {l : List UInt8} {k j : Nat} (h : j < k) : (schedZ l k).getD j 0 = (sched l k).getD j 0 := by
  unfold schedZ; rw [List.getD_eq_getElem?_getD, List.getElem?_append_left (by simpa using h), ← List.getD_eq_getElem?_getD]
theorem schedZ_set {l : List UInt8} {k : Nat} (h : k < 64) : (schedZ l k).set k (nextW l (sched l k) k) = schedZ l (k + 1) := by
  unfold schedZ
  rw [List.set_append_right _ _ (by simp)]
  have e : 64 - k = (64 - (k + 1)) + 1 := by omega
  rw [sched_len, Nat.sub_self, e, List.replicate_succ, List.set_cons_zero, sched, List.append_assoc]; rfl
theorem schedZ_lo {l : List UInt8} {k : Nat} (h : k < 64) (h1 : k < 16) : (schedZ l k).set k (word l k) = schedZ l (k + 1) := by
  rw [← schedZ_set h, nextW, if_pos h1]
theorem schedZ_hi {l : List UInt8} {k : Nat} (h : k < 64) (h1 : ¬ k < 16) :
    (schedZ l k).set k ((schedZ l k).getD (k - 16) 0 + (schedZ l k).getD (k - 7) 0 + (rr ((schedZ l k).getD (k - 15) 0) 7 ^^^ rr ((schedZ l k).getD (k - 15) 0) 18 ^^^ (schedZ l k).getD (k - 15) 0 >>> UInt32.ofNat 3) + (rr ((schedZ l k).getD (k - 2) 0) 17 ^^^ rr ((schedZ l k).getD (k - 2) 0) 19 ^^^ (schedZ l k).getD (k - 2) 0 >>> UInt32.ofNat 10)) = schedZ l (k + 1) := by
  rw [← schedZ_set h, nextW, if_neg h1, schedZ_get (show k - 16 < k by omega), schedZ_get (show k - 7 < k by omega), schedZ_get (show k - 15 < k by omega), schedZ_get (show k - 2 < k by omega)]
/-- a round -/
def tOf (v : List UInt32) (k w : UInt32) : UInt32 := v.getD 7 0 + (rr (v.getD 4 0) 6 ^^^ rr (v.getD 4 0) 11 ^^^ rr (v.getD 4 0) 25) + (v.getD 6 0 ^^^ (v.getD 4 0 &&& (v.getD 5 0 ^^^ v.getD 6 0))) + k + w
def uOf (v : List UInt32) : UInt32 := (rr (v.getD 0 0) 2 ^^^ rr (v.getD 0 0) 13 ^^^ rr (v.getD 0 0) 22) + (v.getD 0 0 &&& v.getD 1 0 ||| v.getD 2 0 &&& (v.getD 0 0 ||| v.getD 1 0))
def rstep (v : List UInt32) (k w : UInt32) : List UInt32 := [tOf v k w + uOf v, v.getD 0 0, v.getD 1 0, v.getD 2 0, v.getD 3 0 + tOf v k w, v.getD 4 0, v.getD 5 0, v.getD 6 0]
def rounds (r ks ws : List UInt32) : Nat → List UInt32
  | 0 => r
  | n + 1 => rstep (rounds r ks ws n) (ks.getD n 0) (ws.getD n 0)
theorem rounds_0 {r ks ws : List UInt32} : rounds r ks ws 0 = r := rfl
theorem rounds_succ {r ks ws : List UInt32} {n : Nat} : rounds r ks ws (n + 1) = rstep (rounds r ks ws n) (ks.getD n 0) (ws.getD n 0) := rfl
theorem rstep_prog {v : List UInt32} (h : v.length = 8) (k w : UInt32) {t u : UInt32} (ht : t = tOf v k w) (hu : u = uOf v) :
    ((v.take 1 ++ v.take 7).set 0 (t + u)).set 4 (((v.take 1 ++ v.take 7).set 0 (t + u)).getD 4 0 + t) = rstep v k w := by
  subst ht; subst hu
  match v, h with
  | [_, _, _, _, _, _, _, _], _ => rfl
theorem rounds_len {r ks ws : List UInt32} (h : r.length = 8) : ∀ n, (rounds r ks ws n).length = 8
  | 0 => h
  | _ + 1 => rfl
def stepsL : List UInt32 := [0x428a2f98, 0x71374491, 0xb5c0fbcf, 0xe9b5dba5, 0x3956c25b, 0x59f111f1, 0x923f82a4, 0xab1c5ed5,
  0xd807aa98, 0x12835b01, 0x243185be, 0x550c7dc3, 0x72be5d74, 0x80deb1fe, 0x9bdc06a7, 0xc19bf174,
  0xe49b69c1, 0xefbe4786, 0x0fc19dc6, 0x240ca1cc, 0x2de92c6f, 0x4a7484aa, 0x5cb0a9dc, 0x76f988da,
  0x983e5152, 0xa831c66d, 0xb00327c8, 0xbf597fc7, 0xc6e00bf3, 0xd5a79147, 0x06ca6351, 0x14292967,
  0x27b70a85, 0x2e1b2138, 0x4d2c6dfc, 0x53380d13, 0x650a7354, 0x766a0abb, 0x81c2c92e, 0x92722c85,
  0xa2bfe8a1, 0xa81a664b, 0xc24b8b70, 0xc76c51a3, 0xd192e819, 0xd6990624, 0xf40e3585, 0x106aa070,
  0x19a4c116, 0x1e376c08, 0x2748774c, 0x34b0bcb5, 0x391c0cb3, 0x4ed8aa4a, 0x5b9cca4f, 0x682e6ff3,
  0x748f82ee, 0x78a5636f, 0x84c87814, 0x8cc70208, 0x90befffa, 0xa4506ceb, 0xbef9a3f7, 0xc67178f2]
def beginL : List UInt32 := [0x6a09e667, 0xbb67ae85, 0x3c6ef372, 0xa54ff53a, 0x510e527f, 0x9b05688c, 0x1f83d9ab, 0x5be0cd19]
/-- the first i words of r have v's added -/
def addI (r v : List UInt32) (i : Nat) : List UInt32 := (List.range 8).map fun j => if j < i then r.getD j 0 + v.getD j 0 else r.getD j 0
@[simp] theorem addI_len {r v : List UInt32} {i : Nat} : (addI r v i).length = 8 := by simp [addI]
theorem range_getD {α : Type} (l : List α) (d : α) : (List.range l.length).map (fun j => l.getD j d) = l := by
  apply List.ext_getElem (by simp)
  intro i h1 h2
  simp [List.getD_eq_getElem?_getD, h2]
theorem addI_0 {r v : List UInt32} (h : r.length = 8) : addI r v 0 = r := by
  have := range_getD r 0
  rw [h] at this
  simpa [addI] using this
theorem addI_get {r v : List UInt32} {i j : Nat} (h : j < 8) : (addI r v i).getD j 0 = if j < i then r.getD j 0 + v.getD j 0 else r.getD j 0 := by
  rw [addI, List.getD_eq_getElem?_getD, List.getElem?_map, List.getElem?_range h]; rfl
theorem addI_set {r v : List UInt32} {i : Nat} (h : i < 8) : (addI r v i).set i ((addI r v i).getD i 0 + v.getD i 0) = addI r v (i + 1) := by
  rw [addI_get h, if_neg (Nat.lt_irrefl _)]
  apply List.ext_getElem (by simp)
  intro j h1 h2
  rw [List.getElem_set]
  simp only [addI, List.getElem_map, List.getElem_range]
  split
  · subst_vars; rw [if_pos (by omega)]
  · by_cases c : j < i
    · rw [if_pos c, if_pos (by omega)]
    · rw [if_neg c, if_neg (by omega)]
def blockF (r : List UInt32) (l : List UInt8) : List UInt32 := addI r (rounds r stepsL (sched l 64) 64) 8
@[simp] theorem blockF_len {r : List UInt32} {l : List UInt8} : (blockF r l).length = 8 := by simp [blockF]
def foldB (r : List UInt32) (l : List UInt8) : List UInt32 := if _h : 64 ≤ l.length then foldB (blockF r (l.take 64)) (l.drop 64) else r
termination_by l.length
decreasing_by simp; omega
theorem foldB_lt {r : List UInt32} {l : List UInt8} (h : l.length < 64) : foldB r l = r := by rw [foldB, dif_neg (by omega)]
theorem foldB_ge {r : List UInt32} {l : List UInt8} (h : 64 ≤ l.length) : foldB r l = foldB (blockF r (l.take 64)) (l.drop 64) := by rw [foldB, dif_pos h]
theorem foldB_one {r : List UInt32} {l : List UInt8} (h : l.length = 64) : foldB r l = blockF r l := by
  rw [foldB_ge (by omega), foldB_lt (by simp; omega), List.take_of_length_le (by omega)]
theorem foldB_app (m : List UInt8) : ∀ (n : Nat) (r : List UInt32) (l : List UInt8), l.length = 64 * n → foldB r (l ++ m) = foldB (foldB r l) m
  | 0, r, l, h => by
    have : l = [] := List.eq_nil_of_length_eq_zero (by omega)
    subst this; rw [foldB_lt (l := []) (by simp)]; rfl
  | n + 1, r, l, h => by
    rw [foldB_ge (l := l ++ m) (by simp; omega), foldB_ge (l := l) (by omega), List.take_append_of_le_length (by omega), List.drop_append_of_le_length (by omega)]
    exact foldB_app m n _ _ (by simp; omega)
/-- what a state holds when bytes l are taken -/
def SI (l : List UInt8) (R : List UInt32) (W : List UInt8) : Prop := R.length = 8 ∧ W.length = 64 ∧ R = foldB beginL (l.take (64 * (l.length / 64))) ∧ W.take (l.length % 64) = l.drop (64 * (l.length / 64))
theorem SI_zero {W : List UInt8} (h : W.length = 64) : SI [] beginL W := ⟨rfl, h, by rw [foldB_lt (by simp)], by simp⟩
theorem set_take {α : Type} {W : List α} {i : Nat} {x : α} (h : i < W.length) : (W.set i x).take (i + 1) = W.take i ++ [x] := by
  rw [List.take_add_one, List.take_set_of_le (Nat.le_refl _)]
  simp [h]
theorem SI_push {l : List UInt8} {R : List UInt32} {W : List UInt8} {x : UInt8} (h : SI l R W) (hn : ¬ (l.length + 1) % 64 = 0) : SI (l ++ [x]) R (W.set (l.length % 64) x) := by
  obtain ⟨h1, h2, h3, h4⟩ := h
  have e1 : (l.length + 1) / 64 = l.length / 64 := by omega
  have e2 : (l.length + 1) % 64 = l.length % 64 + 1 := by omega
  refine ⟨h1, by simpa using h2, ?_, ?_⟩
  · rw [List.length_append, List.length_singleton, e1, List.take_append_of_le_length (by omega)]; exact h3
  · rw [List.length_append, List.length_singleton, e1, e2, set_take (by omega), h4, List.drop_append_of_le_length (by omega)]
theorem SI_wrap {l : List UInt8} {R : List UInt32} {W : List UInt8} {x : UInt8} (h : SI l R W) (hn : (l.length + 1) % 64 = 0) : SI (l ++ [x]) (blockF R (W.set (l.length % 64) x)) (W.set (l.length % 64) x) := by
  obtain ⟨h1, h2, h3, h4⟩ := h
  have e1 : 64 * ((l.length + 1) / 64) = l.length + 1 := by omega
  have e2 : l.length % 64 = 63 := by omega
  have e3 : W.set (l.length % 64) x = l.drop (64 * (l.length / 64)) ++ [x] := by
    rw [← h4, ← set_take (by omega), List.take_of_length_le (by simp; omega)]
  refine ⟨by simp, by simpa using h2, ?_, ?_⟩
  · rw [List.length_append, List.length_singleton, e1, List.take_of_length_le (by simp)]
    have e4 : l ++ [x] = l.take (64 * (l.length / 64)) ++ (l.drop (64 * (l.length / 64)) ++ [x]) := by rw [← List.append_assoc, List.take_append_drop]
    rw [e4, foldB_app _ (l.length / 64) _ _ (by simp; omega), ← h3, foldB_one (by simp; omega), e3]
  · rw [List.length_append, List.length_singleton, hn, e1]; simp
theorem take_snocD {m : List UInt8} {j : Nat} (h : j < m.length) : m.take (j + 1) = m.take j ++ [m.getD j 0] := by
  rw [List.take_add_one, List.getD_eq_getElem?_getD]; simp [h]
theorem SI_tpush {l m : List UInt8} {R : List UInt32} {W : List UInt8} {j : Nat} (h : SI (l ++ m.take j) R W) (hj : j < m.length) (hn : ¬ (l.length + j + 1) % 64 = 0) : SI (l ++ m.take (j + 1)) R (W.set ((l.length + j) % 64) (m.getD j 0)) := by
  have e : (l ++ m.take j).length = l.length + j := by simp; omega
  have := SI_push (x := m.getD j 0) h (by rw [e]; exact hn)
  rw [e, List.append_assoc, ← take_snocD hj] at this; exact this
theorem SI_twrap {l m : List UInt8} {R : List UInt32} {W : List UInt8} {j : Nat} (h : SI (l ++ m.take j) R W) (hj : j < m.length) (hn : (l.length + j + 1) % 64 = 0) : SI (l ++ m.take (j + 1)) (blockF R (W.set ((l.length + j) % 64) (m.getD j 0))) (W.set ((l.length + j) % 64) (m.getD j 0)) := by
  have e : (l ++ m.take j).length = l.length + j := by simp; omega
  have := SI_wrap (x := m.getD j 0) h (by rw [e]; exact hn)
  rw [e, List.append_assoc, ← take_snocD hj] at this; exact this
/-- the end of a text: a byte, noughts, its length -/
def zc (n : Nat) : Nat := (119 - n % 64) % 64
theorem zc_def (n : Nat) : zc n = (119 - n % 64) % 64 := rfl
theorem zc_lt (n : Nat) : zc n < 64 := Nat.mod_lt _ (by decide)
def lenB (n j : Nat) : UInt8 := UInt8.ofNat (n * 8 / 2 ^ (56 - 8 * j))
def len8 (n j : Nat) : List UInt8 := (List.range j).map (lenB n)
theorem len8_0 {n : Nat} : len8 n 0 = [] := rfl
theorem len8_snoc {n j : Nat} : len8 n j ++ [lenB n j] = len8 n (j + 1) := by simp [len8, List.range_succ]
@[simp] theorem len8_len {n j : Nat} : (len8 n j).length = j := by simp [len8]
def pad (l : List UInt8) : List UInt8 := l ++ [128] ++ List.replicate (zc l.length) 0 ++ len8 l.length 8
theorem pad_len (l : List UInt8) : ∃ n, (pad l).length = 64 * n ∧ 0 < n := by
  refine ⟨(l.length + 9 + zc l.length) / 64, ?_, ?_⟩
  · simp [pad, zc]; omega
  · simp [zc]; omega
def outB (R : List UInt32) : List UInt8 := (List.range 32).map fun i => (R.getD (i / 4) 0 >>> UInt32.ofNat (24 - 8 * (i % 4))).toUInt8
@[simp] theorem outB_len {R : List UInt32} : (outB R).length = 32 := by simp [outB]
def sumL (l : List UInt8) : List UInt8 := outB (foldB beginL (pad l))
@[simp] theorem sumL_len {l : List UInt8} : (sumL l).length = 32 := by simp [sumL]
def hmKey (k : List UInt8) : List UInt8 := if 64 < k.length then sumL k else k
theorem hmKey_len {k : List UInt8} : (hmKey k).length ≤ 64 := by
  unfold hmKey; split
  · simp
  · omega
def xorPad (k : List UInt8) (c : UInt8) : List UInt8 := (List.range 64).map fun i => k.getD i 0 ^^^ c
@[simp] theorem xorPad_len {k : List UInt8} {c : UInt8} : (xorPad k c).length = 64 := by simp [xorPad]
def keyedL (k m : List UInt8) : List UInt8 := sumL (xorPad (hmKey k) 0x5C ++ sumL (xorPad (hmKey k) 0x36 ++ m))
@[simp] theorem keyedL_len {k m : List UInt8} : (keyedL k m).length = 32 := by simp [keyedL]
/-- the first i bytes of l, and noughts -/
def takeZ (l : List UInt8) (n i : Nat) : List UInt8 := l.take i ++ List.replicate (n - i) 0
theorem takeZ_len {l : List UInt8} {n i : Nat} (h : l.length = n) (hi : i ≤ n) : (takeZ l n i).length = n := by simp [takeZ]; omega
theorem takeZ_0 {l : List UInt8} {n : Nat} : takeZ l n 0 = List.replicate n 0 := by simp [takeZ]
theorem takeZ_all {l : List UInt8} {n : Nat} (h : l.length = n) : takeZ l n n = l := by simp [takeZ, ← h]
theorem takeZ_set {l : List UInt8} {n i : Nat} (h : l.length = n) (hi : i < n) : (takeZ l n i).set i (l.getD i 0) = takeZ l n (i + 1) := by
  have e : n - i = (n - (i + 1)) + 1 := by omega
  have e2 : (l.take i).length = i := by simp; omega
  unfold takeZ
  rw [List.set_append_right _ _ (by omega), e2, Nat.sub_self, e, List.replicate_succ, List.set_cons_zero, take_snocD (by omega), List.append_assoc]; rfl
theorem outB_get {R : List UInt32} {i : Nat} (h : i < 32) : (outB R).getD i 0 = (R.getD (i / 4) 0 >>> UInt32.ofNat (24 - 8 * (i % 4))).toUInt8 := by
  unfold outB; rw [List.getD_eq_getElem?_getD, List.getElem?_map, List.getElem?_range h]; rfl
theorem outZ_set {R : List UInt32} {i : Nat} (h : i < 32) : (takeZ (outB R) 32 i).set i (R.getD (i / 4) 0 >>> UInt32.ofNat (24 - 8 * (i % 4))).toUInt8 = takeZ (outB R) 32 (i + 1) := by rw [← outB_get h, takeZ_set outB_len h]
theorem sum_end {l : List UInt8} {R : List UInt32} {W : List UInt8} (h : SI (pad l) R W) : outB R = sumL l := by
  obtain ⟨n, hn, _⟩ := pad_len l
  unfold sumL
  rw [h.2.2.1, List.take_of_length_le (by omega)]
/-- the first i bytes of k, filled with noughts, have c put in -/
def xorI (k : List UInt8) (c : UInt8) (i : Nat) : List UInt8 := (List.range 64).map fun j => if j < i then k.getD j 0 ^^^ c else k.getD j 0
@[simp] theorem xorI_len {k : List UInt8} {c : UInt8} {i : Nat} : (xorI k c i).length = 64 := by simp [xorI]
theorem xorI_0 {k : List UInt8} {c : UInt8} (h : k.length ≤ 64) : xorI k c 0 = k ++ List.replicate (64 - k.length) 0 := by
  apply List.ext_getElem (by simp; omega)
  intro j h1 h2
  simp only [xorI_len] at h1
  simp only [xorI, List.getElem_map, List.getElem_range, Nat.not_lt_zero, if_false]
  rw [List.getD_eq_getElem?_getD]
  by_cases hj : j < k.length
  · rw [List.getElem_append_left hj, List.getElem?_eq_getElem hj]; rfl
  · rw [List.getElem_append_right (by omega), List.getElem?_eq_none (by omega)]; simp
theorem xorI_get {k : List UInt8} {c : UInt8} {i j : Nat} (h : j < 64) : (xorI k c i).getD j 0 = if j < i then k.getD j 0 ^^^ c else k.getD j 0 := by
  rw [xorI, List.getD_eq_getElem?_getD, List.getElem?_map, List.getElem?_range h]; rfl
theorem xorI_set {k : List UInt8} {c : UInt8} {i : Nat} (h : i < 64) : (xorI k c i).set i ((xorI k c i).getD i 0 ^^^ c) = xorI k c (i + 1) := by
  rw [xorI_get h, if_neg (Nat.lt_irrefl _)]
  apply List.ext_getElem (by simp)
  intro j h1 h2
  rw [List.getElem_set]
  simp only [xorI, List.getElem_map, List.getElem_range]
  split
  · subst_vars; rw [if_pos (by omega)]
  · by_cases c : j < i
    · rw [if_pos c, if_pos (by omega)]
    · rw [if_neg c, if_neg (by omega)]
theorem xorI_64 {k : List UInt8} {c : UInt8} : xorI k c 64 = xorPad k c := by
  apply List.ext_getElem (by simp)
  intro j h1 h2
  simp only [xorI_len] at h1
  simp only [xorI, xorPad, List.getElem_map, List.getElem_range, if_pos h1]
theorem or_xor_0 (a x y : UInt8) : a ||| (x ^^^ y) = 0 ↔ a = 0 ∧ x = y := by
  constructor
  · intro h
    have h1 := congrArg UInt8.toNat h
    rw [UInt8.toNat_or, UInt8.toNat_xor] at h1
    have h2 := Nat.or_eq_zero_iff.1 h1
    refine ⟨UInt8.toNat.inj h2.1, UInt8.toNat.inj ?_⟩
    have := h2.2
    exact Nat.eq_of_testBit_eq fun i => by
      have h3 := congrArg (fun n => Nat.testBit n i) this
      simp only [Nat.testBit_xor, Nat.zero_testBit] at h3
      cases ha : Nat.testBit x.toNat i <;> cases hb : Nat.testBit y.toNat i <;> simp [ha, hb] at h3 ⊢
  · rintro ⟨rfl, rfl⟩; simp
theorem take_eq_snoc {l m : List UInt8} {i : Nat} (hl : i < l.length) (hm : i < m.length) : (l.take (i + 1) = m.take (i + 1)) ↔ (l.take i = m.take i ∧ l.getD i 0 = m.getD i 0) := by
  rw [take_snocD hl, take_snocD hm]
  constructor
  · intro h
    have := List.append_inj' h rfl
    exact ⟨this.1, by simpa using this.2⟩
  · rintro ⟨h1, h2⟩; rw [h1, h2]
end Go.Proofs.YtnhpghhibcdklaaGreatDoor
set_option linter.unusedSimpArgs false
set_option linter.unusedVariables false
namespace Go.Proofs.YtnhpghhibcdklaaGreatDoor
open Go Go.RowKit
set_option maxRecDepth 100000
theorem MK64 : mkB Tryz.prog 64 5 (.int .u8 0) 1 := ⟨kR, _, rfl, kR, kR, kR⟩
theorem EL64 : elB Tryz.prog 64 5 1 1 := ⟨kR, _, .int .u8 0, rfl, kR, rfl, kR, kR, Nat.one_pos⟩
theorem EL73 : elB Tryz.prog 73 3 1 8 := ⟨kR, _, .int .i64 0, rfl, kR, rfl, kR, kR, Nat.one_pos⟩
theorem EL81 : elB Tryz.prog 81 9 1 16 := ⟨kR, _, .string ⟨#[]⟩, rfl, kR, rfl, kR, kR, Nat.one_pos⟩
theorem EL208 : elB Tryz.prog 208 64 1 24 := ⟨kR, _, .slice none 0 0, rfl, kR, rfl, kR, kR, Nat.one_pos⟩
end Go.Proofs.YtnhpghhibcdklaaGreatDoor
