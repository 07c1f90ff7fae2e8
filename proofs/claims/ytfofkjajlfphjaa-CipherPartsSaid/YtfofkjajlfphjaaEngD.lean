/- Rows of cells as pieces; new memory, stores, calls, returns; a region whose order is drawn. Own work for this project; no program in sight. -/
import Derived.Test.YtfofkjajlfphjaaEngC
namespace Go.Proofs.Ytfofkjajlfphjaa
open Go Go.RowKit

/-! ## a row of cells -/
def nofr (fr : Nat × Nat) (n : Nat) : Prop := n ≤ fr.1 ∨ fr.2 ≤ fr.1
/-- block b holds just these cells, none of them frozen -/
def cel (b : Nat) (cs : List Value) (T : TypeId) : Res where
  fp k := k = b
  holds w := ∃ fr, w.heap[b]? = some (.cells cs.toArray T fr) ∧ nofr fr cs.length
  loc w w' h := fun ⟨fr, h1, h2⟩ => ⟨fr, (h b rfl).trans h1, h2⟩
  bnd w := fun ⟨fr, h1, _⟩ k hk => by subst hk; exact (Array.getElem?_eq_some_iff.1 h1).1

theorem cel_cell {b : Nat} {cs : List Value} {T : TypeId} {w : World} (h : (cel b cs T).holds w) {o : Nat} {v : Value} (hi : cs[o]? = some v) : w.cell? ⟨b, o, none⟩ = some v := by
  obtain ⟨fr, h1, _⟩ := h
  simp [World.cell?, h1, hi]
theorem cel_free {b : Nat} {cs : List Value} {T : TypeId} {w : World} (h : (cel b cs T).holds w) {o : Nat} (hi : o < cs.length) : w.frozen? ⟨b, o, none⟩ = false := by
  obtain ⟨fr, h1, h2⟩ := h
  obtain ⟨lo, hi'⟩ := fr
  simp only [World.frozen?, h1]
  simp only [nofr] at h2
  rcases h2 with h2 | h2
  · have : ¬ lo ≤ o := by omega
    simp [this]
  · by_cases c : lo ≤ o
    · have : ¬ o < hi' := by omega
      simp [this]
    · simp [c]
section
variable {c : Cx} {L : Sl} {H : List Res} {b o : Nat} {cs : List Value} {T : TypeId} {v : Value}
theorem hc (hm : cel b cs T ∈ H) (hi : cs[o]? = some v) : ∀ w, St c w H → w.cell? ⟨b, o, none⟩ = some v := fun _ hw => cel_cell (hw.mem hm) hi
/-- memory that was there at the call and that nobody turns -/
theorem hro {ad : Addr} (h0 : c.w0.cell? ad = some v) (hE : ¬ c.E ad.block) : ∀ w, St c w H → w.cell? ad = some v := fun _ hw => hw.fr.cell h0 hE
theorem hcs {vs : List Value} (hm : cel b cs T ∈ H) (hi : (cs.drop o).take vs.length = vs) : ∀ w, St c w H → ∀ (j : Nat) (u : Value), vs[j]? = some u → w.cell? ((⟨b, o, none⟩ : Addr).add j) = some u := fun w hw j u hj => by
  have hl : j < vs.length := (List.getElem?_eq_some_iff.1 hj).1
  have e : cs[o + j]? = some u := by
    rw [← hi, List.getElem?_take, if_pos hl, List.getElem?_drop] at hj
    exact hj
  have := cel_cell (hw.mem hm) e
  cases j with
  | zero => simpa [Addr.add] using this
  | succ j => simpa [Addr.add] using this
end

/-! ## new memory -/
theorem St.alloc {c : Cx} {w : World} {H : List Res} (h : St c w H) (cs : Array Value) (T : TypeId) : St c { w with heap := w.heap.push (.cells cs T) } (cel w.heap.size cs.toList T :: H) := by
  have hf : Fo (fun _ => False) w { w with heap := w.heap.push (.cells cs T) } := ⟨rfl, rfl, rfl, by simp, fun k hk _ => by simp [Array.getElem?_push, Nat.ne_of_lt hk]⟩
  refine St.new (N := [cel w.heap.size cs.toList T]) h hf ⟨⟨(0, 0), by simp, .inr (Nat.le_refl _)⟩, trivial⟩ ⟨fun _ _ h => h, trivial⟩ ?_
  intro k hk
  rcases hk with hk | hk
  · cases hk; exact Nat.le_refl _
  · exact hk.elim

section
variable {c : Cx} {L : Sl} {H : List Res} {P : Program} {Q : Exit → Act → World → Prop} {K : Act → World → Prop}
  {d : Nat} {rty : TypeId} {pos : String} {af : Array Edge} {gd : Option (Nat × Bool)} {t : TypeId} {x y : Operand} {v : Value}

/-- a value is laid into a new variable -/
theorem a_box (hx : ev L x = some v) (hn : Nat.blt d c.n = true)
    (h : ∀ b, TK c K ((d, .pointer (some ⟨b, 0, none⟩)) :: L) (cel b v.cells.toList t :: H)) :
    TK c (fun a w => (⟨some d, .box t x, rty, pos, af, gd⟩ : Oper).wp P a w K Q) L H := fun a w ha hw => by
  have h1 := ha.ev hx
  have e : (execOp a.eval (⟨some d, .box t x, rty, pos, af, gd⟩ : Oper)).run P w = .ok (.value (.pointer (some ⟨w.heap.size, 0, none⟩))) { w with heap := w.heap.push (.cells v.cells t) } := by
    simp [execOp, h1, Instr.box, newVar, newRow]
  change Oper.upon P _ a K Q ((execOp a.eval _).run P w)
  rw [e, Oper.upon_value]
  exact h w.heap.size _ _ (ha.put hn _) (hw.alloc _ _)
theorem a_alloc {z : Value} (hz : (P.info? t).bind (·.zero) = some z) (hn : Nat.blt d c.n = true)
    (h : ∀ b, TK c K ((d, .pointer (some ⟨b, 0, none⟩)) :: L) (cel b z.cells.toList t :: H)) :
    TK c (fun a w => (⟨some d, .alloc t, rty, pos, af, gd⟩ : Oper).wp P a w K Q) L H := fun a w ha hw => by
  have e : (execOp a.eval (⟨some d, .alloc t, rty, pos, af, gd⟩ : Oper)).run P w = .ok (.value (.pointer (some ⟨w.heap.size, 0, none⟩))) { w with heap := w.heap.push (.cells z.cells t) } := by
    obtain ⟨i, hi, hz'⟩ := Option.bind_eq_some_iff.1 hz
    simp [execOp, Instr.alloc, zeroValue, typeInfo, hi, hz', newVar, newRow]
  change Oper.upon P _ a K Q ((execOp a.eval _).run P w)
  rw [e, Oper.upon_value]
  exact h w.heap.size _ _ (ha.put hn _) (hw.alloc _ _)

end

/-! ## pieces put together -/
theorem Fs_append {A B : List Res} {k : Nat} : Fs (A ++ B) k ↔ Fs A k ∨ Fs B k := by
  induction A with
  | nil => simp [Fs]
  | cons x A ih => simp [Fs, ih, or_assoc]
theorem Dj_append {A B : List Res} : Dj (A ++ B) ↔ Dj A ∧ Dj B ∧ ∀ k, Fs A k → ¬ Fs B k := by
  induction A with
  | nil => simp [Fs, Dj]
  | cons x A ih =>
    simp only [List.cons_append, Dj, ih, Fs, Fs_append]
    constructor
    · rintro ⟨h1, h2, h3, h4⟩
      exact ⟨⟨fun k hk hf => h1 k hk (.inl hf), h2⟩, h3, fun k hk hf => hk.elim (fun hk => h1 k hk (.inr hf)) (fun hk => h4 k hk hf)⟩
    · rintro ⟨⟨h1, h2⟩, h3, h4⟩
      exact ⟨fun k hk hf => hf.elim (h1 k hk) (h4 k (.inl hk)), h2, h3, fun k hk => h4 k (.inr hk)⟩
theorem Hs_append {A B : List Res} {w : World} : Hs w (A ++ B) ↔ Hs w A ∧ Hs w B := by
  induction A with
  | nil => simp [Hs]
  | cons x A ih => simp [Hs, ih, and_assoc]

theorem Fs_perm {A B : List Res} (p : A.Perm B) : ∀ k, Fs A k → Fs B k := by
  induction p with
  | nil => exact fun _ h => h
  | cons x _ ih => exact fun k h => h.imp id (ih k)
  | swap x y l => exact fun k h => by simp only [Fs] at *; rcases h with h | h | h <;> simp [h]
  | trans _ _ ih1 ih2 => exact fun k h => ih2 k (ih1 k h)
theorem Hs_perm {w : World} {A B : List Res} (p : A.Perm B) : Hs w A → Hs w B := by
  induction p with
  | nil => exact id
  | cons x _ ih => exact fun h => ⟨h.1, ih h.2⟩
  | swap x y l => exact fun h => ⟨h.2.1, h.1, h.2.2⟩
  | trans _ _ ih1 ih2 => exact fun h => ih2 (ih1 h)
theorem Dj_perm {A B : List Res} (p : A.Perm B) : Dj A → Dj B := by
  induction p with
  | nil => exact id
  | cons x q ih => exact fun h => ⟨fun k hk hf => h.1 k hk (Fs_perm q.symm k hf), ih h.2⟩
  | swap x y l => exact fun h => ⟨fun k hk hf => hf.elim (fun hy => h.1 k hy (.inl hk)) (fun hl => h.2.1 k hk hl), fun k hk hl => h.1 k hk (.inr hl), h.2.2⟩
  | trans _ _ ih1 ih2 => exact fun h => ih2 (ih1 h)
theorem St.perm {c : Cx} {w : World} {A B : List Res} (h : St c w A) (p : A.Perm B) : St c w B := ⟨h.fr, Hs_perm p h.hs, Dj_perm p h.dj, fun k hk => h.own k (Fs_perm p.symm k hk)⟩
theorem tk_perm {c : Cx} {L : Sl} {H : List Res} {K : Act → World → Prop} (H' : List Res) (p : H.Perm H') (h : TK c K L H') : TK c K L H := fun a w ha hw => h a w ha (hw.perm p)
theorem perm_mid {A B C : List Res} : (B ++ (A ++ C)).Perm (A ++ (B ++ C)) := by
  rw [← List.append_assoc, ← List.append_assoc]
  exact List.perm_append_comm.append_right _

/-- The pieces H0 are given to a call and come back as N; the others, Hr, stay. -/
theorem St.call {c : Cx} {w w' : World} {H H0 Hr N : List Res} (h : St c w H) (hp : (H0 ++ Hr).Perm H) (hf : Fo (Fs H0) w w') (hN : Hs w' N) (hd : Dj N) (ho : ∀ k, Fs N k → Fs H0 k ∨ w.heap.size ≤ k) : St c w' (N ++ Hr) := by
  have hFs : ∀ {A B : List Res}, A.Perm B → ∀ k, Fs A k → Fs B k := by
    intro A B p
    induction p with
    | nil => exact fun _ h => h
    | cons x _ ih => exact fun k h => h.imp id (ih k)
    | swap x y l => exact fun k h => by simp only [Fs] at *; rcases h with h | h | h <;> simp [h]
    | trans _ _ ih1 ih2 => exact fun k h => ih2 k (ih1 k h)
  have hHs : ∀ {A B : List Res}, A.Perm B → Hs w A → Hs w B := by
    intro A B p
    induction p with
    | nil => exact id
    | cons x _ ih => exact fun h => ⟨h.1, ih h.2⟩
    | swap x y l => exact fun h => ⟨h.2.1, h.1, h.2.2⟩
    | trans _ _ ih1 ih2 => exact fun h => ih2 (ih1 h)
  have hDj : ∀ {A B : List Res}, A.Perm B → Dj A → Dj B := by
    intro A B p
    induction p with
    | nil => exact id
    | cons x q ih => exact fun h => ⟨fun k hk hf => h.1 k hk (hFs q.symm k hf), ih h.2⟩
    | swap x y l => exact fun h => ⟨fun k hk hf => hf.elim (fun hy => h.1 k hy (.inl hk)) (fun hl => h.2.1 k hk hl), fun k hk hl => h.1 k hk (.inr hl), h.2.2⟩
    | trans _ _ ih1 ih2 => exact fun h => ih2 (ih1 h)
  have hs := Hs_append.1 (hHs hp.symm h.hs)
  have dj := Dj_append.1 (hDj hp.symm h.dj)
  have hlt : ∀ k, Fs Hr k → k < w.heap.size := fun k hk => Fs.bnd hs.2 k hk
  refine ⟨h.fr.trans hf (fun k hk => h.own k (hFs hp k (Fs_append.2 (.inl hk)))), Hs_append.2 ⟨hN, Hs.loc (fun k hk => hf.block k (hlt k hk) (fun h0 => dj.2.2 k h0 hk)) hs.2⟩, Dj_append.2 ⟨hd, dj.2.1, fun k hk hr => ?_⟩, fun k hk => ?_⟩
  · rcases ho k hk with h1 | h1
    · exact dj.2.2 k h1 hr
    · have := hlt k hr; omega
  · rcases Fs_append.1 hk with hk | hk
    · rcases ho k hk with h1 | h1
      · exact h.own k (hFs hp k (Fs_append.2 (.inl h1)))
      · exact .inr (Nat.le_trans h.fr.size h1)
    · exact h.own k (hFs hp k (Fs_append.2 (.inr hk)))


section
variable {c : Cx} {L : Sl} {H : List Res} {P : Program} {Q : Exit → Act → World → Prop} {K : Act → World → Prop}
  {d : Nat} {rty : TypeId} {pos : String} {af : Array Edge} {gd : Option (Nat × Bool)} {t : TypeId} {x y : Operand} {v : Value}

/-! ## stores -/
theorem run_storeCells (P : Program) (b : Nat) (T : TypeId) : ∀ (vs : List Value) (o i : Nat) (w : World) (cs : List Value) (fr : Nat × Nat),
    w.heap[b]? = some (.cells cs.toArray T fr) → nofr fr cs.length → (∀ u ∈ vs, u.oneCell' = true) → o + i + vs.length ≤ cs.length →
    ∃ w', (storeCells ⟨b, o, none⟩ vs i).run P w = .ok () w' ∧ w'.heap[b]? = some (.cells (cs.take (o + i) ++ vs ++ cs.drop (o + i + vs.length)).toArray T fr) ∧ Fo (fun k => k = b) w w' := by
  intro vs
  induction vs with
  | nil =>
    intro o i w cs fr hb hf _ _
    exact ⟨w, by simp [storeCells], by simpa using hb, Fo.refl _ _⟩
  | cons v vs ih =>
    intro o i w cs fr hb hf hone hlen
    simp only [List.length_cons] at hlen
    have had : ((⟨b, o, none⟩ : Addr).add i) = ⟨b, o + i, none⟩ := by cases i <;> simp [Addr.add]
    have hc : w.cell? ⟨b, o + i, none⟩ = some cs[o + i] := by
      simp only [World.cell?, hb]; simp
    have hfz : w.frozen? ⟨b, o + i, none⟩ = false := cel_free (b := b) (cs := cs) (T := T) ⟨fr, hb, hf⟩ (by omega)
    have h1 : (store ((⟨b, o, none⟩ : Addr).add i) v).run P w = .ok () (w.setCell ⟨b, o + i, none⟩ v) := by
      rw [had, run_store P w _ _ _ (hone v (by simp)), hc]
      simp [hfz]
    have hb1 : (w.setCell ⟨b, o + i, none⟩ v).heap[b]? = some (.cells (cs.set (o + i) v).toArray T fr) := by
      simp only [World.setCell, Array.getElem?_modify, if_true, hb, Option.map_some]
      simp
    have hfo : Fo (fun k => k = b) w (w.setCell ⟨b, o + i, none⟩ v) := ⟨rfl, rfl, rfl, by simp [World.setCell], fun k _ hk => by
      simp only [World.setCell, Array.getElem?_modify]
      rw [if_neg (fun e => hk e.symm)]⟩
    obtain ⟨w', h2, h3, h4⟩ := ih o (i + 1) (w.setCell ⟨b, o + i, none⟩ v) (cs.set (o + i) v) fr hb1 (by simpa using hf) (fun u hu => hone u (by simp [hu])) (by simp; omega)
    refine ⟨w', ?_, ?_, hfo.trans h4 (fun k hk => .inl hk)⟩
    · simp only [storeCells, Sem.run_bind, h1, Result.andThen]
      exact h2
    · rw [h3]
      congr 3
      have e1 : o + (i + 1) = (o + i) + 1 := by omega
      rw [e1]
      have e2 : (cs.set (o + i) v).take (o + i + 1) = cs.take (o + i) ++ [v] := by
        apply List.ext_getElem?
        intro j
        rw [List.getElem?_take, List.getElem?_append, List.getElem?_set, List.length_take, Nat.min_eq_left (by omega)]
        by_cases c1 : j < o + i
        · rw [if_pos (by omega), if_neg (by omega), if_pos c1, List.getElem?_take, if_pos c1]
        · rw [if_neg c1]
          by_cases c2 : j = o + i
          · subst c2; simp; omega
          · rw [if_neg (by omega)]
            have : j - (o + i) = (j - (o + i) - 1) + 1 := by omega
            rw [this]; simp
      have e3 : (cs.set (o + i) v).drop (o + i + 1 + vs.length) = cs.drop (o + i + (vs.length + 1)) := by
        rw [List.drop_set, if_pos (by omega)]
        congr 1; omega
      rw [e2, e3]
      simp

def szB (P : Program) (t : TypeId) (k : Nat) : Bool := match P.info? t with | some i => Nat.beq i.size k | none => false
theorem szB_run {k : Nat} {w : World} (h : szB P t k = true) : (Go.sizeOf t).run P w = .ok k w := by
  unfold szB at h
  cases e : P.info? t with
  | none => rw [e] at h; simp at h
  | some i => rw [e] at h; have := Nat.eq_of_beq_eq_true h; simp [Go.sizeOf, typeInfo, e, this]

/-- a store into a row of one's own; the row's place in the list is written out -/
theorem a_store {H1 H2 : List Res} {b o : Nat} {cs vs : List Value} {T : TypeId} {k : Nat} (hx : ev L x = some (.pointer (some ⟨b, o, none⟩))) (hy : ev L y = some v) (hv : v.cells.toList = vs) (ht : szB P t k = true) (hk : vs.length = k)
    (hH : H = H1 ++ cel b cs T :: H2) (hone : ∀ u ∈ vs, u.oneCell' = true) (hlen : o + k ≤ cs.length)
    (h : TK c K L (H1 ++ cel b (cs.take o ++ vs ++ cs.drop (o + k)) T :: H2)) :
    TK c (fun a w => (⟨none, .store t x y, rty, pos, af, gd⟩ : Oper).wp P a w K Q) L H := fun a w ha hw => by
  subst hH
  have h1 := ha.ev hx; have h2 := ha.ev hy
  obtain ⟨fr, hb, hf⟩ := hw.mem (r := cel b cs T) (by simp)
  obtain ⟨w', h3, h4, h5⟩ := run_storeCells P b T vs o 0 w cs fr hb hf hone (by omega)
  have hsz : v.cells.size = k := by rw [← hk, ← hv]; simp
  have e : (execOp a.eval (⟨none, .store t x y, rty, pos, af, gd⟩ : Oper)).run P w = .ok .skip w' := by
    simp only [execOp, h1, h2, Instr.storeAt, Instr.sureAddr, storeVar]
    simp [szB_run ht, hsz, hv, h3]
  change Oper.upon P _ a K Q ((execOp a.eval _).run P w)
  rw [e, Oper.upon_skip]
  refine h _ _ (ha.putNone _) (St.perm (St.turn (N := [cel b (cs.take o ++ vs ++ cs.drop (o + k)) T]) hw h5 ⟨⟨fr, by simpa [hk] using h4, ?_⟩, trivial⟩ ⟨fun _ _ h => h, trivial⟩ ?_) perm_mid)
  · have : (cs.take o ++ vs ++ cs.drop (o + k)).length = cs.length := by simp; omega
    rw [this]; exact hf
  · intro j hj
    rcases hj with hj | hj
    · exact .inl hj
    · exact hj.elim

/-! ## calls -/
/-- What a function does: it ends; its result and the new state of the pieces H0 that were given to it, N x, are as R says; nothing else of what was there turns. -/
def Spec (P : Program) (f : FuncId) (args : List Value) (w : World) (H0 : List Res) {X : Type} (R : X → Prop) (res : X → Value) (N : X → List Res) : Prop :=
  Calls P f args.toArray w fun e w' => ∃ x, R x ∧ e = .returned (res x) ∧ Fo (Fs H0) w w' ∧ Hs w' (N x) ∧ Dj (N x) ∧ ∀ k, Fs (N x) k → Fs H0 k ∨ w.heap.size ≤ k

def evs (L : Sl) : List Operand → Option (List Value)
  | [] => some []
  | x :: xs => match ev L x, evs L xs with
    | some v, some vs => some (v :: vs)
    | _, _ => none
theorem evs_map {n : Nat} {a : Act} {L : Sl} (ha : Agr n a L) : ∀ {xs : List Operand} {vs : List Value}, evs L xs = some vs → xs.map a.eval = vs
  | [], vs, h => by simp [evs] at h; subst h; rfl
  | x :: xs, vs, h => by
    simp only [evs] at h
    cases h1 : ev L x with
    | none => simp [h1] at h
    | some v =>
      cases h2 : evs L xs with
      | none => simp [h1, h2] at h
      | some us => simp [h1, h2] at h; subst h; simp [ha.ev h1, evs_map ha h2]

/-- a function of the program with a body, no entry of the machine's own -/
def bodyB (P : Program) (f : FuncId) : Bool := match P.funcs[f]? with
  | some fn => fn.name != "runtime.NumGoroutine" && fn.body.isSome
  | none => false
theorem callFunc_run {f : FuncId} {args : Array Value} {w : World} (h : bodyB P f = true) : (callFunc f args).run P w = .ok (.enter f args) w := by
  unfold bodyB at h
  cases e : P.funcs[f]? with
  | none => rw [e] at h; simp at h
  | some fn =>
    rw [e] at h
    simp at h
    obtain ⟨h1, h2⟩ := h
    obtain ⟨bd, h3⟩ := Option.isSome_iff_exists.1 h2
    simp [callFunc, e, h1, h3]
theorem a_call {f : FuncId} {xs : List Operand} {aty : Array TypeId} {vs : List Value} {dst : Option Tmp} {X : Type} {H0 : List Res} (H1 H2 : List Res) {R : X → Prop} {res : X → Value} {N : X → List Res}
    (hx : evs L xs = some vs) (hf : bodyB P f = true)
    (hs : ∀ w, St c w H → Spec P f vs w H0 R res N) (hH : H = H1 ++ (H0 ++ H2))
    (h : ∀ x, R x → ∀ a w w', Agr c.n a L → St c w H → St c w' (H1 ++ (N x ++ H2)) → K (a.put dst (res x)) w') :
    TK c (fun a w => (⟨dst, .call { callee := .value (.func f), args := xs.toArray, argTypes := aty }, rty, pos, af, gd⟩ : Oper).wp P a w K Q) L H := fun a w ha hw => by
  have h1 := evs_map ha hx
  have e : (execOp a.eval (⟨dst, .call { callee := .value (.func f), args := xs.toArray, argTypes := aty }, rty, pos, af, gd⟩ : Oper)).run P w = .ok (.enter f vs.toArray) w := by
    have : a.eval (.func f) = .func (.func f) #[] #[] := rfl
    simp [execOp, resolve, this, Deferred.ofValue, invoke, h1, callFunc_run hf]
  change Oper.upon P _ a K Q ((execOp a.eval _).run P w)
  rw [e, Oper.upon_enter]
  refine Calls.mono (hs w hw) ?_
  rintro e w' ⟨x, hR, rfl, hfo, hN, hd, ho⟩
  exact h x hR a w w' ha hw ((hw.call (Hr := H1 ++ H2) (hH ▸ perm_mid) hfo hN hd ho).perm perm_mid)
/-- the same, where the result goes into a slot -/
theorem a_callv {f : FuncId} {xs : List Operand} {aty : Array TypeId} {vs : List Value} {X : Type} {H0 : List Res} (H1 H2 : List Res) {R : X → Prop} {res : X → Value} {N : X → List Res}
    (hx : evs L xs = some vs) (hf : bodyB P f = true) (hn : Nat.blt d c.n = true)
    (hs : ∀ w, St c w H → Spec P f vs w H0 R res N) (hH : H = H1 ++ (H0 ++ H2))
    (h : ∀ x, R x → TK c K ((d, res x) :: L) (H1 ++ (N x ++ H2))) :
    TK c (fun a w => (⟨some d, .call { callee := .value (.func f), args := xs.toArray, argTypes := aty }, rty, pos, af, gd⟩ : Oper).wp P a w K Q) L H :=
  a_call H1 H2 hx hf hs hH fun x hR _ _ _ ha _ hw' => h x hR _ _ (ha.put hn _) hw'

/-! ## a function's beginning and its end -/
def params : Nat → List Value → Sl
  | _, [] => []
  | i, v :: vs => (i, v) :: params (i + 1) vs
theorem params_lk : ∀ (vs : List Value) (i t : Nat) (v : Value), lk t (params i vs) = some v → ∃ j, t = i + j ∧ vs[j]? = some v
  | [], _, _, _, h => by simp [params, lk] at h
  | u :: vs, i, t, v, h => by
    simp only [params, lk] at h
    cases hb : Nat.beq t i with
    | true => rw [hb] at h; have := Nat.eq_of_beq_eq_true hb; simp at h; exact ⟨0, by simp [this], by simp [h]⟩
    | false =>
      rw [hb] at h
      obtain ⟨j, h1, h2⟩ := params_lk vs (i + 1) t v h
      exact ⟨j + 1, by omega, by simpa using h2⟩
theorem spec_of {f : FuncId} {fn : Func} {code : Code} {args : List Value} {w : World} {H0 : List Res} {X : Type} {R : X → Prop} {res : X → Value} {N : X → List Res} {n : Nat}
    (hf : P.funcs[f]? = some fn) (hb : fn.body = some code) (hn : fn.ntmps = n) (hs : Hs w H0) (hd : Dj H0) (hlen : Nat.ble args.length n = true)
    (h : TK ⟨n, w, Fs H0⟩ (code.wp P (bodyPost P fn fun e w' => ∃ x, R x ∧ e = .returned (res x) ∧ Fo (Fs H0) w w' ∧ Hs w' (N x) ∧ Dj (N x) ∧ ∀ k, Fs (N x) k → Fs H0 k ∨ w.heap.size ≤ k)) (params 0 args) H0) :
    Spec P f args w H0 R res N := by
  refine calls_of_wp hf hb (h _ _ ⟨rfl, ?_, ?_⟩ ⟨Fo.refl _ _, hs, hd, fun k hk => .inl hk⟩)
  · have := Nat.le_of_ble_eq_true hlen
    simp [hn]; omega
  · intro t v hl
    obtain ⟨j, rfl, h2⟩ := params_lk args 0 t v hl
    have hj : j < args.length := (List.getElem?_eq_some_iff.1 h2).1
    simp only [Nat.zero_add, Array.getElem?_append, List.size_toArray, if_pos hj]
    simpa using h2
/-- the end: one result or several, out of slots -/
theorem tk_ret {fn : Func} {w0 : World} {n : Nat} {H0 : List Res} {X : Type} {R : X → Prop} {res : X → Value} {N : X → List Res} {e : Exit} (x : X) (hR : R x) (he : e = .ret ∨ e = .normal)
    (hr : ∀ a w, Agr n a L → St ⟨n, w0, Fs H0⟩ w H → (results fn a.tmps).run P w = .ok (res x) w) (hH : (N x).Sublist H) :
    TK ⟨n, w0, Fs H0⟩ (bodyPost P fn (fun e w' => ∃ x, R x ∧ e = .returned (res x) ∧ Fo (Fs H0) w0 w' ∧ Hs w' (N x) ∧ Dj (N x) ∧ ∀ k, Fs (N x) k → Fs H0 k ∨ w0.heap.size ≤ k) e) L H := fun a w ha hw => by
  have hw' := hw.sub hH
  have q : a.defers = [] ∧ ∃ v, (results fn a.tmps).run P w = .ok v w ∧ ∃ x, R x ∧ Ending.returned v = .returned (res x) ∧ Fo (Fs H0) w0 w ∧ Hs w (N x) ∧ Dj (N x) ∧ ∀ k, Fs (N x) k → Fs H0 k ∨ w0.heap.size ≤ k :=
    ⟨ha.df, res x, hr a w ha hw, x, hR, rfl, hw'.fr, hw'.hs, hw'.dj, hw'.own⟩
  rcases he with rfl | rfl <;> exact q
theorem r0 {fn : Func} {n : Nat} {S : World → Prop} (h : fn.results = #[]) : ∀ a w, Agr n a L → S w → (results fn a.tmps).run P w = .ok (.tuple #[]) w := fun a w _ _ => by simp [results, h]
theorem r1 {fn : Func} {n p : Nat} {S : World → Prop} {v : Value} (h : fn.results = #[.tmp p]) (hv : lk p L = some v) : ∀ a w, Agr n a L → S w → (results fn a.tmps).run P w = .ok v w := fun a w ha _ => by
  have := ha.at_ p v hv
  rw [results_tmp h, Array.getD_eq_getD_getElem?, this]; rfl
theorem r2 {fn : Func} {n p q : Nat} {S : World → Prop} {v u : Value} (h : fn.results = #[.tmp p, .tmp q]) (hv : lk p L = some v) (hu : lk q L = some u) : ∀ a w, Agr n a L → S w → (results fn a.tmps).run P w = .ok (.tuple #[v, u]) w := fun a w ha _ => by
  have h1 := ha.at_ p v hv; have h2 := ha.at_ q u hu
  rw [results_tmp2 h, Array.getD_eq_getD_getElem?, Array.getD_eq_getD_getElem?, h1, h2]; rfl
end
end Go.Proofs.Ytfofkjajlfphjaa
