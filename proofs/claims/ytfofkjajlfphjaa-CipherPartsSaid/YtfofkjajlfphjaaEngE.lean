/- A region whose order is drawn, walked by the judgement TK. Own work for this project; no program in sight. -/
import Derived.Test.YtfofkjajlfphjaaEngD
namespace Go.Proofs.Ytfofkjajlfphjaa
open Go Go.RowKit
section
variable {c : Cx} {L : Sl} {H : List Res} {P : Program} {Q : Exit → Act → World → Prop} {ops : Array Oper} {S : World → Prop} {X : List Nat} {f : Nat} {l : Array Bool}

theorem tk_draw {id : Nat} (S : World → Prop) (X : List Nat) (hm : P.follows .mixedOrders = true) (h : TK c (AnyX P ops Q S X ops.size (Array.replicate ops.size false)) L H) :
    TK c ((Code.region id ops true).wp P Q) L H := fun a w ha hw => by
  refine wp_region_any hm ?_
  exact AnyX.toAny _ _ _ _ (h a _ ha hw.drew)

/-- may operation i be taken first? -/
def okB (ops : Array Oper) (l : Array Bool) (i : Nat) : Bool := Region.noSelect ops && (Region.free .any ops l i && (Region.ready .any ops l).contains i)
/-- do all of X wait for i? -/
def waitB (ops : Array Oper) (X : List Nat) (i : Nat) : Bool := X.all fun j => !Nat.beq j i && match ops[j]? with
  | some oj => oj.after.any (fun e => Region.binds .any e && e.on == i)
  | none => false
theorem waitB_spec {i : Nat} (h : waitB ops X i = true) : ∀ j ∈ X, j ≠ i ∧ ∃ oj, ops[j]? = some oj ∧ ∃ e ∈ oj.after, Region.binds .any e = true ∧ e.on = i := by
  intro j hj
  have := List.all_eq_true.1 h j hj
  rw [Bool.and_eq_true] at this
  obtain ⟨h1, h2⟩ := this
  refine ⟨fun e => by subst e; simp at h1, ?_⟩
  cases ho : ops[j]? with
  | none => simp [ho] at h2
  | some oj =>
    simp only [ho] at h2
    obtain ⟨e, he, hb⟩ := Array.any_eq_true'.1 h2
    simp only [Bool.and_eq_true, beq_iff_eq] at hb
    exact ⟨oj, rfl, e, he, hb.1, hb.2⟩

/-- a quiet operation that asks nothing of memory is taken -/
theorem tx_q (i : Nat) {oi : Oper} {d : Nat} {v : Value} (hi : ops[i]? = some oi) (hok : okB ops l i = true) (hd : oi.dst = some d) (hn : Nat.blt d c.n = true) (hg : gdB ops L oi = some true)
    (hQ : ∀ ch a w, Q (.panic ch) (a.put (some d) v) w → Q (.panic ch) a w) (hy : Y P c.n (fun _ => True) L oi v)
    (h : TK c (AnyX P ops Q S X f (l.setIfInBounds i true)) ((d, v) :: L) H) : TK c (AnyX P ops Q S X (f + 1) l) L H := fun a w ha hw => by
  simp only [okB, Bool.and_eq_true] at hok
  obtain ⟨h1, h2, h3⟩ := hok
  refine AnyX.first (S0 := fun _ => True) (v := v) hi (Region.noSelect_spec h1) (by rw [hd]; exact hQ) (.inl fun _ => trivial) f l a w (Region.free_spec hi h2) (by simpa using h3) (.inl ⟨gdB_wanted hg ha, fun w' _ => hy a w' ha trivial⟩) trivial ?_
  rw [hd]
  exact h _ _ (ha.put hn v) hw
/-- a guarded operation that is not carried out is taken -/
theorem tx_no (i : Nat) {oi : Oper} {d : Nat} (hi : ops[i]? = some oi) (hok : okB ops l i = true) (hd : oi.dst = some d) (hn : Nat.blt d c.n = true) (hg : gdB ops L oi = some false)
    (hQ : ∀ ch a w, Q (.panic ch) (a.put (some d) undef) w → Q (.panic ch) a w)
    (h : TK c (AnyX P ops Q S X f (l.setIfInBounds i true)) ((d, undef) :: L) H) : TK c (AnyX P ops Q S X (f + 1) l) L H := fun a w ha hw => by
  simp only [okB, Bool.and_eq_true] at hok
  obtain ⟨h1, h2, h3⟩ := hok
  refine AnyX.first (S0 := fun _ => True) (v := undef) hi (Region.noSelect_spec h1) (by rw [hd]; exact hQ) (.inl fun _ => trivial) f l a w (Region.free_spec hi h2) (by simpa using h3) (.inr ⟨gdB_wanted hg ha, rfl⟩) trivial ?_
  rw [hd]
  exact h _ _ (ha.put hn _) hw
/-- a quiet operation that asks S of memory is taken -/
theorem tx_l (i : Nat) {oi : Oper} {d : Nat} {v : Value} (hi : ops[i]? = some oi) (hok : okB ops l i = true) (hX : waitB ops X i = true) (hd : oi.dst = some d) (hn : Nat.blt d c.n = true) (hg : gdB ops L oi = some true)
    (hQ : ∀ ch a w, Q (.panic ch) (a.put (some d) v) w → Q (.panic ch) a w) (hS : ∀ w, St c w H → S w) (hy : Y P c.n S L oi v)
    (h : TK c (AnyX P ops Q S X f (l.setIfInBounds i true)) ((d, v) :: L) H) : TK c (AnyX P ops Q S X (f + 1) l) L H := fun a w ha hw => by
  simp only [okB, Bool.and_eq_true] at hok
  obtain ⟨h1, h2, h3⟩ := hok
  refine AnyX.first (S0 := S) (v := v) hi (Region.noSelect_spec h1) (by rw [hd]; exact hQ) (.inr ⟨rfl, waitB_spec hX⟩) f l a w (Region.free_spec hi h2) (by simpa using h3) (.inl ⟨gdB_wanted hg ha, fun w' hw' => hy a w' ha hw'⟩) (hS w hw) ?_
  rw [hd]
  exact h _ _ (ha.put hn v) hw
/-- one that acts, alone ready, after which S need not hold -/
theorem tx_x (i : Nat) {oi : Oper} (hi : ops[i]? = some oi) (hr : Region.ready .any ops l = [i]) (hx : X.contains i = true) (hg : gdB ops L oi = some true)
    (h : TK c (fun a w => oi.wp P a w (AnyX P ops Q S X f (l.setIfInBounds i true)) Q) L H) : TK c (AnyX P ops Q S X (f + 1) l) L H := fun a w ha hw => by
  refine ⟨fun h0 => (by rw [hr] at h0; cases h0), fun j hj => ?_⟩
  rw [hr] at hj
  simp only [List.mem_singleton] at hj
  subst hj
  unfold wpOp
  simp only [hi]
  rw [if_pos (gdB_wanted hg ha)]
  exact .inl (Oper.wp_mono (fun a' w' h' => ⟨.inl (by simpa using hx), h'⟩) (h a w ha hw))
/-- one that acts, alone ready, and S holds behind it -/
theorem tx_a (i : Nat) {oi : Oper} (hi : ops[i]? = some oi) (hr : Region.ready .any ops l = [i]) (hg : gdB ops L oi = some true)
    (h : TK c (fun a w => oi.wp P a w (fun a w => S w ∧ AnyX P ops Q S X f (l.setIfInBounds i true) a w) Q) L H) : TK c (AnyX P ops Q S X (f + 1) l) L H := fun a w ha hw => by
  refine ⟨fun h0 => (by rw [hr] at h0; cases h0), fun j hj => ?_⟩
  rw [hr] at hj
  simp only [List.mem_singleton] at hj
  subst hj
  unfold wpOp
  simp only [hi]
  rw [if_pos (gdB_wanted hg ha)]
  exact .inl (Oper.wp_mono (fun a' w' h' => ⟨.inr fun _ => h'.1, h'.2⟩) (h a w ha hw))
/-- whichever of several comes up: each is walked -/
def AllX (P : Program) (ops : Array Oper) (Q : Exit → Act → World → Prop) (S : World → Prop) (X : List Nat) (f : Nat) (l : Array Bool) (c : Cx) (L : Sl) (H : List Res) : List Nat → Prop
  | [] => True
  | i :: is => (∃ oi, ops[i]? = some oi ∧ gdB ops L oi = some true ∧ TK c (fun a w => oi.wp P a w (fun a w => S w ∧ AnyX P ops Q S X f (l.setIfInBounds i true) a w) Q) L H) ∧ AllX P ops Q S X f l c L H is
theorem AllX.mem : ∀ {is : List Nat}, AllX P ops Q S X f l c L H is → ∀ i ∈ is, ∃ oi, ops[i]? = some oi ∧ gdB ops L oi = some true ∧ TK c (fun a w => oi.wp P a w (fun a w => S w ∧ AnyX P ops Q S X f (l.setIfInBounds i true) a w) Q) L H
  | _ :: _, h, _, .head _ => h.1
  | _ :: _, h, i, .tail _ hm => AllX.mem h.2 i hm
theorem tx_all {is : List Nat} (hr : Region.ready .any ops l = is) (hne : is.isEmpty = false) (h : AllX P ops Q S X f l c L H is) : TK c (AnyX P ops Q S X (f + 1) l) L H := fun a w ha hw => by
  refine ⟨fun h0 => (by rw [hr] at h0; rw [h0] at hne; cases hne), fun j hj => ?_⟩
  rw [hr] at hj
  obtain ⟨oi, hi, hg, h'⟩ := h.mem j hj
  unfold wpOp
  simp only [hi]
  rw [if_pos (gdB_wanted hg ha)]
  exact .inl (Oper.wp_mono (fun a' w' h' => ⟨.inr fun _ => h'.1, h'.2⟩) (h' a w ha hw))
theorem tk_S {K : Act → World → Prop} (hS : ∀ w, St c w H → S w) (h : TK c K L H) : TK c (fun a w => S w ∧ K a w) L H := fun a w ha hw => ⟨hS w hw, h a w ha hw⟩
theorem tx_done (hr : Region.ready .any ops l = []) (h : TK c (Q .normal) L H) : TK c (AnyX P ops Q S X f l) L H := fun a w ha hw => by
  have := h a w ha hw
  cases f with
  | zero => exact ⟨hr, this⟩
  | succ f => exact ⟨fun _ => this, by rw [hr]; simp⟩
end
end Go.Proofs.Ytfofkjajlfphjaa
