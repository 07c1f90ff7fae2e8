/- Texts of the claim LogAdds, part 3 of 6: RowKitG, EngFive, LogPure, RowKitH, KeyA, KeyB, KeyC, KeyD, KeyE, KeyF, CipA, CipB, CipC, CipD, CipE, WaxA, KeyG, KeyH, PackA, PackB, LogI, LogEng, IndexA, IndexB, IndexC, LogA. Own work. -/
import Derived.Deep.SlicePairs
import Derived.Maps.RangeRun
import Derived.Test.YtnhpghhibcdklaaGreatDoorPtLogAdds2
namespace Go.Proofs.YtnhpghhibcdklaaGreatDoor
open Go Go.ChangeShapes Go.WideShapes Go.ChangeAt Go.RowKit
set_option maxRecDepth 100000
set_option linter.unusedVariables false
set_option linter.unusedSimpArgs false
instance : Inhabited Eni := ⟨dEni⟩
instance : Inhabited Pk := ⟨dPk⟩
section
variable {H : Type} {enc : TypeId × Value → H} {P : Program} {W : World} {b0 : Nat} {sp : Nat → Bool} {held : Bool} {fuel : Nat} {cs : List Value} {x : DataW H × List MemPlace} {t : TypeId}
theorem op_wide {α : Type} [Inhabited α] {f : α → List Value} {k : Nat} {p : α → Prop} {e : TypeId} (ht : P.underlying t = some (.slice e)) (hk : P.cellsOf e = k) (hfk : ∀ a, (f a).length = k) (hk0 : 0 < k)
    (each : ∀ n cs' y, DataW.trod enc P W b0 sp held n e cs' = some y → ∃ a, cs' = f a ∧ p a) (h : DataW.trod enc P W b0 sp held fuel t cs = some x) :
    ∃ (v : Value) (l : List α), cs = [v] ∧ RdC W v l.length (l.flatMap f) ∧ (∀ a ∈ l, p a) ∧ l.length ≤ maxLen := by
  rcases Deep.open_slice ht h with ⟨rfl, _⟩ | ⟨a, len, cap, m, n, D, Pl, rfl, _, hl, hm, hmm, _, hx⟩
  · exact ⟨_, [], rfl, .inl ⟨rfl, rfl, rfl⟩, (fun _ h => nomatch h), Nat.zero_le _⟩
  have hlm : len ≤ m := by rw [hmm]; split <;> omega
  obtain ⟨R, hR⟩ := Deep.choose_lt (α := α) (p := fun i u => (∀ j, j < k → W.cell? ((a.add (i * k)).add j) = (f u)[j]?) ∧ p u) (n := len) (fun i hi => by
    obtain ⟨cs', h1, h2⟩ := hx i (by omega)
    rw [hk] at h1
    obtain ⟨_, _, hc⟩ := World.cells?_some h1
    obtain ⟨u, rfl, hp⟩ := each _ _ _ h2
    exact ⟨u, hc, hp⟩)
  refine ⟨_, (List.range len).map R, rfl, .inr ⟨a, cap, by simp, by simpa using hl, fun j u hj => ?_⟩, fun u hu => ?_, by simp; omega⟩
  · have hj2 : j < len * k := by
      have := (List.getElem?_eq_some_iff.1 hj).1
      rw [flat_len hfk] at this; simpa using this
    have hi : j / k < len := Nat.div_lt_of_lt_mul (by rw [Nat.mul_comm]; exact hj2)
    have hr : j % k < k := Nat.mod_lt _ hk0
    have hjj : j = j / k * k + j % k := by rw [Nat.mul_comm]; exact (Nat.div_add_mod j k).symm
    rw [hjj, flat_get (d0 := default) hfk (by simpa using hi) hr] at hj
    have e3 : ((List.range len).map R).getD (j / k) default = R (j / k) := by simp [List.getD_eq_getElem?_getD, hi]
    rw [e3, ← (hR _ hi).1 _ hr, Deep.add_add] at hj
    rw [hjj]; exact hj
  · obtain ⟨i, hi, rfl⟩ := List.mem_map.1 hu
    exact (hR i (List.mem_range.1 hi)).2
end
section
variable {H : Type} {enc : TypeId × Value → H} {W : World} {b0 : Nat} {sp : Nat → Bool} {held : Bool} {fuel : Nat} {cs : List Value} {x : DataW H × List MemPlace}
end
end Go.Proofs.YtnhpghhibcdklaaGreatDoor
set_option linter.unusedSimpArgs false
set_option linter.unusedVariables false
/- Maps keyed by strings: an entry taken away, how many there are, ranges over them. Own work for this project; no program in sight. -/
namespace Go.Proofs.YtnhpghhibcdklaaGreatDoor
open Go Go.RowKit Go.MapKept
open Go.ChangeMaps (setBlock)
def delS (kv : KV) (k : List UInt8) : KV := kv.filter (fun p => !decide (p.1 = k))
theorem delS_id {kv : KV} {k : List UInt8} (h : ∀ p ∈ kv, p.1 ≠ k) : delS kv k = kv := List.filter_eq_self.2 (fun p hp => by simp [h p hp])
theorem key_mem {es : List MapEntry} {kv : KV} (h : ents es = kvV kv) {q : List UInt8 × Value} (hq : q ∈ kv) : Str q.1 ∈ es.map (·.key) := by
  have h4 : (Str q.1, q.2) ∈ kvV kv := List.mem_map.2 ⟨q, hq, rfl⟩
  rw [← h] at h4
  obtain ⟨y, hy, e2⟩ := List.mem_map.1 h4
  exact List.mem_map.2 ⟨y, hy, congrArg Prod.fst e2⟩
theorem ents_erase {k : List UInt8} : ∀ {es : List MapEntry} {kv : KV} {j : Nat}, ents es = kvV kv → (es.map (·.key)).Nodup → (es[j]?).map (·.key) = some (Str k) → ents (es.eraseIdx j) = kvV (delS kv k)
  | [], _, j, _, _, hj => by simp at hj
  | x :: es, [], _, h, _, _ => by cases h
  | x :: es, p :: kv, j, h, hn, hj => by
    have h0 : ents es = kvV kv := by simp only [ents, kvV, List.map_cons, List.cons.injEq] at h; exact h.2
    have hx : x.key = Str p.1 := by simp only [ents, kvV, List.map_cons, List.cons.injEq, Prod.mk.injEq] at h; exact h.1.1
    have hv : x.val = p.2 := by simp only [ents, kvV, List.map_cons, List.cons.injEq, Prod.mk.injEq] at h; exact h.1.2
    rw [List.map_cons, List.nodup_cons] at hn
    cases j with
    | zero =>
      have hp : p.1 = k := by rw [List.getElem?_cons_zero, Option.map_some, Option.some.injEq, hx] at hj; exact str_inj hj
      have h3 : delS kv k = kv := delS_id (fun q hq e => hn.1 (by rw [hx, hp, ← e]; exact key_mem h0 hq))
      have e1 : delS (p :: kv) k = delS kv k := by simp [delS, hp]
      rw [List.eraseIdx_zero, List.tail_cons, e1, h3]; exact h0
    | succ j =>
      rw [List.getElem?_cons_succ] at hj
      have hp : p.1 ≠ k := fun e => hn.1 (by
        obtain ⟨y, hy, e2⟩ := Option.map_eq_some_iff.1 hj
        rw [hx, e, ← e2]; exact List.mem_map.2 ⟨y, List.mem_of_getElem? hy, rfl⟩)
      have e1 : delS (p :: kv) k = p :: delS kv k := by simp [delS, hp]
      have ih := ents_erase h0 hn.2 hj
      rw [List.eraseIdx_cons_succ, e1]
      show (x.key, x.val) :: ents (es.eraseIdx j) = (Str p.1, p.2) :: kvV (delS kv k)
      rw [ih, hx, hv]
/-- an iterator r over the map b that holds kv; vis: what has come -/
def itS (r b : Nat) (kv vis : KV) : Res where
  fp k := k = b ∨ k = r
  holds w := ∃ es clock seen vs, w.heap[b]? = some (.map es clock) ∧ ents es.toList = kvV kv ∧ Stamped es clock ∧ w.heap[r]? = some (.mapIter (some b) clock seen clock) ∧ seen.toList = vs.map (·.born) ∧ ents vs = kvV vis ∧ (vs ++ (leftOf es seen).toList).Perm es.toList
  loc w w' h := by
    rintro ⟨es, clock, seen, vs, h1, h2, h3, h4, h5⟩
    exact ⟨es, clock, seen, vs, (h b (.inl rfl)).trans h1, h2, h3, (h r (.inr rfl)).trans h4, h5⟩
  bnd w := by
    rintro ⟨es, clock, seen, vs, h1, h2, h3, h4, h5⟩ k (rfl | rfl)
    · exact (Array.getElem?_eq_some_iff.1 h1).1
    · exact (Array.getElem?_eq_some_iff.1 h4).1
theorem perm_pick {l : List MapEntry} {e : MapEntry} (hn : (l.map (·.born)).Nodup) (he : e ∈ l) : l.Perm (e :: l.filter (fun x => !(x.born == e.born))) := by
  induction l with
  | nil => cases he
  | cons x l ih =>
    rw [List.map_cons, List.nodup_cons] at hn
    by_cases hx : x.born = e.born
    · have hex : e = x := by
        rcases List.mem_cons.1 he with h | h
        · exact h
        · exact (hn.1 (by rw [hx]; exact List.mem_map.2 ⟨e, h, rfl⟩)).elim
      subst hex
      have : l.filter (fun x => !(x.born == e.born)) = l := List.filter_eq_self.2 (fun y hy => by
        have : y.born ≠ e.born := fun h => hn.1 (by rw [← h]; exact List.mem_map.2 ⟨y, hy, rfl⟩)
        simp [this])
      rw [List.filter_cons, if_neg (by simp), this]
    · have hel : e ∈ l := (List.mem_cons.1 he).resolve_left (fun h => hx (by rw [h]))
      rw [List.filter_cons, if_pos (by simp [hx])]
      exact ((ih hn.2 hel).cons x).trans (List.Perm.swap ..)
theorem left_push {es : Array MapEntry} {seen : Array Nat} {b : Nat} : (leftOf es (seen.push b)).toList = (leftOf es seen).toList.filter (fun x => !(x.born == b)) := by
  unfold leftOf
  rw [Array.toList_filter, Array.toList_filter, List.filter_filter]
  congr 1
  funext x
  rw [Array.contains_push, Bool.not_or, Bool.and_comm]
theorem perm_ents {l m : List MapEntry} (h : l.Perm m) : (ents l).Perm (ents m) := h.map _
theorem perm_kvV {a b : KV} (h : (kvV a).Perm (kvV b)) : a.Perm b := by
  have hi : ∀ p q : List UInt8 × Value, (Str p.1, p.2) = (Str q.1, q.2) → p = q := fun p q e => by
    simp only [Prod.mk.injEq] at e
    exact Prod.ext (str_inj e.1) e.2
  have hinv : ∀ p : List UInt8 × Value, (fun q : Value × Value => (match q.1 with | .string s => s.data.toList | _ => [], q.2)) (Str p.1, p.2) = p := fun p => by simp [Str]
  have h2 := h.map (fun q : Value × Value => (match q.1 with | .string s => s.data.toList | _ => ([] : List UInt8), q.2))
  have e : ∀ a : KV, (kvV a).map (fun q : Value × Value => (match q.1 with | .string s => s.data.toList | _ => ([] : List UInt8), q.2)) = a := fun a => by
    unfold kvV
    rw [List.map_map]
    refine (List.map_congr_left (fun p _ => ?_)).trans (List.map_id a)
    simp [Str]
  rwa [e, e] at h2
section
variable {c : Cx} {L : Sl} {H : List Res} {P : Program} {Q : Exit → Act → World → Prop} {K : Act → World → Prop} {d : Nat} {rty : TypeId} {pos : String} {af : Array Edge} {gd : Option (Nat × Bool)} {t t' : TypeId} {x y z : Operand}
theorem a_delS {H1 H2 : List Res} {b : Nat} {kt vt : TypeId} {kv : KV} {k : List UInt8} (hx : ev L x = some (.map (some b))) (hy : ev L y = some (Str k)) (hm : P.underlying t = some (.map kt vt)) (ht : P.underlying kt = some .string)
    (hH : H = H1 ++ mapS b kv :: H2) (h : TK c K L (H1 ++ mapS b (delS kv k) :: H2)) :
    TK c (fun a w => (⟨none, .call { callee := .builtin .delete, args := #[x, y], argTypes := #[t, t'] }, rty, pos, af, gd⟩ : Oper).wp P a w K Q) L H := fun a w ha hw => by
  subst hH
  have h1 := ha.ev hx; have h2 := ha.ev hy
  obtain ⟨es, clock, hb, hes, hst⟩ := hw.mem (r := mapS b kv) (by simp)
  have hck := run_checkStr (P := P) (w := w) (em := es.isEmpty) (k := k) ht
  have hlt := (Array.getElem?_eq_some_iff.1 hb).1
  have hgo : (getObj b).run P w = .ok (.map es clock) w := by simp [getObj, Sem.run, hb]
  have hso : ∀ o : Obj, (setObj b o).run P w = .ok () { w with heap := w.heap.setIfInBounds b o } := fun o => by simp [setObj, Sem.run, hb]
  have key : ∃ es', (execOp a.eval (⟨none, .call { callee := .builtin .delete, args := #[x, y], argTypes := #[t, t'] }, rty, pos, af, gd⟩ : Oper)).run P w = .ok (.value (.tuple #[])) { w with heap := w.heap.setIfInBounds b (.map es' clock) } ∧ ents es'.toList = kvV (delS kv k) ∧ Stamped es' clock := by
    cases hc : getS kv k with
    | none =>
      have hj := run_findStr (P := P) (w := w) ht (findNow_none es.toList kv 0 hes hc)
      refine ⟨es, ?_, by rw [delS_id (getS_none hc)]; exact hes, hst⟩
      simp [execOp, resolve, invoke, builtin, h1, h2, Builtin.delete_, run_underlying hm, hgo, hck, hj, hso]
    | some u =>
      obtain ⟨j, hj, hkey, _⟩ := findNow_some (v' := u) es.toList kv 0 hes hc
      have hj := run_findStr (P := P) (w := w) ht hj
      rw [Nat.zero_add] at hj
      refine ⟨es.eraseIdxIfInBounds j, ?_, ?_, stamped_erase hst j⟩
      · simp [execOp, resolve, invoke, builtin, h1, h2, Builtin.delete_, run_underlying hm, hgo, hck, hj, hso]
      · rw [Array.toList_eraseIdxIfInBounds]
        exact ents_erase hes hst.2.2 hkey
  obtain ⟨es', e1, he2, hst2⟩ := key
  change Oper.upon P _ a K Q ((execOp a.eval _).run P w)
  rw [e1, Oper.upon_value]
  refine h _ _ (ha.putNone _) (St.perm (St.turn (w' := { w with heap := w.heap.setIfInBounds b (.map es' clock) }) (N := [mapS b (delS kv k)]) hw ⟨rfl, rfl, rfl, by simp, fun k hk hne => ?_⟩ ⟨⟨es', clock, by simp [hlt], he2, hst2⟩, trivial⟩ ⟨fun _ _ h => h, trivial⟩ ?_) perm_mid)
  · have hne' : ¬ b = k := fun e => hne e.symm
    simp [Array.getElem?_setIfInBounds, hne']
  · intro k hk
    rcases hk with hk | hk
    · exact .inl hk
    · exact hk.elim
theorem a_rangeS {H1 H2 : List Res} {b : Nat} {kt vt : TypeId} {kv : KV} (hx : ev L x = some (.map (some b))) (hm : P.underlying t = some (.map kt vt)) (hn : Nat.blt d c.n = true)
    (hH : H = H1 ++ mapS b kv :: H2) (h : ∀ r, TK c K ((d, .pointer (some ⟨r, 0, none⟩)) :: L) (H1 ++ itS r b kv [] :: H2)) :
    TK c (fun a w => (⟨some d, .range t x, rty, pos, af, gd⟩ : Oper).wp P a w K Q) L H := fun a w ha hw => by
  subst hH
  have h1 := ha.ev hx
  obtain ⟨es, clock, hb, hes, hst⟩ := hw.mem (r := mapS b kv) (by simp)
  have hlt := (Array.getElem?_eq_some_iff.1 hb).1
  have e1 : (execOp a.eval (⟨some d, .range t x, rty, pos, af, gd⟩ : Oper)).run P w = .ok (.value (.pointer (some ⟨w.heap.size, 0, none⟩))) { w with heap := w.heap.push (.mapIter (some b) clock #[] clock) } := by
    have hgo : (getObj b).run P w = .ok (.map es clock) w := by simp [getObj, Sem.run, hb]
    simp [execOp, h1, Instr.range, run_underlying hm, hgo, newObj]
    rfl
  change Oper.upon P _ a K Q ((execOp a.eval _).run P w)
  rw [e1, Oper.upon_value]
  refine h w.heap.size _ _ (ha.put hn _) (St.perm (St.turn (w' := { w with heap := w.heap.push (.mapIter (some b) clock #[] clock) }) (N := [itS w.heap.size b kv []]) hw ⟨rfl, rfl, rfl, by simp, fun k hk hne => by simp [Array.getElem?_push, Nat.ne_of_lt hk]⟩ ⟨⟨es, clock, #[], [], ?_, hes, hst, by simp, rfl, rfl, ?_⟩, trivial⟩ ⟨fun _ _ h => h, trivial⟩ ?_) perm_mid)
  · simp [Array.getElem?_push, Nat.ne_of_lt hlt, hb]
  · have e : leftOf es #[] = es := by unfold leftOf; exact Array.filter_eq_self.2 (by simp)
    rw [e, List.nil_append]
  · intro k hk
    rcases hk with hk | hk
    · rcases hk with hk | hk
      · exact .inl hk
      · exact .inr (Nat.le_of_eq hk.symm)
    · exact hk.elim
theorem a_nextS {H1 H2 : List Res} {r b : Nat} {kv vis : KV} (hx : ev L x = some (.pointer (some ⟨r, 0, none⟩))) (hn : Nat.blt d c.n = true) (hH : H = H1 ++ itS r b kv vis :: H2)
    (h0 : vis.Perm kv → TK c K ((d, .tuple #[.bool false]) :: L) (H1 ++ itS r b kv vis :: H2))
    (h1 : ∀ p rest, (vis ++ p :: rest).Perm kv → TK c K ((d, .tuple #[.bool true, Str p.1, p.2]) :: L) (H1 ++ itS r b kv (vis ++ [p]) :: H2)) :
    TK c (fun a w => (⟨some d, .next x false, rty, pos, af, gd⟩ : Oper).wp P a w K Q) L H := fun a w ha hw => by
  subst hH
  have hv := ha.ev hx
  obtain ⟨es, clock, seen, vs, hb, hes, hst, hr, hs, hvs, hp⟩ := hw.mem (r := itS r b kv vis) (by simp)
  have hne : r ≠ b := fun e => by subst e; rw [hb] at hr; cases hr
  have hrl := (Array.getElem?_eq_some_iff.1 hr).1
  have hx2 : ∀ w' v, (Instr.next (.pointer (some ⟨r, 0, none⟩)) false rty).run P w = .ok v w' → (execOp a.eval (⟨some d, .next x false, rty, pos, af, gd⟩ : Oper)).run P w = .ok (.value v) w' := fun w' v h => by simp [execOp, hv, h]
  change Oper.upon P _ a K Q ((execOp a.eval _).run P w)
  rcases run_next_at (P := P) w rty r b clock clock seen es clock hr hb hst.1 (Nat.le_refl _) with ⟨hz, hrun⟩ | ⟨e, he, w1, hw1, hrun⟩
  · rw [hx2 _ _ hrun, Oper.upon_value]
    have hl : (leftOf es seen).toList = [] := List.eq_nil_of_length_eq_zero (by simpa using hz)
    rw [hl, List.append_nil] at hp
    have h2 := perm_ents hp
    rw [hvs, hes] at h2
    exact h0 (perm_kvV h2) _ _ (ha.put hn _) hw
  · rw [hx2 _ _ hrun, Oper.upon_value]
    have hem : e ∈ es.toList := hp.subset (List.mem_append_right _ he)
    have hek : (e.key, e.val) ∈ kvV kv := by rw [← hes]; exact List.mem_map.2 ⟨e, hem, rfl⟩
    obtain ⟨p, hpk, hpe⟩ := List.mem_map.1 hek
    have hk1 : Str p.1 = e.key := congrArg Prod.fst hpe
    have hk2 : p.2 = e.val := congrArg Prod.snd hpe
    have hbn : ((leftOf es seen).toList.map (·.born)).Nodup := by
      have h3 := (hp.map (·.born)).nodup_iff.2 hst.2.1
      rw [List.map_append] at h3
      exact (List.nodup_append.1 h3).2.1
    have hpk2 := perm_pick hbn he
    rw [← left_push] at hpk2
    have hpn : (vs ++ [e] ++ (leftOf es (seen.push e.born)).toList).Perm es.toList := by
      rw [List.append_assoc]
      exact ((List.Perm.append_left vs hpk2).symm).trans hp
    have hperm : ∃ rest, (vis ++ p :: rest).Perm kv := by
      have h4 := perm_ents hpn
      rw [hes] at h4
      have hsub : ∃ rest : KV, ents (leftOf es (seen.push e.born)).toList = kvV rest := by
        have : ∀ l : List MapEntry, (∀ x ∈ l, x ∈ es.toList) → ∃ rest : KV, ents l = kvV rest := by
          intro l
          induction l with
          | nil => intro _; exact ⟨[], rfl⟩
          | cons x l ih =>
            intro hl
            obtain ⟨rest, hrest⟩ := ih (fun y hy => hl y (List.mem_cons_of_mem _ hy))
            have hxk : (x.key, x.val) ∈ kvV kv := by rw [← hes]; exact List.mem_map.2 ⟨x, hl x (List.mem_cons_self ..), rfl⟩
            obtain ⟨q, _, hq⟩ := List.mem_map.1 hxk
            exact ⟨q :: rest, by show (x.key, x.val) :: ents l = (Str q.1, q.2) :: kvV rest; rw [hrest, hq]⟩
        exact this _ (fun x hx => hpn.subset (List.mem_append_right _ hx))
      obtain ⟨rest, hrest⟩ := hsub
      refine ⟨rest, perm_kvV ?_⟩
      have e5 : kvV (vis ++ p :: rest) = ents (vs ++ [e] ++ (leftOf es (seen.push e.born)).toList) := by
        simp only [kvV, ents, List.map_append, List.map_cons, List.map_nil] at hvs hrest ⊢
        rw [hrest, hvs, hpe, List.append_assoc]; rfl
      rw [e5]; exact h4
    obtain ⟨rest, hrest⟩ := hperm
    have hb1 : w1.heap = w.heap := by rcases hw1 with rfl | rfl <;> rfl
    have hwv : St c w1 (H1 ++ itS r b kv vis :: H2) := by rcases hw1 with rfl | rfl
                                                          · exact hw
                                                          · exact hw.drew
    have := h1 p rest hrest
    rw [hk1, hk2] at this
    have hsz : ∀ k, (setBlock w1 r (.mapIter (some b) clock (seen.push e.born) clock)).heap[k]? = if r = k then some (.mapIter (some b) clock (seen.push e.born) clock) else w.heap[k]? := fun k => by
      simp only [setBlock, hb1, Array.getElem?_setIfInBounds]
      split <;> simp_all
    refine this _ _ (ha.put hn _) (St.perm (St.turn (N := [itS r b kv (vis ++ [p])]) hwv ⟨rfl, rfl, rfl, by simp [setBlock], fun k hk hne' => ?_⟩ ⟨⟨es, clock, seen.push e.born, vs ++ [e], ?_, hes, hst, ?_, by simp [hs], ?_, hpn⟩, trivial⟩ ⟨fun _ _ h => h, trivial⟩ ?_) perm_mid)
    · rw [hsz, if_neg (fun e => hne' (.inr e.symm)), hb1]
    · rw [hsz, if_neg hne]; exact hb
    · rw [hsz, if_pos rfl]
    · simp only [ents, kvV, List.map_append, List.map_cons, List.map_nil] at hvs ⊢
      rw [hvs, hpe]
    · intro k hk
      rcases hk with hk | hk
      · exact .inl hk
      · exact hk.elim
/-- a range's end: the map stays -/
theorem tk_itS {r b : Nat} {kv vis : KV} (h : TK c K L (mapS b kv :: H)) : TK c K L (itS r b kv vis :: H) := fun a w ha hw => h a w ha (by
  obtain ⟨es, clock, seen, vs, hb, hes, hst, _⟩ := hw.hs.1
  exact ⟨hw.fr, ⟨⟨es, clock, hb, hes, hst⟩, hw.hs.2⟩, ⟨fun k hk hf => hw.dj.1 k (.inl hk) hf, hw.dj.2⟩, fun k hk => hw.own k (hk.imp (fun h => .inl h) id)⟩)
end
section
variable {P : Program} {n : Nat} {S : World → Prop} {L : Sl} {dst : Option Tmp} {rty : TypeId} {pos : String} {af : Array Edge} {gd : Option (Nat × Bool)}
  {t t' : TypeId} {x y z : Operand}
theorem y_entryS {r b : Nat} {kv vis : KV} {p : List UInt8 × Value} (hx : ev L x = some (.pointer (some ⟨r, 0, none⟩))) (hS : ∀ w, S w → (itS r b kv (vis ++ [p])).holds w) : Y P n S L ⟨dst, .entry x, rty, pos, af, gd⟩ (.tuple #[Str p.1, p.2]) := fun a w ha hw => by
  have h1 := ha.ev hx
  obtain ⟨es, clock, seen, vs, hb, hes, hst, hr, hs, hvs, hp⟩ := hS w hw
  have hne : vs ≠ [] := fun e => by subst e; simp [ents, kvV] at hvs
  obtain ⟨us, e, rfl⟩ : ∃ us e, vs = us ++ [e] := ⟨vs.dropLast, vs.getLast hne, (List.dropLast_concat_getLast hne).symm⟩
  have hem : e ∈ es.toList := hp.subset (by simp)
  have hpe : e.key = Str p.1 ∧ e.val = p.2 := by
    simp only [ents, kvV, List.map_append, List.map_cons, List.map_nil] at hvs
    have := List.append_inj_right' hvs rfl
    simpa using this
  have hsn : seen = (us.map (·.born)).toArray.push e.born := by
    apply Array.toList_inj.1
    rw [hs]; simp
  rw [hsn] at hr
  have hrun := run_entry_at (P := P) w r b clock (us.map (·.born)).toArray es clock e hr hb hem hst.2.1
  rw [hpe.1, hpe.2] at hrun
  simp [execOp, h1, hrun]
theorem y_lenM {b : Nat} {kt vt : TypeId} {kv : KV} (hx : ev L x = some (.map (some b))) (hm : P.underlying t = some (.map kt vt)) (hS : ∀ w, S w → (mapS b kv).holds w) : Y P n S L ⟨dst, .call { callee := .builtin .len, args := #[x], argTypes := #[t] }, rty, pos, af, gd⟩ (I ((kv.length : Nat) : Int)) := fun a w ha hw => by
  have h1 := ha.ev hx
  obtain ⟨es, clock, hb, hes, _⟩ := hS w hw
  have hl : es.size = kv.length := by
    have := congrArg List.length hes
    simpa [ents, kvV] using this
  have hgo : (getObj b).run P w = .ok (.map es clock) w := by simp [getObj, Sem.run, hb]
  simp [execOp, resolve, invoke, builtin, h1, Builtin.len_, Builtin.lenOf, run_underlying hm, hgo, hl]
  rfl
end
end Go.Proofs.YtnhpghhibcdklaaGreatDoor

/- Owned slices of wide elements: an element stored, the tail cleared and cut away. Own work for this project; no program in sight. -/
namespace Go.Proofs.YtnhpghhibcdklaaGreatDoor
open Go Go.RowKit
def cutW (v : Value) (lo hi sz : Nat) : Value := match v with
  | .slice ad _ cap => .slice (cutAd ad lo cap sz) (hi - lo) (cap - lo)
  | u => u
theorem row_put {c vs : List Value} {o j N : Nat} (h1 : j + vs.length ≤ N) (h2 : o + N ≤ c.length) : ((c.take (o + j) ++ vs ++ c.drop (o + j + vs.length)).drop o).take N = ((c.drop o).take N).take j ++ vs ++ ((c.drop o).take N).drop (j + vs.length) := by
  have hA : (c.take (o + j) ++ vs ++ c.drop (o + j + vs.length)).drop o = (c.drop o).take j ++ (vs ++ c.drop (o + j + vs.length)) := by
    rw [List.append_assoc, List.drop_append_of_le_length (by rw [List.length_take]; omega), List.drop_take, Nat.add_sub_cancel_left]
  have hl : ((c.drop o).take j).length = j := by rw [List.length_take, List.length_drop]; omega
  have e1 : N - j - vs.length = N - (j + vs.length) := by omega
  have e2 : o + j + vs.length = o + (j + vs.length) := by omega
  rw [hA, List.take_append, hl, List.take_of_length_le (by omega), List.take_append, List.take_of_length_le (l := vs) (by omega), List.take_take, List.drop_take, List.drop_drop, Nat.min_eq_left (by omega), List.append_assoc, e1, e2]
theorem row_cut {c vs d : List Value} {o j : Nat} (h2 : o + j ≤ c.length) : ((c.take (o + j) ++ vs ++ d).drop o).take j = (c.drop o).take j := by
  rw [List.append_assoc, List.drop_append_of_le_length (by rw [List.length_take]; omega), List.drop_take, Nat.add_sub_cancel_left, List.take_append_of_le_length (by rw [List.length_take, List.length_drop]; omega), List.take_take, Nat.min_self]
section
variable {c : Cx} {L : Sl} {H : List Res} {P : Program} {Q : Exit → Act → World → Prop} {K : Act → World → Prop} {d : Nat} {rty : TypeId} {pos : String} {af : Array Edge} {gd : Option (Nat × Bool)} {t t' : TypeId} {x y z : Operand} {v : Value}
theorem a_storeOwnC {H1 H2 : List Res} {n j m k : Nat} {xs vs : List Value} {e : TypeId} (hx : ev L x = some (.pointer (some ((adOf v).add j)))) (hy : ev L y = some (.agg vs.toArray)) (ht : szB P t m = true) (hk : vs.length = m) (hm0 : 0 < m)
    (hH : H = H1 ++ own v n xs e k :: H2) (hj : j + m ≤ n * k) (hone : ∀ u ∈ vs, u.oneCell' = true) (h : TK c K L (H1 ++ own v n (xs.take j ++ vs ++ xs.drop (j + m)) e k :: H2)) :
    TK c (fun a w => (⟨none, .store t x y, rty, pos, af, gd⟩ : Oper).wp P a w K Q) L H := fun a w ha hw => by
  subst hH
  have h1 := ha.ev hx; have h2 := ha.ev hy
  have hm : (own v n xs e k).holds w := hw.mem (by simp)
  obtain ⟨hl, h3⟩ := hm
  rcases h3 with ⟨rfl, rfl⟩ | ⟨g, o, cap, cur, fr, T, rfl, hg, hf, hc, hcm, hcs, htk⟩
  · omega
  · have had : (adOf (.slice (some ⟨g, o, none⟩) n cap)).add j = ⟨g, o + j, none⟩ := by simp only [adOf]; rw [add_w]
    rw [had] at h1
    have hnc : n * k ≤ cap * k := Nat.mul_le_mul_right k hc
    have hcl : cur.toList.length = cur.size := rfl
    obtain ⟨w', h4, h5, h6⟩ := run_storeCells P g T vs (o + j) 0 w cur.toList fr (by simpa using hg) (by simpa using hf) hone (by omega)
    have hus : (Value.agg vs.toArray).cells.size = m := by simp [Value.cells, hk]
    have hu : (Value.agg vs.toArray).cells.toList = vs := by simp [Value.cells]
    have e1 : (execOp a.eval (⟨none, .store t x y, rty, pos, af, gd⟩ : Oper)).run P w = .ok .skip w' := by
      simp only [execOp, h1, h2, Instr.storeAt, Instr.sureAddr, storeVar]
      simp [szB_run ht, hus, hu, h4]
    change Oper.upon P _ a K Q ((execOp a.eval _).run P w)
    rw [e1, Oper.upon_skip]
    rw [Nat.add_zero] at h5
    have hput := row_put (c := cur.toList) (vs := vs) (o := o) (j := j) (N := n * k) (by omega) (by omega)
    rw [htk] at hput
    refine h _ _ (ha.putNone _) (St.perm (St.turn (N := [own (.slice (some ⟨g, o, none⟩) n cap) n (xs.take j ++ vs ++ xs.drop (j + m)) e k]) hw (h6.mono (fun q hq => by show some g = some q; rw [hq])) ⟨⟨?_, .inr ⟨g, o, cap, _, fr, T, rfl, h5, ?_, hc, hcm, ?_, ?_⟩⟩, trivial⟩ ⟨fun _ _ h => h, trivial⟩ ?_) perm_mid)
    · simp only [List.length_append, List.length_take, List.length_drop]; omega
    · have : (cur.toList.take (o + j) ++ vs ++ cur.toList.drop (o + j + vs.length)).toArray.size = cur.size := by simp only [List.size_toArray, List.length_append, List.length_take, List.length_drop]; omega
      rw [this]; exact hf
    · simp only [List.size_toArray, List.length_append, List.length_take, List.length_drop]; omega
    · rw [hk] at hput; exact (by rw [hk]; exact hput)
    · intro q hq
      rcases hq with hq | hq
      · exact .inl hq
      · exact hq.elim
theorem flat_set {α : Type} {f : α → List Value} {k : Nat} (hf : ∀ a, (f a).length = k) {e : α} : ∀ {l : List α} {i : Nat}, i < l.length → (l.flatMap f).take (i * k) ++ f e ++ (l.flatMap f).drop (i * k + k) = (l.set i e).flatMap f
  | [], _, h => absurd h (by simp)
  | a :: l, 0, _ => by
    rw [Nat.zero_mul, List.take_zero, List.set_cons_zero, List.flatMap_cons, List.flatMap_cons, Nat.zero_add, List.drop_left' (hf a)]; rfl
  | a :: l, i + 1, h => by
    have ih := flat_set hf (e := e) (l := l) (i := i) (by simpa using h)
    rw [List.set_cons_succ, List.flatMap_cons, List.flatMap_cons, ← ih, Nat.add_mul, Nat.one_mul]
    have e1 : (f a ++ l.flatMap f).take (i * k + k) = f a ++ (l.flatMap f).take (i * k) := by rw [Nat.add_comm, ← hf a, List.take_length_add_append]
    have e2 : (f a ++ l.flatMap f).drop (i * k + k + k) = (l.flatMap f).drop (i * k + k) := by rw [show i * k + k + k = (f a).length + (i * k + k) by rw [hf a]; omega, List.drop_length_add_append]
    rw [e1, e2]; simp only [List.append_assoc]
/-- an element of an owned slice is stored -/
theorem a_storeElt {H1 H2 : List Res} {α : Type} {f : α → List Value} {l : List α} {e : α} {i k : Nat} {T : TypeId} (hx : ev L x = some (.pointer (some ((adOf v).add (i * k + 0))))) (hy : ev L y = some (.agg (f e).toArray)) (ht : szB P t k = true) (hf : ∀ a, (f a).length = k) (hk0 : 0 < k)
    (hH : H = H1 ++ ownA f k v l T :: H2) (hi : i < l.length) (hone : ∀ u ∈ f e, u.oneCell' = true) (h : TK c K L (H1 ++ ownA f k v (l.set i e) T :: H2)) :
    TK c (fun a w => (⟨none, .store t x y, rty, pos, af, gd⟩ : Oper).wp P a w K Q) L H :=
  a_storeOwnC (k := k) (n := l.length) (xs := l.flatMap f) hx hy ht (hf e) hk0 hH (by
    have := Nat.mul_le_mul_right k (show i + 1 ≤ l.length from hi)
    rw [Nat.add_mul] at this; omega) hone (by rw [Nat.add_zero, flat_set hf hi]; have e2 : (l.set i e).length = l.length := List.length_set; unfold ownA at h; rw [e2] at h; exact h)
/-- the tail is cleared: from here on the slice is told as far as i alone -/
theorem a_clearCutZ {H1 H2 : List Res} {α : Type} {f : α → List Value} {l : List α} {i k : Nat} {T e : TypeId} {zc : List Value} {z : Value} (hx : ev L x = some (cutW v i l.length k)) (ht : P.underlying t = some (.slice e)) (hz : ∀ w, (zeroValue e).run P w = .ok z w) (hzc : z.cells = zc.toArray) (hzl : zc.length = k) (hk0 : 0 < k) (hzo : ∀ u ∈ zc, u.oneCell' = true) (hf : ∀ a, (f a).length = k)
    (hH : H = H1 ++ ownA f k v l T :: H2) (hi : i ≤ l.length) (h : TK c K L (H1 ++ ownA f k (cutR v 0 i) (l.take i) T :: H2)) :
    TK c (fun a w => (⟨none, .call { callee := .builtin .clear, args := #[x], argTypes := #[t] }, rty, pos, af, gd⟩ : Oper).wp P a w K Q) L H := fun a w ha hw => by
  subst hH
  have h1 := ha.ev hx
  have hm : (ownA f k v l T).holds w := hw.mem (by simp)
  obtain ⟨hl, h3⟩ := hm
  have hti : (l.take i).length = i := by rw [List.length_take]; omega
  change Oper.upon P _ a K Q ((execOp a.eval _).run P w)
  rcases h3 with ⟨rfl, h0⟩ | ⟨g, o, cap, cur, fr, T', rfl, hg, hfr, hc, hcm, hcs, htk⟩
  · have hl0 : l = [] := List.eq_nil_of_length_eq_zero h0
    subst hl0
    obtain rfl : i = 0 := by simpa using hi
    have e1 : (execOp a.eval (⟨none, .call { callee := .builtin .clear, args := #[x], argTypes := #[t] }, rty, pos, af, gd⟩ : Oper)).run P w = .ok (.value (.tuple #[])) w := by
      simp [execOp, resolve, invoke, builtin, h1, cutW, cutAd, Builtin.clear_, run_underlying ht]
    rw [e1, Oper.upon_value]
    exact h _ _ (ha.putNone _) (by simpa [cutR, cutAd] using hw)
  · have hik : i * k ≤ l.length * k := Nat.mul_le_mul_right k hi
    have hlc : l.length * k ≤ cap * k := Nat.mul_le_mul_right k hc
    have hcl : cur.toList.length = cur.size := rfl
    have hcut : cutR (.slice (some ⟨g, o, none⟩) l.length cap) 0 i = .slice (some ⟨g, o, none⟩) i cap := cutR_0
    by_cases hn : l.length - i = 0
    · have e1 : (execOp a.eval (⟨none, .call { callee := .builtin .clear, args := #[x], argTypes := #[t] }, rty, pos, af, gd⟩ : Oper)).run P w = .ok (.value (.tuple #[])) w := by
        have h2 : cutW (.slice (some ⟨g, o, none⟩) l.length cap) i l.length k = .slice (cutAd (some ⟨g, o, none⟩) i cap k) 0 (cap - i) := by simp only [cutW, hn]
        rw [h2] at h1
        cases hca : cutAd (some ⟨g, o, none⟩) i cap k <;> simp [execOp, resolve, invoke, builtin, h1, hca, Builtin.clear_, run_underlying ht]
      rw [e1, Oper.upon_value]
      obtain rfl : i = l.length := by omega
      refine h _ _ (ha.putNone _) ?_
      rw [List.take_length, hcut]; exact hw
    · have hci : ¬ cap = i := by omega
      have h2 : cutW (.slice (some ⟨g, o, none⟩) l.length cap) i l.length k = .slice (some ⟨g, o + i * k, none⟩) (l.length - i) (cap - i) := by
        simp only [cutW, cutAd, if_neg hci, Option.map_some, add_w]
      rw [h2] at h1
      obtain ⟨m, hm⟩ : ∃ m, l.length - i = m + 1 := ⟨l.length - i - 1, by omega⟩
      have hzl2 : (Builtin.zeroCells zc.toArray (l.length - i)).toList.length = (l.length - i) * k := by simp [Builtin.zeroCells, Value.cells, hzl]
      have hzo2 : ∀ u ∈ (Builtin.zeroCells zc.toArray (l.length - i)).toList, u.oneCell' = true := fun u hu => by
        simp only [Builtin.zeroCells, Value.cells, Array.toList_map, List.mem_map] at hu
        obtain ⟨q, _, rfl⟩ := hu
        have hq : q % zc.toArray.size < zc.toArray.size := Nat.mod_lt _ (by rw [List.size_toArray]; omega)
        rw [getElem!_pos zc.toArray _ hq]
        exact hzo _ (by simp)
      have hmk : (l.length - i) * k = l.length * k - i * k := Nat.sub_mul ..
      obtain ⟨w', h4, h5, h6⟩ := run_storeCells P g T' _ (o + i * k) 0 w cur.toList fr (by simpa using hg) (by simpa using hfr) hzo2 (by rw [hzl2]; omega)
      have e1 : (execOp a.eval (⟨none, .call { callee := .builtin .clear, args := #[x], argTypes := #[t] }, rty, pos, af, gd⟩ : Oper)).run P w = .ok (.value (.tuple #[])) w' := by
        rw [hm] at h1 h4
        simp [execOp, resolve, invoke, builtin, h1, Builtin.clear_, run_underlying ht, hz, hzc, h4]
      rw [e1, Oper.upon_value]
      rw [Nat.add_zero] at h5
      have hcutrow := row_cut (c := cur.toList) (vs := (Builtin.zeroCells zc.toArray (l.length - i)).toList) (d := cur.toList.drop (o + i * k + (Builtin.zeroCells zc.toArray (l.length - i)).toList.length)) (o := o) (j := i * k) (by omega)
      rw [hcut] at h
      refine h _ _ (ha.putNone _) (St.perm (St.turn (N := [ownA f k (.slice (some ⟨g, o, none⟩) i cap) (l.take i) T]) hw (h6.mono (fun q hq => by show some g = some q; rw [hq])) ⟨⟨flat_len hf, ?_⟩, trivial⟩ ⟨fun _ _ h => h, trivial⟩ ?_) perm_mid)
      · rw [hti]
        refine .inr ⟨g, o, cap, _, fr, T', rfl, h5, ?_, by omega, hcm, ?_, ?_⟩
        · have : (cur.toList.take (o + i * k) ++ (Builtin.zeroCells zc.toArray (l.length - i)).toList ++ cur.toList.drop (o + i * k + (Builtin.zeroCells zc.toArray (l.length - i)).toList.length)).toArray.size = cur.size := by simp only [List.size_toArray, List.length_append, List.length_take, List.length_drop, hzl2]; omega
          rw [this]; exact hfr
        · simp only [List.size_toArray, List.length_append, List.length_take, List.length_drop, hzl2]; omega
        · rw [hcutrow, ← flat_take hf hi, ← htk, List.take_take, Nat.min_eq_left hik]
      · intro q hq
        rcases hq with hq | hq
        · exact .inl hq
        · exact hq.elim
theorem a_clearCut {H1 H2 : List Res} {α : Type} {f : α → List Value} {l : List α} {i k : Nat} {T e : TypeId} {zc : List Value} (hx : ev L x = some (cutW v i l.length k)) (ht : P.underlying t = some (.slice e)) (hz : ∀ w, (zeroValue e).run P w = .ok (.agg zc.toArray) w) (hzl : zc.length = k) (hk0 : 0 < k) (hzo : ∀ u ∈ zc, u.oneCell' = true) (hf : ∀ a, (f a).length = k)
    (hH : H = H1 ++ ownA f k v l T :: H2) (hi : i ≤ l.length) (h : TK c K L (H1 ++ ownA f k (cutR v 0 i) (l.take i) T :: H2)) :
    TK c (fun a w => (⟨none, .call { callee := .builtin .clear, args := #[x], argTypes := #[t] }, rty, pos, af, gd⟩ : Oper).wp P a w K Q) L H := a_clearCutZ hx ht hz rfl hzl hk0 hzo hf hH hi h
end
section
variable {P : Program} {n : Nat} {S : World → Prop} {L : Sl} {dst : Option Tmp} {rty : TypeId} {pos : String} {af : Array Edge} {gd : Option (Nat × Bool)}
  {t t' : TypeId} {x y z : Operand} {v : Value}
theorem y_cutW {k' : IntKind} {il : Int} {xl : Operand} {w0 : World} {N sz : Nat} {xs : List Value} (lo : Nat) (hx : ev L x = some v) (hl : ev L xl = some (.int k' il)) (hv : RdC w0 v N xs) (ht : sliB P t sz = true) (hm : lo ≤ N) (e2 : il = (lo : Int) := by rfl) :
    Y P n S L ⟨dst, .slice t x (some xl) none none, rty, pos, af, gd⟩ (cutW v lo N sz) := by
  obtain ⟨ad, hf, h2⟩ := hv.form
  have hx' := hx
  rw [hf] at hx'
  subst e2
  refine (y_cutSl hx' hl ht (by omega)).cast ?_
  rw [Int.toNat_natCast, hf]; rfl
end
theorem ro_ownC {c : Cx} {w : World} {H0 Hr : List Res} {v : Value} {n k : Nat} {xs : List Value} {e : TypeId} (hw : St c w (H0 ++ Hr)) (hq : own v n xs e k ∈ Hr) : Ro (Fs H0) w (rdC v n xs) :=
  ⟨own_rdC (hw.mem (r := own v n xs e k) (by simp [hq])), fun j hk h0 => (Dj_append.1 hw.dj).2.2 j h0 (Fs.of_mem hq (by
    rcases own_cells (hw.mem (r := own v n xs e k) (by simp [hq])) with ⟨_, _, h⟩ | ⟨g, o, cap, rfl, _⟩
    · exact (hk.1 h).elim
    · rw [← hk.2]; rfl))⟩
end Go.Proofs.YtnhpghhibcdklaaGreatDoor

set_option linter.unusedSimpArgs false
set_option linter.unusedVariables false
namespace Go.Proofs.YtnhpghhibcdklaaGreatDoor
open Go
structure Snp where
  seq : Int
  time : Int
  note : List UInt8
  root : List UInt8
  h : root.length = 32
deriving DecidableEq
def dSn : Snp := ⟨0, 0, [], List.replicate 32 0, rfl⟩
def snC (s : Snp) : List Value := [I s.seq, I s.time, Str s.note] ++ s.root.map B
theorem snC_len (s : Snp) : (snC s).length = 35 := by simp [snC, s.h]
theorem snC_all (s : Snp) : ((snC s).drop 0).take 35 = [I s.seq, I s.time, Str s.note] ++ s.root.map B := by
  rw [List.drop_zero, List.take_of_length_le (Nat.le_of_eq (snC_len s))]; rfl
structure Rec where
  kind : Int
  s : Snp
deriving DecidableEq
def dRec : Rec := ⟨0, dSn⟩
def rcC (r : Rec) : List Value := [I r.kind, I r.s.seq, I r.s.time, Str r.s.note] ++ r.s.root.map B
theorem rcC_len (r : Rec) : (rcC r).length = 36 := by simp [rcC, r.s.h]
theorem rcC_all (r : Rec) : ((rcC r).drop 0).take 36 = [I r.kind, I r.s.seq, I r.s.time, Str r.s.note] ++ r.s.root.map B := by
  rw [List.drop_zero, List.take_of_length_le (Nat.le_of_eq (rcC_len r))]; rfl
theorem snC_inj {a b : Snp} : [I a.seq, I a.time, Str a.note] ++ a.root.map B = [I b.seq, I b.time, Str b.note] ++ b.root.map B ↔ a = b := by
  refine ⟨fun h => ?_, fun h => by rw [h]⟩
  obtain ⟨sa, ta, na, ra, ha⟩ := a; obtain ⟨sb, tb, nb, rb, hb⟩ := b
  simp only [List.cons_append, List.nil_append, List.cons.injEq] at h
  obtain ⟨h1, h2, h3, h4⟩ := h
  have e4 := mapB_inj h4
  have e3 := str_inj h3
  have e1 : sa = sb := by simpa [I] using h1
  have e2 : ta = tb := by simpa [I] using h2
  subst e1; subst e2; subst e3; subst e4; rfl
def notS (z : Int) (s : Snp) : Bool := !decide (s.seq = z)
def stepR (out : List Snp) (r : Rec) : List Snp := if r.kind = 1 then out ++ [r.s] else if r.kind = 2 then out.filter (notS r.s.seq) else out
def foldR (l : List Rec) : List Snp := l.foldl stepR []
theorem take_snocL {α : Type} {l : List α} {d : α} {i : Nat} (h : i < l.length) : l.take (i + 1) = l.take i ++ [l.getD i d] := by
  rw [List.take_add_one, List.getElem?_eq_getElem h, List.getD_eq_getElem?_getD, List.getElem?_eq_getElem h]; rfl
theorem foldR_succ {l : List Rec} {i : Nat} (h : i < l.length) : foldR (l.take (i + 1)) = stepR (foldR (l.take i)) (l.getD i dRec) := by
  unfold foldR
  rw [take_snocL (d := dRec) h, List.foldl_append]; rfl
theorem foldR_len {l : List Rec} : (foldR l).length ≤ l.length := by
  have h : ∀ (l : List Rec) (out : List Snp), (l.foldl stepR out).length ≤ out.length + l.length := by
    intro l
    induction l with
    | nil => intro out; simp
    | cons r l ih =>
      intro out
      have h1 := ih (stepR out r)
      have h2 : (stepR out r).length ≤ out.length + 1 := by
        unfold stepR
        split
        · simp
        split
        · have := List.length_filter_le (notS r.s.seq) out; omega
        · omega
      rw [List.foldl_cons, List.length_cons]; omega
  have := h l []
  rw [List.length_nil, Nat.zero_add] at this
  exact this
theorem step_1 {out : List Snp} {r : Rec} (h : r.kind = 1) : stepR out r = out ++ [r.s] := by rw [stepR, if_pos h]
theorem step_2 {out : List Snp} {r : Rec} (h : r.kind = 2) : stepR out r = out.filter (notS r.s.seq) := by rw [stepR, if_neg (by omega), if_pos h]
theorem step_0 {out : List Snp} {r : Rec} (h1 : ¬ r.kind = 1) (h : ¬ r.kind = 2) : stepR out r = out := by rw [stepR, if_neg h1, if_neg h]
/-! ### taken away in place -/
theorem filt_none {l : List Snp} {z : Int} (h : ∀ j, j < l.length → ¬ (l.getD j dSn).seq = z) : l.filter (notS z) = l := List.filter_eq_self.2 (fun s hs => by
  obtain ⟨j, hj, rfl⟩ := List.mem_iff_getElem.1 hs
  have := h j hj
  rw [List.getD_eq_getElem?_getD, List.getElem?_eq_getElem hj] at this
  simpa [notS] using this)
theorem filt_init {l : List Snp} {z : Int} {i : Nat} (hi : i < l.length) (h : ∀ j, j < i → ¬ (l.getD j dSn).seq = z) (hz : (l.getD i dSn).seq = z) : l.take i = (l.take (i + 1)).filter (notS z) := by
  rw [take_snocL (d := dSn) hi, List.filter_append, filt_none (l := l.take i) (fun j hj => by
    have hji : j < i := by rw [List.length_take] at hj; omega
    have e : (l.take i).getD j dSn = l.getD j dSn := by rw [List.getD_eq_getElem?_getD, List.getD_eq_getElem?_getD, List.getElem?_take, if_pos hji]
    rw [e]; exact h j hji)]
  simp only [notS, List.filter_cons, List.filter_nil, decide_eq_true hz, Bool.not_true, Bool.false_eq_true, if_false, List.append_nil]
theorem filt_skip {l m : List Snp} {z : Int} {i j : Nat} (hj : j < l.length) (h : m.take i = (l.take j).filter (notS z)) (hz : (l.getD j dSn).seq = z) : m.take i = (l.take (j + 1)).filter (notS z) := by
  rw [take_snocL (d := dSn) hj, List.filter_append, ← h]
  simp only [notS, List.filter_cons, List.filter_nil, decide_eq_true hz, Bool.not_true, Bool.false_eq_true, if_false, List.append_nil]
theorem filt_keep {l m : List Snp} {z : Int} {i j : Nat} (hi : i < m.length) (hj : j < l.length) (h : m.take i = (l.take j).filter (notS z)) (hz : ¬ (l.getD j dSn).seq = z) : (m.set i (l.getD j dSn)).take (i + 1) = (l.take (j + 1)).filter (notS z) := by
  rw [take_snocL (d := dSn) (by simpa using hi), take_snocL (d := dSn) hj, List.filter_append, ← h]
  have e1 : (m.set i (l.getD j dSn)).take i = m.take i := by rw [List.take_set, List.set_eq_of_length_le (by rw [List.length_take]; omega)]
  have e2 : (m.set i (l.getD j dSn)).getD i dSn = l.getD j dSn := by rw [List.getD_eq_getElem?_getD, List.getElem?_set_self hi]; rfl
  rw [e1, e2]
  simp only [notS, List.filter_cons, List.filter_nil, decide_eq_false hz, Bool.not_false, if_true]
theorem set_drop {m : List Snp} {i j : Nat} {e : Snp} (h : i < j) : (m.set i e).drop j = m.drop j := by
  rw [List.drop_set, if_pos h]
theorem drop_get {l m : List Snp} {j : Nat} (h : m.drop j = l.drop j) : m.getD j dSn = l.getD j dSn := by
  have e : ∀ l : List Snp, l.getD j dSn = (l.drop j).getD 0 dSn := fun l => by rw [List.getD_eq_getElem?_getD, List.getD_eq_getElem?_getD, List.getElem?_drop, Nat.add_zero]
  rw [e, e l, h]
theorem drop_next {l m : List Snp} {j : Nat} (h : m.drop j = l.drop j) : m.drop (j + 1) = l.drop (j + 1) := by
  rw [← List.drop_drop, ← List.drop_drop, h]
def hasS (l : List Snp) (z : Int) : Prop := ∃ s ∈ l, s.seq = z
instance (l : List Snp) (z : Int) : Decidable (hasS l z) := by unfold hasS; infer_instance
def idxS (l : List Snp) (z : Int) (r : Int) : Prop := (r = -1 ∧ ∀ j, j < l.length → ¬ (l.getD j dSn).seq = z) ∨ ∃ i : Nat, r = (i : Int) ∧ i < l.length ∧ (l.getD i dSn).seq = z ∧ ∀ j, j < i → ¬ (l.getD j dSn).seq = z
theorem idx_has {l : List Snp} {z r : Int} (h : idxS l z r) : 0 ≤ r ↔ hasS l z := by
  rcases h with ⟨rfl, h⟩ | ⟨i, rfl, hi, hz, _⟩
  · refine ⟨fun h => absurd h (by omega), fun ⟨s, hs, e⟩ => ?_⟩
    obtain ⟨j, hj, rfl⟩ := List.mem_iff_getElem.1 hs
    have := h j hj
    rw [List.getD_eq_getElem?_getD, List.getElem?_eq_getElem hj] at this
    exact (this e).elim
  · refine ⟨fun _ => ⟨l.getD i dSn, ?_, hz⟩, fun _ => by omega⟩
    rw [List.getD_eq_getElem?_getD, List.getElem?_eq_getElem hi]
    exact List.getElem_mem hi
end Go.Proofs.YtnhpghhibcdklaaGreatDoor
namespace Go.Proofs.YtnhpghhibcdklaaGreatDoor
open Go Go.ChangeShapes Go.WideShapes Go.ChangeAt Go.RowKit
set_option maxRecDepth 100000
set_option linter.unusedVariables false
set_option linter.unusedSimpArgs false
instance : Inhabited Rec := ⟨dRec⟩
section
variable {H : Type} {enc : TypeId × Value → H} {W : World} {b0 : Nat} {sp : Nat → Bool} {held : Bool} {fuel : Nat} {cs : List Value} {x : DataW H × List MemPlace}
theorem op_rec (h : DataW.trod enc Tryz.prog W b0 sp held fuel 57 cs = some x) : ∃ r : Rec, cs = rcC r ∧ r.s.note.length < 9223372036854775808 := by
  have hl : cs.length = 36 := (op_len Tryz.underlying57 h).trans (by kernel_rfl)
  obtain ⟨n0, y0, h0⟩ := op_fldO Tryz.underlying57 h 0 3 0 1 rfl (by kernel_rfl)
  obtain ⟨n1, y1, h1⟩ := op_fldO Tryz.underlying57 h 1 3 1 1 rfl (by kernel_rfl)
  obtain ⟨n2, y2, h2⟩ := op_fldO Tryz.underlying57 h 2 3 2 1 rfl (by kernel_rfl)
  obtain ⟨n3, y3, h3⟩ := op_fldO Tryz.underlying57 h 3 9 3 1 rfl (by kernel_rfl)
  obtain ⟨n4, y4, h4⟩ := op_fldO Tryz.underlying57 h 4 29 4 32 rfl (by kernel_rfl)
  obtain ⟨k, e0, _⟩ := op_i64 Tryz.underlying3 h0
  obtain ⟨q, e1, _⟩ := op_i64 Tryz.underlying3 h1
  obtain ⟨t, e2, _⟩ := op_i64 Tryz.underlying3 h2
  obtain ⟨nt, e3, hn⟩ := op_str Tryz.underlying9 h3
  obtain ⟨rt, rt32, e4⟩ := op_arr8 Tryz.underlying29 Tryz.underlying5 (by kernel_rfl) (by kernel_rfl) h4
  simp only [maxLen] at hn
  refine ⟨⟨k, ⟨q, t, nt, rt, rt32⟩⟩, ?_, by dsimp only; omega⟩
  have c4 : cs.drop 4 = rt.map B := (cut_end hl).trans e4
  have c3 : cs.drop 3 = Str nt :: rt.map B := by rw [← cut_cat (show 3 + 1 = 4 from rfl), e3, c4]; rfl
  have c2 : cs.drop 2 = I t :: Str nt :: rt.map B := by rw [← cut_cat (show 2 + 1 = 3 from rfl), e2, c3]; rfl
  have c1 : cs.drop 1 = I q :: I t :: Str nt :: rt.map B := by rw [← cut_cat (show 1 + 1 = 2 from rfl), e1, c2]; rfl
  have c0 := cut_cat (cs := cs) (show 0 + 1 = 1 from rfl)
  rw [e0, c1, List.drop_zero] at c0
  exact c0.symm
end
theorem open_recs {H : Type} {enc : TypeId × Value → H} {W : World} {r : Reach} {b0 : Nat} {v : Value} {d : DataW H} {qs : List MemPlace} (hval : Value.okWide Tryz.prog W r b0 22 v) (hd : DataW.Trod enc Tryz.prog W 0 (fun _ => true) true 22 v d qs) :
    ∃ rows : List Rec, RdC W v rows.length (rows.flatMap rcC) ∧ rows.length < 9223372036854775808 ∧ ∀ r ∈ rows, r.s.note.length < 9223372036854775808 := by
  obtain ⟨fuel, hf⟩ := hd
  obtain ⟨a0, n0, c0, rfl⟩ := okWide_slice Tryz.underlying22 hval
  obtain ⟨pv, ps, e0, hr0, hp0, hm0⟩ := op_wide (f := rcC) (p := fun r => r.s.note.length < 9223372036854775808) Tryz.underlying22 (by kernel_rfl) rcC_len (by decide) (fun n cs' y hy => op_rec hy) hf
  simp only [maxLen] at hm0
  have e2 : Value.slice a0 n0 c0 = pv := by simpa [Value.cells] using e0
  rw [e2]
  exact ⟨ps, hr0, by omega, hp0⟩
end Go.Proofs.YtnhpghhibcdklaaGreatDoor
set_option linter.unusedSimpArgs false
set_option linter.unusedVariables false
namespace Go.Proofs.YtnhpghhibcdklaaGreatDoor
open Go Go.RowKit
set_option maxRecDepth 100000
attribute [local irreducible] strL xz keyedL sumL
theorem clonen_spec {w : World} : Spec Tryz.prog 65 [.slice none 0 0] w [] (fun _ : Value => True) (fun vo => vo) (fun vo => [ownB vo [] 5]) := by
  exact spec_of (n := 8) Tryz.func65 rfl rfl trivial trivial rfl <| s_r <| q_a rfl rfl <| s_n <| tk_seq <| s_r <| q_m rfl rfl <| s_q rfl (y_eqSn Tryz.underlying64 rfl rfl) <| s_n <| tk_cond1 rfl <| s_r <| q_a rfl rfl <| s_n <| tk_retc <| tk_then_ret <| tk_ownM0 (f := B) 5 <| tk_ret (.slice none 0 0) (trivial) (.inl rfl) (r1 rfl rfl) (List.Sublist.refl _)
theorem clones_spec {l : List UInt8} {ad : Addr} {m cp : Nat} {w : World} (hv : Ro (Fs []) w (rdB (.slice (some ad) m cp) l)) (hb : l.length < 70368744177664) :
    Spec Tryz.prog 65 [.slice (some ad) m cp] w [] (fun _ : Value => True) (fun vo => vo) (fun vo => [ownB vo l 5]) := by
  exact spec_of (n := 8) Tryz.func65 rfl rfl trivial trivial rfl <| s_r <| q_a rfl rfl <| s_n <| tk_seq <| s_r <| q_m rfl rfl <| s_q rfl (y_eqSs Tryz.underlying64 rfl rfl) <| s_n <| tk_cond0 rfl <| tk_skip <| tk_then <| s_r <| tk_act rfl <| a_slit0 EL64 rfl fun v5 => q_m rfl rfl <| tk_act rfl <| a_appM (H1 := []) (f := B) (l := []) (m := l) rfl rfl EL64 rfl rfl (fun w hw => Ro.rd hv hw) (fun _ => rfl) ⟨lenP, lenP⟩ fun v7 => tk_own1 (.head _) fun hfv7 => q_a rfl rfl <| s_n <| tk_retc <| tk_ret (v7) (trivial) (.inl rfl) (r1 rfl rfl) (List.Sublist.refl _)
theorem clone_spec {l : List UInt8} {v : Value} {w : World} (hv : Ro (Fs []) w (rdB v l)) (hb : l.length < 70368744177664) :
    Spec Tryz.prog 65 [v] w [] (fun _ : Value => True) (fun vo => vo) (fun vo => [ownB vo l 5]) := by
  rcases hv.1 with ⟨rfl, h0⟩ | ⟨ad, cp, rfl, hc, hr⟩
  · obtain rfl : l = [] := List.map_eq_nil_iff.1 h0
    exact clonen_spec
  · exact clones_spec hv hb
end Go.Proofs.YtnhpghhibcdklaaGreatDoor
set_option linter.unusedSimpArgs false
set_option linter.unusedVariables false
namespace Go.Proofs.YtnhpghhibcdklaaGreatDoor
open Go Go.RowKit
set_option maxRecDepth 100000
attribute [local irreducible] sumL tapeL bej be8
theorem more_spec {tb c : Nat} {vb vl : Value} {b l : List UInt8} {w : World} (hlb : b.length < 1099511627776 ∧ l.length < 1099511627776) (hcn : c < 9223372036854775808) (hg : Ro (Fs [cel tb [vb, .int .u64 (c : Int), vl] 224, ownB vb b 5, ownB vl l 5]) w glob)
    (hh : Pre w [cel tb [vb, .int .u64 (c : Int), vl] 224, ownB vb b 5, ownB vl l 5]) :
    Spec Tryz.prog 263 [PT tb] w [cel tb [vb, .int .u64 (c : Int), vl] 224, ownB vb b 5, ownB vl l 5] (fun _ : Value => True) (fun _ => .tuple #[])
      (fun vo => [cel tb [vb, .int .u64 ((c + 1 : Nat) : Int), vo] 224, ownB vb b 5, ownB vo (l ++ sumL (b ++ be8 c)) 5]) := by
  refine spec_of (n := 42) Tryz.func263 rfl rfl hh.1 hh.2 rfl ?_
  have hb8 : (be8 c).length = 8 := be8_len
  refine tk_own1 (mm 1 rfl) fun hfb => tk_own1 (mm 2 rfl) fun hfl => s_r <| q_a rfl rfl <| s_n <| tk_seq <| s_r <| q_a rfl rfl <| s_n <| tk_block <| tk_ownM0 (f := B) 5 <| tk_R (H1 := []) rfl (show ownB (.slice none 0 0) ([] : List UInt8) 5 = ownB (.slice none 0 0) (bej c 0) 5 from ownM_cast bej_0.symm) <| tk_loop (X := Nat × Value) (fun (j, vo) => j ≤ 8) (fun (j, vo) => [(0, PT tb), (2, vo), (3, I (56 - 8 * (j : Int)))]) (fun (j, vo) => [ownB vo (bej c j) 5, cel tb ([vb, .int .u64 ((c : Nat) : Int), vl]) 224, ownB vb b 5, ownB vl l 5]) (fun (j, vo) => 8 - j) ((0, .slice none 0 0)) (Nat.zero_le _) sB ((List.Sublist.refl _)) ?_
  rintro ⟨j, vo⟩ hI
  try dsimp only at hI ⊢
  have hlen : (bej c j).length = j := bej_len
  refine tk_own1 (.head _) fun hfo => tk_seq <| s_r <| q_m rfl rfl <| s_q rfl (y_geq rfl rfl) <| s_n <| tk_condP rfl (fun ht6 => ?_) (fun ht6 => ?_)
  · refine tk_skip <| tk_then <| tk_seq <| tk_block <| tk_region <| tk_re 3 (I (56 - 8 * (j : Int))) (I ((56 - 8 * j : Nat) : Int)) rfl (congrArg I oM) <| q_m rfl rfl <| q_m rfl rfl <| s_q rfl (y_nilCheck rfl) <| s_q rfl (y_fldN (o := 0) 1 rfl kR) <| s_q rfl (y_load rfl rfl (hc (o := 1) (mm 1 rfl) (rfl))) <| q_m rfl rfl <| s_q rfl (y_shrN (a := c) (m := 56 - 8 * j) rfl rfl (by simp [IntKind.bits]; omega)) <| s_q rfl (y_convi8 (m := c / 2 ^ (56 - 8 * j)) rfl rfl rfl) <| tk_act rfl <| a_slitN (vs := [B (UInt8.ofNat (c / 2 ^ (56 - 8 * j)))]) rfl (List.forall_mem_cons.2 ⟨rfl, (fun _ h => nomatch h)⟩) (EL64) rfl rfl dC fun b17 => tk_act rfl <| a_appM (H1 := [_]) (f := B) (l := bej c j) (m := [UInt8.ofNat (c / 2 ^ (56 - 8 * j))]) rfl rfl EL64 rfl rfl (fun w hw => cel_rdE (o := 0) (m := 1) (cp := 1) (vs := [UInt8.ofNat (c / 2 ^ (56 - 8 * j))].map B) (hw.mem (.head _)) (rfl) lQ lenP) (fun _ => rfl) ⟨lenP, lenP⟩ fun v18 => tk_own1 (mm 1 rfl) fun hfv18 => q_a rfl rfl <| tk_nil <| tk_in_normal <| tk_then <| tk_region ?_; exact tk_re 3 (I ((56 - 8 * j : Nat) : Int)) (I (56 - 8 * (j : Int))) rfl (congrArg I oM) <| q_m rfl rfl <| s_q rfl (y_subI rfl rfl oM) <| q_a rfl rfl <| tk_nil <| tk_re 3 (I ((56 - 8 * (j : Int)) - (8 : Int))) (I (56 - 8 * ((j + 1 : Nat) : Int))) rfl (congrArg I oM) <| tk_R (H1 := [_]) rfl (show ownB v18 ((bej c j) ++ [UInt8.ofNat (c / 2 ^ (56 - 8 * j))]) 5 = ownB v18 (bej c (j + 1)) 5 from ownM_cast bej_snoc) <| tk_again ((j + 1, v18)) (by dsimp only; omega) (by dsimp only; omega) sB (.cons _ (List.Sublist.refl _))
  · refine tk_R (H1 := []) rfl (show ownB vo (bej c j) 5 = ownB vo (be8 c) 5 from ownM_cast (by rw [show j = 8 by omega, be8_def])) <| tk_own1 (.head _) fun hfo => tk_exit <| tk_then_exit <| tk_then_exit <| tk_in_hit <| tk_then <| s_r <| q_m rfl rfl <| s_q rfl (y_nilCheck rfl) <| s_q rfl (y_fld0 (o := 0) rfl kR) <| s_q rfl (y_load rfl rfl (hc (o := 0) (mm 1 rfl) (rfl))) <| q_m rfl rfl <| tk_act rfl <| a_slitN (vs := [vb, vo]) rfl (List.forall_mem_cons.2 ⟨(RdS.one hfb.choose_spec), (List.forall_mem_cons.2 ⟨(RdS.one hfo.choose_spec), (fun _ h => nomatch h)⟩)⟩) (EL208) rfl rfl dC fun b24 => tk_act rfl <| a_callv [] _ rfl kR rfl (fun w' hw' => of_spec (ps := [(vb, b), (vo, be8 c)]) (L := b ++ (be8 c)) (Ro.cel (vs := [vb, vo]) hw' (.head _) rS rfl dC) (List.forall_mem_cons.2 ⟨(Ro.own (H0 := []) hw' (mm 3 rfl)), (List.forall_mem_cons.2 ⟨(Ro.own (H0 := []) hw' (mm 1 rfl)), (fun _ h => nomatch h)⟩)⟩) sI lenP lenP (hg.call hw')) rfl fun _ _ => tk_act rfl <| a_allocL (cs := (List.replicate 32 0).map B) kR rfl fun b4 => tk_act rfl <| a_storeW (H1 := []) (vs := (sumL (b ++ (be8 c))).map B) 32 rfl rfl kR rfl ⟨lenP, lenP⟩ oneB <| s_n <| tk_seq <| tk_drawH [cel b4 ((sumL (b ++ (be8 c))).map B) 28, cel b24 ([vb, vo]) 64, ownB vo (be8 c) 5, cel tb ([vb, .int .u64 ((c : Nat) : Int), vl]) 224, ownB vb b 5] [9] kR ?_; refine s_x 0 rfl (y_move rfl) <| s_x 1 rfl (y_move rfl) <| s_x 2 rfl (y_nilCheck rfl) <| s_x 3 rfl (y_fldN (o := 0) 2 rfl kR) <| s_l 4 rfl (fun _ h => kS [0, 0, 0, 0, 0] rfl h) (y_load rfl rfl (hc (o := 2) (mm 3 rfl) (rfl))) <| s_x 5 rfl (y_cutA (m := 32) (sz := 1) rfl kR) <| tx_a 6 rfl kR rfl <| a_appM (H1 := [_, _, _, _, _]) (f := B) (l := l) (m := sumL (b ++ (be8 c))) rfl rfl EL64 rfl rfl (fun w hw => cel_rdE (o := 0) (m := 32) (cp := 32) (vs := (sumL (b ++ (be8 c))).map B) (hw.mem (.head _)) (dsW) lQ lenP) (fun _ => rfl) ⟨lenP, lenP⟩ fun v32 => tk_own1 (mm 5 rfl) fun hfv32 => tk_S (fun _ h => kS [0, 0, 0, 0, 0] rfl h) <| tk_own1 (mm 5 rfl) fun hf32 => s_x 7 rfl (y_nilCheck rfl) <| s_x 8 rfl (y_fldN (o := 0) 2 rfl kR) <| tx_x 9 rfl kR rfl rfl <| a_storeE (H1 := [_, _, _]) (o := 2) (v := v32) (cs' := [vb, .int .u64 ((c : Nat) : Int), v32]) rfl rfl kR (RdS.one hf32.choose_spec) rfl sW (rfl) <| tx_done kR <| tk_then <| tk_region <| q_m rfl rfl <| s_q rfl (y_nilCheck rfl) <| s_q rfl (y_fldN (o := 0) 1 rfl kR) <| s_q rfl (y_load rfl rfl (hc (o := 1) (mm 3 rfl) (rfl))) <| s_q rfl (y_addU (a := c) (b := 1) rfl rfl oM) <| s_q rfl (y_nilCheck rfl) ?_; exact s_q rfl (y_fldN (o := 0) 1 rfl kR) <| tk_act rfl <| a_storeE (H1 := [_, _, _]) (o := 1) (v := .int .u64 ((c + 1 : Nat) : Int)) (cs' := [vb, .int .u64 ((c + 1 : Nat) : Int), v32]) rfl rfl kR rfl rfl sW (rfl) <| tk_nil <| tk_ret (v32) (trivial) (.inr rfl) (r0 rfl) (.cons _ (.cons _ (.cons _ (List.Sublist.refl _))))
end Go.Proofs.YtnhpghhibcdklaaGreatDoor
set_option linter.unusedSimpArgs false
set_option linter.unusedVariables false
namespace Go.Proofs.YtnhpghhibcdklaaGreatDoor
open Go Go.RowKit
set_option maxRecDepth 100000
attribute [local irreducible] sumL tapeL bej be8
theorem next_spec {tb c p n : Nat} {vb vl : Value} {b : List UInt8} {w : World} (hI0 : p ≤ 32 * c ∧ 32 * c < p + 32) (hn : 1 ≤ n ∧ n ≤ 1048576) (hp : p < 1000000000000) (hlb : b.length < 1099511627776) (hg : Ro (Fs [cel tb [vb, .int .u64 (c : Int), vl] 224, ownB vb b 5, ownB vl ((tapeL b c).drop p) 5]) w glob)
    (hh : Pre w [cel tb [vb, .int .u64 (c : Int), vl] 224, ownB vb b 5, ownB vl ((tapeL b c).drop p) 5]) :
    Spec Tryz.prog 190 [PT tb, I (n : Int)] w [cel tb [vb, .int .u64 (c : Int), vl] 224, ownB vb b 5, ownB vl ((tapeL b c).drop p) 5] (fun x : Nat × Value × Value => p + n ≤ 32 * x.1 ∧ 32 * x.1 < p + n + 32) (fun x => x.2.1)
      (fun x => [cel tb [vb, .int .u64 (x.1 : Int), x.2.2] 224, ownB vb b 5, ownB x.2.2 ((tapeL b x.1).drop (p + n)) 5, ownB x.2.1 (tapeN b p n) 5]) := by
  refine spec_of (n := 40) Tryz.func190 rfl rfl hh.1 hh.2 rfl <| tk_own1 (mm 1 rfl) fun hfb => tk_own1 (mm 2 rfl) fun hfl => s_r <| q_a rfl rfl <| s_n <| s_r <| q_m rfl rfl <| tk_qe (IN n) rfl rfl rfl (y_minN (a := n) (b := 1048576) rfl rfl) (by congr 2; omega) <| q_a rfl rfl <| s_n <| tk_seq <| s_r <| q_m rfl rfl <| s_q rfl (y_pnil rfl rfl rfl) <| q_m rfl rfl <| s_g rfl (y_move rfl) <| tk_gqe (.bool false) rfl rfl rfl (y_lss rfl rfl) (bool_f oM) <| s_q rfl (y_pick0 rfl rfl) <| s_n <| tk_cond0 rfl <| tk_skip <| tk_then <| tk_seq ?_; refine tk_block <| tk_loop (X := Nat × Value) (fun (c2, vl2) => p ≤ 32 * c2 ∧ 32 * c2 < p + n + 32) (fun (c2, vl2) => [(0, PT tb), (1, IN n), (4, .slice none 0 0)]) (fun (c2, vl2) => [cel tb ([vb, .int .u64 ((c2 : Nat) : Int), vl2]) 224, ownB vb b 5, ownB vl2 ((tapeL b c2).drop p) 5]) (fun (c2, vl2) => p + n + 32 - 32 * c2) ((c, vl)) (⟨by omega, by omega⟩) sB ((List.Sublist.refl _)) ?_
  rintro ⟨c2, vl2⟩ hI
  try dsimp only at hI ⊢
  have hlen : ((tapeL b c2).drop p).length = 32 * c2 - p := by simp
  refine tk_own1 (mm 2 rfl) fun hfl2 => tk_seq <| s_r <| q_m rfl rfl <| s_q rfl (y_nilCheck rfl) <| s_q rfl (y_fldN (o := 0) 2 rfl kR) <| s_q rfl (y_load rfl rfl (hc (o := 2) (.head _) (rfl))) <| s_q rfl (y_lenRN (n' := ((tapeL b c2).drop p).length) rfl hfl2.choose_spec rfl (by first | rfl | (rw [List.length_map]; omega) | simp)) <| q_m rfl rfl <| s_q rfl (y_lss rfl rfl) <| s_n <| tk_condP rfl (fun ht20 => ?_) (fun ht20 => ?_)
  · exact tk_skip <| tk_then <| tk_block <| tk_region <| q_m rfl rfl <| tk_act rfl <| a_callv [] _ rfl kR rfl (fun w' hw' => more_spec (tb := tb) (c := c2) (vb := vb) (vl := vl2) (b := b) (l := (tapeL b c2).drop p) ⟨lenP, lenP⟩ lenP (hg.call hw') (St.pre hw')) rfl fun v22 _ => tk_nil <| tk_in_normal <| tk_R (H1 := [_, _]) rfl (show ownB v22 (((tapeL b c2).drop p) ++ sumL (b ++ be8 c2)) 5 = ownB v22 ((tapeL b (c2 + 1)).drop p) 5 from ownM_cast (tape_more oM)) <| tk_again ((c2 + 1, v22)) (⟨by dsimp only; omega, by dsimp only; omega⟩) (by dsimp only; omega) sB (List.Sublist.refl _)
  · refine tk_exit <| tk_then_exit <| tk_then_exit <| tk_in_hit <| tk_then <| s_r <| q_m rfl rfl <| s_q rfl (y_nilCheck rfl) <| s_q rfl (y_fldN (o := 0) 2 rfl kR) <| s_q rfl (y_load rfl rfl (hc (o := 2) (.head _) (rfl))) <| q_m rfl rfl <| s_q rfl (y_cutRBh (l := (tapeL b c2).drop p) n rfl rfl hfl2.choose_spec kR lenP rfl) <| tk_act rfl <| a_callv [] _ rfl kR rfl (fun w' hw' => clone_spec (l := ((tapeL b c2).drop p).take n) (Ro.cutBh (Ro.own (H0 := []) hw' (mm 2 rfl)) (hi := n) lenP) lenP) rfl fun v29 _ => q_a rfl rfl <| s_n <| s_r <| q_m rfl rfl <| q_m rfl rfl <| s_q rfl (y_nilCheck rfl) <| s_q rfl (y_fldN (o := 0) 2 rfl kR) <| s_q rfl (y_load rfl rfl (hc (o := 2) (mm 1 rfl) (rfl))) <| q_m rfl rfl <| s_q rfl (y_cutRBl (l := (tapeL b c2).drop p) n rfl rfl hfl2.choose_spec kR lenP rfl) ?_; exact s_q rfl (y_nilCheck rfl) <| s_q rfl (y_fldN (o := 0) 2 rfl kR) <| tk_act rfl <| a_storeE (H1 := [_]) (o := 2) (v := cutR vl2 n (((tapeL b c2).drop p).length)) (cs' := [vb, .int .u64 ((c2 : Nat) : Int), cutR vl2 n (((tapeL b c2).drop p).length)]) rfl rfl kR (RdS.one (RdS.cutBl hfl2.choose_spec (lo := n) lenP)) rfl sW (rfl) <| s_n <| s_r <| q_m rfl rfl <| q_a rfl rfl <| s_n <| tk_retc <| tk_ownCut (H1 := [_, _, _]) n rfl sO <| tk_R (H1 := []) rfl (show ownB v29 (((tapeL b c2).drop p).take n) 5 = ownB v29 (tapeN b p n) 5 from ownM_cast (tapeN_eq oM)) <| tk_R (H1 := [_, _, _]) rfl (show ownB (cutR vl2 n (((tapeL b c2).drop p).length)) (((tapeL b c2).drop p).drop n) 5 = ownB ((cutR vl2 n ((tapeL b c2).drop p).length)) ((tapeL b c2).drop (p + n)) 5 from ownM_cast (List.drop_drop ..)) <| tk_ps [3, 3, 3] rfl <| tk_ret ((c2, v29, cutR vl2 n ((tapeL b c2).drop p).length)) (⟨by omega, by omega⟩) (.inl rfl) (r1 rfl rfl) (List.Sublist.refl _)
end Go.Proofs.YtnhpghhibcdklaaGreatDoor
set_option linter.unusedSimpArgs false
set_option linter.unusedVariables false
namespace Go.Proofs.YtnhpghhibcdklaaGreatDoor
open Go Go.RowKit
set_option maxRecDepth 100000
attribute [local irreducible] sumL tapeL bej be8 tapeN
theorem nonce_spec {tb c p : Nat} {vb vl : Value} {b : List UInt8} {w : World} (hI0 : p ≤ 32 * c ∧ 32 * c < p + 32) (hp : p < 1000000000000) (hlb : b.length < 1099511627776) (hg : Ro (Fs [cel tb [vb, .int .u64 (c : Int), vl] 224, ownB vb b 5, ownB vl ((tapeL b c).drop p) 5]) w glob)
    (hh : Pre w [cel tb [vb, .int .u64 (c : Int), vl] 224, ownB vb b 5, ownB vl ((tapeL b c).drop p) 5]) :
    Spec Tryz.prog 104 [PT tb] w [cel tb [vb, .int .u64 (c : Int), vl] 224, ownB vb b 5, ownB vl ((tapeL b c).drop p) 5] (fun x : Nat × Value => p + 16 ≤ 32 * x.1 ∧ 32 * x.1 < p + 16 + 32) (fun _ => Ag (tapeN b p 16))
      (fun x => [cel tb [vb, .int .u64 (x.1 : Int), x.2] 224, ownB vb b 5, ownB x.2 ((tapeL b x.1).drop (p + 16)) 5]) := by
  refine spec_of (n := 10) Tryz.func104 rfl rfl hh.1 hh.2 rfl <| tk_own1 (mm 1 rfl) fun hfb => tk_own1 (mm 2 rfl) fun hfl => s_r <| tk_act rfl <| a_allocL (cs := (List.replicate 16 0).map B) kR rfl fun b2 => s_n <| tk_seq <| s_r <| q_m rfl rfl <| s_q rfl (y_pnil rfl rfl rfl) <| s_n <| tk_cond0 rfl <| tk_skip <| tk_then <| s_r <| q_m rfl rfl <| tk_act rfl <| tk_ps [3, 3, 3] rfl <| a_callv [] _ rfl kR rfl (fun w' hw' => next_spec (tb := tb) (c := c) (p := p) (n := 16) (vb := vb) (vl := vl) (b := b) ⟨lenP, lenP⟩ ⟨lenP, lenP⟩ lenP lenP (hg.call hw') (St.pre hw')) rfl fun ⟨c7, v7, vl7⟩ hx7 => tk_own1 (mm 3 rfl) fun hf7 => s_q rfl (y_s2aR (l := tapeN b p 16) rfl rfl hf7.choose_spec lenP) <| s_q rfl (y_loadA 16 rfl kR lenP (fun w hw => rd_take (l := tapeN b p 16) (m := 16) ((fun w hw => own_rdS (hw.mem (mm 3 rfl))) w hw) lenP)) <| tk_re 9 (.agg (((tapeN b p 16).take 16).map B).toArray) (.agg ((tapeN b p 16).map B).toArray) rfl (by rw [List.take_of_length_le sI]) ?_; exact tk_act rfl <| a_storeW (H1 := [_, _, _, _]) (vs := (tapeN b p 16).map B) 16 rfl rfl kR rfl ⟨lenP, lenP⟩ oneB <| s_n <| tk_retc <| tk_ret ((c7, vl7)) (hx7) (.inl rfl) (rc (vs := (tapeN b p 16).map B) rfl rfl (by simp; kernel_rfl) (hcw (mm 4 rfl))) (.cons_cons _ (.cons_cons _ (.cons_cons _ (List.nil_sublist _))))
theorem wind_spec {v : Value} {b : List UInt8} {w : World} (hv : Ro (Fs []) w (rdB v b)) (hb : b.length < 1099511627776) :
    Spec Tryz.prog 62 [v] w [] (fun _ : Nat × Value => True) (fun x => PT x.1)
      (fun x => [cel x.1 [x.2, .int .u64 ((0 : Nat) : Int), .slice none 0 0] 224, ownB x.2 b 5]) := by
  refine spec_of (n := 7) Tryz.func62 rfl rfl trivial trivial rfl <| s_r <| q_a rfl rfl <| s_n <| s_r <| q_m rfl rfl <| tk_act rfl <| a_callv [] _ rfl kR rfl (fun w' hw' => clone_spec (l := b) (Ro.call (H0 := []) hv hw') lenP) rfl fun v4 _ => tk_own1 (.head _) fun hf4 => ?_
  have hc4 := hf4.choose_spec.cells
  simp only [Value.cells] at hc4
  exact s_q rfl (y_build (v := .agg ([v4, .int .u64 0, .slice none 0 0]).toArray) (vs := [(0, v4)]) rfl (run_build (zs := [Value.slice none 0 0, .int .u64 0, .slice none 0 0]) (pl := [(0, 1), (1, 1), (2, 1)]) Tryz.underlying224 (fun _ => kR) (fun _ => kR) (by simp [fillL, Value.cells, hc4]))) <| tk_act rfl <| a_boxL (cs := [v4, .int .u64 0, .slice none 0 0]) rfl rfl fun b6 => q_a rfl rfl <| s_n <| tk_retc <| tk_ret ((b6, v4)) (trivial) (.inl rfl) (r1 rfl rfl) (List.Sublist.refl _)
end Go.Proofs.YtnhpghhibcdklaaGreatDoor
set_option linter.unusedSimpArgs false
set_option linter.unusedVariables false
namespace Go.Proofs.YtnhpghhibcdklaaGreatDoor
open Go Go.RowKit
set_option maxRecDepth 100000
attribute [local irreducible] sumL keyedL strL
end Go.Proofs.YtnhpghhibcdklaaGreatDoor
set_option linter.unusedSimpArgs false
set_option linter.unusedVariables false
namespace Go.Proofs.YtnhpghhibcdklaaGreatDoor
open Go Go.RowKit
set_option maxRecDepth 100000
attribute [local irreducible] sumL keyedL strL
end Go.Proofs.YtnhpghhibcdklaaGreatDoor
set_option linter.unusedSimpArgs false
set_option linter.unusedVariables false
namespace Go.Proofs.YtnhpghhibcdklaaGreatDoor.Cip
open Go Go.RowKit
set_option maxRecDepth 100000
theorem twice_spec (x : UInt8) (w : World) : Spec Tryz.prog 383 [B x] w [] (fun _ : Unit => True) (fun _ => B (twice8 x)) (fun _ => []) := by
  exact spec_of (n := 10) Tryz.func383 rfl rfl trivial trivial rfl <| s_r <| q_a rfl rfl <| s_n <| s_r <| q_m rfl rfl <| s_q rfl (y_shl8 (m := 1) rfl rfl dC) <| q_m rfl rfl <| s_q rfl (y_shr8 (m := 7) rfl rfl dC) <| s_q rfl (y_neg8 rfl) <| s_q rfl (y_and8 (b := 27) rfl rfl) <| s_q rfl (y_xor8 rfl rfl) <| q_a rfl rfl <| s_n <| tk_retc <| tk_ret () trivial (.inl rfl) (r1 rfl rfl) (List.Sublist.refl _)
theorem add_spec (kb sb r : Nat) (K V : List UInt8) (T : TypeId) (w : World) (hr : r ≤ 14) (hV : V.length = 16) (hne : kb ≠ sb) (hk : ∀ j, j < 240 → w.cell? ⟨kb, j, none⟩ = some (B (K.getD j 0))) (hs : (cel sb (V.map B) T).holds w) :
    Spec Tryz.prog 362 [PT kb, PT sb, I r] w [cel sb (V.map B) T] (fun _ : Unit => True) (fun _ => .tuple #[]) (fun _ => [cel sb ((addTo K r V 16).map B) T]) := by
  refine spec_of (n := 32) Tryz.func362 rfl rfl ⟨hs, trivial⟩ ⟨fun _ _ h => h, trivial⟩ rfl <| s_r <| q_m rfl rfl <| s_n <| tk_block <| tk_loop (X := Nat) (fun k => k ≤ 16) (fun k => [(0, PT kb), (1, PT sb), (2, I r), (7, I (k : Int))]) (fun k => [cel sb ((addTo K r V k).map B) T]) (fun k => 16 - k) (0) oM sB (List.Sublist.refl _) ?_
  intro k hI
  refine s_r <| s_q rfl (y_lss rfl rfl) <| s_n <| tk_seq <| tk_condP rfl (fun h8 => ?_) (fun h8 => ?_)
  · refine tk_skip <| tk_then <| tk_seq <| tk_block <| s_r <| q_m rfl rfl <| q_a rfl rfl <| s_n <| tk_drawS [21] kR <| s_x 0 rfl (y_move rfl) <| s_x 1 rfl (y_move rfl) <| s_x 2 rfl (y_nilCheck rfl) ?_
    (first | refine s_x 3 rfl (y_ixA01 16 rfl rfl kR oM) ?_ | refine s_x 3 rfl (y_ixAN1 16 rfl rfl kR oM) ?_)
    refine s_l 4 rfl (fun _ h => h) (y_load rfl rfl (hc (.head _) (getB (by rw [addTo_len, hV]; omega)))) <| s_x 5 rfl (y_move rfl) <| s_x 6 rfl (y_move rfl) <| s_x 7 rfl (y_mulI rfl rfl oM) <| s_x 8 rfl (y_move rfl) <| s_x 9 rfl (y_quoI rfl rfl oM) <| s_x 10 rfl (y_addI rfl rfl oM) <| s_x 11 rfl (y_move rfl) <| s_x 12 rfl (y_remI rfl rfl oM) <| s_x 13 rfl (y_nilCheck rfl) <| s_x 14 rfl (y_fld0 rfl kR) <| s_x 15 rfl (y_ixAI 60 4 (4 * r + k / 4) rfl rfl kR oM) <| s_x 16 rfl ((y_ixAI 4 1 (k % 4) rfl rfl kR oM).cast (v := _) (u := .pointer (some ⟨kb, 16 * r + k, none⟩)) (by congr 3; omega)) <| s_l 17 rfl (fun _ h => h) (y_load rfl rfl (hro (hk _ oM) (by simp [Fs, cel]; exact hne))) <| s_x 18 rfl (y_xor8 rfl rfl) <| s_x 19 rfl (y_nilCheck rfl) ?_
    (first | refine s_x 20 rfl (y_ixA01 16 rfl rfl kR oM) ?_ | refine s_x 20 rfl (y_ixAN1 16 rfl rfl kR oM) ?_)
    exact tx_x 21 rfl kR rfl rfl <| a_store1B (H1 := []) rfl rfl kR rfl (by rw [addTo_len, hV]; omega) <| tx_done kR <| tk_in_normal <| tk_then <| tk_region <| s_q rfl (y_addI rfl rfl oM) <| q_m rfl rfl <| tk_nil <| tk_again (k + 1) oM oM sB (List.Sublist.refl _)
  · refine tk_exit <| tk_then_exit <| tk_then_exit <| tk_in_hit ?_
    obtain rfl : k = 16 := by omega
    exact tk_ret () trivial (.inr rfl) (r0 rfl) (List.Sublist.refl _)
theorem forward_spec (w : World) : Spec Tryz.prog 317 [] w [] (fun _ : Unit => True) (fun _ => Ag fwd) (fun _ => []) := by
  exact spec_of (n := 2) Tryz.func317 rfl rfl trivial trivial rfl <| s_r <| tk_act rfl <| a_allocL (cs := (List.replicate 256 0).map B) kR rfl fun b0 => s_n <| s_r <| s_q rfl (y_build (v := Ag fwd) (vs := fwd.zipIdx.map fun p => (p.2, B p.1)) kR (fun _ => kR)) <| tk_act rfl <| a_storeW (H1 := []) 256 rfl rfl kR rfl ⟨by rw [List.length_map]; exact fwd_len, by rw [List.length_map, List.length_replicate]⟩ oneB <| s_n <| tk_retc <| tk_ret () trivial (.inl rfl) (rc rfl rfl (by rw [List.length_map, fwd_len]; kernel_rfl) (hcw (.head _))) (List.nil_sublist _)
theorem getF {b : UInt8} : (fwd.map B).toArray[((b.toNat : Int)).toNat]? = some (B (sbox b)) := getBA (by rw [fwd_len]; exact b_lt b)
theorem shift_spec (V : List UInt8) (w : World) (hV : V.length = 16) : Spec Tryz.prog 363 [Ag V] w [] (fun _ : Unit => True) (fun _ => Ag (shTo V 16)) (fun _ => []) := by
  refine spec_of (n := 22) Tryz.func363 rfl rfl trivial trivial rfl <| s_r <| tk_act rfl <| a_boxL rfl rfl fun b1 => tk_act rfl <| a_allocL (cs := (List.replicate 16 0).map B) kR rfl fun b2 => s_n <| s_r <| tk_act rfl <| a_allocL (cs := (List.replicate 16 0).map B) kR rfl fun b3 => s_n <| tk_seq <| s_r <| q_m rfl rfl <| s_n <| tk_block <| tk_loop (X := Nat) (fun k => k ≤ 16) (fun k => [(1, PT b1), (2, PT b2), (3, PT b3), (5, I (k : Int))]) (fun k => [cel b3 ((shTo V k).map B) 210, cel b2 ((List.replicate 16 0).map B) 210, cel b1 (V.map B) 210]) (fun k => 16 - k) (0) oM sB (List.Sublist.refl _) ?_
  intro k hI
  refine s_r <| s_q rfl (y_lss rfl rfl) <| s_n <| tk_seq <| tk_condP rfl (fun h6 => ?_) (fun h6 => ?_)
  · refine tk_skip <| tk_then <| tk_seq <| tk_block <| s_r <| q_m rfl rfl <| q_a rfl rfl <| s_n <| tk_drawS [12] kR <| s_x 0 rfl (y_move rfl) <| s_x 2 rfl (y_move rfl) <| s_x 3 rfl (y_move rfl) <| s_x 4 rfl (y_remI rfl rfl oM) <| s_x 5 rfl (y_mulI rfl rfl oM) <| s_x 6 rfl (y_addI rfl rfl oM) <| s_x 7 rfl (y_remI rfl rfl oM) <| s_x 8 rfl (y_ixA0I 16 ((k + k % 4 * 4) % 16) rfl rfl kR oM) <| s_l 9 rfl (fun _ h => h) (y_load rfl rfl (hc (mm 2 rfl) (getB oM))) <| tx_a 1 rfl kR rfl <| a_callv [] _ rfl kR rfl (fun w' hw' => forward_spec w') rfl fun _ _ => tk_S (fun _ h => h) <| s_x 10 rfl (y_ixV rfl rfl rfl rfl (fun _ => kR) (ixb _) getF) ?_
    (first | refine s_x 11 rfl (y_ixA01 16 rfl rfl kR oM) ?_ | refine s_x 11 rfl (y_ixAN1 16 rfl rfl kR oM) ?_)
    refine tx_x 12 rfl kR rfl rfl ?_; (first | refine a_store1B (H1 := []) rfl rfl kR rfl sO ?_ | refine a_store1B (H1 := [_]) rfl rfl kR rfl sO ?_ | refine a_store1B (H1 := [_, _]) rfl rfl kR rfl sO ?_); exact tx_done kR <| tk_in_normal <| tk_then <| tk_region <| s_q rfl (y_addI rfl rfl oM) <| q_m rfl rfl <| tk_nil <| tk_again (k + 1) oM oM sB (List.Sublist.refl _)
  · refine tk_exit <| tk_then_exit <| tk_then_exit <| tk_in_hit <| tk_then <| s_r ?_
    obtain rfl : k = 16 := by omega
    (first | refine s_q rfl (y_loadA 16 rfl kR sI (hcw (.head _))) ?_ | refine s_q rfl (y_loadA 16 rfl kR sI (hcw (mm 1 rfl))) ?_ | refine s_q rfl (y_loadA 16 rfl kR sI (hcw (mm 2 rfl))) ?_)
    refine tk_act rfl ?_; (first | refine a_storeW (H1 := []) 16 rfl rfl kR rfl ⟨by simp, by simp⟩ oneB ?_ | refine a_storeW (H1 := [_]) 16 rfl rfl kR rfl ⟨by simp, by simp⟩ oneB ?_ | refine a_storeW (H1 := [_, _]) 16 rfl rfl kR rfl ⟨by simp, by simp⟩ oneB ?_); exact s_n <| tk_retc <| tk_ret () trivial (.inl rfl) (rc rfl rfl (by simp; kernel_rfl) (hcw (mm 1 rfl))) (List.nil_sublist _)
theorem mix_spec (sb : Nat) (V : List UInt8) (T : TypeId) (w : World) (hV : V.length = 16) (hs : (cel sb (V.map B) T).holds w) :
    Spec Tryz.prog 364 [PT sb] w [cel sb (V.map B) T] (fun _ : Unit => True) (fun _ => .tuple #[]) (fun _ => [cel sb ((mixTo V 4).map B) T]) := by
  refine spec_of (n := 82) Tryz.func364 rfl rfl ⟨hs, trivial⟩ ⟨fun _ _ h => h, trivial⟩ rfl <| s_r <| q_a rfl rfl <| s_n <| tk_block <| tk_loop (X := Nat) (fun k => k ≤ 4) (fun k => [(0, PT sb), (2, I (4 * (k : Int)))]) (fun k => [cel sb ((mixTo V k).map B) T]) (fun k => 4 - k) (0) oM sB (List.Sublist.refl _) ?_
  intro k hI
  refine tk_seq <| s_r <| q_m rfl rfl <| s_q rfl (y_lss rfl rfl) <| s_n <| tk_condP rfl (fun h10 => ?_) (fun h10 => ?_)
  · refine tk_skip <| tk_then <| tk_seq <| tk_block <| s_r <| q_m rfl rfl <| s_q rfl (y_nilCheck rfl) <| q_m rfl rfl <| q_m rfl rfl <| s_q rfl (y_addI rfl rfl oM) <| tk_qe (.slice (some ⟨sb, 4 * k, none⟩) 4 (16 - 4 * k)) rfl rfl rfl (y_cutAN 16 1 (4 * k) (4 * k + 4) rfl rfl rfl kR oM) sI <| q_a rfl rfl <| s_n <| tk_seq <| tk_drawS [] kR <| s_x 0 rfl (y_move rfl) ?_
    (first | refine s_x 1 rfl (y_ixS01 (i := 0) rfl rfl kR oM) ?_ | refine s_x 1 rfl (y_ixSN1 (i := 0) rfl rfl kR oM) ?_)
    refine s_l 2 rfl (fun _ h => h) (y_load rfl rfl (hc (.head _) (getB (by simp [hV]; omega)))) <| s_x 3 rfl (y_move rfl) ?_
    (first | refine s_x 4 rfl (y_ixS01 (i := 1) rfl rfl kR oM) ?_ | refine s_x 4 rfl (y_ixSN1 (i := 1) rfl rfl kR oM) ?_)
    refine s_l 5 rfl (fun _ h => h) (y_load rfl rfl (hc (.head _) (getB (by simp [hV]; omega)))) <| s_x 6 rfl (y_move rfl) ?_
    (first | refine s_x 7 rfl (y_ixS01 (i := 2) rfl rfl kR oM) ?_ | refine s_x 7 rfl (y_ixSN1 (i := 2) rfl rfl kR oM) ?_)
    refine s_l 8 rfl (fun _ h => h) (y_load rfl rfl (hc (.head _) (getB (by simp [hV]; omega)))) <| s_x 9 rfl (y_move rfl) ?_
    (first | refine s_x 10 rfl (y_ixS01 (i := 3) rfl rfl kR oM) ?_ | refine s_x 10 rfl (y_ixSN1 (i := 3) rfl rfl kR oM) ?_)
    refine s_l 11 rfl (fun _ h => h) (y_load rfl rfl (hc (.head _) (getB (by simp [hV]; omega)))) <| s_x 12 rfl (y_assign rfl) <| s_x 13 rfl (y_assign rfl) <| s_x 14 rfl (y_assign rfl) <| s_x 15 rfl (y_assign rfl) <| tx_done kR <| tk_then <| s_r <| q_m rfl rfl <| q_m rfl rfl <| s_q rfl (y_xor8 rfl rfl) <| q_m rfl rfl <| s_q rfl (y_xor8 rfl rfl) <| q_m rfl rfl <| s_q rfl (y_xor8 rfl rfl) <| q_a rfl rfl <| s_n <| tk_seq <| tk_drawS [11] kR <| s_x 0 rfl (y_move rfl) ?_
    (first | refine s_x 1 rfl (y_ixS01 (i := 0) rfl rfl kR oM) ?_ | refine s_x 1 rfl (y_ixSN1 (i := 0) rfl rfl kR oM) ?_)
    refine s_l 2 rfl (fun _ h => h) (y_load rfl rfl (hc (.head _) (getB (by simp [hV]; omega)))) <| s_x 3 rfl (y_move rfl) <| s_x 4 rfl (y_move rfl) <| s_x 5 rfl (y_move rfl) <| s_x 6 rfl (y_xor8 rfl rfl) <| tx_a 7 rfl kR rfl <| a_callv [] _ rfl kR rfl (fun w' hw' => twice_spec _ w') rfl fun _ _ => tk_S (fun _ h => h) <| s_x 8 rfl (y_xor8 rfl rfl) <| s_x 9 rfl (y_xor8 rfl rfl) ?_
    (first | refine s_x 10 rfl (y_ixS01 (i := 0) rfl rfl kR oM) ?_ | refine s_x 10 rfl (y_ixSN1 (i := 0) rfl rfl kR oM) ?_)
    refine tx_x 11 rfl kR rfl rfl <| a_store1B (H1 := []) rfl rfl kR rfl (by simp [hV]; omega) <| tx_done kR <| tk_then <| tk_seq <| tk_drawS [11] kR <| s_x 0 rfl (y_move rfl) ?_
    (first | refine s_x 1 rfl (y_ixS01 (i := 1) rfl rfl kR oM) ?_ | refine s_x 1 rfl (y_ixSN1 (i := 1) rfl rfl kR oM) ?_)
    refine s_l 2 rfl (fun _ h => h) (y_load rfl rfl (hc (.head _) (getB (by simp [hV]; omega)))) <| s_x 3 rfl (y_move rfl) <| s_x 4 rfl (y_move rfl) <| s_x 5 rfl (y_move rfl) <| s_x 6 rfl (y_xor8 rfl rfl) <| tx_a 7 rfl kR rfl <| a_callv [] _ rfl kR rfl (fun w' hw' => twice_spec _ w') rfl fun _ _ => tk_S (fun _ h => h) <| s_x 8 rfl (y_xor8 rfl rfl) <| s_x 9 rfl (y_xor8 rfl rfl) ?_
    (first | refine s_x 10 rfl (y_ixS01 (i := 1) rfl rfl kR oM) ?_ | refine s_x 10 rfl (y_ixSN1 (i := 1) rfl rfl kR oM) ?_)
    refine tx_x 11 rfl kR rfl rfl <| a_store1B (H1 := []) rfl rfl kR rfl (by simp [hV]; omega) <| tx_done kR <| tk_then <| tk_seq <| tk_drawS [11] kR <| s_x 0 rfl (y_move rfl) ?_
    (first | refine s_x 1 rfl (y_ixS01 (i := 2) rfl rfl kR oM) ?_ | refine s_x 1 rfl (y_ixSN1 (i := 2) rfl rfl kR oM) ?_)
    refine s_l 2 rfl (fun _ h => h) (y_load rfl rfl (hc (.head _) (getB (by simp [hV]; omega)))) <| s_x 3 rfl (y_move rfl) <| s_x 4 rfl (y_move rfl) <| s_x 5 rfl (y_move rfl) <| s_x 6 rfl (y_xor8 rfl rfl) <| tx_a 7 rfl kR rfl <| a_callv [] _ rfl kR rfl (fun w' hw' => twice_spec _ w') rfl fun _ _ => tk_S (fun _ h => h) <| s_x 8 rfl (y_xor8 rfl rfl) <| s_x 9 rfl (y_xor8 rfl rfl) ?_
    (first | refine s_x 10 rfl (y_ixS01 (i := 2) rfl rfl kR oM) ?_ | refine s_x 10 rfl (y_ixSN1 (i := 2) rfl rfl kR oM) ?_)
    refine tx_x 11 rfl kR rfl rfl <| a_store1B (H1 := []) rfl rfl kR rfl (by simp [hV]; omega) <| tx_done kR <| tk_then <| tk_drawS [11] kR <| s_x 0 rfl (y_move rfl) ?_
    (first | refine s_x 1 rfl (y_ixS01 (i := 3) rfl rfl kR oM) ?_ | refine s_x 1 rfl (y_ixSN1 (i := 3) rfl rfl kR oM) ?_)
    refine s_l 2 rfl (fun _ h => h) (y_load rfl rfl (hc (.head _) (getB (by simp [hV]; omega)))) <| s_x 3 rfl (y_move rfl) <| s_x 4 rfl (y_move rfl) <| s_x 5 rfl (y_move rfl) <| s_x 6 rfl (y_xor8 rfl rfl) <| tx_a 7 rfl kR rfl <| a_callv [] _ rfl kR rfl (fun w' hw' => twice_spec _ w') rfl fun _ _ => tk_S (fun _ h => h) <| s_x 8 rfl (y_xor8 rfl rfl) <| s_x 9 rfl (y_xor8 rfl rfl) ?_
    (first | refine s_x 10 rfl (y_ixS01 (i := 3) rfl rfl kR oM) ?_ | refine s_x 10 rfl (y_ixSN1 (i := 3) rfl rfl kR oM) ?_)
    exact tx_x 11 rfl kR rfl rfl <| a_store1B (H1 := []) rfl rfl kR rfl (by simp [hV]; omega) <| tx_done kR <| tk_in_normal <| tk_then <| tk_region <| q_m rfl rfl <| s_q rfl (y_addI rfl rfl oM) <| q_a rfl rfl <| tk_nil <| tk_again (k + 1) oM oM (by exact ⟨rfl, by simp [lk]; omega, trivial⟩) (List.Sublist.refl _)
  · refine tk_exit <| tk_then_exit <| tk_then_exit <| tk_in_hit ?_
    obtain rfl : k = 4 := by omega
    exact tk_ret () trivial (.inr rfl) (r0 rfl) (List.Sublist.refl _)
theorem turn_spec (kb : Nat) (K V : List UInt8) (w : World) (hV : V.length = 16) (hk : ∀ j, j < 240 → w.cell? ⟨kb, j, none⟩ = some (B (K.getD j 0))) :
    Spec Tryz.prog 318 [PT kb, Ag V] w [] (fun _ : Unit => True) (fun _ => Ag (turn K V)) (fun _ => []) := by
  refine spec_of (n := 24) Tryz.func318 rfl rfl trivial trivial rfl <| s_r <| tk_act rfl <| a_boxL rfl rfl fun b3 => tk_act rfl <| a_allocL (cs := (List.replicate 16 0).map B) kR rfl fun b4 => s_n <| tk_seq <| s_r <| q_m rfl rfl <| tk_qe (.bool false) rfl rfl rfl (y_pnil rfl rfl rfl) (rfl) <| s_n <| tk_cond0 rfl <| tk_skip <| tk_then <| s_r <| q_m rfl rfl <| tk_act rfl <| a_callv [_] _ rfl kR rfl (fun w' hw' => add_spec kb b3 0 K V 210 w' oM hV (hw'.ne (hk 0 oM) (fun h => h) (mm 1 rfl)) (fun j hj => hw'.fr.cell (hk j hj) (fun h => h)) (hw'.mem (mm 1 rfl))) rfl fun _ _ => s_n <| tk_seq <| s_r <| q_a rfl rfl <| s_n ?_; refine tk_block <| tk_loop (X := Nat) (fun r => r ≤ 14) (fun r => [(0, PT kb), (3, PT b3), (4, PT b4), (5, I ((r + 1 : Nat) : Int))]) (fun r => [cel b4 ((List.replicate 16 0).map B) 210, cel b3 ((turnTo K V r).map B) 210]) (fun r => 14 - r) (0) oM sB (List.Sublist.refl _) ?_
  intro r hI
  refine tk_seq <| s_r <| q_m rfl rfl <| s_q rfl (y_leq rfl rfl) <| s_n <| tk_condP rfl (fun h12 => ?_) (fun h12 => ?_)
  · refine tk_skip <| tk_then <| tk_seq <| tk_block <| s_r ?_
    have hT := turnTo_len (K := K) (r := r) hV
    (first | refine s_q rfl (y_loadA 16 rfl kR (by simp [hV]) (hcw (.head _))) ?_ | refine s_q rfl (y_loadA 16 rfl kR (by simp [hV]) (hcw (mm 1 rfl))) ?_)
    refine tk_act rfl <| a_callv [] _ rfl kR rfl (fun w' hw' => shift_spec _ w' (by simp [hV])) rfl fun _ _ => tk_act rfl <| a_storeW (H1 := [_]) 16 rfl rfl kR rfl ⟨by simp, by simp [hT]⟩ oneB <| s_n <| tk_seq <| s_r <| q_m rfl rfl <| s_q rfl (y_lss rfl rfl) <| s_n <| tk_condP rfl (fun h18 => ?_) (fun h18 => ?_)
    · exact tk_region <| tk_act rfl <| a_callv [_] _ rfl kR rfl (fun w' hw' => mix_spec b3 _ 210 w' sI (hw'.mem (mm 1 rfl))) rfl fun _ _ => s_n <| tk_region <| q_m rfl rfl <| q_m rfl rfl <| tk_act rfl <| a_callv [_] _ rfl kR rfl (fun w' hw' => add_spec kb b3 (r + 1) K _ 210 w' oM sI (hw'.ne (hk 0 oM) (fun h => h) (mm 1 rfl)) (fun j hj => hw'.fr.cell (hk j hj) (fun h => h)) (hw'.mem (mm 1 rfl))) rfl fun _ _ => tk_nil <| tk_in_normal <| tk_then <| tk_region <| q_m rfl rfl <| tk_qe (I ((r + 1 + 1 : Nat) : Int)) rfl rfl rfl (y_addI rfl rfl oM) sI <| q_a rfl rfl <| tk_nil <| tk_again (r + 1) oM oM sB (by simp only [turnTo]; (first | rw [if_pos oM] | rw [if_neg oM]); exact List.Sublist.refl _)
    · exact tk_skip <| tk_then <| tk_region <| q_m rfl rfl <| q_m rfl rfl <| tk_act rfl <| a_callv [_] _ rfl kR rfl (fun w' hw' => add_spec kb b3 (r + 1) K _ 210 w' oM sI (hw'.ne (hk 0 oM) (fun h => h) (mm 1 rfl)) (fun j hj => hw'.fr.cell (hk j hj) (fun h => h)) (hw'.mem (mm 1 rfl))) rfl fun _ _ => tk_nil <| tk_in_normal <| tk_then <| tk_region <| q_m rfl rfl <| tk_qe (I ((r + 1 + 1 : Nat) : Int)) rfl rfl rfl (y_addI rfl rfl oM) sI <| q_a rfl rfl <| tk_nil <| tk_again (r + 1) oM oM sB (by simp only [turnTo]; (first | rw [if_pos oM] | rw [if_neg oM]); exact List.Sublist.refl _)
  · refine tk_exit <| tk_then_exit <| tk_then_exit <| tk_in_hit <| tk_then <| s_r ?_
    obtain rfl : r = 14 := by omega
    have hT := turnTo_len (K := K) (r := 14) hV
    (first | refine s_q rfl (y_loadA 16 rfl kR (by simp [hV]) (hcw (.head _))) ?_ | refine s_q rfl (y_loadA 16 rfl kR (by simp [hV]) (hcw (mm 1 rfl))) ?_)
    exact tk_act rfl <| a_storeW (H1 := []) 16 rfl rfl kR rfl ⟨by simp [hT], by simp⟩ oneB <| s_n <| tk_retc <| tk_ret () trivial (.inl rfl) (rc rfl rfl (by simp [hT]; kernel_rfl) (hcw (.head _))) (List.nil_sublist _)
end Go.Proofs.YtnhpghhibcdklaaGreatDoor.Cip
set_option linter.unusedSimpArgs false
set_option linter.unusedVariables false
namespace Go.Proofs.YtnhpghhibcdklaaGreatDoor.Cip
open Go Go.RowKit
set_option maxRecDepth 100000
theorem tv_len {W : List UInt8} {n : Nat} {con : UInt8} (h : W.length = 240) (hn : n < 52) : (tv W n con).length = 4 := by
  simp only [tv]; split
  · rfl
  · split <;> simp [word_len h (show n + 7 < 60 by omega)]
set_option maxHeartbeats 1000000 in
theorem make_spec (ab ao cap : Nat) (b : List UInt8) (w : World) (hb : b.length = 32) (hcap : 32 ≤ cap) (hr : ∀ j, j < b.length → w.cell? ⟨ab, ao + j, none⟩ = some (B (b.getD j 0))) :
    Spec Tryz.prog 260 [.slice (some ⟨ab, ao, none⟩) 32 cap] w [] (fun _ : Nat => True) (fun kb => .tuple #[PT kb, I 0]) (fun kb => [cel kb ((keyW b).map B) 466]) := by
  refine spec_of (n := 110) Tryz.func260 rfl rfl trivial trivial rfl <| s_r <| q_a rfl rfl <| q_a rfl rfl <| s_n <| tk_seq <| s_r <| q_m rfl rfl <| s_q rfl (y_lenS rfl rfl) <| tk_qe (.bool false) rfl rfl rfl (y_neq rfl rfl) (bool_f oM) <| s_n <| tk_cond0 rfl <| tk_skip <| tk_then <| s_r <| s_q rfl (y_build (v := Ag (List.replicate 240 0)) (vs := []) rfl (fun _ => kR)) <| tk_act rfl <| a_boxL (cs := (List.replicate 240 0).map B) rfl rfl fun b15 => q_a rfl rfl <| s_n <| tk_seq <| s_r <| q_m rfl rfl <| s_q rfl (y_nilCheck rfl) ?_; refine s_q rfl (y_fld0 rfl kR) <| s_q rfl (y_cutAh (m := 60) (sz := 4) rfl rfl kR oM) <| s_q rfl (y_lenS rfl rfl) <| q_m rfl rfl <| s_n <| tk_block <| tk_loop (X := Nat) (fun i => i ≤ 8) (fun i => [(0, .slice (some ⟨ab, ao, none⟩) 32 cap), (4, PT b15), (20, I 8), (21, I (i : Int))]) (fun i => [cel b15 ((initTo b i).map B) 466]) (fun i => 8 - i) (0) oM sB (List.Sublist.refl _) ?_
  intro i hI
  refine s_r <| s_q rfl (y_lss rfl rfl) <| s_n <| tk_seq <| tk_condP rfl (fun h22 => ?_) (fun h22 => ?_)
  · refine tk_skip <| tk_then <| tk_seq <| tk_block <| s_r <| q_m rfl rfl <| q_a rfl rfl <| s_n <| tk_drawS [11] kR <| s_x 0 rfl (y_move rfl) <| s_x 1 rfl (y_move rfl) <| s_x 2 rfl (y_move rfl) <| s_x 3 rfl (y_move rfl) <| s_x 4 rfl (y_mulI rfl rfl oM) <| s_x 5 rfl ((y_cutSlN 1 (i * 4) rfl rfl kR oM).cast (v := _) (u := .slice (some ⟨ab, ao + i * 4, none⟩) (32 - i * 4) (cap - i * 4)) sI) <| s_x 6 rfl (y_s2a rfl rfl oM) <| s_l 7 rfl (fun _ h => h) (y_loadA 4 rfl kR (by simp [hb] <;> omega) (hroB (m := 4) hr (fun h => h))) <| s_x 8 rfl (y_nilCheck rfl) <| s_x 9 rfl (y_fld0 rfl kR) <| s_x 10 rfl ((y_ixAN 60 4 rfl rfl kR oM).cast (v := _) (u := .pointer (some ⟨b15, i * 4, none⟩)) (by congr 3 <;> omega)) <| tx_x 11 rfl kR rfl rfl <| a_storeL (H1 := []) 4 rfl rfl kR rfl (by simp [hb] <;> omega) oneB (by rw [List.length_map, initTo_len hb hI] <;> omega) <| tx_done kR <| tk_in_normal ?_; exact tk_then <| tk_region <| s_q rfl (y_addI rfl rfl oM) <| q_m rfl rfl <| tk_nil <| tk_again (i + 1) oM oM sB (by rw [initTo_succ hb oM]; simp only [List.map_append, List.map_take, List.map_drop]; exact List.Sublist.refl _)
  · refine tk_exit <| tk_then_exit <| tk_then_exit <| tk_in_hit <| tk_then <| s_r <| q_a rfl rfl <| s_n <| tk_seq <| s_r <| q_a rfl rfl <| s_n <| tk_block <| tk_loop (X := Nat) (fun n => n ≤ 52) (fun n => [(4, PT b15), (6, B (expW b n).2), (7, I ((n + 8 : Nat) : Int))]) (fun n => [cel b15 ((expW b n).1.map B) 466]) (fun n => 52 - n) (0) oM sB (by have e : i = 8 := oM; subst e; exact List.Sublist.refl _) ?_
    intro n hI
    refine tk_seq <| s_r <| q_m rfl rfl <| s_q rfl (y_lss rfl rfl) <| s_n <| tk_condP rfl (fun h37 => ?_) (fun h37 => ?_)
    · refine tk_skip <| tk_then <| tk_seq <| tk_block <| s_r <| q_m rfl rfl <| q_m rfl rfl <| tk_qe (I ((n + 7 : Nat) : Int)) rfl rfl rfl (y_subI rfl rfl oM) (by congr 1 <;> omega) <| s_q rfl (y_nilCheck rfl) <| s_q rfl (y_fld0 rfl kR) <| tk_qe (.pointer (some ⟨b15, (n + 7) * 4, none⟩)) rfl rfl rfl (y_ixAI 60 4 (n + 7) rfl rfl kR oM) (by congr 3 <;> omega) <| s_q rfl (y_loadA 4 rfl kR (by simp [hb] <;> omega) (hcsB (m := 4) (.head _))) <| tk_act rfl <| a_allocL (cs := (List.replicate 4 0).map B) kR rfl fun b8 => tk_act rfl <| a_storeW (H1 := []) 4 rfl rfl kR rfl ⟨by simp [hb] <;> omega, by simp⟩ oneB <| s_n <| tk_seqI (X := Unit) (fun _ => True) (fun _ => [(4, PT b15), (6, B (conN (expW b n).2 n)), (7, I ((n + 8 : Nat) : Int)), (8, PT b8)]) (fun _ => [cel b8 ((tv (expW b n).1 n (expW b n).2).map B) 463, cel b15 ((expW b n).1.map B) 466]) ?_ ?_
      · refine s_r <| q_m rfl rfl <| s_q rfl (y_remI rfl rfl oM) <| s_n <| tk_block <| s_r <| s_q rfl (y_eql rfl rfl) <| q_a rfl rfl <| s_n <| tk_condP rfl (fun h49 => ?_) (fun h49 => ?_)
        · refine tk_seq <| tk_drawS [19] kR ?_
          (first | refine s_x 1 rfl (y_ixA01 4 (i := 1) rfl rfl kR oM) ?_ | refine s_x 1 rfl (y_ixAN1 4 (i := 1) rfl rfl kR oM) ?_)
          refine s_l 2 rfl (fun _ h => h) (y_load rfl rfl (hc (.head _) (getB (by simp [word, hb] <;> omega)))) <| s_x 4 rfl (y_move rfl) ?_
          (first | refine s_x 7 rfl (y_ixA01 4 (i := 2) rfl rfl kR oM) ?_ | refine s_x 7 rfl (y_ixAN1 4 (i := 2) rfl rfl kR oM) ?_)
          refine s_l 8 rfl (fun _ h => h) (y_load rfl rfl (hc (.head _) (getB (by simp [word, hb] <;> omega)))) ?_
          (first | refine s_x 11 rfl (y_ixA01 4 (i := 3) rfl rfl kR oM) ?_ | refine s_x 11 rfl (y_ixAN1 4 (i := 3) rfl rfl kR oM) ?_)
          refine s_l 12 rfl (fun _ h => h) (y_load rfl rfl (hc (.head _) (getB (by simp [word, hb] <;> omega)))) ?_
          (first | refine s_x 15 rfl (y_ixA01 4 (i := 0) rfl rfl kR oM) ?_ | refine s_x 15 rfl (y_ixAN1 4 (i := 0) rfl rfl kR oM) ?_)
          refine s_l 16 rfl (fun _ h => h) (y_load rfl rfl (hc (.head _) (getB (by simp [word, hb] <;> omega)))) <| tx_a 0 rfl kR rfl <| a_callv [] _ rfl kR rfl (fun w' hw' => forward_spec w') rfl fun _ _ => tk_S (fun _ h => h) <| s_x 3 rfl (y_ixV rfl rfl rfl rfl (fun _ => kR) (ixb _) getF) <| s_x 5 rfl (y_xor8 rfl rfl) <| tx_a 6 rfl kR rfl <| a_callv [] _ rfl kR rfl (fun w' hw' => forward_spec w') rfl fun _ _ => tk_S (fun _ h => h) <| s_x 9 rfl (y_ixV rfl rfl rfl rfl (fun _ => kR) (ixb _) getF) <| tx_a 10 rfl kR rfl <| a_callv [] _ rfl kR rfl (fun w' hw' => forward_spec w') rfl fun _ _ => tk_S (fun _ h => h) <| s_x 13 rfl (y_ixV rfl rfl rfl rfl (fun _ => kR) (ixb _) getF) <| tx_a 14 rfl kR rfl <| a_callv [] _ rfl kR rfl (fun w' hw' => forward_spec w') rfl fun _ _ => tk_S (fun _ h => h) <| s_x 17 rfl (y_ixV rfl rfl rfl rfl (fun _ => kR) (ixb _) getF) <| s_x 18 rfl (y_build (v := Ag (tvA (word (expW b n).1 (n + 7)) (expW b n).2)) rfl (fun _ => kR)) <| tx_x 19 rfl kR rfl rfl <| a_storeW (H1 := []) 4 rfl rfl kR rfl ⟨by simp [tvA], by simp [word, hb] <;> omega⟩ oneB <| tx_done kR <| tk_then <| tk_region ?_; refine q_m rfl rfl <| s_q rfl (y_shl8 (m := 1) rfl rfl dC) <| tk_qe (B (conN (expW b n).2 n)) rfl rfl rfl (y_assign rfl) (by rw [conN, if_pos oM]) <| tk_nil <| tk_in_normal <| tk_to () trivial ⟨rfl, ?_, rfl, rfl, trivial⟩ ?_
          · (first | rfl | (simp only [conN]; rw [if_pos oM]; rfl) | (simp only [conN]; rw [if_neg oM]; rfl))
          · (simp only [tv]; first | (rw [if_neg oM, if_pos oM]; have e : j = 4 := oM; subst e; exact List.Sublist.refl _) | (rw [if_pos oM]; exact List.Sublist.refl _) | (rw [if_neg oM, if_pos oM]; exact List.Sublist.refl _) | (rw [if_neg oM, if_neg oM]; exact List.Sublist.refl _))
        · refine s_r <| s_q rfl (y_eql rfl rfl) <| q_a rfl rfl <| s_n <| tk_condP rfl (fun h72 => ?_) (fun h72 => ?_)
          · refine s_r <| q_m rfl rfl <| s_n <| tk_block <| tk_loop (X := Nat) (fun j => j ≤ 4) (fun j => [(4, PT b15), (6, B (expW b n).2), (7, I ((n + 8 : Nat) : Int)), (8, PT b8), (74, I (j : Int))]) (fun j => [cel b8 ((subTo (word (expW b n).1 (n + 7)) j).map B) 463, cel b15 ((expW b n).1.map B) 466]) (fun j => 4 - j) (0) oM sB (List.Sublist.refl _) ?_
            intro j hI2
            refine s_r <| s_q rfl (y_lss rfl rfl) <| s_n <| tk_seq <| tk_condP rfl (fun h75 => ?_) (fun h75 => ?_)
            · refine tk_skip <| tk_then <| tk_seq <| tk_block <| s_r <| q_m rfl rfl <| q_a rfl rfl <| s_n <| tk_drawS [7] kR <| s_x 0 rfl (y_move rfl) <| s_x 2 rfl (y_move rfl) ?_
              (first | refine s_x 3 rfl (y_ixA01 4 rfl rfl kR oM) ?_ | refine s_x 3 rfl (y_ixAN1 4 rfl rfl kR oM) ?_)
              refine s_l 4 rfl (fun _ h => h) (y_load rfl rfl (hc (.head _) (getB (by simp [word, hb] <;> omega)))) <| tx_a 1 rfl kR rfl <| a_callv [] _ rfl kR rfl (fun w' hw' => forward_spec w') rfl fun _ _ => tk_S (fun _ h => h) <| s_x 5 rfl (y_ixV rfl rfl rfl rfl (fun _ => kR) (ixb _) getF) ?_
              (first | refine s_x 6 rfl (y_ixA01 4 rfl rfl kR oM) ?_ | refine s_x 6 rfl (y_ixAN1 4 rfl rfl kR oM) ?_)
              refine tx_x 7 rfl kR rfl rfl ?_; (first | refine a_store1B (H1 := []) rfl rfl kR rfl (by simp [word, hb] <;> omega) ?_ | refine a_store1B (H1 := [_]) rfl rfl kR rfl (by simp [word, hb] <;> omega) ?_); exact tx_done kR <| tk_in_normal <| tk_then <| tk_region <| s_q rfl (y_addI rfl rfl oM) <| q_m rfl rfl <| tk_nil <| tk_again (j + 1) oM oM sB (List.Sublist.refl _)
            · refine tk_exit <| tk_then_exit <| tk_then_exit <| tk_in_hit <| tk_in_normal <| tk_to () trivial ⟨rfl, ?_, rfl, rfl, trivial⟩ ?_
              · (first | rfl | (simp only [conN]; rw [if_pos oM]; rfl) | (simp only [conN]; rw [if_neg oM]; rfl))
              · (simp only [tv]; first | (rw [if_neg oM, if_pos oM]; have e : j = 4 := oM; subst e; exact List.Sublist.refl _) | (rw [if_pos oM]; exact List.Sublist.refl _) | (rw [if_neg oM, if_pos oM]; exact List.Sublist.refl _) | (rw [if_neg oM, if_neg oM]; exact List.Sublist.refl _))
          · refine tk_skip <| tk_in_normal <| tk_to () trivial ⟨rfl, ?_, rfl, rfl, trivial⟩ ?_
            · (first | rfl | (simp only [conN]; rw [if_pos oM]; rfl) | (simp only [conN]; rw [if_neg oM]; rfl))
            · (simp only [tv]; first | (rw [if_neg oM, if_pos oM]; have e : j = 4 := oM; subst e; exact List.Sublist.refl _) | (rw [if_pos oM]; exact List.Sublist.refl _) | (rw [if_neg oM, if_pos oM]; exact List.Sublist.refl _) | (rw [if_neg oM, if_neg oM]; exact List.Sublist.refl _))
      · intro _ _
        refine s_r <| q_m rfl rfl <| s_n <| tk_block <| tk_loop (X := Nat) (fun j => j ≤ 4) (fun j => [(4, PT b15), (6, B (conN (expW b n).2 n)), (7, I ((n + 8 : Nat) : Int)), (8, PT b8), (85, I (j : Int))]) (fun j => [cel b8 ((tv (expW b n).1 n (expW b n).2).map B) 463, cel b15 ((putTo (expW b n).1 n (tv (expW b n).1 n (expW b n).2) j).map B) 466]) (fun j => 4 - j) (0) oM sB (List.Sublist.refl _) ?_
        intro j hI2
        refine s_r <| s_q rfl (y_lss rfl rfl) <| s_n <| tk_seq <| tk_condP rfl (fun h86 => ?_) (fun h86 => ?_)
        · refine tk_skip <| tk_then <| tk_seq <| tk_block <| s_r <| q_m rfl rfl <| q_a rfl rfl <| s_n <| tk_drawS [20] kR <| s_x 0 rfl (y_move rfl) <| s_x 1 rfl (y_move rfl) <| s_x 2 rfl (y_move rfl) <| s_x 3 rfl (y_move rfl) <| s_x 4 rfl (y_move rfl) <| s_x 5 rfl (y_subI rfl rfl oM) <| s_x 6 rfl (y_move rfl) <| s_x 7 rfl (y_nilCheck rfl) <| s_x 8 rfl (y_fld0 rfl kR) <| s_x 9 rfl ((y_ixAI 60 4 n rfl rfl kR oM).cast (v := _) (u := .pointer (some ⟨b15, n * 4, none⟩)) (by congr 3 <;> omega)) ?_
          (first | refine s_x 10 rfl (y_ixA01 4 rfl rfl kR oM) ?_ | refine s_x 10 rfl (y_ixAN1 4 rfl rfl kR oM) ?_)
          refine s_l 11 rfl (fun _ h => h) (y_load rfl rfl (hc (mm 1 rfl) (getB (by simp [hb] <;> omega)))) <| s_x 12 rfl (y_move rfl) ?_
          (first | refine s_x 13 rfl (y_ixA01 4 rfl rfl kR oM) ?_ | refine s_x 13 rfl (y_ixAN1 4 rfl rfl kR oM) ?_)
          refine s_l 14 rfl (fun _ h => h) (y_load rfl rfl (hc (.head _) (getB (by rw [tv_len (expW_len hb) oM] <;> omega)))) <| s_x 15 rfl (y_xor8 rfl rfl) <| s_x 16 rfl (y_nilCheck rfl) <| s_x 17 rfl (y_fld0 rfl kR) <| s_x 18 rfl ((y_ixAN 60 4 rfl rfl kR oM).cast (v := _) (u := .pointer (some ⟨b15, (n + 8) * 4, none⟩)) (by congr 3 <;> omega)) ?_
          (first | refine s_x 19 rfl (y_ixA01 4 rfl rfl kR oM) ?_ | refine s_x 19 rfl (y_ixAN1 4 rfl rfl kR oM) ?_)
          exact tx_x 20 rfl kR rfl rfl <| a_store1B (H1 := [_]) rfl rfl kR rfl (by simp [hb] <;> omega) <| tx_done kR <| tk_in_normal <| tk_then <| tk_region <| s_q rfl (y_addI rfl rfl oM) <| q_m rfl rfl <| tk_nil <| tk_again (j + 1) oM oM sB (List.Sublist.refl _)
        · exact tk_exit <| tk_then_exit <| tk_then_exit <| tk_in_hit <| tk_in_normal <| tk_then <| tk_region <| q_m rfl rfl <| tk_qe (I ((n + 1 + 8 : Nat) : Int)) rfl rfl rfl (y_addI rfl rfl oM) (by congr 1 <;> omega) <| q_a rfl rfl <| tk_nil <| tk_again (n + 1) oM oM sB (by have e : j = 4 := oM; subst e; exact List.Sublist.cons _ (List.Sublist.refl _))
    · refine tk_exit <| tk_then_exit <| tk_then_exit <| tk_in_hit <| tk_then <| s_r ?_
      obtain rfl : n = 52 := by omega
      exact q_m rfl rfl <| q_a rfl rfl <| q_a rfl rfl <| s_n <| tk_retc <| tk_ret b15 trivial (.inl rfl) (r2 rfl rfl rfl) (List.Sublist.refl _)
end Go.Proofs.YtnhpghhibcdklaaGreatDoor.Cip
set_option linter.unusedSimpArgs false
set_option linter.unusedVariables false
namespace Go.Proofs.YtnhpghhibcdklaaGreatDoor.Cip
open Go Go.RowKit
set_option maxRecDepth 100000
theorem list16 {l : List UInt8} (h : l.length = 16) : ∃ a0 a1 a2 a3 a4 a5 a6 a7 a8 a9 a10 a11 a12 a13 a14 a15, l = [a0, a1, a2, a3, a4, a5, a6, a7, a8, a9, a10, a11, a12, a13, a14, a15] := by
  match l, h with
  | [a0, a1, a2, a3, a4, a5, a6, a7, a8, a9, a10, a11, a12, a13, a14, a15], _ => exact ⟨a0, a1, a2, a3, a4, a5, a6, a7, a8, a9, a10, a11, a12, a13, a14, a15, rfl⟩
def flowCs (kb : Nat) (N : List UInt8) (a : Int) : List Value := PT kb :: (N.map B ++ [I a])
theorem begin_spec (kb : Nat) (N : List UInt8) (w : World) (hN : N.length = 16) :
    Spec Tryz.prog 261 [PT kb, Ag N] w [] (fun _ : Nat => True) (fun fb => .tuple #[PT fb, I 0]) (fun fb => [cel fb (flowCs kb N 0) 414]) := by
  obtain ⟨a0, a1, a2, a3, a4, a5, a6, a7, a8, a9, a10, a11, a12, a13, a14, a15, rfl⟩ := list16 hN
  refine spec_of (n := 12) Tryz.func261 rfl rfl trivial trivial rfl <| s_r <| tk_act rfl <| a_boxL rfl rfl fun b3 => q_a rfl rfl <| q_a rfl rfl <| s_n <| tk_seq <| s_r <| q_m rfl rfl <| tk_qe (.bool false) rfl rfl rfl (y_pnil rfl rfl rfl) (rfl) <| s_n <| tk_cond0 rfl <| tk_skip <| tk_then <| s_r <| q_m rfl rfl <| s_q rfl (y_loadA 16 rfl kR (by rfl) (hcw (.head _))) <| s_q rfl (y_build (v := .agg (flowCs kb [a0, a1, a2, a3, a4, a5, a6, a7, a8, a9, a10, a11, a12, a13, a14, a15] 0).toArray) rfl (fun _ => kR)) <| tk_act rfl <| a_boxL rfl rfl fun b11 => q_a rfl rfl <| q_a rfl rfl <| s_n ?_; exact tk_retc <| tk_ret b11 trivial (.inl rfl) (r2 rfl rfl rfl) (List.Sublist.cons_cons _ (List.nil_sublist _))
theorem hroA {c : Cx} {H : List Res} {b q : Nat} {l : List UInt8} (h0 : ∀ j, j < l.length → c.w0.cell? ⟨b, q + j, none⟩ = some (B (l.getD j 0))) (hE : ¬ c.E b) : ∀ w, St c w H → ∀ (j : Nat) (u : Value), (l.map B)[j]? = some u → w.cell? ((⟨b, q, none⟩ : Addr).add j) = some u := fun w hw j u hj => by
  rw [add_w]
  rw [List.getElem?_map] at hj
  cases hl : l[j]? with
  | none => rw [hl] at hj; cases hj
  | some a =>
    rw [hl] at hj; cases hj
    have := hw.fr.cell (h0 j (List.getElem?_eq_some_iff.1 hl).1) hE
    rw [List.getD_eq_getElem?_getD, hl] at this
    exact this
set_option maxHeartbeats 400000 in
theorem block_spec (fb kb n : Nat) (K N : List UInt8) (w : World) (hN : N.length = 16) (hn : n < 2 ^ 63) (hf0 : w.cell? ⟨fb, 0, none⟩ = some (PT kb)) (hfn : ∀ j, j < N.length → w.cell? ⟨fb, 1 + j, none⟩ = some (B (N.getD j 0)))
    (hk : ∀ j, j < 240 → w.cell? ⟨kb, j, none⟩ = some (B (K.getD j 0))) :
    Spec Tryz.prog 262 [PT fb, I (n : Int)] w [] (fun _ : Unit => True) (fun _ => Ag (turn K (plus N n))) (fun _ => []) := by
  refine spec_of (n := 40) Tryz.func262 rfl rfl trivial trivial rfl <| s_r <| tk_act rfl <| a_allocL (cs := (List.replicate 16 0).map B) kR rfl fun b4 => s_n <| s_r <| q_m rfl rfl <| s_q rfl (y_nilCheck rfl) <| tk_qe (.pointer (some ⟨fb, 1, none⟩)) rfl rfl rfl (y_fldN 1 rfl kR) (rfl) <| s_q rfl (y_loadA 16 rfl kR (by simp [hN]) (hroA hfn (fun h => h))) <| tk_act rfl <| a_allocL (cs := (List.replicate 16 0).map B) kR rfl fun b5 => tk_act rfl <| a_storeW (H1 := []) 16 rfl rfl kR rfl ⟨by simp [hN], by simp⟩ oneB <| s_n <| s_r <| q_m rfl rfl <| s_q rfl (y_convi64 rfl rfl rfl (wrap_u64 oM)) <| q_a rfl rfl <| s_n <| tk_seqI (X := Unit) (fun _ => True) (fun _ => [(0, PT fb), (4, PT b4), (5, PT b5)]) (fun _ => [cel b5 ((plus N n).map B) 210, cel b4 ((List.replicate 16 0).map B) 210]) ?_ ?_
  · refine s_r <| q_a rfl rfl <| s_n <| tk_block <| tk_loop (X := Nat) (fun k => k ≤ 16) (fun k => [(0, PT fb), (4, PT b4), (5, PT b5), (6, .int .u64 ((plusTo N n k).2 : Int)), (7, I (15 - (k : Int)))]) (fun k => [cel b5 ((plusTo N n k).1.map B) 210, cel b4 ((List.replicate 16 0).map B) 210]) (fun k => 16 - k) (0) oM sB (List.Sublist.refl _) ?_
    intro k hI
    have hcr := plusTo_lt (N := N) (n := n) (k := k) hn
    have hb8 := b_lt ((plusTo N n k).1.getD (15 - k) 0)
    refine tk_seq <| s_r <| q_m rfl rfl <| tk_qs rfl rfl rfl (y_geq rfl rfl) (fun hs4_1 => ?_) (fun hs4_1 => ?_)
    · refine q_m rfl rfl <| s_g rfl (y_move rfl) <| tk_gqs rfl rfl rfl (y_gtr rfl rfl) (fun hs4_4 => ?_) (fun hs4_4 => ?_)
      · refine s_q rfl (y_pick1 rfl rfl) <| s_n <| tk_cond1 rfl <| tk_skip <| tk_then <| tk_seq <| tk_block <| s_r <| q_m rfl rfl <| q_m rfl rfl <| s_q rfl (y_ixA0I 16 (15 - k) rfl rfl kR oM) <| s_q rfl (y_load rfl rfl (hc (.head _) (getB (by simp [hN] <;> omega)))) <| s_q rfl (y_convi64 rfl rfl rfl (wrap_u64 oM)) <| s_q rfl (y_addU rfl rfl oM) <| q_a rfl rfl <| s_n <| s_r <| q_m rfl rfl <| q_m rfl rfl <| s_q rfl (y_convi8 rfl rfl rfl) <| s_q rfl (y_ixA0I 16 (15 - k) rfl rfl kR oM) <| tk_act rfl ?_; (first | refine a_store1B (H1 := []) rfl rfl kR rfl (by simp [hN] <;> omega) ?_ | refine a_store1B (H1 := [_]) rfl rfl kR rfl (by simp [hN] <;> omega) ?_); refine s_n <| tk_region <| q_m rfl rfl <| s_q rfl (y_shrN (m := 8) rfl rfl dC) <| q_a rfl rfl <| tk_nil <| tk_in_normal <| tk_then <| tk_region <| q_m rfl rfl <| tk_qe (I (15 - ((k + 1 : Nat) : Int))) rfl rfl rfl (y_subI rfl rfl oM) (by congr 1; omega) <| q_a rfl rfl <| tk_nil <| tk_again (k + 1) oM oM ⟨rfl, rfl, rfl, ?_, rfl, trivial⟩ ?_
        · simp only [plusTo]; rw [if_neg oM]; rfl
        · simp only [plusTo]; rw [if_neg oM]; exact List.Sublist.refl _
      · refine s_q rfl (y_pick1 rfl rfl) <| s_n <| tk_cond0 rfl <| tk_exit <| tk_then_exit <| tk_then_exit <| tk_in_hit <| tk_to () trivial sB (by rw [plus_at (k := k) oM oM]; exact List.Sublist.refl _)
    · refine q_m rfl rfl <| tk_gno rfl rfl rfl <| tk_gno rfl rfl rfl <| s_q rfl (y_pick0 rfl rfl) <| s_n <| tk_cond0 rfl <| tk_exit <| tk_then_exit <| tk_then_exit <| tk_in_hit <| tk_to () trivial sB (by rw [plus_at (k := k) oM oM]; exact List.Sublist.refl _)
  · intro _ _
    refine tk_seq <| tk_drawS [5, 6] kR <| s_x 0 rfl (y_move rfl) <| s_x 1 rfl (y_nilCheck rfl) <| s_x 2 rfl (y_fld0 rfl kR) <| s_l 3 rfl (fun _ h => h) (y_load rfl rfl (hro hf0 (fun h => h))) ?_
    (first | refine s_l 4 rfl (fun _ h => h) (y_loadA 16 rfl kR (by simp [hN]) (hcw (.head _))) ?_ | refine s_l 4 rfl (fun _ h => h) (y_loadA 16 rfl kR (by simp [hN]) (hcw (mm 1 rfl))) ?_)
    exact tx_x 5 rfl kR rfl rfl <| a_callv [] _ rfl kR rfl (fun w' hw' => turn_spec kb K _ w' (by simp [hN]) (fun j hj => hw'.fr.cell (hk j hj) (fun h => h))) rfl fun _ _ => tx_x 6 rfl kR rfl rfl <| a_storeW (H1 := [_]) 16 rfl rfl kR rfl ⟨by simp [hN], by simp⟩ oneB <| tx_done kR <| tk_then <| tk_retc <| tk_ret () trivial (.inl rfl) (rc rfl rfl (by simp [hN]; kernel_rfl) (hcw (mm 1 rfl))) (List.nil_sublist _)
end Go.Proofs.YtnhpghhibcdklaaGreatDoor.Cip
set_option linter.unusedSimpArgs false
set_option linter.unusedVariables false
namespace Go.Proofs.YtnhpghhibcdklaaGreatDoor.Cip
open Go Go.RowKit
set_option maxRecDepth 100000
attribute [local irreducible] turn plus keyW hideL
theorem el5 : elB Tryz.prog 64 5 1 1 := ⟨kR, _, .int .u8 0, rfl, kR, rfl, kR, kR, Nat.one_pos⟩
theorem fl17 {kb : Nat} {N : List UInt8} {a : Int} (h : N.length = 16) : (flowCs kb N a)[17]? = some (I a) := by
  simp [flowCs, List.getElem?_append_right, h]
theorem flN {kb : Nat} {N : List UInt8} {a : Int} {j : Nat} (hj : j < N.length) : (flowCs kb N a)[1 + j]? = some (B (N.getD j 0)) := by
  rw [Nat.add_comm]; simp [flowCs, List.getElem?_append_left, hj, List.getD_eq_getElem?_getD]
theorem fl_set {kb : Nat} {N : List UInt8} {a b : Int} (h : N.length = 16) : (flowCs kb N a).set 17 (I b) = flowCs kb N b := by
  simp [flowCs, List.set_append, h]
theorem take_snoc {l : List UInt8} {j : Nat} {x : UInt8} (h : l[j]? = some x) : l.take (j + 1) = l.take j ++ [x] := by rw [List.take_add_one, h]; rfl
theorem len_snoc {l : List UInt8} {x : UInt8} : (l ++ [x]).length = l.length + 1 := by simp
theorem own_snoc {v : Value} {K N : List UInt8} {a : Nat} {l : List UInt8} {x : UInt8} {e : TypeId} :
    ownB v (hideL K N a (l ++ [x])) e = own v ((hideL K N a l).length + 1) ((hideL K N a l).map B ++ [B (x ^^^ flowB K N (a + l.length))]) e 1 := by
  simp only [ownB, hideL_snoc, List.length_append, List.map_append]; rfl
set_option maxHeartbeats 1000000 in
theorem hide_spec (fb kb a : Nat) (K N : List UInt8) (v : Value) (Ps : List (Value × List UInt8)) (w : World) (hN : N.length = 16) (hfl : (cel fb (flowCs kb N a) 414).holds w) (hkb : kb ≠ fb)
    (hk : ∀ j, j < 240 → w.cell? ⟨kb, j, none⟩ = some (B (K.getD j 0))) (hps : RdS w v (Ps.map Prod.fst)) (hpe : Ps = [] ∨ (adOf v).block ≠ fb) (hpr : ∀ p ∈ Ps, RdB w p.1 p.2 ∧ (p.2 = [] ∨ (adOf p.1).block ≠ fb))
    (ha : a < 2 ^ 61) (hb : (Ps.flatMap Prod.snd).length < 2 ^ 46) (hpl : Ps.length < 2 ^ 61) :
    Spec Tryz.prog 188 [PT fb, v] w [cel fb (flowCs kb N a) 414] (fun _ : Value => True) (fun vo => vo)
      (fun vo => [ownB vo (hideL K N a (Ps.flatMap Prod.snd)) 5, cel fb (flowCs kb N ((a + (Ps.flatMap Prod.snd).length : Nat) : Int)) 414]) := by
  refine spec_of (n := 62) Tryz.func188 rfl rfl ⟨hfl, trivial⟩ ⟨fun _ _ h => h, trivial⟩ rfl <| s_r <| q_a rfl rfl <| s_n <| tk_seq <| s_r <| q_m rfl rfl <| tk_qe (.bool false) rfl rfl rfl (y_pnil rfl rfl rfl) (rfl) <| s_n <| tk_cond0 rfl <| tk_skip <| tk_then <| s_r <| q_a rfl rfl <| s_n <| s_r <| s_q rfl (y_build (v := Ag (List.replicate 16 0)) (vs := []) rfl (fun _ => kR)) <| tk_act rfl <| a_allocL (cs := (List.replicate 16 0).map B) kR rfl fun b6 => tk_act rfl <| a_storeW (H1 := []) 16 rfl rfl kR rfl ⟨by simp, by simp⟩ oneB <| q_a rfl rfl <| s_n <| tk_seq ?_; refine s_r <| tk_own0 5 <| tk_perm (H' := [cel b6 ((List.replicate 16 0).map B) 210, own (.slice none 0 0) 0 [] 5 1, cel fb (flowCs kb N a) 414]) (List.Perm.swap _ _ _) <| q_m rfl rfl <| tk_qe (I (Ps.length : Int)) rfl rfl rfl (y_lenR rfl hps rfl) (by rw [List.length_map]) <| q_m rfl rfl <| s_n <| tk_block <| tk_loop (X := Nat × Value × Int × List UInt8) (fun x => x.1 ≤ Ps.length ∧ x.2.2.2.length = 16 ∧ (x.2.2.1 = -1 ∨ ∃ q : Nat, x.2.2.1 = (q : Int) ∧ x.2.2.2 = turn K (plus N q))) (fun x => [(0, PT fb), (5, x.2.1), (6, PT b6), (7, I x.2.2.1), (16, v), (17, I (Ps.length : Int)), (18, I (x.1 : Int))]) (fun x => [cel b6 ((x.2.2.2).map B) 210, ownB x.2.1 (hideL K N a ((Ps.take x.1).flatMap Prod.snd)) 5, cel fb (flowCs kb N ((a + ((Ps.take x.1).flatMap Prod.snd).length : Nat) : Int)) 414]) (fun x => Ps.length - x.1) ((0, .slice none 0 0, -1, List.replicate 16 0)) (⟨Nat.zero_le _, by simp, .inl rfl⟩) sB (by show List.Sublist [_, ownB (.slice none 0 0) (hideL K N a []) 5, _] _; rw [hideL_nil]; exact List.Sublist.refl _) ?_
  rintro ⟨i, vo, hv, sb⟩ ⟨hi, hsl, hq⟩
  dsimp only at hi hsl hq ⊢
  refine s_r <| s_q rfl (y_lss rfl rfl) <| s_n <| tk_seq <| tk_condP rfl (fun h19 => ?_) (fun h19 => ?_)
  · obtain ⟨p, hp⟩ : ∃ p, Ps[i]? = some p := ⟨_, List.getElem?_eq_getElem oM⟩
    have hpm := hpr p (List.mem_of_getElem? hp)
    have hfl2 := flat_le hp
    refine tk_skip <| tk_then <| tk_seq <| tk_block <| s_r <| s_q rfl (y_ixR rfl rfl hps (by rw [List.length_map]; omega) kR) <| s_q rfl (y_load rfl rfl (hrd hps (u := p.1) (by rw [List.getElem?_map, hp]; rfl) (fun h => (hpe.resolve_left (fun e => by rw [e] at hp; cases hp)) (h.resolve_right id)))) ?_; refine q_a rfl rfl <| s_n <| s_r <| q_m rfl rfl <| tk_qe (I (p.2.length : Int)) rfl rfl rfl (y_lenR rfl hpm.1 rfl) (by rw [List.length_map]) <| q_m rfl rfl <| s_n <| tk_block <| tk_loop (X := Nat × Value × Int × List UInt8) (fun x => x.1 ≤ p.2.length ∧ x.2.2.2.length = 16 ∧ (x.2.2.1 = -1 ∨ ∃ q : Nat, x.2.2.1 = (q : Int) ∧ x.2.2.2 = turn K (plus N q))) (fun x => [(0, PT fb), (5, x.2.1), (6, PT b6), (7, I x.2.2.1), (16, v), (17, I (Ps.length : Int)), (18, I (i : Int)), (22, p.1), (23, I (p.2.length : Int)), (24, I (x.1 : Int))]) (fun x => [cel b6 ((x.2.2.2).map B) 210, ownB x.2.1 (hideL K N a (((Ps.take i).flatMap Prod.snd) ++ p.2.take x.1)) 5, cel fb (flowCs kb N ((a + (((Ps.take i).flatMap Prod.snd) ++ p.2.take x.1).length : Nat) : Int)) 414]) (fun x => p.2.length - x.1) ((0, vo, hv, sb)) (⟨Nat.zero_le _, hsl, hq⟩) sB (by simp only [List.take_zero, List.append_nil]; exact List.Sublist.refl _) ?_
    clear hsl hq
    rintro ⟨j, vo, hv, sb⟩ ⟨hj, hsl, hq⟩
    dsimp only at hj hsl hq ⊢
    generalize hqq : a + (((Ps.take i).flatMap Prod.snd) ++ p.2.take j).length = q
    refine s_r <| s_q rfl (y_lss rfl rfl) <| s_n <| tk_seq <| tk_condP rfl (fun h25 => ?_) (fun h25 => ?_)
    · obtain ⟨x0, hx0⟩ : ∃ x0, p.2[j]? = some x0 := ⟨_, List.getElem?_eq_getElem oM⟩
      have hql : (((Ps.take i).flatMap Prod.snd) ++ p.2.take j).length = ((Ps.take i).flatMap Prod.snd).length + j := by rw [List.length_append, List.length_take, Nat.min_eq_left oM]
      refine tk_skip <| tk_then <| tk_seq <| tk_block <| s_r <| s_q rfl (y_ixR rfl rfl hpm.1 (by rw [List.length_map]; omega) kR) <| s_q rfl (y_load rfl rfl (hrd hpm.1 (u := B x0) (by rw [List.getElem?_map, hx0]; rfl) (fun h => (hpm.2.resolve_left (fun e => by rw [e] at hx0; cases hx0)) (h.resolve_right id)))) ?_; refine q_a rfl rfl <| s_n ?_; refine tk_seqI (X := Unit) (fun _ => True) (fun _ => [(0, PT fb), (5, vo), (6, PT b6), (7, I ((q / 16 : Nat) : Int)), (16, v), (17, I (Ps.length : Int)), (18, I (i : Int)), (22, p.1), (23, I (p.2.length : Int)), (24, I (j : Int)), (11, B x0)]) (fun _ => [cel b6 ((turn K (plus N (q / 16))).map B) 210, ownB vo (hideL K N a (((Ps.take i).flatMap Prod.snd) ++ p.2.take j)) 5, cel fb (flowCs kb N (q : Int)) 414]) ?_ ?_
      · refine s_r <| q_m rfl rfl <| s_q rfl (y_nilCheck rfl) <| s_q rfl (y_fldN 17 rfl kR) <| s_q rfl (y_load rfl rfl (hc (mm 2 rfl) (fl17 hN))) <| s_q rfl (y_quoN (b := 16) rfl rfl oM) <| q_a rfl rfl <| s_n <| s_r <| q_m rfl rfl <| q_m rfl rfl <| s_q rfl (y_neq rfl rfl) <| s_n <| tk_condP rfl (fun h35 => ?_) (fun h35 => ?_)
        · exact tk_region <| q_m rfl rfl <| q_m rfl rfl <| tk_act rfl <| a_callv [] _ rfl kR rfl (fun w' hw' => block_spec fb kb (q / 16) K N w' hN oM (cel_cell (hw'.mem (mm 2 rfl)) rfl) (fun j hj => cel_cell (hw'.mem (mm 2 rfl)) (flN hj)) (fun j hj => hw'.fr.cell (hk j hj) (fun h => hkb (h.resolve_right id)))) rfl fun _ _ => q_m rfl rfl <| tk_act rfl <| a_storeW (H1 := []) 16 rfl rfl kR rfl ⟨by simp [hN], by simp [hsl]⟩ oneB <| q_a rfl rfl <| tk_nil <| tk_to () trivial sB (List.Sublist.refl _)
        · refine tk_skip ?_
          rcases hq with hq | ⟨q', hq, hq2⟩
          · exfalso; omega
          · have hq1 : q' = q / 16 := by omega
            exact tk_to () trivial ⟨rfl, rfl, rfl, by show some (I hv) = _; rw [hq, hq1], rfl, rfl, rfl, rfl, rfl, rfl, rfl, trivial⟩ (by rw [hq2, hq1]; exact List.Sublist.refl _)
      · intro _ _
        refine s_r <| q_m rfl rfl <| q_m rfl rfl <| q_m rfl rfl <| s_q rfl (y_nilCheck rfl) <| s_q rfl (y_fldN 17 rfl kR) <| s_q rfl (y_load rfl rfl (hc (mm 2 rfl) (fl17 hN))) <| s_q rfl (y_remN (b := 16) rfl rfl oM) ?_
        (first | refine s_q rfl (y_ixA01 16 rfl rfl kR oM) ?_ | refine s_q rfl (y_ixAN1 16 rfl rfl kR oM) ?_)
        refine s_q rfl (y_load rfl rfl (hc (.head _) (getB (by simp [hN]; omega)))) <| s_q rfl (y_xor8 rfl rfl) <| tk_act rfl <| a_slit1 rfl rfl el5 rfl fun b50 => tk_act rfl <| a_append (H1 := [_, _]) (news := [_]) rfl rfl el5 rfl rfl rfl (hcw (.head _)) (by simp [Value.oneCell']) (by simp only [hideL_len]; omega) fun vo2 => q_a rfl rfl <| s_n <| tk_region <| q_m rfl rfl <| s_q rfl (y_nilCheck rfl) <| s_q rfl (y_fldN 17 rfl kR) <| s_q rfl (y_load rfl rfl (hc (mm 3 rfl) (fl17 hN))) <| tk_qe (I ((q + 1 : Nat) : Int)) rfl rfl rfl (y_addI rfl rfl oM) (by congr 1 <;> omega) <| s_q rfl (y_nilCheck rfl) <| s_q rfl (y_fldN 17 rfl kR) <| tk_act rfl <| a_store1 (H1 := [_, _, _]) rfl rfl kR rfl rfl (by simp [flowCs, hN]) <| tk_nil <| tk_in_normal <| tk_then <| tk_region <| tk_qe (I ((j + 1 : Nat) : Int)) rfl rfl rfl (y_addI rfl rfl oM) (by congr 1 <;> omega) <| q_m rfl rfl ?_; exact tk_nil <| tk_again (j + 1, vo2, ((q / 16 : Nat) : Int), turn K (plus N (q / 16))) ⟨by show j + 1 ≤ p.2.length; omega, turn_len (by rw [plus_len]; exact hN), .inr ⟨q / 16, rfl, rfl⟩⟩ (by show p.2.length - (j + 1) < p.2.length - j; omega) sB (by dsimp only; rw [take_snoc hx0, ← List.append_assoc, own_snoc, len_snoc, ← Nat.add_assoc, hqq, ← fl_set hN (a := (q : Int))]; exact List.Sublist.cons _ (List.Sublist.refl _))
    · obtain rfl : j = p.2.length := by omega
      subst hqq
      rw [List.take_length, ← flat_succ hp]
      exact tk_exit <| tk_then_exit <| tk_then_exit <| tk_in_hit <| tk_in_normal <| tk_then <| tk_region <| tk_qe (I ((i + 1 : Nat) : Int)) rfl rfl rfl (y_addI rfl rfl oM) (by congr 1 <;> omega) <| q_m rfl rfl <| tk_nil <| tk_again (i + 1, vo, hv, sb) ⟨by show i + 1 ≤ Ps.length; omega, hsl, hq⟩ (by show Ps.length - (i + 1) < Ps.length - i; omega) sB (List.Sublist.refl _)
  · obtain rfl : i = Ps.length := by omega
    rw [List.take_length]
    exact tk_exit <| tk_then_exit <| tk_then_exit <| tk_in_hit <| tk_then <| s_r <| q_m rfl rfl <| q_a rfl rfl <| s_n <| tk_retc <| tk_ret vo trivial (.inl rfl) (r1 rfl rfl) (List.Sublist.cons _ (List.Sublist.refl _))
end Go.Proofs.YtnhpghhibcdklaaGreatDoor.Cip
set_option linter.unusedSimpArgs false
set_option linter.unusedVariables false
namespace Go.Proofs.YtnhpghhibcdklaaGreatDoor.Cip
open Go Go.RowKit
set_option maxRecDepth 100000
theorem makeR_spec (v : Value) (b : List UInt8) (w : World) (hb : b.length = 32) (hR : RdB w v b) :
    Spec Tryz.prog 260 [v] w [] (fun _ : Nat => True) (fun kb => .tuple #[PT kb, I 0]) (fun kb => [cel kb ((keyW b).map B) 466]) := by
  rcases hR with ⟨_, h0⟩ | ⟨ad, cap, rfl, hc, hr⟩
  · have := congrArg List.length h0; simp [hb] at this
  · rw [List.length_map] at hc ⊢
    rw [hb] at hc ⊢
    have hget : ∀ j, j < b.length → w.cell? (ad.add j) = some (B (b.getD j 0)) := fun j hj => hr j _ (getB hj)
    obtain ⟨ab, ao, sp⟩ := ad
    have hsp : sp = none := by
      have h0 := hget 0 oM
      cases sp with
      | none => rfl
      | some q =>
        exfalso
        simp only [Addr.add, if_true, World.cell?, Option.isSome_some] at h0
        split at h0 <;> cases h0
    subst hsp
    exact make_spec ab ao cap b w hb hc (fun j hj => by have := hget j hj; rwa [add_w] at this)
def bb : Nat → List UInt8
  | 0 => List.replicate 16 0
  | k + 1 => (bb k).set (k % 16) (UInt8.ofNat (17 * (k % 16)))
attribute [local irreducible] turn plus keyW hideL
end Go.Proofs.YtnhpghhibcdklaaGreatDoor.Cip
set_option linter.unusedSimpArgs false
set_option linter.unusedVariables false
namespace Go.Proofs.YtnhpghhibcdklaaGreatDoor
open Go Go.RowKit
set_option maxRecDepth 100000
attribute [local irreducible] hidL markL sealL sealF openF keyedL Cip.keyW Cip.hideL
theorem hide_ro {fb kb : Nat} {hk N : List UInt8} {v : Value} {ps : List Sb} {L : List UInt8} {w : World} (hk32 : hk.length = 32) (hN : N.length = 16) (hv : Ro (Fs [cel fb (Cip.flowCs kb N (0 : Int)) 414, cel kb ((Cip.keyW hk).map B) 466]) w (rd v (ps.map Prod.fst)))
    (hp : ∀ p ∈ ps, Ro (Fs [cel fb (Cip.flowCs kb N (0 : Int)) 414, cel kb ((Cip.keyW hk).map B) 466]) w (rdB p.1 p.2)) (hL : ps.flatMap Prod.snd = L) (hb : L.length < 70368744177664) (hn : ps.length < 70368744177664)
    (hh : Pre w [cel fb (Cip.flowCs kb N (0 : Int)) 414, cel kb ((Cip.keyW hk).map B) 466]) :
    Spec Tryz.prog 188 [PT fb, v] w [cel fb (Cip.flowCs kb N (0 : Int)) 414, cel kb ((Cip.keyW hk).map B) 466] (fun _ : Value => True) (fun vo => vo) (fun vo => [ownB vo (hidL hk N L) 5]) := by
  subst hL
  have hne : kb ≠ fb := fun e => hh.2.1 fb rfl (.inl e.symm)
  have hs := Cip.hide_spec fb kb 0 (Cip.keyW hk) N v ps w hN hh.1.1 hne (fun j hj => cel_cell hh.1.2.1 (getB (by rw [Cip.keyW_len hk32]; exact hj))) hv.1 (by
    cases ps with
    | nil => exact .inl rfl
    | cons p ps => exact .inr fun e => hv.2 fb ⟨by simp, e⟩ (.inl rfl)) (fun p hp0 => ⟨(hp p hp0).1, by
      cases hl : p.2 with
      | nil => exact .inl rfl
      | cons a l => exact .inr fun e => (hp p hp0).2 fb ⟨by rw [hl]; simp, e⟩ (.inl rfl)⟩) dC oM oM
  rw [hidL_def] at hs
  exact (Spec.frame (F := [cel kb ((Cip.keyW hk).map B) 466]) hs hh).less (fun vo => .cons_cons _ (List.nil_sublist _))
theorem flow_spec {hk mk N : List UInt8} {nv : Value} {w : World} (hn : Ro (Fs []) w (rdB nv N)) (hk32 : hk.length = 32) (hN : N.length = 16) :
    Spec Tryz.prog 187 [.agg (hk.map B ++ (mk.map B)).toArray, nv] w [] (fun _ : Nat × Nat => True) (fun x => .tuple #[PT x.1, I 0])
      (fun x => [cel x.1 (Cip.flowCs x.2 N (0 : Int)) 414, cel x.2 ((Cip.keyW hk).map B) 466]) := by
  refine spec_of (n := 24) Tryz.func187 rfl rfl trivial trivial rfl <| s_r <| tk_act rfl <| a_boxL (cs := hk.map B ++ (mk.map B)) rfl rfl fun b2 => q_a rfl rfl <| q_a rfl rfl <| s_n <| s_r <| s_q rfl (y_fld0 (o := 0) rfl kR) <| s_q rfl (y_cutA (m := 32) (sz := 1) rfl kR) <| tk_act rfl <| a_callv [] _ rfl kR rfl (fun w' hw' => Cip.makeR_spec _ hk w' lenP ((Ro.cel (H0 := []) (b := b2) (o := 0) (m := 32) (cp := 32) (vs := hk.map B) hw' (.head _) (dsW1) lQ lenP)).1) rfl fun k11 _ => q_m rfl rfl <| s_q rfl (y_extract rfl rfl) <| s_q rfl (y_extract rfl rfl) <| q_a rfl rfl <| q_a rfl rfl <| s_n <| tk_seq <| s_r <| q_m rfl rfl <| s_q rfl ((y_neq rfl rfl).cast (bool_f dC)) <| s_n <| tk_cond0 rfl ?_; exact tk_skip <| tk_then <| s_r <| q_m rfl rfl <| q_m rfl rfl <| s_q rfl (y_s2aR (l := N) rfl rfl hn.1 lenP) <| s_q rfl (y_loadA 16 rfl kR lenP (fun w hw => rd_take (l := N) (m := 16) ((fun w hw => Ro.rd hn hw) w hw) lenP)) <| tk_re 20 (.agg ((N.take 16).map B).toArray) (.agg (N.map B).toArray) rfl (by rw [List.take_of_length_le oM]) <| tk_act rfl <| a_callv [] _ rfl kR rfl (fun w' hw' => Cip.begin_spec k11 N w' lenP) rfl fun f21 _ => s_q rfl (y_extract rfl rfl) <| s_q rfl (y_extract rfl rfl) <| q_a rfl rfl <| q_a rfl rfl <| s_n <| tk_retc <| tk_ret ((f21, k11)) (trivial) (.inl rfl) (r2 rfl rfl rfl) (.cons_cons _ (.cons_cons _ (List.nil_sublist _)))
theorem mark_spec {hk mk name N h : List UInt8} {kind : UInt8} {nv hv : Value} {w : World} (hn : Ro (Fs []) w (rdB nv N)) (hh : Ro (Fs []) w (rdB hv h)) (h2 : hk.length = 32 ∧ mk.length = 32) (hg : Ro (Fs []) w glob) (hb : name.length < 4294967296 ∧ N.length < 4294967296 ∧ h.length < 4294967296) :
    Spec Tryz.prog 189 [.agg (hk.map B ++ (mk.map B)).toArray, B kind, Str name, nv, hv] w [] (fun _ : Unit => True) (fun _ => Ag (markL mk kind name N h)) (fun _ => []) := by
  obtain ⟨hk32, mk32⟩ := h2
  refine spec_of (n := 24) Tryz.func189 rfl rfl trivial trivial rfl <| s_r <| tk_act rfl <| a_boxL (cs := hk.map B ++ (mk.map B)) rfl rfl fun b5 => tk_act rfl <| a_allocL (cs := (List.replicate 32 0).map B) kR rfl fun b10 => s_n <| s_r <| s_q rfl (y_fldN (o := 0) 32 rfl kR) <| s_q rfl (y_cutA (m := 32) (sz := 1) rfl kR) <| q_m rfl rfl <| q_m rfl rfl <| s_q rfl (y_lenStr (l := name) rfl rfl) <| s_q rfl (y_convi8 (m := name.length) rfl rfl rfl) <| tk_act rfl <| a_slitN (vs := [B kind, B (UInt8.ofNat name.length)]) rfl (List.forall_mem_cons.2 ⟨rfl, (List.forall_mem_cons.2 ⟨rfl, (fun _ h => nomatch h)⟩)⟩) (EL64) rfl rfl dC fun b17 => q_m rfl rfl <| tk_act rfl <| a_s2bO (l := name) rfl rfl rfl rfl rfl (by simp only [maxLen]; first | omega | (simp; done) | (simp; omega)) fun v19 => tk_own1 (.head _) fun hfv19 => q_m rfl rfl <| q_m rfl rfl <| tk_act rfl <| a_slitN (vs := [.slice (some ⟨b17, 0, none⟩) 2 2, v19, nv, hv]) rfl (List.forall_mem_cons.2 ⟨rfl, (List.forall_mem_cons.2 ⟨(RdS.one hfv19.choose_spec), (List.forall_mem_cons.2 ⟨(RdS.one hn.1), (List.forall_mem_cons.2 ⟨(RdS.one hh.1), (fun _ h => nomatch h)⟩)⟩)⟩)⟩) (EL208) rfl rfl dC fun b22 => ?_; exact tk_act rfl <| a_callv [] _ rfl kR rfl (fun w' hw' => keyed_spec (k := mk) (ps := [(.slice (some ⟨b17, 0, none⟩) 2 2, [kind, UInt8.ofNat name.length]), (v19, name), (nv, N), (hv, h)]) (L := [kind, UInt8.ofNat name.length] ++ name ++ N ++ h) (Ro.cel (H0 := []) (b := b5) (o := 32) (m := 32) (cp := 32) (vs := mk.map B) hw' (mm 4 rfl) (dsA (k := 32) (i := 0) (by rw [List.length_map]; exact hk32) oM (dsW)) lQ lenP) (Ro.cel (vs := [.slice (some ⟨b17, 0, none⟩) 2 2, v19, nv, hv]) hw' (.head _) rS rfl dC) (List.forall_mem_cons.2 ⟨(Ro.cel (H0 := []) (b := b17) (o := 0) (m := 2) (cp := 2) (vs := [kind, UInt8.ofNat name.length].map B) hw' (mm 2 rfl) (rfl) lQ lenP), (List.forall_mem_cons.2 ⟨(Ro.own (H0 := []) hw' (mm 1 rfl)), (List.forall_mem_cons.2 ⟨(Ro.call (H0 := []) hn hw'), (List.forall_mem_cons.2 ⟨(Ro.call (H0 := []) hh hw'), (fun _ h => nomatch h)⟩)⟩)⟩)⟩) sI ⟨lenP, lenP, lenP⟩ (hg.call hw')) rfl fun _ _ => tk_re 23 (.agg ((keyedL mk ([kind, UInt8.ofNat name.length] ++ name ++ N ++ h)).map B).toArray) (.agg ((markL mk kind name N h).map B).toArray) rfl (by rw [markL_def]) <| tk_act rfl <| a_storeW (H1 := [_, _, _]) (vs := (markL mk kind name N h).map B) 32 rfl rfl kR rfl ⟨lenP, lenP⟩ oneB <| s_n <| tk_retc <| tk_ret (()) (trivial) (.inl rfl) (rc (vs := (markL mk kind name N h).map B) rfl rfl (by simp; kernel_rfl) (hcw (mm 3 rfl))) (List.nil_sublist _)
theorem seal_spec {hk mk name N L : List UInt8} {kind : UInt8} {v : Value} {ps : List Sb} {w : World} (h3 : hk.length = 32 ∧ mk.length = 32 ∧ N.length = 16) (hv : Ro (Fs []) w (rd v (ps.map Prod.fst))) (hp : ∀ p ∈ ps, Ro (Fs []) w (rdB p.1 p.2)) (hL : ps.flatMap Prod.snd = L)
    (hb : name.length < 4294967296 ∧ L.length < 4294967296 ∧ ps.length < 4294967296) (hg : Ro (Fs []) w glob) :
    Spec Tryz.prog 103 [.agg (hk.map B ++ (mk.map B)).toArray, B kind, Str name, Ag N, v] w [] (fun _ : Value => True) (fun vo => .tuple #[vo, I (((sealF hk mk kind name N L).2 : Nat) : Int)]) (fun vo => [ownB vo (sealF hk mk kind name N L).1 5]) := by
  refine spec_of (n := 60) Tryz.func103 rfl rfl trivial trivial rfl ?_
  obtain ⟨hk32, mk32, hN⟩ := h3
  have hLl : (ps.flatMap Prod.snd).length = L.length := by rw [hL]
  refine s_r <| tk_act rfl <| a_boxL (cs := hk.map B ++ (mk.map B)) rfl rfl fun b5 => tk_act rfl <| a_boxL (cs := N.map B) rfl rfl fun b8 => q_a rfl rfl <| q_a rfl rfl <| s_n <| tk_seq <| s_r <| q_m rfl rfl <| s_q rfl (y_lenStr (l := name) rfl rfl) <| s_q rfl (y_gtr rfl rfl) <| s_n <| tk_condP rfl (fun ht21 => ?_) (fun ht21 => ?_)
  · exact s_r <| q_a rfl rfl <| q_a rfl rfl <| s_n <| tk_retc <| tk_then_ret <| tk_ownM0 (f := B) 5 <| tk_R (H1 := []) rfl (show ownB (.slice none 0 0) [] 5 = ownB (.slice none 0 0) ((sealF hk mk kind name N L).1) 5 from ownM_cast (by rw [sealF_name oM])) <| tk_re 11 (I 5) (I (((sealF hk mk kind name N L).2 : Nat) : Int)) rfl (by rw [sealF_name oM]; rfl) <| tk_ret (.slice none 0 0) (trivial) (.inl rfl) (r2 rfl rfl rfl) (.cons_cons _ (List.nil_sublist _))
  · refine tk_skip <| tk_then <| s_r <| q_a rfl rfl <| s_n <| tk_seq <| s_r <| q_m rfl rfl <| s_q rfl (y_lenRN (n' := ps.length) rfl hv.1 rfl (by first | rfl | (rw [List.length_map]; omega) | simp)) <| q_m rfl rfl <| s_n <| tk_block <| tk_loop (X := Nat) (fun j => j ≤ ps.length ∧ ((ps.take j).flatMap Prod.snd).length ≤ 1048576) (fun j => [(1, B kind), (2, Str name), (4, v), (5, PT b5), (8, PT b8), (12, I ((1048576 - ((ps.take j).flatMap Prod.snd).length : Nat) : Int)), (22, v), (23, IN ps.length), (24, IN j)]) (fun j => [cel b8 (N.map B) 210, cel b5 (hk.map B ++ (mk.map B)) 45]) (fun j => ps.length - j) (0) (⟨Nat.zero_le _, by simp⟩) sB ((List.Sublist.refl _)) ?_
    rintro j hI
    try dsimp only at hI ⊢
    refine s_r <| s_q rfl (y_lss rfl rfl) <| s_n <| tk_seq <| tk_condP rfl (fun ht25 => ?_) (fun ht25 => ?_)
    · refine tk_skip <| tk_then <| tk_seq <| tk_block <| s_r <| s_q rfl (y_ixR (j := j) rfl rfl hv.1 lenP kR) <| s_q rfl (y_load rfl rfl (fun w hw => ((fun w hw => Ro.rd hv hw) w hw).cell (gM (f := Prod.fst) (d := dP) lenP))) <| q_a rfl rfl <| s_n <| tk_seq <| s_r ?_
      have hfl := flat_le (ps := ps) (i := j) oM
      refine q_m rfl rfl <| s_q rfl (y_lenRN (n' := ((ps.getD j dP).2).length) rfl (hp _ (getD_mem lenP)).1 rfl (by first | rfl | (rw [List.length_map]; omega) | simp)) <| q_m rfl rfl <| s_q rfl (y_gtr rfl rfl) <| s_n <| tk_condP rfl (fun ht31 => ?_) (fun ht31 => ?_)
      · exact s_r <| q_a rfl rfl <| q_a rfl rfl <| s_n <| tk_retc <| tk_then_ret <| tk_in_ret <| tk_then_ret <| tk_then_ret <| tk_in_ret <| tk_then_ret <| tk_ownM0 (f := B) 5 <| tk_R (H1 := []) rfl (show ownB (.slice none 0 0) [] 5 = ownB (.slice none 0 0) ((sealF hk mk kind name N L).1) 5 from ownM_cast (by rw [sealF_big oM oM])) <| tk_re 11 (I 4) (I (((sealF hk mk kind name N L).2 : Nat) : Int)) rfl (by rw [sealF_big oM oM]; rfl) <| tk_ret (.slice none 0 0) (trivial) (.inl rfl) (r2 rfl rfl rfl) (.cons_cons _ (List.nil_sublist _))
      · exact tk_skip <| tk_then <| tk_region <| q_m rfl rfl <| q_m rfl rfl <| s_q rfl (y_lenRN (n' := ((ps.getD j dP).2).length) rfl (hp _ (getD_mem lenP)).1 rfl (by first | rfl | (rw [List.length_map]; omega) | simp)) <| s_q rfl (y_subN (a := 1048576 - ((ps.take j).flatMap Prod.snd).length) (b := ((ps.getD j dP).2).length) rfl rfl oM) <| q_a rfl rfl <| tk_nil <| tk_in_normal <| tk_then <| tk_region <| s_q rfl (y_addN (a := j) (b := 1) rfl rfl oM) <| q_m rfl rfl <| tk_nil <| tk_re 12 (I (((1048576 - ((ps.take j).flatMap Prod.snd).length) - (((ps.getD j dP).2).length) : Nat) : Int)) (I ((1048576 - ((ps.take (j + 1)).flatMap Prod.snd).length : Nat) : Int)) rfl (by rw [flat_snoc (d := dP) oM, List.length_append]; congr 2; omega) <| tk_again (j + 1) (⟨by omega, by rw [flat_snoc (d := dP) oM, List.length_append]; omega⟩) oM sB (List.Sublist.refl _)
    · have hok : ¬ 1048576 < L.length := by have h := hI.2; rw [List.take_of_length_le oM] at h; omega
      refine tk_exit <| tk_then_exit <| tk_then_exit <| tk_in_hit <| tk_then <| tk_seq <| tk_drawH [cel b8 (N.map B) 210, cel b5 (hk.map B ++ (mk.map B)) 45] [] kR <| s_l 0 rfl (fun _ h => h) (y_loadA 64 rfl kR lenP (hcw (mm 1 rfl))) <| s_x 1 rfl (y_cutA (m := 16) (sz := 1) rfl kR) <| tx_a 2 rfl kR rfl <| a_callv [] _ rfl kR rfl (fun w' hw' => flow_spec (hk := hk) (mk := mk) (N := N) (Ro.cel (H0 := []) (b := b8) (o := 0) (m := 16) (cp := 16) (vs := N.map B) hw' (.head _) (dsW) lQ lenP) lenP lenP) rfl fun ⟨f40, k40⟩ _ => tk_S (fun _ h => kD 2 rfl h) <| s_x 3 rfl (y_move rfl) <| s_x 4 rfl (y_extract rfl rfl) <| s_x 5 rfl (y_extract rfl rfl) <| s_x 6 rfl (y_assign rfl) <| s_x 7 rfl (y_assign rfl) <| tx_done kR <| tk_then <| tk_seq <| s_r <| q_m rfl rfl <| s_q rfl ((y_neq rfl rfl).cast (bool_f dC)) <| s_n ?_; refine tk_cond0 rfl <| tk_skip <| tk_then <| s_r <| q_m rfl rfl <| q_m rfl rfl <| tk_act rfl <| a_callv [] _ rfl kR rfl (fun w' hw' => hide_ro (hk := hk) (N := N) (ps := ps) (L := L) hk32 hN (Ro.call hv hw') (fun p hp0 => (hp p hp0).call hw') hL lenP lenP (St.pre hw')) rfl fun v48 _ => q_a rfl rfl <| s_n <| tk_seq <| tk_drawH [ownB v48 (hidL hk N L) 5, cel b8 (N.map B) 210, cel b5 (hk.map B ++ (mk.map B)) 45] [] kR <| s_l 0 rfl (fun _ h => h) (y_loadA 64 rfl kR lenP (hcw (mm 2 rfl))) <| s_x 1 rfl (y_move rfl) <| s_x 2 rfl (y_move rfl) <| s_x 3 rfl (y_cutA (m := 16) (sz := 1) rfl kR) <| s_x 4 rfl (y_move rfl) <| tx_all (is := [5, 6]) kR rfl ⟨⟨_, rfl, rfl, ?_⟩, ⟨_, rfl, rfl, ?_⟩, trivial⟩
      · refine a_callv [] _ rfl kR rfl (fun w' hw' => mark_spec (hk := hk) (mk := mk) (kind := kind) (name := name) (N := N) (h := hidL hk N L) (Ro.cel (H0 := []) (b := b8) (o := 0) (m := 16) (cp := 16) (vs := N.map B) hw' (mm 1 rfl) (dsW) lQ lenP) (Ro.own (H0 := []) hw' (.head _)) ⟨lenP, lenP⟩ (hg.call hw') ⟨lenP, lenP, lenP⟩) rfl fun _ _ => tk_S (fun _ h => h) <| tx_a 6 rfl kR rfl <| a_allocL (cs := (List.replicate 32 0).map B) kR rfl fun b18 => tk_S (fun _ h => kD 1 rfl h) <| tx_a 7 rfl kR rfl <| a_storeW (H1 := []) (vs := (markL mk kind name N (hidL hk N L)).map B) 32 rfl rfl kR rfl ⟨lenP, lenP⟩ oneB <| tk_S (fun _ h => kD 1 rfl h) <| tx_done kR <| tk_then <| tk_seq <| tk_drawH [cel b18 ((markL mk kind name N (hidL hk N L)).map B) 28, ownB v48 (hidL hk N L) 5, cel b5 (hk.map B ++ (mk.map B)) 45] [] kR <| s_x 0 rfl (y_cutA (m := 16) (sz := 1) rfl kR) <| s_x 1 rfl (y_move rfl) <| s_x 3 rfl (y_cutA (m := 32) (sz := 1) rfl kR) <| tk_celM (H1 := [_, _]) (f := B) (l := N) (T := 5) rfl hN dC <| tx_a 2 rfl kR rfl <| a_appM (H1 := [_, _]) (f := B) (l := N) (m := hidL hk N L) rfl rfl EL64 rfl rfl (fun w hw => own_rdS (hw.mem (mm 1 rfl))) (fun _ => rfl) ⟨lenP, lenP⟩ fun v57 => tk_own1 (mm 2 rfl) fun hfv57 => tk_S (fun _ h => kT [0, 0] 1 rfl h) <| tx_a 4 rfl kR rfl <| a_appM (H1 := [_, _]) (f := B) (l := N ++ (hidL hk N L)) (m := markL mk kind name N (hidL hk N L)) rfl rfl EL64 rfl rfl (fun w hw => cel_rdE (o := 0) (m := 32) (cp := 32) (vs := (markL mk kind name N (hidL hk N L)).map B) (hw.mem (.head _)) (dsW) lQ lenP) (fun _ => rfl) ⟨lenP, lenP⟩ fun v59 => tk_own1 (mm 2 rfl) fun hfv59 => tk_S (fun _ h => kT [0, 0] 1 rfl h) ?_; exact s_x 5 rfl (y_assign rfl) <| s_x 6 rfl (y_assign rfl) <| tx_done kR <| tk_then <| tk_retc <| tk_R (H1 := [_, _]) rfl (show ownB v59 ((N ++ (hidL hk N L)) ++ (markL mk kind name N (hidL hk N L))) 5 = ownB v59 ((sealF hk mk kind name N L).1) 5 from ownM_cast (by rw [sealF_ok oM hok]; exact sealL_def)) <| tk_re 11 (I 0) (I (((sealF hk mk kind name N L).2 : Nat) : Int)) rfl (by rw [sealF_ok oM hok]; rfl) <| tk_ret (v59) (trivial) (.inl rfl) (r2 rfl rfl rfl) (.cons _ (.cons _ (.cons_cons _ (List.nil_sublist _))))
      · refine a_allocL (cs := (List.replicate 32 0).map B) kR rfl fun b18 => tk_S (fun _ h => kD 1 rfl h) <| tx_a 5 rfl kR rfl <| a_callv [] _ rfl kR rfl (fun w' hw' => mark_spec (hk := hk) (mk := mk) (kind := kind) (name := name) (N := N) (h := hidL hk N L) (Ro.cel (H0 := []) (b := b8) (o := 0) (m := 16) (cp := 16) (vs := N.map B) hw' (mm 2 rfl) (dsW) lQ lenP) (Ro.own (H0 := []) hw' (mm 1 rfl)) ⟨lenP, lenP⟩ (hg.call hw') ⟨lenP, lenP, lenP⟩) rfl fun _ _ => tk_S (fun _ h => kD 1 rfl h) <| tx_a 7 rfl kR rfl <| a_storeW (H1 := []) (vs := (markL mk kind name N (hidL hk N L)).map B) 32 rfl rfl kR rfl ⟨lenP, lenP⟩ oneB <| tk_S (fun _ h => kD 1 rfl h) <| tx_done kR <| tk_then <| tk_seq <| tk_drawH [cel b18 ((markL mk kind name N (hidL hk N L)).map B) 28, ownB v48 (hidL hk N L) 5, cel b5 (hk.map B ++ (mk.map B)) 45] [] kR <| s_x 0 rfl (y_cutA (m := 16) (sz := 1) rfl kR) <| s_x 1 rfl (y_move rfl) <| s_x 3 rfl (y_cutA (m := 32) (sz := 1) rfl kR) <| tk_celM (H1 := [_, _]) (f := B) (l := N) (T := 5) rfl hN dC <| tx_a 2 rfl kR rfl <| a_appM (H1 := [_, _]) (f := B) (l := N) (m := hidL hk N L) rfl rfl EL64 rfl rfl (fun w hw => own_rdS (hw.mem (mm 1 rfl))) (fun _ => rfl) ⟨lenP, lenP⟩ fun v57 => tk_own1 (mm 2 rfl) fun hfv57 => tk_S (fun _ h => kT [0, 0] 1 rfl h) <| tx_a 4 rfl kR rfl <| a_appM (H1 := [_, _]) (f := B) (l := N ++ (hidL hk N L)) (m := markL mk kind name N (hidL hk N L)) rfl rfl EL64 rfl rfl (fun w hw => cel_rdE (o := 0) (m := 32) (cp := 32) (vs := (markL mk kind name N (hidL hk N L)).map B) (hw.mem (.head _)) (dsW) lQ lenP) (fun _ => rfl) ⟨lenP, lenP⟩ fun v59 => tk_own1 (mm 2 rfl) fun hfv59 => tk_S (fun _ h => kT [0, 0] 1 rfl h) ?_; exact s_x 5 rfl (y_assign rfl) <| s_x 6 rfl (y_assign rfl) <| tx_done kR <| tk_then <| tk_retc <| tk_R (H1 := [_, _]) rfl (show ownB v59 ((N ++ (hidL hk N L)) ++ (markL mk kind name N (hidL hk N L))) 5 = ownB v59 ((sealF hk mk kind name N L).1) 5 from ownM_cast (by rw [sealF_ok oM hok]; exact sealL_def)) <| tk_re 11 (I 0) (I (((sealF hk mk kind name N L).2 : Nat) : Int)) rfl (by rw [sealF_ok oM hok]; rfl) <| tk_ret (v59) (trivial) (.inl rfl) (r2 rfl rfl rfl) (.cons _ (.cons _ (.cons_cons _ (List.nil_sublist _))))
theorem open_spec {hk mk name b : List UInt8} {kind : UInt8} {bv : Value} {w : World} (h2 : hk.length = 32 ∧ mk.length = 32) (hb : Ro (Fs []) w (rdB bv b)) (h3 : name.length < 4294967296 ∧ b.length < 4611686018427387904) (hg : Ro (Fs []) w glob) :
    Spec Tryz.prog 122 [.agg (hk.map B ++ (mk.map B)).toArray, B kind, Str name, bv] w [] (fun _ : Value => True) (fun vo => .tuple #[vo, I (((openF hk mk kind name b).2 : Nat) : Int)]) (fun vo => [ownB vo (openF hk mk kind name b).1 5]) := by
  refine spec_of (n := 64) Tryz.func122 rfl rfl trivial trivial rfl ?_
  obtain ⟨hk32, mk32⟩ := h2
  refine s_r <| tk_act rfl <| a_boxL (cs := hk.map B ++ (mk.map B)) rfl rfl fun b4 => q_a rfl rfl <| q_a rfl rfl <| s_n <| tk_seq <| tk_block <| s_r <| q_m rfl rfl <| s_q rfl (y_lenStr (l := name) rfl rfl) <| s_q rfl (y_gtr rfl rfl) <| q_a rfl rfl <| s_n <| tk_condP rfl (fun ht16 => ?_) (fun ht16 => ?_)
  · exact s_r <| q_a rfl rfl <| q_a rfl rfl <| s_n <| tk_retc <| tk_in_ret <| tk_then_ret <| tk_ownM0 (f := B) 5 <| tk_R (H1 := []) rfl (show ownB (.slice none 0 0) [] 5 = ownB (.slice none 0 0) ((openF hk mk kind name b).1) 5 from ownM_cast (by rw [openF_name oM])) <| tk_re 9 (I 5) (I (((openF hk mk kind name b).2 : Nat) : Int)) rfl (by rw [openF_name oM]; rfl) <| tk_ret (.slice none 0 0) (trivial) (.inl rfl) (r2 rfl rfl rfl) (.cons_cons _ (List.nil_sublist _))
  · refine s_r <| q_m rfl rfl <| s_q rfl (y_lenRN (n' := b.length) rfl hb.1 rfl (by first | rfl | (rw [List.length_map]; omega) | simp)) <| tk_qs rfl rfl rfl (y_lss rfl rfl) (fun hs3_2 => ?_) (fun hs3_2 => ?_)
    · exact q_m rfl rfl <| tk_gno rfl rfl rfl <| tk_gno rfl rfl rfl <| tk_gno rfl rfl rfl <| tk_gno rfl rfl rfl <| s_q rfl (y_pick1 rfl rfl) <| q_a rfl rfl <| s_n <| tk_cond1 rfl <| s_r <| q_a rfl rfl <| q_a rfl rfl <| s_n <| tk_retc <| tk_in_ret <| tk_then_ret <| tk_ownM0 (f := B) 5 <| tk_R (H1 := []) rfl (show ownB (.slice none 0 0) [] 5 = ownB (.slice none 0 0) ((openF hk mk kind name b).1) 5 from ownM_cast (by rw [openF_len oM oM])) <| tk_re 9 (I 10) (I (((openF hk mk kind name b).2 : Nat) : Int)) rfl (by rw [openF_len oM oM]; rfl) <| tk_ret (.slice none 0 0) (trivial) (.inl rfl) (r2 rfl rfl rfl) (.cons_cons _ (List.nil_sublist _))
    · refine q_m rfl rfl <| s_g rfl (y_move rfl) <| s_g rfl (y_lenRN (n' := b.length) rfl hb.1 rfl (by first | rfl | (rw [List.length_map]; omega) | simp)) <| s_g rfl (y_subN (a := b.length) (b := 48) rfl rfl oM) <| s_g rfl (y_gtr rfl rfl) <| s_q rfl (y_pick0 rfl rfl) <| q_a rfl rfl <| s_n <| tk_condP rfl (fun ht20 => ?_) (fun ht20 => ?_)
      · exact s_r <| q_a rfl rfl <| q_a rfl rfl <| s_n <| tk_retc <| tk_in_ret <| tk_then_ret <| tk_ownM0 (f := B) 5 <| tk_R (H1 := []) rfl (show ownB (.slice none 0 0) [] 5 = ownB (.slice none 0 0) ((openF hk mk kind name b).1) 5 from ownM_cast (by rw [openF_len oM oM])) <| tk_re 9 (I 10) (I (((openF hk mk kind name b).2 : Nat) : Int)) rfl (by rw [openF_len oM oM]; rfl) <| tk_ret (.slice none 0 0) (trivial) (.inl rfl) (r2 rfl rfl rfl) (.cons_cons _ (List.nil_sublist _))
      · refine tk_skip <| tk_in_normal <| tk_then <| s_r <| q_m rfl rfl <| s_q rfl (y_lenRN (n' := b.length) rfl hb.1 rfl (by first | rfl | (rw [List.length_map]; omega) | simp)) <| s_q rfl (y_subN (a := b.length) (b := 32) rfl rfl oM) <| q_a rfl rfl <| s_n <| tk_seq <| tk_drawH [cel b4 (hk.map B ++ (mk.map B)) 45] [] kR <| s_x 0 rfl (y_move rfl) <| s_x 1 rfl (y_cutRBh (l := b) 16 rfl rfl hb.1 kR lenP rfl) <| s_x 2 rfl (y_move rfl) <| s_x 3 rfl (y_move rfl) <| s_x 4 rfl (y_cutRBlh (l := b) 16 (b.length - 32) rfl rfl rfl hb.1 kR ⟨lenP, lenP⟩ rfl rfl) <| s_x 5 rfl (y_assign rfl) <| s_x 6 rfl (y_assign rfl) <| tx_done kR <| tk_then <| tk_seq <| s_r <| s_q rfl (y_loadA 64 rfl kR lenP (hcw (.head _))) <| q_m rfl rfl ?_; refine q_m rfl rfl <| q_m rfl rfl <| q_m rfl rfl <| tk_act rfl <| a_callv [] _ rfl kR rfl (fun w' hw' => mark_spec (hk := hk) (mk := mk) (kind := kind) (name := name) (N := b.take 16) (h := (b.drop 16).take ((b.length - 32) - 16)) (Ro.cutBh (Ro.call (H0 := []) hb hw') (hi := 16) lenP) (Ro.cutB (Ro.call (H0 := []) hb hw') (lo := 16) (hi := b.length - 32) ⟨lenP, lenP⟩) ⟨lenP, lenP⟩ (hg.call hw') ⟨lenP, lenP, lenP⟩) rfl fun _ _ => tk_act rfl <| a_allocL (cs := (List.replicate 32 0).map B) kR rfl fun b13 => tk_act rfl <| a_storeW (H1 := []) (vs := (markL mk kind name (b.take 16) ((b.drop 16).take ((b.length - 32) - 16))).map B) 32 rfl rfl kR rfl ⟨lenP, lenP⟩ oneB <| s_n <| tk_seq <| tk_drawH [cel b13 ((markL mk kind name (b.take 16) ((b.drop 16).take ((b.length - 32) - 16))).map B) 28, cel b4 (hk.map B ++ (mk.map B)) 45] [] kR <| s_x 0 rfl (y_cutA (m := 32) (sz := 1) rfl kR) <| s_x 1 rfl (y_move rfl) <| s_x 2 rfl (y_move rfl) <| s_x 3 rfl (y_cutRBl (l := b) (b.length - 32) rfl rfl hb.1 kR lenP rfl) <| tx_a 4 rfl kR rfl <| a_slitN (vs := [cutR bv (b.length - 32) b.length]) rfl (List.forall_mem_cons.2 ⟨(RdS.one (RdS.cutBl hb.1 (lo := b.length - 32) lenP)), (fun _ h => nomatch h)⟩) (EL208) rfl rfl dC fun b48 => tk_S (fun _ h => kD 1 rfl h) <| tx_more [cel b48 ([cutR bv (b.length - 32) b.length]) 64, cel b13 ((markL mk kind name (b.take 16) ((b.drop 16).take ((b.length - 32) - 16))).map B) 28, cel b4 (hk.map B ++ (mk.map B)) 45] (fun _ h => kD 1 rfl h) (fun _ h => h) <| tx_a 5 rfl kR rfl <| a_callv [] _ rfl kR rfl (fun w' hw' => same1_spec (l := markL mk kind name (b.take 16) ((b.drop 16).take ((b.length - 32) - 16))) (m := b.drop (b.length - 32)) (u2 := cutR bv (b.length - 32) b.length) (Ro.cel (H0 := []) (b := b13) (o := 0) (m := 32) (cp := 32) (vs := (markL mk kind name (b.take 16) ((b.drop 16).take ((b.length - 32) - 16))).map B) hw' (mm 1 rfl) (dsW) lQ lenP) (Ro.cel (vs := [cutR bv (b.length - 32) b.length]) hw' (.head _) rS rfl dC) (List.forall_mem_cons.2 ⟨(Ro.cutBl (Ro.call (H0 := []) hb hw') (lo := b.length - 32) lenP), (fun _ h => nomatch h)⟩) ⟨lenP, lenP⟩) rfl fun _ _ => tk_S (fun _ h => h) <| tk_re 49 (.bool (decide (b.drop (b.length - 32) = markL mk kind name (b.take 16) ((b.drop 16).take ((b.length - 32) - 16))))) (.bool (decide (markL mk kind name (b.take 16) ((b.drop 16).take (b.length - 32 - 16)) = b.drop (b.length - 32)))) rfl (congrArg Value.bool (decide_eq_decide.2 eq_comm)) ?_; refine s_x 6 rfl (y_not rfl) <| tx_done kR <| tk_then <| tk_cond rfl (fun ht50 => ?_) (fun ht50 => ?_)
        · have hno : ¬ markL mk kind name (b.take 16) ((b.drop 16).take (b.length - 32 - 16)) = b.drop (b.length - 32) := by simpa using ht50
          exact s_r <| q_a rfl rfl <| q_a rfl rfl <| s_n <| tk_retc <| tk_then_ret <| tk_ownM0 (f := B) 5 <| tk_R (H1 := []) rfl (show ownB (.slice none 0 0) [] 5 = ownB (.slice none 0 0) ((openF hk mk kind name b).1) 5 from ownM_cast (by rw [openF_no oM oM hno])) <| tk_re 9 (I 10) (I (((openF hk mk kind name b).2 : Nat) : Int)) rfl (by rw [openF_no oM oM hno]; rfl) <| tk_ret (.slice none 0 0) (trivial) (.inl rfl) (r2 rfl rfl rfl) (.cons_cons _ (List.nil_sublist _))
        · have hyes : markL mk kind name (b.take 16) ((b.drop 16).take (b.length - 32 - 16)) = b.drop (b.length - 32) := by simpa using ht50
          refine tk_skip <| tk_then <| s_r <| s_q rfl (y_loadA 64 rfl kR lenP (hcw (mm 2 rfl))) <| q_m rfl rfl <| tk_act rfl <| a_callv [] _ rfl kR rfl (fun w' hw' => flow_spec (hk := hk) (mk := mk) (N := b.take 16) (Ro.cutBh (Ro.call (H0 := []) hb hw') (hi := 16) lenP) lenP lenP) rfl fun ⟨f54, k54⟩ _ => q_m rfl rfl <| s_q rfl (y_extract rfl rfl) <| s_q rfl (y_extract rfl rfl) <| q_a rfl rfl <| q_a rfl rfl <| s_n <| tk_seq <| s_r <| q_m rfl rfl <| s_q rfl ((y_neq rfl rfl).cast (bool_f dC)) <| s_n <| tk_cond0 rfl <| tk_skip <| tk_then <| s_r <| q_m rfl rfl <| q_m rfl rfl ?_; exact tk_act rfl <| a_slitN (vs := [cutR bv 16 (b.length - 32)]) rfl (List.forall_mem_cons.2 ⟨(RdS.one (RdS.cutB hb.1 (lo := 16) (hi := b.length - 32) ⟨lenP, lenP⟩)), (fun _ h => nomatch h)⟩) (EL208) rfl rfl dC fun b62 => tk_act rfl <| tk_ps [2, 2] rfl <| a_callv [] _ rfl kR rfl (fun w' hw' => hide_ro (hk := hk) (N := (b.take 16)) (ps := [(cutR bv 16 (b.length - 32), (b.drop 16).take ((b.length - 32) - 16))]) (L := (b.drop 16).take ((b.length - 32) - 16)) lenP lenP (Ro.cel (vs := [cutR bv 16 (b.length - 32)]) hw' (.head _) rS rfl dC) (List.forall_mem_cons.2 ⟨(Ro.cutB (Ro.call hb hw') (lo := 16) (hi := b.length - 32) ⟨lenP, lenP⟩), (fun _ h => nomatch h)⟩) sI lenP lenP (St.pre hw')) rfl fun v63 _ => q_a rfl rfl <| q_a rfl rfl <| s_n <| tk_retc <| tk_R (H1 := []) rfl (show ownB v63 (hidL hk (b.take 16) ((b.drop 16).take ((b.length - 32) - 16))) 5 = ownB v63 ((openF hk mk kind name b).1) 5 from ownM_cast (by rw [openF_ok oM oM hyes])) <| tk_re 9 (I 0) (I (((openF hk mk kind name b).2 : Nat) : Int)) rfl (by rw [openF_ok oM oM hyes]; rfl) <| tk_ret (v63) (trivial) (.inl rfl) (r2 rfl rfl rfl) (.cons_cons _ (List.nil_sublist _))
end Go.Proofs.YtnhpghhibcdklaaGreatDoor
set_option linter.unusedSimpArgs false
set_option linter.unusedVariables false
namespace Go.Proofs.YtnhpghhibcdklaaGreatDoor
open Go Go.RowKit
set_option maxRecDepth 100000
attribute [local irreducible] sumL keyedL strL sealF tapeL tapeN
theorem write_spec {hk mk nk name L : List UInt8} {kind : UInt8} {v : Value} {ps : List Sb} {tb c p : Nat} {vb vl : Value} {b : List UInt8} {w : World} (h3 : hk.length = 32 ∧ mk.length = 32 ∧ nk.length = 32) (hI0 : p ≤ 32 * c ∧ 32 * c < p + 32) (hp0 : p < 1000000000000) (hlb : b.length < 1099511627776)
    (hv : Ro (Fs [cel tb [vb, .int .u64 (c : Int), vl] 224, ownB vb b 5, ownB vl ((tapeL b c).drop p) 5]) w (rd v (ps.map Prod.fst))) (hp : ∀ q ∈ ps, Ro (Fs [cel tb [vb, .int .u64 (c : Int), vl] 224, ownB vb b 5, ownB vl ((tapeL b c).drop p) 5]) w (rdB q.1 q.2)) (hL : ps.flatMap Prod.snd = L)
    (hb : name.length < 4294967296 ∧ L.length < 4294967296 ∧ ps.length < 4294967296) (hg : Ro (Fs [cel tb [vb, .int .u64 (c : Int), vl] 224, ownB vb b 5, ownB vl ((tapeL b c).drop p) 5]) w glob) (hh : Pre w [cel tb [vb, .int .u64 (c : Int), vl] 224, ownB vb b 5, ownB vl ((tapeL b c).drop p) 5]) :
    Spec Tryz.prog 54 [.agg (hk.map B ++ (mk.map B ++ (nk.map B ++ [PT tb]))).toArray, B kind, Str name, v] w [cel tb [vb, .int .u64 (c : Int), vl] 224, ownB vb b 5, ownB vl ((tapeL b c).drop p) 5] (fun x : Nat × Value × Value => p + 16 ≤ 32 * x.1 ∧ 32 * x.1 < p + 16 + 32) (fun x => .tuple #[x.2.2, I (((sealF hk mk kind name (tapeN b p 16) L).2 : Nat) : Int)])
      (fun x => [ownB x.2.2 (sealF hk mk kind name (tapeN b p 16) L).1 5, cel tb [vb, .int .u64 (x.1 : Int), x.2.1] 224, ownB vb b 5, ownB x.2.1 ((tapeL b x.1).drop (p + 16)) 5]) := by
  refine spec_of (n := 22) Tryz.func54 rfl rfl hh.1 hh.2 rfl ?_
  subst hL
  obtain ⟨hk32, mk32, nk32⟩ := h3
  refine tk_own1 (mm 1 rfl) fun hfb => tk_own1 (mm 2 rfl) fun hfl => s_r <| tk_act rfl <| a_boxL (cs := hk.map B ++ (mk.map B ++ (nk.map B ++ ([PT tb])))) rfl rfl fun b4 => q_a rfl rfl <| q_a rfl rfl <| s_n <| tk_seq <| tk_drawH [cel b4 (hk.map B ++ (mk.map B ++ (nk.map B ++ ([PT tb])))) 50] [] kR <| s_x 0 rfl (y_fld0 (o := 0) rfl kR) <| s_x 1 rfl (y_fld0 (o := 0) rfl kR) <| s_l 2 rfl (fun _ h => kS [0] rfl h) (y_loadA (vs := hk.map B ++ (mk.map B)) 64 rfl kR lenP (hseg (pre := ([] : List Value)) (post := nk.map B ++ ([PT tb])) (.head _) lenP sI)) <| s_x 3 rfl (y_move rfl) <| s_x 4 rfl (y_move rfl) <| s_x 5 rfl (y_fldN (o := 0) 96 rfl kR) <| s_l 6 rfl (fun _ h => kS [0] rfl h) (y_load rfl rfl (hc (o := 96) (.head _) (gA (k := 32) (i := 64) (by rw [List.length_map]; exact hk32) oM (gA (k := 32) (i := 32) (by rw [List.length_map]; exact mk32) oM (gA (k := 32) (i := 0) (by rw [List.length_map]; exact nk32) oM (rfl)))))) <| s_x 8 rfl (y_move rfl) <| tx_a 7 rfl kR rfl <| tk_ps [3, 3, 3] rfl <| a_callv [] _ rfl kR rfl (fun w' hw' => nonce_spec (tb := tb) (c := c) (p := p) (vb := vb) (vl := vl) (b := b) ⟨lenP, lenP⟩ lenP lenP (hg.call hw') (St.pre hw')) rfl fun ⟨c17, vl17⟩ hx17 => tk_S (fun _ h => kD 3 rfl h) <| tx_a 9 rfl kR rfl <| a_callv [] _ rfl kR rfl (fun w' hw' => seal_spec (hk := hk) (mk := mk) (kind := kind) (name := name) (N := tapeN b p 16) (ps := ps) (L := ps.flatMap Prod.snd) ⟨lenP, lenP, lenP⟩ (Ro.call hv hw') (fun p hp0 => (hp p hp0).call hw') sI ⟨lenP, lenP, lenP⟩ (hg.call hw')) rfl fun v19 _ => ?_; exact tk_S (fun _ h => kD 4 rfl h) <| s_x 10 rfl (y_extract rfl rfl) <| s_x 11 rfl (y_extract rfl rfl) <| s_x 12 rfl (y_assign rfl) <| s_x 13 rfl (y_assign rfl) <| tx_done kR <| tk_then <| tk_retc <| tk_ret ((c17, vl17, v19)) (hx17) (.inl rfl) (r2 rfl rfl rfl) (.cons_cons _ (.cons_cons _ (.cons_cons _ (.cons_cons _ (List.nil_sublist _)))))
end Go.Proofs.YtnhpghhibcdklaaGreatDoor
set_option linter.unusedSimpArgs false
set_option linter.unusedVariables false
namespace Go.Proofs.YtnhpghhibcdklaaGreatDoor
open Go Go.RowKit
set_option maxRecDepth 100000
attribute [local irreducible] sumL tapeL bej be8 tapeN
end Go.Proofs.YtnhpghhibcdklaaGreatDoor
set_option linter.unusedSimpArgs false
set_option linter.unusedVariables false
namespace Go.Proofs.YtnhpghhibcdklaaGreatDoor
open Go Go.RowKit
set_option maxRecDepth 100000
theorem hex_hi (x : UInt8) : (UInt8.ofNat (x.toNat / 2 ^ 4)).toNat < 16 := by have := x.toNat_lt; simp; omega
theorem hex_lo (x : UInt8) : (x &&& 15).toNat < 16 := by rw [UInt8.toNat_and]; have := @Nat.and_le_right x.toNat (15 : UInt8).toNat; have : (15 : UInt8).toNat = 15 := rfl; omega
theorem hex_step {l : List UInt8} {i : Nat} (h : i < l.length) : hexL (l.take i) ++ [([48, 49, 50, 51, 52, 53, 54, 55, 56, 57, 97, 98, 99, 100, 101, 102] : List UInt8).getD (UInt8.ofNat ((l.getD i 0).toNat / 2 ^ 4)).toNat 0, ([48, 49, 50, 51, 52, 53, 54, 55, 56, 57, 97, 98, 99, 100, 101, 102] : List UInt8).getD ((l.getD i 0) &&& 15).toNat 0] = hexL (l.take (i + 1)) := by
  rw [← hexL_take h]
  generalize l.getD i 0 = x
  have e1 : (UInt8.ofNat (x.toNat / 2 ^ 4)).toNat = x.toNat / 16 := by have := x.toNat_lt; simp; omega
  have e2 : (x &&& 15).toNat = x.toNat % 16 := by rw [UInt8.toNat_and]; exact Nat.and_two_pow_sub_one_eq_mod x.toNat 4
  rw [e1, e2]; rfl
attribute [local irreducible] sumL keyedL hexL
theorem text_spec {l : List UInt8} {w : World} (hl : l.length = 32) : Spec Tryz.prog 151 [Ag l] w [] (fun _ : Unit => True) (fun _ => Str (hexL l)) (fun _ => []) := by
  refine spec_of (n := 22) Tryz.func151 rfl rfl trivial trivial rfl <| s_r <| tk_act rfl <| a_boxL (cs := l.map B) rfl rfl fun b1 => q_a rfl rfl <| s_n <| s_r <| q_a rfl rfl <| s_n <| tk_seq <| s_r <| s_q rfl (y_loadA 32 rfl kR lenP (hcw (.head _))) <| q_m rfl rfl <| s_n <| tk_block <| tk_ownM0 (f := B) 5 <| tk_R (H1 := []) rfl (show ownB (.slice none 0 0) ([] : List UInt8) 5 = ownB (.slice none 0 0) (hexL (l.take 0)) 5 from ownM_cast (hexL_0.symm)) <| tk_loop (X := Nat × Value) (fun (i, v) => i ≤ 32) (fun (i, v) => [(2, Str []), (3, v), (6, .agg (l.map B).toArray), (7, IN i)]) (fun (i, v) => [ownB v (hexL (l.take i)) 5, cel b1 (l.map B) 28]) (fun (i, v) => 32 - i) ((0, .slice none 0 0)) (Nat.zero_le _) sB ((List.Sublist.refl _)) ?_
  rintro ⟨i, v⟩ hI
  try dsimp only at hI ⊢
  have hlx : (hexL (l.take i)).length ≤ 2 * l.length := by rw [hexL_len, List.length_take]; omega
  refine tk_own1 (.head _) fun hfv => s_r <| s_q rfl (y_lss rfl rfl) <| s_n <| tk_seq <| tk_condP rfl (fun ht8 => ?_) (fun ht8 => ?_)
  · refine tk_skip <| tk_then <| tk_seq <| tk_block <| s_r <| s_q rfl (y_ixVM (d0 := 0) (i := i) rfl rfl rfl rfl (fun _ => kR) oM lenP) <| q_a rfl rfl <| s_n <| tk_drawH [cel b1 (l.map B) 28] [] kR <| s_x 0 rfl (y_move rfl) <| s_x 1 rfl (y_move rfl) <| s_x 2 rfl (y_shr8 (a := l.getD i 0) (m := 4) rfl rfl dC) <| s_x 3 rfl (y_ixT (l := [48, 49, 50, 51, 52, 53, 54, 55, 56, 57, 97, 98, 99, 100, 101, 102]) (i := (UInt8.ofNat ((l.getD i 0).toNat / 2 ^ 4)).toNat) rfl rfl rfl ⟨rfl, (hex_hi _)⟩) <| s_x 4 rfl (y_move rfl) <| s_x 5 rfl (y_and8 (a := l.getD i 0) (b := 15) rfl rfl) <| s_x 6 rfl (y_ixT (l := [48, 49, 50, 51, 52, 53, 54, 55, 56, 57, 97, 98, 99, 100, 101, 102]) (i := ((l.getD i 0) &&& 15).toNat) rfl rfl rfl ⟨rfl, (hex_lo _)⟩) <| tx_a 7 rfl kR rfl <| a_slitN (vs := [B ([48, 49, 50, 51, 52, 53, 54, 55, 56, 57, 97, 98, 99, 100, 101, 102].getD ((UInt8.ofNat ((l.getD i 0).toNat / 2 ^ 4)).toNat) 0), B ([48, 49, 50, 51, 52, 53, 54, 55, 56, 57, 97, 98, 99, 100, 101, 102].getD (((l.getD i 0) &&& 15).toNat) 0)]) rfl (List.forall_mem_cons.2 ⟨rfl, (List.forall_mem_cons.2 ⟨rfl, (fun _ h => nomatch h)⟩)⟩) (EL64) rfl rfl dC fun b17 => tk_S (fun _ h => kD 2 rfl h) <| tx_more [cel b17 ([B ([48, 49, 50, 51, 52, 53, 54, 55, 56, 57, 97, 98, 99, 100, 101, 102].getD ((UInt8.ofNat ((l.getD i 0).toNat / 2 ^ 4)).toNat) 0), B ([48, 49, 50, 51, 52, 53, 54, 55, 56, 57, 97, 98, 99, 100, 101, 102].getD (((l.getD i 0) &&& 15).toNat) 0)]) 5, cel b1 (l.map B) 28] (fun _ h => kD 1 rfl h) (fun _ h => kT [0] 1 rfl h) <| tx_a 8 rfl kR rfl <| a_appM (H1 := [_]) (f := B) (l := hexL (l.take i)) (m := [[48, 49, 50, 51, 52, 53, 54, 55, 56, 57, 97, 98, 99, 100, 101, 102].getD ((UInt8.ofNat ((l.getD i 0).toNat / 2 ^ 4)).toNat) 0, [48, 49, 50, 51, 52, 53, 54, 55, 56, 57, 97, 98, 99, 100, 101, 102].getD (((l.getD i 0) &&& 15).toNat) 0]) rfl rfl EL64 rfl rfl (fun w hw => cel_rdE (o := 0) (m := 2) (cp := 2) (vs := ([[48, 49, 50, 51, 52, 53, 54, 55, 56, 57, 97, 98, 99, 100, 101, 102].getD ((UInt8.ofNat ((l.getD i 0).toNat / 2 ^ 4)).toNat) 0, [48, 49, 50, 51, 52, 53, 54, 55, 56, 57, 97, 98, 99, 100, 101, 102].getD (((l.getD i 0) &&& 15).toNat) 0]).map B) (hw.mem (.head _)) (rfl) lQ lenP) (fun _ => rfl) ⟨lenP, lenP⟩ fun v18 => tk_own1 (mm 1 rfl) fun hfv18 => tk_S (fun _ h => kT [0] 1 rfl h) ?_; exact s_x 9 rfl (y_assign rfl) <| tx_done kR <| tk_in_normal <| tk_then <| tk_region <| s_q rfl (y_addN (a := i) (b := 1) rfl rfl oM) <| q_m rfl rfl <| tk_nil <| tk_R (H1 := [_]) rfl (show ownB v18 ((hexL (l.take i)) ++ ([[48, 49, 50, 51, 52, 53, 54, 55, 56, 57, 97, 98, 99, 100, 101, 102].getD ((UInt8.ofNat ((l.getD i 0).toNat / 2 ^ 4)).toNat) 0, [48, 49, 50, 51, 52, 53, 54, 55, 56, 57, 97, 98, 99, 100, 101, 102].getD (((l.getD i 0) &&& 15).toNat) 0])) 5 = ownB v18 (hexL (l.take (i + 1))) 5 from ownM_cast (hex_step oM)) <| tk_again ((i + 1, v18)) (by dsimp only; omega) (by dsimp only; omega) sB (.cons _ (List.Sublist.refl _))
  · exact tk_exit <| tk_then_exit <| tk_then_exit <| tk_in_hit <| tk_then <| s_r <| q_m rfl rfl <| s_q rfl (y_str (l := hexL (l.take i)) rfl rfl rfl rfl (fun w hw => own_rdS (hw.mem (.head _)))) <| tk_re 21 (Str (hexL (l.take i))) (Str (hexL l)) rfl (by rw [show i = 32 by omega, ← hl, List.take_length]) <| q_a rfl rfl <| s_n <| tk_retc <| tk_ret (()) (trivial) (.inl rfl) (r1 rfl rfl) (List.nil_sublist _)
theorem rbegin_spec {kind : UInt8} {w : World} : Spec Tryz.prog 119 [B kind] w [] (fun _ : Unit => True) (fun _ => Str [72, 89, kind]) (fun _ => []) := by
  exact spec_of (n := 7) Tryz.func119 rfl rfl trivial trivial rfl <| s_r <| q_a rfl rfl <| s_n <| s_r <| q_m rfl rfl <| tk_act rfl <| a_slitN (vs := [B kind]) rfl (List.forall_mem_cons.2 ⟨rfl, (fun _ h => nomatch h)⟩) (EL64) rfl rfl dC fun b4 => s_q rfl (y_str (l := [kind]) rfl rfl rfl rfl (fun w hw => cel_rdE (o := 0) (m := 1) (cp := 1) (vs := [kind].map B) (hw.mem (.head _)) (rfl) lQ lenP)) <| s_q rfl (y_catT (l := [72, 89]) (m := [kind]) rfl rfl lenP) <| q_a rfl rfl <| s_n <| tk_retc <| tk_ret (()) (trivial) (.inl rfl) (r1 rfl rfl) (List.nil_sublist _)
theorem rnum_spec {n : Nat} {w : World} (hn : n < 4611686018427387904) : Spec Tryz.prog 120 [I (n : Int)] w [] (fun _ : Unit => True) (fun _ => Str (numL n)) (fun _ => []) := by
  refine spec_of (n := 22) Tryz.func120 rfl rfl trivial trivial rfl ?_
  have hn9 := numL_len 8 (n := n) oM
  refine s_r <| q_a rfl rfl <| s_n <| s_r <| q_a rfl rfl <| s_n <| tk_seq <| tk_block <| tk_loop (X := List UInt8 × Nat) (fun (a, m) => a ++ numL m = numL n ∧ m < 4611686018427387904) (fun (a, m) => [(0, IN m), (2, Str []), (3, Str a)]) (fun (a, m) => []) (fun (a, m) => m) (([], n)) (⟨rfl, by omega⟩) sB ((List.Sublist.refl _)) ?_
  rintro ⟨a, m⟩ hI
  try dsimp only at hI ⊢
  have hla := congrArg List.length hI.1
  rw [List.length_append] at hla
  refine tk_seq <| s_r <| q_m rfl rfl <| s_q rfl (y_geq rfl rfl) <| s_n <| tk_condP rfl (fun ht5 => ?_) (fun ht5 => ?_)
  · exact tk_skip <| tk_then <| tk_block <| s_r <| q_m rfl rfl <| q_m rfl rfl <| s_q rfl (y_remN (a := m) (b := 128) rfl rfl oM) <| s_q rfl (y_addN (a := m % 128) (b := 128) rfl rfl oM) <| s_q rfl (y_convi8 (m := (m % 128) + 128) rfl rfl rfl) <| tk_act rfl <| a_slitN (vs := [B (UInt8.ofNat ((m % 128) + 128))]) rfl (List.forall_mem_cons.2 ⟨rfl, (fun _ h => nomatch h)⟩) (EL64) rfl rfl dC fun b11 => s_q rfl (y_str (l := [UInt8.ofNat ((m % 128) + 128)]) rfl rfl rfl rfl (fun w hw => cel_rdE (o := 0) (m := 1) (cp := 1) (vs := [UInt8.ofNat ((m % 128) + 128)].map B) (hw.mem (.head _)) (rfl) lQ lenP)) <| s_q rfl (y_catT (l := a) (m := [UInt8.ofNat ((m % 128) + 128)]) rfl rfl lenP) <| q_a rfl rfl <| s_n <| tk_region <| q_m rfl rfl <| s_q rfl (y_quoN (a := m) (b := 128) rfl rfl oM) <| q_a rfl rfl <| tk_nil <| tk_in_normal <| tk_again ((a ++ [UInt8.ofNat (m % 128 + 128)], m / 128)) (⟨by dsimp only; rw [← hI.1, numL_ge (n := m) oM]; simp, by dsimp only; omega⟩) (by dsimp only; omega) sB (List.nil_sublist _)
  · exact tk_exit <| tk_then_exit <| tk_then_exit <| tk_in_hit <| tk_then <| s_r <| q_m rfl rfl <| q_m rfl rfl <| s_q rfl (y_convi8 (m := m) rfl rfl rfl) <| tk_act rfl <| a_slitN (vs := [B (UInt8.ofNat m)]) rfl (List.forall_mem_cons.2 ⟨rfl, (fun _ h => nomatch h)⟩) (EL64) rfl rfl dC fun b19 => s_q rfl (y_str (l := [UInt8.ofNat m]) rfl rfl rfl rfl (fun w hw => cel_rdE (o := 0) (m := 1) (cp := 1) (vs := [UInt8.ofNat m].map B) (hw.mem (.head _)) (rfl) lQ lenP)) <| s_q rfl (y_catT (l := a) (m := [UInt8.ofNat m]) rfl rfl lenP) <| tk_re 21 (Str (a ++ [UInt8.ofNat m])) (Str (numL n)) rfl (by rw [← hI.1, numL_lt (n := m) oM]) <| q_a rfl rfl <| s_n <| tk_retc <| tk_ret (()) (trivial) (.inl rfl) (r1 rfl rfl) (List.nil_sublist _)
end Go.Proofs.YtnhpghhibcdklaaGreatDoor
set_option linter.unusedSimpArgs false
set_option linter.unusedVariables false
namespace Go.Proofs.YtnhpghhibcdklaaGreatDoor
open Go Go.RowKit
set_option maxRecDepth 100000

def numsL (ns : List Nat) : List UInt8 := ns.flatMap numL
theorem flat_succ {ps : List Sb} {i : Nat} (h : i < ps.length) : (ps.take (i + 1)).flatMap Prod.snd = (ps.take i).flatMap Prod.snd ++ (ps.getD i dP).2 := by
  have e : ps.getD i dP = ps[i] := by rw [List.getD_eq_getElem?_getD, List.getElem?_eq_getElem h]; rfl
  rw [e, List.take_add_one, List.getElem?_eq_getElem h]
  simp only [List.flatMap_append, Option.toList, List.flatMap_cons, List.flatMap_nil, List.append_nil]
theorem flat_pre {ps : List Sb} (i : Nat) : ((ps.take i).flatMap Prod.snd).length ≤ (ps.flatMap Prod.snd).length := by
  have := congrArg (fun l => (l.flatMap Prod.snd).length) (List.take_append_drop i ps)
  simp only [List.flatMap_append, List.length_append] at this; omega
theorem numsL_succ {ns : List Nat} {i : Nat} (h : i < ns.length) : numsL (ns.take i) ++ numL (ns.getD i 0) = numsL (ns.take (i + 1)) := by
  have e : ns.getD i 0 = ns[i] := by rw [List.getD_eq_getElem?_getD, List.getElem?_eq_getElem h]; rfl
  rw [e, List.take_add_one, List.getElem?_eq_getElem h]
  simp only [numsL, List.flatMap_append, Option.toList, List.flatMap_cons, List.flatMap_nil, List.append_nil]
theorem numsL_len {ns : List Nat} (h : ∀ n ∈ ns, n < 4611686018427387904) (i : Nat) : (numsL (ns.take i)).length ≤ 9 * ns.length := by
  have h2 : ∀ (l : List Nat), (∀ n ∈ l, n < 4611686018427387904) → (numsL l).length ≤ 9 * l.length := fun l => by
    induction l with
    | nil => intro _; simp [numsL]
    | cons n l ih =>
      intro hl
      have h3 := ih (fun m hm => hl m (List.mem_cons_of_mem _ hm))
      have h4 := numL_len 8 (n := n) (by have := hl n (List.mem_cons_self ..); omega)
      simp only [numsL, List.flatMap_cons, List.length_append, List.length_cons] at h3 ⊢; omega
  have h5 := h2 (ns.take i) (fun n hn => h n (List.mem_of_mem_take hn))
  have : (ns.take i).length ≤ ns.length := by simp; omega
  omega
attribute [local irreducible] sumL keyedL hexL
theorem grow0_spec {n : Nat} {w : World} (hn : n < 140737488355328) : Spec Tryz.prog 220 [.slice none 0 0, I (n : Int)] w [] (fun _ : Value => True) (fun v => v) (fun v => [ownB v ([] : List UInt8) 5]) := by
  refine spec_of (n := 27) Tryz.func220 rfl rfl trivial trivial rfl <| s_r <| q_a rfl rfl <| s_n <| tk_seq <| s_r <| q_m rfl rfl <| tk_qe (.bool false) rfl rfl rfl (y_lss rfl rfl) (bool_f oM) <| s_n <| tk_cond0 rfl <| tk_skip <| tk_then <| tk_seq <| s_r <| q_m rfl rfl <| q_m rfl rfl <| s_q rfl (y_capNil rfl rfl) <| q_m rfl rfl <| s_q rfl (y_lenRN (n' := 0) rfl (RdS.nil (w := default)) rfl (by first | rfl | (rw [List.length_map]; omega) | simp)) <| s_q rfl (y_subN (a := 0) (b := 0) rfl rfl oM) <| tk_qe (IN n) rfl rfl rfl (y_subN (a := n) (b := 0) rfl rfl oM) sI <| q_a rfl rfl <| s_n <| s_r ?_; refine q_m rfl rfl <| s_q rfl (y_gtr rfl rfl) <| s_n <| tk_condP rfl (fun ht16 => ?_) (fun ht16 => ?_)
  · exact tk_region <| q_m rfl rfl <| q_m rfl rfl <| s_q rfl (y_capNil rfl rfl) <| tk_qe (.slice none 0 0) rfl rfl rfl (y_cutRBh (l := []) 0 rfl rfl (RdS.nil (w := default)) kR lenP rfl) (rfl) <| q_m rfl rfl <| tk_act rfl <| a_appZ (n := n) rfl rfl MK64 rfl lenP lenP rfl fun v22 => tk_own1 (.head _) fun hfv22 => q_m rfl rfl <| s_q rfl (y_lenRN (n' := 0) rfl (RdS.nil (w := default)) rfl (by first | rfl | (rw [List.length_map]; omega) | simp)) <| s_q rfl (y_cutRBh (l := List.replicate n 0) 0 rfl rfl hfv22.choose_spec kR lenP rfl) <| tk_ownTake (H1 := []) 0 rfl (Nat.zero_le _) <| q_a rfl rfl <| s_n <| s_r <| q_m rfl rfl <| q_a rfl rfl <| s_n <| tk_retc <| tk_ret (cutR v22 0 0) (trivial) (.inl rfl) (r1 rfl rfl) (List.Sublist.refl _)
  · exact tk_ownM0 (f := B) 5 <| tk_skip <| tk_then <| s_r <| q_m rfl rfl <| q_a rfl rfl <| s_n <| tk_retc <| tk_ret (.slice none 0 0) (trivial) (.inl rfl) (r1 rfl rfl) (List.Sublist.refl _)
theorem concat_spec {v : Value} {ps : List Sb} {L : List UInt8} {w : World} (hv : Ro (Fs []) w (rd v (ps.map Prod.fst))) (hp : ∀ p ∈ ps, Ro (Fs []) w (rdB p.1 p.2)) (hL : ps.flatMap Prod.snd = L) (hb : L.length < 1099511627776 ∧ ps.length < 1099511627776) :
    Spec Tryz.prog 140 [v] w [] (fun _ : Value => True) (fun v => v) (fun v => [ownB v L 5]) := by
  refine spec_of (n := 36) Tryz.func140 rfl rfl trivial trivial rfl ?_
  subst hL
  refine s_r <| q_a rfl rfl <| s_n <| s_r <| q_a rfl rfl <| s_n <| tk_seq <| s_r <| q_m rfl rfl <| s_q rfl (y_lenRN (n' := ps.length) rfl hv.1 rfl (by first | rfl | (rw [List.length_map]; omega) | simp)) <| q_m rfl rfl <| s_n <| tk_block <| tk_loop (X := Nat) (fun i => i ≤ ps.length) (fun i => [(0, v), (2, .slice none 0 0), (3, I ((((ps.take i).flatMap Prod.snd).length : Nat) : Int)), (9, v), (10, IN ps.length), (11, IN i)]) (fun i => []) (fun i => ps.length - i) (0) (Nat.zero_le _) sB ((List.Sublist.refl _)) ?_
  rintro i hI
  try dsimp only at hI ⊢
  have hfl := flat_pre (ps := ps) i
  refine s_r <| s_q rfl (y_lss rfl rfl) <| s_n <| tk_seq <| tk_condP rfl (fun ht12 => ?_) (fun ht12 => ?_)
  · refine tk_skip <| tk_then <| tk_seq <| tk_block <| s_r <| s_q rfl (y_ixR (j := i) rfl rfl hv.1 lenP kR) <| s_q rfl (y_load rfl rfl (fun w hw => ((fun w hw => Ro.rd hv hw) w hw).cell (gM (f := Prod.fst) (d := dP) lenP))) <| q_a rfl rfl <| s_n <| s_r <| q_m rfl rfl <| q_m rfl rfl <| s_q rfl (y_lenRN (n' := ((ps.getD i dP).2).length) rfl (hp _ (getD_mem lenP)).1 rfl (by first | rfl | (rw [List.length_map]; omega) | simp)) ?_
    have hfl3 : ((ps.take i).flatMap Prod.snd).length + (ps.getD i dP).2.length = ((ps.take (i + 1)).flatMap Prod.snd).length := by rw [flat_succ oM, List.length_append]
    have hfl2 := flat_pre (ps := ps) (i + 1)
    exact s_q rfl (y_addN (a := ((ps.take i).flatMap Prod.snd).length) (b := ((ps.getD i dP).2).length) rfl rfl oM) <| q_a rfl rfl <| s_n <| s_r <| q_m rfl rfl <| tk_qe (.bool false) rfl rfl rfl (y_lss rfl rfl) (bool_f oM) <| s_n <| tk_cond0 rfl <| tk_skip <| tk_in_normal <| tk_then <| tk_region <| s_q rfl (y_addN (a := i) (b := 1) rfl rfl oM) <| q_m rfl rfl <| tk_nil <| tk_re 3 (I (((((ps.take i).flatMap Prod.snd).length) + (((ps.getD i dP).2).length) : Nat) : Int)) (I ((((ps.take (i + 1)).flatMap Prod.snd).length : Nat) : Int)) rfl (congrArg I (by rw [flat_succ oM]; simp)) <| tk_again (i + 1) (by first | exact trivial | omega | (dsimp only; omega)) (by first | omega | (dsimp only; omega)) sB (List.Sublist.refl _)
  · refine tk_exit <| tk_then_exit <| tk_then_exit <| tk_in_hit <| tk_then <| s_r <| q_m rfl rfl <| tk_act rfl <| a_callv [] _ rfl kR rfl (fun w' hw' => grow0_spec (n := ((ps.take i).flatMap Prod.snd).length) lenP) rfl fun v24 _ => q_a rfl rfl <| s_n <| tk_seq <| s_r <| q_m rfl rfl <| s_q rfl (y_lenRN (n' := ps.length) rfl hv.1 rfl (by first | rfl | (rw [List.length_map]; omega) | simp)) <| q_m rfl rfl <| s_n <| tk_block <| tk_R (H1 := []) rfl (show ownB v24 ([] : List UInt8) 5 = ownB v24 ((ps.take 0).flatMap Prod.snd) 5 from ownM_cast rfl) <| tk_loop (X := Nat × Value) (fun (i, vg) => i ≤ ps.length) (fun (i, vg) => [(2, .slice none 0 0), (6, vg), (25, v), (26, IN ps.length), (27, IN i)]) (fun (i, vg) => [ownB vg ((ps.take i).flatMap Prod.snd) 5]) (fun (i, vg) => ps.length - i) ((0, v24)) (Nat.zero_le _) sB ((List.Sublist.refl _)) ?_
    rintro ⟨i, vg⟩ hI
    try dsimp only at hI ⊢
    have hfl := flat_pre (ps := ps) i
    have hfl2 := flat_pre (ps := ps) (i + 1)
    refine tk_own1 (.head _) fun hfg => s_r <| s_q rfl (y_lss rfl rfl) <| s_n <| tk_seq <| tk_condP rfl (fun ht28 => ?_) (fun ht28 => ?_)
    · refine tk_skip <| tk_then <| tk_seq <| tk_block <| s_r <| s_q rfl (y_ixR (j := i) rfl rfl hv.1 lenP kR) <| s_q rfl (y_load rfl rfl (fun w hw => ((fun w hw => Ro.rd hv hw) w hw).cell (gM (f := Prod.fst) (d := dP) lenP))) <| q_a rfl rfl <| s_n <| tk_region <| q_m rfl rfl <| q_m rfl rfl ?_
      have hfl3 : ((ps.take i).flatMap Prod.snd).length + (ps.getD i dP).2.length = ((ps.take (i + 1)).flatMap Prod.snd).length := by rw [flat_succ oM, List.length_append]
      exact tk_act rfl <| a_appM (H1 := []) (f := B) (l := (ps.take i).flatMap Prod.snd) (m := (ps.getD i dP).2) rfl rfl EL64 rfl rfl (fun w hw => Ro.rd (hp _ (getD_mem lenP)) hw) (fun _ => rfl) ⟨lenP, lenP⟩ fun v33 => tk_own1 (.head _) fun hfv33 => q_a rfl rfl <| tk_nil <| tk_in_normal <| tk_then <| tk_region <| s_q rfl (y_addN (a := i) (b := 1) rfl rfl oM) <| q_m rfl rfl <| tk_nil <| tk_R (H1 := []) rfl (show ownB v33 (((ps.take i).flatMap Prod.snd) ++ ((ps.getD i dP).2)) 5 = ownB v33 ((ps.take (i + 1)).flatMap Prod.snd) 5 from ownM_cast (flat_succ oM).symm) <| tk_again ((i + 1, v33)) (by first | exact trivial | omega | (dsimp only; omega)) (by first | omega | (dsimp only; omega)) sB (List.Sublist.refl _)
    · exact tk_exit <| tk_then_exit <| tk_then_exit <| tk_in_hit <| tk_then <| s_r <| q_m rfl rfl <| tk_R (H1 := []) rfl (show ownB vg ((ps.take i).flatMap Prod.snd) 5 = ownB vg (ps.flatMap Prod.snd) 5 from ownM_cast (by rw [show i = ps.length by omega, List.take_length])) <| q_a rfl rfl <| s_n <| tk_retc <| tk_ret (vg) (trivial) (.inl rfl) (r1 rfl rfl) (List.Sublist.refl _)
theorem gbegin_spec {kind : UInt8} {w : World} : Spec Tryz.prog 98 [B kind] w [] (fun _ : Nat × Value => True) (fun x => PT x.1) (fun x => [cel x.1 [x.2, I 0] 320, ownB x.2 [72, 89, kind] 5]) := by
  refine spec_of (n := 10) Tryz.func98 rfl rfl trivial trivial rfl <| s_r <| q_a rfl rfl <| s_n <| s_r <| tk_act rfl <| a_slitN (vs := [B 72, B 89]) rfl (List.forall_mem_cons.2 ⟨rfl, (List.forall_mem_cons.2 ⟨rfl, (fun _ h => nomatch h)⟩)⟩) (EL64) rfl rfl dC fun b3 => tk_act rfl <| a_convX (H1 := []) rfl Tryz.underlying64 Tryz.underlying5 rfl rfl <| q_m rfl rfl <| tk_act rfl <| a_slitN (vs := [B kind]) rfl (List.forall_mem_cons.2 ⟨rfl, (fun _ h => nomatch h)⟩) (EL64) rfl rfl dC fun b6 => tk_celM (H1 := [_]) (f := B) (l := [72, 89]) (T := 5) rfl rfl dC <| tk_act rfl <| a_appM (H1 := [_]) (f := B) (l := [72, 89]) (m := [kind]) rfl rfl EL64 rfl rfl (fun w hw => cel_rdE (o := 0) (m := 1) (cp := 1) (vs := [kind].map B) (hw.mem (.head _)) (rfl) lQ lenP) (fun _ => rfl) ⟨lenP, lenP⟩ fun v7 => tk_own1 (mm 1 rfl) fun hfv7 => tk_own1 (mm 1 rfl) fun hf7 => tk_R (H1 := [_]) rfl (show ownB v7 ([72, 89] ++ [kind]) 5 = ownB v7 [72, 89, kind] 5 from ownM_cast rfl) ?_
  have hc7 := hf7.choose_spec.cells
  simp only [Value.cells] at hc7
  exact s_q rfl (y_build (v := .agg ([v7, I 0]).toArray) (vs := [(0, v7)]) rfl (run_build (zs := [Value.slice none 0 0, I 0]) (pl := [(0, 1), (1, 1)]) Tryz.underlying320 (fun _ => kR) (fun _ => kR) (fill_s0 (RdS.cells hfv7.choose_spec)))) <| tk_act rfl <| a_boxL (cs := [v7, I 0]) rfl rfl fun b9 => q_a rfl rfl <| s_n <| tk_retc <| tk_ret ((b9, v7)) (trivial) (.inl rfl) (r1 rfl rfl) (.cons_cons _ (.cons _ (List.Sublist.refl _)))
theorem gnum1_spec {ob n : Nat} {v : Value} {b : List UInt8} {w : World} (hn : n < 4611686018427387904) (hb : b.length < 1099511627776) (hh : Pre w [cel ob [v, I 0] 320, ownB v b 5]) :
    Spec Tryz.prog 185 [PT ob, I (n : Int)] w [cel ob [v, I 0] 320, ownB v b 5] (fun _ : Value => True) (fun _ => .tuple #[]) (fun x => [cel ob [x, I 0] 320, ownB x (b ++ numL n) 5]) := by
  refine spec_of (n := 39) Tryz.func185 rfl rfl hh.1 hh.2 rfl ?_
  have hn9 := numL_len 8 (n := n) oM
  refine tk_seq <| s_r <| q_m rfl rfl <| tk_qe (.bool false) rfl rfl rfl (y_lss rfl rfl) (bool_f oM) <| q_m rfl rfl <| s_g rfl (y_move rfl) <| tk_gqe (.bool false) rfl rfl rfl (y_geq rfl rfl) (bool_f oM) <| s_q rfl (y_pick0 rfl rfl) <| s_n <| tk_cond0 rfl <| tk_skip <| tk_then <| tk_seq <| tk_block <| tk_loop (X := List UInt8 × Nat × Value) (fun (a, m, va) => a ++ numL m = b ++ numL n ∧ m < 4611686018427387904) (fun (a, m, va) => [(0, PT ob), (1, IN m)]) (fun (a, m, va) => [cel ob ([va, I 0]) 320, ownB va a 5]) (fun (a, m, va) => m) ((b, n, v)) (⟨rfl, by omega⟩) sB ((List.Sublist.refl _)) ?_
  rintro ⟨a, m, va⟩ hI
  try dsimp only at hI ⊢
  have hla := congrArg List.length hI.1
  rw [List.length_append, List.length_append] at hla
  refine tk_own1 (mm 1 rfl) fun hfa => tk_seq <| s_r <| q_m rfl rfl <| s_q rfl (y_geq rfl rfl) <| s_n <| tk_condP rfl (fun ht13 => ?_) (fun ht13 => ?_)
  · refine tk_skip <| tk_then <| tk_seq <| tk_block <| tk_region <| q_m rfl rfl <| q_m rfl rfl <| s_q rfl (y_nilCheck rfl) <| s_q rfl (y_fld0 (o := 0) rfl kR) <| s_q rfl (y_load rfl rfl (hc (o := 0) (.head _) (rfl))) <| q_m rfl rfl <| s_q rfl (y_convi8 (m := m) rfl rfl rfl) <| s_q rfl (y_or8 (a := UInt8.ofNat m) (b := 128) rfl rfl) <| tk_act rfl <| a_slitN (vs := [B ((UInt8.ofNat m) ||| 128)]) rfl (List.forall_mem_cons.2 ⟨rfl, (fun _ h => nomatch h)⟩) (EL64) rfl rfl dC fun b24 => tk_act rfl <| a_appM (H1 := [_, _]) (f := B) (l := a) (m := [(UInt8.ofNat m) ||| 128]) rfl rfl EL64 rfl rfl (fun w hw => cel_rdE (o := 0) (m := 1) (cp := 1) (vs := [(UInt8.ofNat m) ||| 128].map B) (hw.mem (.head _)) (rfl) lQ lenP) (fun _ => rfl) ⟨lenP, lenP⟩ fun v25 => tk_own1 (mm 2 rfl) fun hfv25 => s_q rfl (y_nilCheck rfl) <| s_q rfl (y_fld0 (o := 0) rfl kR) <| tk_act rfl <| a_storeE (H1 := [_]) (o := 0) (v := v25) (cs' := [v25, I 0]) rfl rfl kR (RdS.one hfv25.choose_spec) rfl sW (rfl) <| tk_nil <| tk_in_normal ?_; exact tk_then <| tk_region <| q_m rfl rfl <| s_q rfl (y_shrN (k := .i64) (k' := .u64) (a := m) (m := 7) rfl rfl dC) <| q_a rfl rfl <| tk_nil <| tk_again ((a ++ [UInt8.ofNat m ||| 128], m / 2 ^ 7, v25)) (⟨by dsimp only; rw [← hI.1]; exact numL_step oM, by dsimp only; omega⟩) (by dsimp only; omega) sB (.cons _ (List.Sublist.refl _))
  · refine tk_exit <| tk_then_exit <| tk_then_exit <| tk_in_hit <| tk_then <| tk_region <| q_m rfl rfl <| q_m rfl rfl <| s_q rfl (y_nilCheck rfl) <| s_q rfl (y_fld0 (o := 0) rfl kR) <| s_q rfl (y_load rfl rfl (hc (o := 0) (.head _) (rfl))) <| q_m rfl rfl <| s_q rfl (y_convi8 (m := m) rfl rfl rfl) <| tk_act rfl <| a_slitN (vs := [B (UInt8.ofNat m)]) rfl (List.forall_mem_cons.2 ⟨rfl, (fun _ h => nomatch h)⟩) (EL64) rfl rfl dC fun b35 => tk_act rfl <| a_appM (H1 := [_, _]) (f := B) (l := a) (m := [UInt8.ofNat m]) rfl rfl EL64 rfl rfl (fun w hw => cel_rdE (o := 0) (m := 1) (cp := 1) (vs := [UInt8.ofNat m].map B) (hw.mem (.head _)) (rfl) lQ lenP) (fun _ => rfl) ⟨lenP, lenP⟩ fun v36 => tk_own1 (mm 2 rfl) fun hfv36 => s_q rfl (y_nilCheck rfl) <| s_q rfl (y_fld0 (o := 0) rfl kR) <| tk_act rfl <| a_storeE (H1 := [_]) (o := 0) (v := v36) (cs' := [v36, I 0]) rfl rfl kR (RdS.one hfv36.choose_spec) rfl sW (rfl) <| tk_nil <| tk_R (H1 := [_, _]) rfl (show ownB v36 (a ++ [UInt8.ofNat m]) 5 = ownB v36 (b ++ numL n) 5 from ownM_cast (by rw [← hI.1, numL_lt (n := m) oM])) ?_; exact tk_ret (v36) (trivial) (.inr rfl) (r0 rfl) (.cons _ (List.Sublist.refl _))
theorem gnum_spec {ob : Nat} {nv v : Value} {b : List UInt8} {ns : List Nat} {w : World} (hn : Ro (Fs [cel ob [v, I 0] 320, ownB v b 5]) w (rd nv (ns.map IN))) (hn62 : ∀ n ∈ ns, n < 4611686018427387904) (hnl : ns.length < 1000000) (hb : b.length < 109951162777) (hh : Pre w [cel ob [v, I 0] 320, ownB v b 5]) :
    Spec Tryz.prog 100 [PT ob, nv] w [cel ob [v, I 0] 320, ownB v b 5] (fun _ : Value => True) (fun _ => PT ob) (fun x => [cel ob [x, I 0] 320, ownB x (b ++ numsL ns) 5]) := by
  refine spec_of (n := 27) Tryz.func100 rfl rfl hh.1 hh.2 rfl <| s_r <| q_a rfl rfl <| s_n <| tk_seq <| s_r <| q_m rfl rfl <| s_q rfl (y_lenRN (n' := ns.length) rfl hn.1 rfl (by first | rfl | (rw [List.length_map]; omega) | simp)) <| q_m rfl rfl <| s_n <| tk_block <| tk_R (H1 := [_]) rfl (show ownB v b 5 = ownB v (b ++ numsL (ns.take 0)) 5 from ownM_cast (by simp [numsL])) <| tk_loop (X := Nat × Value) (fun (i, va) => i ≤ ns.length) (fun (i, va) => [(0, PT ob), (4, .pointer none), (7, nv), (8, IN ns.length), (9, IN i)]) (fun (i, va) => [cel ob ([va, I 0]) 320, ownB va (b ++ numsL (ns.take i)) 5]) (fun (i, va) => ns.length - i) ((0, v)) (Nat.zero_le _) sB ((List.Sublist.refl _)) ?_
  rintro ⟨i, va⟩ hI
  try dsimp only at hI ⊢
  have hll := numsL_len (ns := ns) hn62 i
  refine tk_own1 (mm 1 rfl) fun hfa => s_r <| s_q rfl (y_lss rfl rfl) <| s_n <| tk_seq <| tk_condP rfl (fun ht10 => ?_) (fun ht10 => ?_)
  · refine tk_skip <| tk_then <| tk_seq <| tk_block <| s_r <| s_q rfl (y_ixR (j := i) rfl rfl hn.1 lenP kR) <| s_q rfl (y_load rfl rfl (fun w hw => ((fun w hw => Ro.rd hn hw) w hw).cell (gM (f := IN) (d := 0) lenP))) <| q_a rfl rfl <| s_n <| s_r <| q_m rfl rfl <| s_q rfl (y_pnnil rfl rfl rfl) <| q_m rfl rfl <| s_g rfl (y_move rfl) <| s_g rfl (y_nilCheck rfl) <| s_g rfl (y_fldN (o := 0) 1 rfl kR) <| s_g rfl (y_load rfl rfl (hc (o := 1) (.head _) (rfl))) <| s_g rfl ((y_eql rfl rfl).cast (bool_t dC)) <| s_q rfl (y_pick1 rfl rfl) <| s_n <| tk_cond1 rfl <| tk_region <| q_m rfl rfl <| q_m rfl rfl ?_
    have hni : ns.getD i 0 < 4611686018427387904 := hn62 _ (getD_mem oM)
    exact tk_act rfl <| a_callv [] _ rfl kR rfl (fun w' hw' => gnum1_spec (ob := ob) (v := va) (b := b ++ numsL (ns.take i)) (n := ns.getD i 0) lenP lenP (St.pre hw')) rfl fun v24 _ => tk_nil <| tk_in_normal <| tk_then <| tk_region <| s_q rfl (y_addN (a := i) (b := 1) rfl rfl oM) <| q_m rfl rfl <| tk_nil <| tk_R (H1 := [_]) rfl (show ownB v24 ((b ++ numsL (ns.take i)) ++ numL (ns.getD i 0)) 5 = ownB v24 (b ++ numsL (ns.take (i + 1))) 5 from ownM_cast (by rw [List.append_assoc, numsL_succ oM])) <| tk_again ((i + 1, v24)) (by first | exact trivial | omega | (dsimp only; omega)) (by first | omega | (dsimp only; omega)) sB (List.Sublist.refl _)
  · exact tk_exit <| tk_then_exit <| tk_then_exit <| tk_in_hit <| tk_then <| s_r <| q_m rfl rfl <| q_a rfl rfl <| s_n <| tk_retc <| tk_R (H1 := [_]) rfl (show ownB va (b ++ numsL (ns.take i)) 5 = ownB va (b ++ numsL ns) 5 from ownM_cast (by rw [show i = ns.length by omega, List.take_length])) <| tk_ret (va) (trivial) (.inl rfl) (r1 rfl rfl) (List.Sublist.refl _)
theorem graw_spec {ob : Nat} {pv v : Value} {b L : List UInt8} {ps : List Sb} {w : World} (hv : Ro (Fs [cel ob [v, I 0] 320, ownB v b 5]) w (rd pv (ps.map Prod.fst))) (hp : ∀ p ∈ ps, Ro (Fs [cel ob [v, I 0] 320, ownB v b 5]) w (rdB p.1 p.2)) (hL : ps.flatMap Prod.snd = L)
    (hpl : ps.length < 1099511627776) (hLl : L.length < 1099511627776) (hb : b.length < 1099511627776) (hh : Pre w [cel ob [v, I 0] 320, ownB v b 5]) :
    Spec Tryz.prog 99 [PT ob, pv] w [cel ob [v, I 0] 320, ownB v b 5] (fun _ : Value => True) (fun _ => PT ob) (fun x => [cel ob [x, I 0] 320, ownB x (b ++ L) 5]) := by
  refine spec_of (n := 33) Tryz.func99 rfl rfl hh.1 hh.2 rfl ?_
  subst hL
  refine s_r <| q_a rfl rfl <| s_n <| tk_seq <| s_r <| q_m rfl rfl <| s_q rfl (y_lenRN (n' := ps.length) rfl hv.1 rfl (by first | rfl | (rw [List.length_map]; omega) | simp)) <| q_m rfl rfl <| s_n <| tk_block <| tk_R (H1 := [_]) rfl (show ownB v b 5 = ownB v (b ++ (ps.take 0).flatMap Prod.snd) 5 from ownM_cast sI) <| tk_loop (X := Nat × Value) (fun (i, va) => i ≤ ps.length) (fun (i, va) => [(0, PT ob), (4, .pointer none), (7, pv), (8, IN ps.length), (9, IN i)]) (fun (i, va) => [cel ob ([va, I 0]) 320, ownB va (b ++ (ps.take i).flatMap Prod.snd) 5]) (fun (i, va) => ps.length - i) ((0, v)) (Nat.zero_le _) sB ((List.Sublist.refl _)) ?_
  rintro ⟨i, va⟩ hI
  try dsimp only at hI ⊢
  have hfl := flat_pre (ps := ps) i
  have hfl2 := flat_pre (ps := ps) (i + 1)
  refine tk_own1 (mm 1 rfl) fun hfa => s_r <| s_q rfl (y_lss rfl rfl) <| s_n <| tk_seq <| tk_condP rfl (fun ht10 => ?_) (fun ht10 => ?_)
  · refine tk_skip <| tk_then <| tk_seq <| tk_block <| s_r <| s_q rfl (y_ixR (j := i) rfl rfl hv.1 lenP kR) <| s_q rfl (y_load rfl rfl (fun w hw => ((fun w hw => Ro.rd hv hw) w hw).cell (gM (f := Prod.fst) (d := dP) lenP))) <| q_a rfl rfl <| s_n <| s_r <| q_m rfl rfl <| s_q rfl (y_pnnil rfl rfl rfl) <| q_m rfl rfl <| s_g rfl (y_move rfl) <| s_g rfl (y_nilCheck rfl) <| s_g rfl (y_fldN (o := 0) 1 rfl kR) <| s_g rfl (y_load rfl rfl (hc (o := 1) (.head _) (rfl))) <| s_g rfl ((y_eql rfl rfl).cast (bool_t dC)) <| s_q rfl (y_pick1 rfl rfl) <| s_n <| tk_cond1 rfl <| tk_region <| q_m rfl rfl <| q_m rfl rfl ?_; refine s_q rfl (y_nilCheck rfl) <| s_q rfl (y_fld0 (o := 0) rfl kR) <| s_q rfl (y_load rfl rfl (hc (o := 0) (.head _) (rfl))) <| q_m rfl rfl ?_
    have hfl3 : ((ps.take i).flatMap Prod.snd).length + (ps.getD i dP).2.length = ((ps.take (i + 1)).flatMap Prod.snd).length := by rw [flat_succ oM, List.length_append]
    exact tk_act rfl <| a_appM (H1 := [_]) (f := B) (l := b ++ (ps.take i).flatMap Prod.snd) (m := (ps.getD i dP).2) rfl rfl EL64 rfl rfl (fun w hw => Ro.rd (hp _ (getD_mem lenP)) hw) (fun _ => rfl) ⟨lenP, lenP⟩ fun v28 => tk_own1 (mm 1 rfl) fun hfv28 => s_q rfl (y_nilCheck rfl) <| s_q rfl (y_fld0 (o := 0) rfl kR) <| tk_act rfl <| a_storeE (H1 := []) (o := 0) (v := v28) (cs' := [v28, I 0]) rfl rfl kR (RdS.one hfv28.choose_spec) rfl sW (rfl) <| tk_nil <| tk_in_normal <| tk_then <| tk_region <| s_q rfl (y_addN (a := i) (b := 1) rfl rfl oM) <| q_m rfl rfl <| tk_nil <| tk_R (H1 := [_]) rfl (show ownB v28 ((b ++ (ps.take i).flatMap Prod.snd) ++ ((ps.getD i dP).2)) 5 = ownB v28 (b ++ (ps.take (i + 1)).flatMap Prod.snd) 5 from ownM_cast (by rw [List.append_assoc, flat_succ oM])) <| tk_again ((i + 1, v28)) (by first | exact trivial | omega | (dsimp only; omega)) (by first | omega | (dsimp only; omega)) sB (List.Sublist.refl _)
  · exact tk_exit <| tk_then_exit <| tk_then_exit <| tk_in_hit <| tk_then <| s_r <| q_m rfl rfl <| q_a rfl rfl <| s_n <| tk_retc <| tk_R (H1 := [_]) rfl (show ownB va (b ++ (ps.take i).flatMap Prod.snd) 5 = ownB va (b ++ ps.flatMap Prod.snd) 5 from ownM_cast (by rw [show i = ps.length by omega, List.take_length])) <| tk_ret (va) (trivial) (.inl rfl) (r1 rfl rfl) (List.Sublist.refl _)
theorem gbytes_spec {ob : Nat} {v : Value} {b : List UInt8} {w : World} (hb : b.length < 1099511627776) (hh : Pre w [cel ob [v, I 0] 320, ownB v b 5]) :
    Spec Tryz.prog 102 [PT ob] w [cel ob [v, I 0] 320, ownB v b 5] (fun _ : Value => True) (fun x => .tuple #[x, I 0]) (fun x => [cel ob [v, I 0] 320, ownB v b 5, ownB x b 5]) := by
  refine spec_of (n := 22) Tryz.func102 rfl rfl hh.1 hh.2 rfl <| s_r <| q_a rfl rfl <| q_a rfl rfl <| s_n <| tk_seq <| tk_block <| s_r <| q_m rfl rfl <| s_q rfl (y_pnil rfl rfl rfl) <| q_a rfl rfl <| s_n <| tk_cond0 rfl <| s_r <| q_m rfl rfl <| s_q rfl (y_nilCheck rfl) <| s_q rfl (y_fldN (o := 0) 1 rfl kR) <| s_q rfl (y_load rfl rfl (hc (o := 1) (.head _) (rfl))) <| s_q rfl ((y_neq rfl rfl).cast (bool_f dC)) <| q_a rfl rfl <| s_n <| tk_cond0 rfl <| tk_skip <| tk_in_normal ?_; exact tk_then <| s_r <| q_m rfl rfl <| s_q rfl (y_nilCheck rfl) <| s_q rfl (y_fld0 (o := 0) rfl kR) <| s_q rfl (y_load rfl rfl (hc (o := 0) (.head _) (rfl))) <| tk_act rfl <| a_callv [] _ rfl kR rfl (fun w' hw' => clone_spec (l := b) (Ro.own (H0 := []) hw' (mm 1 rfl)) lenP) rfl fun v21 _ => q_a rfl rfl <| q_a rfl rfl <| s_n <| tk_retc <| tk_ps [2, 2] rfl <| tk_ret (v21) (trivial) (.inl rfl) (r2 rfl rfl rfl) (List.Sublist.refl _)
end Go.Proofs.YtnhpghhibcdklaaGreatDoor
set_option linter.unusedSimpArgs false
set_option linter.unusedVariables false
namespace Go.Proofs.YtnhpghhibcdklaaGreatDoor
open Go Go.RowKit
set_option maxRecDepth 100000
theorem drop_cons {α : Type} {b l : List α} {x d : α} {k : Nat} (h : b.drop k = x :: l) : k < b.length ∧ b.getD k d = x ∧ b.drop (k + 1) = l := by
  have hk : k < b.length := by
    rcases Nat.lt_or_ge k b.length with h1 | h1
    · exact h1
    · rw [List.drop_of_length_le h1] at h; cases h
  rw [List.drop_eq_getElem_cons hk] at h
  obtain ⟨h1, h2⟩ := List.cons.inj h
  exact ⟨hk, by rw [List.getD_eq_getElem?_getD, List.getElem?_eq_getElem hk]; exact h1, h2⟩
structure NAt (b r : List UInt8) (n k acc m : Nat) : Prop where
  k8 : k ≤ 8
  sum : acc + m * 2 ^ (7 * k) = n
  low : acc < 2 ^ (7 * k)
  rest : b.drop k = numL m ++ r
  big : m * 2 ^ (7 * k) < 4611686018427387904
  pos : k = 0 ∨ 1 ≤ m
theorem nat0 {b r : List UInt8} {n : Nat} (h : b = numL n ++ r) (hn : n < 4611686018427387904) : NAt b r n 0 0 n := ⟨by omega, by simp, by simp, by simpa using h, by simpa using hn, .inl rfl⟩
theorem nat_x {b r : List UInt8} {n k acc m : Nat} (h : NAt b r n k acc m) : k < b.length ∧ (128 ≤ m → b.getD k 0 = UInt8.ofNat (m % 128 + 128) ∧ b.drop (k + 1) = numL (m / 128) ++ r) ∧ (m < 128 → b.getD k 0 = UInt8.ofNat m ∧ b.drop (k + 1) = r) := by
  by_cases hm : m < 128
  · have h1 := h.rest
    rw [numL_lt hm] at h1
    obtain ⟨h2, h3, h4⟩ := drop_cons (d := 0) h1
    exact ⟨h2, fun h5 => absurd h5 oM, fun _ => ⟨h3, h4⟩⟩
  · have h1 := h.rest
    rw [numL_ge hm] at h1
    obtain ⟨h2, h3, h4⟩ := drop_cons (d := 0) h1
    exact ⟨h2, fun _ => ⟨h3, h4⟩, fun h5 => absurd h5 hm⟩
theorem nat_b {b r : List UInt8} {n k acc m : Nat} (h : NAt b r n k acc m) : ((b.getD k 0) &&& 127).toNat = m % 128 ∧ (128 ≤ (b.getD k 0).toNat ↔ 128 ≤ m) ∧ (m < 128 → (b.getD k 0).toNat = m) := by
  obtain ⟨_, h1, h2⟩ := nat_x h
  have e1 : ∀ x : UInt8, (x &&& 127).toNat = x.toNat % 128 := fun x => by rw [UInt8.toNat_and]; exact Nat.and_two_pow_sub_one_eq_mod x.toNat 7
  rw [e1]
  by_cases hm : m < 128
  · rw [(h2 hm).1]
    have : (UInt8.ofNat m).toNat = m := by simp; omega
    omega
  · rw [(h1 oM).1]
    have : (UInt8.ofNat (m % 128 + 128)).toNat = m % 128 + 128 := by simp; omega
    omega
theorem pow_pos' (k : Nat) : 0 < 2 ^ (7 * k) := Nat.pow_pos dC
theorem nat_or {b r : List UInt8} {n k acc m : Nat} (h : NAt b r n k acc m) : acc ||| (m % 128 * 2 ^ (7 * k)) = acc + m % 128 * 2 ^ (7 * k) ∧ m % 128 * 2 ^ (7 * k) < 4611686018427387904 ∧ acc < 4611686018427387904 ∧ acc + m % 128 * 2 ^ (7 * k) ≤ n := by
  have h1 := h.low
  have h2 : m % 128 * 2 ^ (7 * k) ≤ m * 2 ^ (7 * k) := Nat.mul_le_mul_right _ (Nat.mod_le _ _)
  have h3 := h.big
  have h4 : 2 ^ (7 * k) ≤ 2 ^ 56 := Nat.pow_le_pow_right dC (by have := h.k8; omega)
  have h5 := h.sum
  refine ⟨?_, by omega, by omega, by omega⟩
  rw [Nat.or_comm, or_add _ _ _ h1, Nat.add_comm]
theorem nat_fin {b r : List UInt8} {n k acc m : Nat} (h : NAt b r n k acc m) (hm : m < 128) : acc + m % 128 * 2 ^ (7 * k) = n := by rw [Nat.mod_eq_of_lt hm]; exact h.sum
theorem nat_next {b r : List UInt8} {n k acc m : Nat} (h : NAt b r n k acc m) (hm : 128 ≤ m) : NAt b r n (k + 1) (acc + m % 128 * 2 ^ (7 * k)) (m / 128) := by
  have hp := pow_pos' k
  have e : 2 ^ (7 * (k + 1)) = 128 * 2 ^ (7 * k) := by rw [show 7 * (k + 1) = 7 + 7 * k by omega, Nat.pow_add]
  have e2 : m * 2 ^ (7 * k) = m / 128 * (128 * 2 ^ (7 * k)) + m % 128 * 2 ^ (7 * k) := by
    conv => lhs; rw [← Nat.div_add_mod m 128]
    rw [Nat.add_mul, Nat.mul_comm 128 (m / 128), Nat.mul_assoc]
  have hs := h.sum; have hb := h.big; have hl := h.low
  have hk : k < 8 := by
    rcases Nat.lt_or_ge k 8 with h1 | h1
    · exact h1
    · have : k = 8 := by have := h.k8; omega
      subst this
      omega
  refine ⟨by omega, ?_, ?_, ((nat_x h).2.1 hm).2, ?_, .inr oM⟩
  · rw [e]; omega
  · rw [e]
    have : m % 128 * 2 ^ (7 * k) ≤ 127 * 2 ^ (7 * k) := Nat.mul_le_mul_right _ oM
    omega
  · rw [e]; omega
theorem beq_spec {v1 v2 : Value} {l m : List UInt8} {w : World} (h1 : Ro (Fs []) w (rdB v1 l)) (h2 : Ro (Fs []) w (rdB v2 m)) : Spec Tryz.prog 207 [v1, v2] w [] (fun _ : Unit => True) (fun _ => .bool (decide (l = m))) (fun _ => []) := by
  exact spec_of (n := 10) Tryz.func207 rfl rfl trivial trivial rfl <| s_r <| q_a rfl rfl <| s_n <| s_r <| q_m rfl rfl <| s_q rfl (y_str (l := l) rfl rfl rfl rfl (fun w hw => Ro.rd h1 hw)) <| q_m rfl rfl <| s_q rfl (y_str (l := m) rfl rfl rfl rfl (fun w hw => Ro.rd h2 hw)) <| s_q rfl (y_strEq (l := l) (m := m) rfl rfl) <| q_a rfl rfl <| s_n <| tk_retc <| tk_ret (()) (trivial) (.inl rfl) (r1 rfl rfl) (List.Sublist.refl _)
theorem gopen_spec {kind : UInt8} {bv : Value} {b r : List UInt8} {w : World} (hb : Ro (Fs []) w (rdB bv b)) (hbr : b = [72, 89, kind] ++ r) (hrl : r.length < 1099511627776) :
    Spec Tryz.prog 123 [B kind, bv] w [] (fun _ : Nat × Value => True) (fun x => PT x.1) (fun x => [cel x.1 [x.2, I 0] 348, ownB x.2 r 5]) := by
  refine spec_of (n := 41) Tryz.func123 rfl rfl trivial trivial rfl ?_
  have hbl : b.length = r.length + 3 := by rw [hbr]; simp
  refine s_r <| q_a rfl rfl <| s_n <| s_r <| tk_act rfl <| a_slitN (vs := [B 72, B 89]) rfl (List.forall_mem_cons.2 ⟨rfl, (List.forall_mem_cons.2 ⟨rfl, (fun _ h => nomatch h)⟩)⟩) (EL64) rfl rfl dC fun b7 => tk_act rfl <| a_convX (H1 := []) rfl Tryz.underlying64 Tryz.underlying5 rfl rfl <| q_m rfl rfl <| tk_act rfl <| a_slitN (vs := [B kind]) rfl (List.forall_mem_cons.2 ⟨rfl, (fun _ h => nomatch h)⟩) (EL64) rfl rfl dC fun b10 => tk_celM (H1 := [_]) (f := B) (l := [72, 89]) (T := 5) rfl rfl dC <| tk_act rfl <| a_appM (H1 := [_]) (f := B) (l := [72, 89]) (m := [kind]) rfl rfl EL64 rfl rfl (fun w hw => cel_rdE (o := 0) (m := 1) (cp := 1) (vs := [kind].map B) (hw.mem (.head _)) (rfl) lQ lenP) (fun _ => rfl) ⟨lenP, lenP⟩ fun v11 => tk_own1 (mm 1 rfl) fun hfv11 => tk_R (H1 := [_]) rfl (show ownB v11 ([72, 89] ++ [kind]) 5 = ownB v11 [72, 89, kind] 5 from ownM_cast rfl) <| tk_own1 (mm 1 rfl) fun hf11 => q_a rfl rfl <| s_n <| s_r <| q_m rfl rfl <| s_q rfl (y_lenRN (n' := b.length) rfl hb.1 rfl (by first | rfl | (rw [List.length_map]; omega) | simp)) <| q_m rfl rfl <| s_q rfl (y_lenRN (n' := 3) rfl hf11.choose_spec rfl (by first | rfl | (rw [List.length_map]; omega) | simp)) ?_; refine s_q rfl (y_minN (a := b.length) (b := 3) rfl rfl) <| tk_re 16 (IN (min b.length 3)) (I 3) rfl (congrArg I oM) <| q_a rfl rfl <| s_n <| tk_seq <| tk_block <| tk_seq <| tk_drawH [cel b10 ([B kind]) 5, ownB v11 [72, 89, kind] 5] [] kR <| s_x 0 rfl (y_move rfl) <| s_x 1 rfl (y_move rfl) <| s_x 2 rfl (y_cutRBh (l := b) 3 rfl rfl hb.1 kR lenP rfl) <| s_x 3 rfl (y_move rfl) <| s_x 4 rfl (y_move rfl) <| s_x 5 rfl (y_cutRBh (l := [72, 89, kind]) 3 rfl rfl hf11.choose_spec kR lenP rfl) <| tx_a 6 rfl kR rfl <| a_callv [] _ rfl kR rfl (fun w' hw' => beq_spec (l := b.take 3) (m := [72, 89, kind].take 3) (Ro.cutBh (Ro.call (H0 := []) hb hw') (hi := 3) lenP) (Ro.cutBh (Ro.own (H0 := []) hw' (mm 1 rfl)) (hi := 3) lenP)) rfl fun _ _ => tk_S (fun _ h => h) <| tk_re 24 (.bool (decide (b.take 3 = [72, 89, kind].take 3))) (.bool true) rfl (bool_t (by rw [hbr]; rfl)) <| s_x 7 rfl (y_not rfl) <| s_x 8 rfl (y_assign rfl) <| tx_done kR <| tk_then <| tk_cond0 rfl <| s_r ?_; refine q_m rfl rfl <| q_m rfl rfl <| s_q rfl (y_lenRN (n' := 3) rfl hf11.choose_spec rfl (by first | rfl | (rw [List.length_map]; omega) | simp)) <| s_q rfl ((y_lss rfl rfl).cast (bool_f dC)) <| q_a rfl rfl <| s_n <| tk_cond0 rfl <| tk_skip <| tk_in_normal <| tk_then <| s_r <| q_m rfl rfl <| q_m rfl rfl <| s_q rfl (y_cutRBl (l := b) 3 rfl rfl hb.1 kR lenP rfl) <| tk_act rfl <| a_callv [] _ rfl kR rfl (fun w' hw' => clone_spec (l := b.drop 3) (Ro.cutBl (Ro.call (H0 := []) hb hw') (lo := 3) lenP) lenP) rfl fun v38 _ => tk_R (H1 := []) rfl (show ownB v38 (b.drop 3) 5 = ownB v38 r 5 from ownM_cast (by rw [hbr]; rfl)) <| tk_own1 (.head _) fun hf38 => ?_
  have hc38 := hf38.choose_spec.cells
  simp only [Value.cells] at hc38
  exact s_q rfl (y_build (v := .agg ([v38, I 0]).toArray) (vs := [(0, v38)]) rfl (run_build (zs := [Value.slice none 0 0, I 0]) (pl := [(0, 1), (1, 1)]) Tryz.underlying348 (fun _ => kR) (fun _ => kR) (fill_s0 (RdS.cells hf38.choose_spec)))) <| tk_act rfl <| a_boxL (cs := [v38, I 0]) rfl rfl fun b40 => q_a rfl rfl <| s_n <| tk_retc <| tk_ret ((b40, v38)) (trivial) (.inl rfl) (r1 rfl rfl) (.cons_cons _ (.cons_cons _ (List.nil_sublist _)))
theorem inum_spec {ib lim n : Nat} {v : Value} {b r : List UInt8} {w : World} (hbn : b = numL n ++ r) (hn : n < 4611686018427387904) (hlim : n ≤ lim) (hbl : b.length < 1099511627776) (hh : Pre w [cel ib [v, I 0] 348, ownB v b 5]) :
    Spec Tryz.prog 125 [PT ib, I (lim : Int)] w [cel ib [v, I 0] 348, ownB v b 5] (fun _ : Value => True) (fun _ => I (n : Int)) (fun x => [cel ib [x, I 0] 348, ownB x r 5]) := by
  refine spec_of (n := 81) Tryz.func125 rfl rfl hh.1 hh.2 rfl <| tk_own1 (mm 1 rfl) fun hfv => s_r <| q_a rfl rfl <| s_n <| tk_seq <| s_r <| q_m rfl rfl <| s_q rfl (y_pnil rfl rfl rfl) <| q_m rfl rfl <| s_g rfl (y_move rfl) <| s_g rfl (y_nilCheck rfl) <| s_g rfl (y_fldN (o := 0) 1 rfl kR) <| s_g rfl (y_load rfl rfl (hc (o := 1) (.head _) (rfl))) <| s_g rfl ((y_neq rfl rfl).cast (bool_f dC)) <| s_q rfl (y_pick0 rfl rfl) <| s_n <| tk_cond0 rfl <| tk_skip <| tk_then <| s_r <| q_a rfl rfl <| s_n <| tk_seq ?_; refine s_r <| q_m rfl rfl <| s_n <| tk_block <| tk_loop (X := Nat × Nat × Nat) (fun (k, acc, m) => NAt b r n k acc m) (fun (k, acc, m) => [(0, PT ib), (1, IN lim), (5, IN acc), (17, IN k)]) (fun (k, acc, m) => [cel ib ([v, I 0]) 348, ownB v b 5]) (fun (k, acc, m) => 9 - k) ((0, 0, n)) (nat0 hbn hn) sB ((List.Sublist.refl _)) ?_
  rintro ⟨k, acc, m⟩ hI
  try dsimp only at hI ⊢
  have hk8 := hI.k8
  obtain ⟨hx1, hx2, hx3⟩ := nat_x hI
  obtain ⟨hy1, hy2, hy3⟩ := nat_b hI
  obtain ⟨ho1, ho2, ho3, ho4⟩ := nat_or hI
  have hpos := hI.pos
  refine s_r <| s_q rfl (y_lss rfl rfl) <| s_n <| tk_seq <| tk_condP rfl (fun ht18 => ?_) (fun ht18 => ?_)
  · refine tk_skip <| tk_then <| tk_seq <| tk_block <| s_r <| q_m rfl rfl <| q_a rfl rfl <| s_n <| tk_seq <| s_r <| q_m rfl rfl <| q_m rfl rfl <| s_q rfl (y_nilCheck rfl) <| s_q rfl (y_fld0 (o := 0) rfl kR) <| s_q rfl (y_load rfl rfl (hc (o := 0) (.head _) (rfl))) <| s_q rfl (y_lenRN (n' := b.length) rfl hfv.choose_spec rfl (by first | rfl | (rw [List.length_map]; omega) | simp)) <| tk_qe (.bool false) rfl rfl rfl (y_eql rfl rfl) (bool_f oM) <| s_n <| tk_cond0 rfl <| tk_skip <| tk_then <| s_r <| q_m rfl rfl <| s_q rfl (y_nilCheck rfl) ?_; refine s_q rfl (y_fld0 (o := 0) rfl kR) <| s_q rfl (y_load rfl rfl (hc (o := 0) (.head _) (rfl))) <| q_m rfl rfl <| s_q rfl (y_ixR (j := k) rfl rfl hfv.choose_spec lenP kR) <| s_q rfl (y_load rfl rfl (fun w hw => ((fun w hw => own_rdS (hw.mem (mm 1 rfl))) w hw).cell (gM (d := 0) lenP))) <| q_a rfl rfl <| s_n <| s_r <| q_m rfl rfl <| q_m rfl rfl <| s_q rfl (y_and8 (a := b.getD k 0) (b := 127) rfl rfl) <| tk_qe (I ((m % 128 : Nat) : Int)) rfl rfl rfl (y_conv8i (a := (b.getD k 0) &&& 127) rfl rfl rfl) (by rw [hy1]) <| q_m rfl rfl <| s_q rfl (y_mulN (a := 7) (b := k) rfl rfl oM) <| s_q rfl (y_shlI (a := m % 128) (m := 7 * k) rfl rfl oM oM) <| tk_qe (I ((acc + m % 128 * 2 ^ (7 * k) : Nat) : Int)) rfl rfl rfl (y_orN (a := acc) (b := (m % 128) * 2 ^ (7 * k)) rfl rfl ⟨ho3, ho2⟩) (by rw [ho1]) <| q_a rfl rfl <| s_n <| tk_seq <| s_r <| q_m rfl rfl <| s_q rfl (y_geq rfl rfl) <| s_n <| tk_condP rfl (fun ht45 => ?_) (fun ht45 => ?_)
    · exact tk_exit <| tk_then_exit <| tk_in_hit <| tk_then <| tk_region <| s_q rfl (y_addN (a := k) (b := 1) rfl rfl oM) <| q_m rfl rfl <| tk_nil <| tk_again ((k + 1, acc + m % 128 * 2 ^ (7 * k), m / 128)) (nat_next hI (hy2.1 oM)) (by dsimp only; omega) sB (List.Sublist.refl _)
    · have hm8 : m < 128 := Nat.lt_of_not_le (fun h => ht45 (by have := hy2.2 h; omega))
      have hfin := nat_fin hI hm8
      have hx0 := hy3 hm8
      refine tk_skip <| tk_then <| tk_seq <| tk_block <| tk_seq <| s_r <| q_m rfl rfl <| tk_qs rfl rfl rfl (y_gtr rfl rfl) (fun hs13_1 => ?_) (fun hs13_1 => ?_)
      · refine q_m rfl rfl <| s_g rfl (y_move rfl) <| tk_gqe (.bool false) rfl rfl rfl (y_eql rfl rfl) (bool_f oM) <| s_q rfl (y_pick1 rfl rfl) <| q_a rfl rfl <| s_n <| tk_cond0 rfl <| tk_region <| q_m rfl rfl <| tk_qe (.bool false) rfl rfl rfl (y_lss rfl rfl) (bool_f oM) <| q_m rfl rfl <| s_g rfl (y_move rfl) <| tk_gqe (.bool false) rfl rfl rfl (y_geq rfl rfl) (bool_f oM) <| s_q rfl (y_pick0 rfl rfl) <| q_a rfl rfl <| s_n <| tk_cond0 rfl <| s_r <| q_m rfl rfl <| q_m rfl rfl <| tk_qe (.bool false) rfl rfl rfl (y_gtr rfl rfl) (bool_f oM) <| q_a rfl rfl <| s_n <| tk_cond0 rfl ?_; refine tk_skip <| tk_in_normal <| tk_then <| s_r <| q_m rfl rfl <| q_m rfl rfl <| s_q rfl (y_nilCheck rfl) <| s_q rfl (y_fld0 (o := 0) rfl kR) <| s_q rfl (y_load rfl rfl (hc (o := 0) (.head _) (rfl))) <| q_m rfl rfl <| s_q rfl (y_addN (a := k) (b := 1) rfl rfl oM) <| s_q rfl (y_cutRBl (l := b) (k + 1) rfl rfl hfv.choose_spec kR lenP rfl) <| s_q rfl (y_nilCheck rfl) <| s_q rfl (y_fld0 (o := 0) rfl kR) <| tk_act rfl <| a_storeE (H1 := []) (o := 0) (v := cutR v (k + 1) b.length) (cs' := [cutR v (k + 1) b.length, I 0]) rfl rfl kR (RdS.one (RdS.cutBl hfv.choose_spec (lo := k + 1) lenP)) rfl sW (rfl) <| s_n <| s_r <| q_m rfl rfl <| q_a rfl rfl <| s_n <| tk_retc <| tk_in_ret <| tk_then_ret ?_; exact tk_then_ret <| tk_in_ret <| tk_then_ret <| tk_ownCut (H1 := [_]) (k + 1) rfl oM <| tk_R (H1 := [_]) rfl (show ownB ((cutR v (k + 1) b.length)) (b.drop (k + 1)) 5 = ownB ((cutR v (k + 1) b.length)) r 5 from ownM_cast (hx3 hm8).2) <| tk_re 4 (I ((acc + m % 128 * 2 ^ (7 * k) : Nat) : Int)) (IN n) rfl (congrArg I oM) <| tk_ret (cutR v (k + 1) b.length) (trivial) (.inl rfl) (r1 rfl rfl) (List.Sublist.refl _)
      · refine q_m rfl rfl <| tk_gno rfl rfl rfl <| tk_gno rfl rfl rfl <| s_q rfl (y_pick0 rfl rfl) <| q_a rfl rfl <| s_n <| tk_cond0 rfl <| tk_region <| q_m rfl rfl <| tk_qe (.bool false) rfl rfl rfl (y_lss rfl rfl) (bool_f oM) <| q_m rfl rfl <| s_g rfl (y_move rfl) <| tk_gqe (.bool false) rfl rfl rfl (y_geq rfl rfl) (bool_f oM) <| s_q rfl (y_pick0 rfl rfl) <| q_a rfl rfl <| s_n <| tk_cond0 rfl <| s_r <| q_m rfl rfl <| q_m rfl rfl <| tk_qe (.bool false) rfl rfl rfl (y_gtr rfl rfl) (bool_f oM) <| q_a rfl rfl <| s_n <| tk_cond0 rfl ?_; refine tk_skip <| tk_in_normal <| tk_then <| s_r <| q_m rfl rfl <| q_m rfl rfl <| s_q rfl (y_nilCheck rfl) <| s_q rfl (y_fld0 (o := 0) rfl kR) <| s_q rfl (y_load rfl rfl (hc (o := 0) (.head _) (rfl))) <| q_m rfl rfl <| s_q rfl (y_addN (a := k) (b := 1) rfl rfl oM) <| s_q rfl (y_cutRBl (l := b) (k + 1) rfl rfl hfv.choose_spec kR lenP rfl) <| s_q rfl (y_nilCheck rfl) <| s_q rfl (y_fld0 (o := 0) rfl kR) <| tk_act rfl <| a_storeE (H1 := []) (o := 0) (v := cutR v (k + 1) b.length) (cs' := [cutR v (k + 1) b.length, I 0]) rfl rfl kR (RdS.one (RdS.cutBl hfv.choose_spec (lo := k + 1) lenP)) rfl sW (rfl) <| s_n <| s_r <| q_m rfl rfl <| q_a rfl rfl <| s_n <| tk_retc <| tk_in_ret <| tk_then_ret ?_; exact tk_then_ret <| tk_in_ret <| tk_then_ret <| tk_ownCut (H1 := [_]) (k + 1) rfl oM <| tk_R (H1 := [_]) rfl (show ownB ((cutR v (k + 1) b.length)) (b.drop (k + 1)) 5 = ownB ((cutR v (k + 1) b.length)) r 5 from ownM_cast (hx3 hm8).2) <| tk_re 4 (I ((acc + m % 128 * 2 ^ (7 * k) : Nat) : Int)) (IN n) rfl (congrArg I oM) <| tk_ret (cutR v (k + 1) b.length) (trivial) (.inl rfl) (r1 rfl rfl) (List.Sublist.refl _)
  · exfalso; omega
theorem iraw_spec {ib n : Nat} {v : Value} {b f r : List UInt8} {w : World} (hbf : b = f ++ r) (hf : f.length = n) (hbl0 : b.length < 1099511627776) (hh : Pre w [cel ib [v, I 0] 348, ownB v b 5]) :
    Spec Tryz.prog 124 [PT ib, I (n : Int)] w [cel ib [v, I 0] 348, ownB v b 5] (fun _ : Value × Value => True) (fun x => x.2) (fun x => [cel ib [x.1, I 0] 348, ownB x.1 r 5, ownB x.2 f 5]) := by
  refine spec_of (n := 48) Tryz.func124 rfl rfl hh.1 hh.2 rfl ?_
  have hbl : b.length = n + r.length := by rw [hbf, List.length_append, hf]
  refine tk_own1 (mm 1 rfl) fun hfv => s_r <| q_a rfl rfl <| s_n <| tk_seq <| tk_block <| s_r <| q_m rfl rfl <| s_q rfl (y_pnil rfl rfl rfl) <| q_m rfl rfl <| s_g rfl (y_move rfl) <| s_g rfl (y_nilCheck rfl) <| s_g rfl (y_fldN (o := 0) 1 rfl kR) <| s_g rfl (y_load rfl rfl (hc (o := 1) (.head _) (rfl))) <| s_g rfl ((y_neq rfl rfl).cast (bool_f dC)) <| s_q rfl (y_pick0 rfl rfl) <| q_a rfl rfl <| s_n <| tk_cond0 rfl <| s_r <| q_m rfl rfl <| tk_qe (.bool false) rfl rfl rfl (y_lss rfl rfl) (bool_f oM) <| q_a rfl rfl <| s_n ?_; refine tk_cond0 rfl <| s_r <| q_m rfl rfl <| q_m rfl rfl <| s_q rfl (y_nilCheck rfl) <| s_q rfl (y_fld0 (o := 0) rfl kR) <| s_q rfl (y_load rfl rfl (hc (o := 0) (.head _) (rfl))) <| s_q rfl (y_lenRN (n' := b.length) rfl hfv.choose_spec rfl (by first | rfl | (rw [List.length_map]; omega) | simp)) <| tk_qe (.bool false) rfl rfl rfl (y_gtr rfl rfl) (bool_f oM) <| q_a rfl rfl <| s_n <| tk_cond0 rfl <| tk_skip <| tk_in_normal <| tk_then <| s_r <| q_m rfl rfl <| s_q rfl (y_nilCheck rfl) <| s_q rfl (y_fld0 (o := 0) rfl kR) <| s_q rfl (y_load rfl rfl (hc (o := 0) (.head _) (rfl))) <| q_m rfl rfl <| s_q rfl (y_cutRBh (l := b) n rfl rfl hfv.choose_spec kR lenP rfl) <| tk_act rfl <| a_callv [] _ rfl kR rfl (fun w' hw' => clone_spec (l := b.take n) (Ro.cutBh (Ro.own (H0 := []) hw' (mm 1 rfl)) (hi := n) lenP) lenP) rfl fun v37 _ => ?_; refine q_a rfl rfl <| s_n <| s_r <| q_m rfl rfl <| q_m rfl rfl <| s_q rfl (y_nilCheck rfl) <| s_q rfl (y_fld0 (o := 0) rfl kR) <| s_q rfl (y_load rfl rfl (hc (o := 0) (mm 1 rfl) (rfl))) <| q_m rfl rfl <| s_q rfl (y_cutRBl (l := b) n rfl rfl hfv.choose_spec kR lenP rfl) <| s_q rfl (y_nilCheck rfl) <| s_q rfl (y_fld0 (o := 0) rfl kR) <| tk_act rfl <| a_storeE (H1 := [_]) (o := 0) (v := cutR v n b.length) (cs' := [cutR v n b.length, I 0]) rfl rfl kR (RdS.one (RdS.cutBl hfv.choose_spec (lo := n) lenP)) rfl sW (rfl) <| s_n <| s_r <| q_m rfl rfl <| q_a rfl rfl <| s_n <| tk_retc <| tk_ownCut (H1 := [_, _]) n rfl oM <| tk_R (H1 := [_, _]) rfl (show ownB (cutR v n b.length) (b.drop n) 5 = ownB (cutR v n b.length) r 5 from ownM_cast (by rw [hbf, ← hf, List.drop_left])) <| tk_R (H1 := []) rfl (show ownB v37 (b.take n) 5 = ownB v37 f 5 from ownM_cast (by rw [hbf, ← hf, List.take_left])) <| tk_ps [2, 2] rfl ?_; exact tk_ret ((cutR v n b.length, v37)) (trivial) (.inl rfl) (r1 rfl rfl) (List.Sublist.refl _)
theorem ierr_spec {ib : Nat} {v : Value} {w : World} (hh : Pre w [cel ib [v, I 0] 348]) : Spec Tryz.prog 209 [PT ib] w [cel ib [v, I 0] 348] (fun _ : Unit => True) (fun _ => I 0) (fun _ => [cel ib [v, I 0] 348]) := by
  exact spec_of (n := 9) Tryz.func209 rfl rfl hh.1 hh.2 rfl <| s_r <| q_a rfl rfl <| s_n <| tk_seq <| s_r <| q_m rfl rfl <| s_q rfl (y_pnil rfl rfl rfl) <| s_n <| tk_cond0 rfl <| tk_skip <| tk_then <| s_r <| q_m rfl rfl <| s_q rfl (y_nilCheck rfl) <| s_q rfl (y_fldN (o := 0) 1 rfl kR) <| s_q rfl (y_load rfl rfl (hc (o := 1) (.head _) (rfl))) <| q_a rfl rfl <| s_n <| tk_retc <| tk_ret (()) (trivial) (.inl rfl) (r1 rfl rfl) (List.Sublist.refl _)
theorem iend_spec {ib : Nat} {v : Value} {b : List UInt8} {w : World} (hb0 : b = []) (hh : Pre w [cel ib [v, I 0] 348, ownB v b 5]) : Spec Tryz.prog 127 [PT ib] w [cel ib [v, I 0] 348, ownB v b 5] (fun _ : Unit => True) (fun _ => I 0) (fun _ => [cel ib [v, I 0] 348, ownB v b 5]) := by
  refine spec_of (n := 17) Tryz.func127 rfl rfl hh.1 hh.2 rfl ?_
  subst hb0
  refine tk_own1 (mm 1 rfl) fun hfv => s_r <| q_a rfl rfl <| s_n <| tk_seq <| s_r <| q_m rfl rfl <| s_q rfl (y_pnnil rfl rfl rfl) <| q_m rfl rfl <| s_g rfl (y_move rfl) <| s_g rfl (y_nilCheck rfl) <| s_g rfl (y_fld0 (o := 0) rfl kR) <| s_g rfl (y_load rfl rfl (hc (o := 0) (.head _) (rfl))) <| s_g rfl (y_lenRN (n' := 0) rfl hfv.choose_spec rfl (by first | rfl | (rw [List.length_map]; omega) | simp)) <| s_g rfl ((y_gtr rfl rfl).cast (bool_f dC)) <| s_q rfl (y_pick1 rfl rfl) <| s_n <| tk_cond0 rfl <| tk_skip <| tk_then <| s_r <| q_m rfl rfl <| tk_act rfl <| a_callv [] _ rfl kR rfl (fun w' hw' => ierr_spec (ib := ib) (v := v) (St.pre hw')) rfl fun _ _ => ?_; exact q_a rfl rfl <| s_n <| tk_retc <| tk_ret (()) (trivial) (.inl rfl) (r1 rfl rfl) (List.Sublist.refl _)
theorem itext_spec {ib lim : Nat} {v : Value} {b t r : List UInt8} {w : World} (hbt : b = textL t ++ r) (htl : t.length ≤ lim) (hlim : lim ≤ 131072) (hrl : r.length < 1000000) (hh : Pre w [cel ib [v, I 0] 348, ownB v b 5]) :
    Spec Tryz.prog 126 [PT ib, I (lim : Int)] w [cel ib [v, I 0] 348, ownB v b 5] (fun _ : Value => True) (fun _ => Str t) (fun x => [cel ib [x, I 0] 348, ownB x r 5]) := by
  refine spec_of (n := 12) Tryz.func126 rfl rfl hh.1 hh.2 rfl ?_
  have hn9 := numL_len 8 (n := t.length) oM
  have hbl : b.length = (numL t.length).length + t.length + r.length := by rw [hbt]; simp [textL]; omega
  exact tk_own1 (mm 1 rfl) fun hfv => s_r <| q_a rfl rfl <| s_n <| s_r <| q_m rfl rfl <| q_m rfl rfl <| q_m rfl rfl <| s_q rfl (y_minN (a := lim) (b := 131072) rfl rfl) <| tk_act rfl <| a_callv [] _ rfl kR rfl (fun w' hw' => inum_spec (ib := ib) (v := v) (b := b) (n := t.length) (r := t ++ r) (lim := min lim 131072) (by rw [hbt, textL, List.append_assoc]) lenP lenP lenP (St.pre hw')) rfl fun v9 _ => tk_act rfl <| a_callv [] _ rfl kR rfl (fun w' hw' => iraw_spec (ib := ib) (v := v9) (b := t ++ r) (n := t.length) (f := t) (r := r) rfl lenP lenP (St.pre hw')) rfl fun ⟨v10, w10⟩ _ => tk_own1 (mm 2 rfl) fun hfw10 => s_q rfl (y_str (l := t) rfl rfl rfl rfl (fun w hw => own_rdS (hw.mem (mm 2 rfl)))) <| q_a rfl rfl <| s_n <| tk_retc <| tk_ret (v10) (trivial) (.inl rfl) (r1 rfl rfl) (.cons_cons _ (.cons_cons _ (List.nil_sublist _)))
end Go.Proofs.YtnhpghhibcdklaaGreatDoor
set_option linter.unusedSimpArgs false
set_option linter.unusedVariables false
namespace Go.Proofs.YtnhpghhibcdklaaGreatDoor
open Go Go.RowKit
section
variable {c : Cx} {L : Sl} {H : List Res} {P : Program} {Q : Exit → Act → World → Prop} {K : Act → World → Prop} {d : Nat} {rty : TypeId} {pos : String} {af : Array Edge} {gd : Option (Nat × Bool)} {t t' : TypeId} {x y : Operand} {v u : Value}
theorem a_appendC {H1 H2 : List Res} {n m k : Nat} {xs news : List Value} {e : TypeId} {bytes : Nat} (hx : ev L x = some v) (hy : ev L y = some u) (he : elB P t e k bytes) (hn : Nat.blt d c.n = true)
    (hH : H = H1 ++ own v n xs e k :: H2) (hr : ∀ w, St c w H → RdC w u m news) (hm : news.length = m * k) (h1 : ∀ u ∈ news, u.oneCell' = true)
    (hb : n + m ≤ 140737488355328 ∧ (n + m) * bytes ≤ 140737488355328) (h : ∀ v', TK c K ((d, v') :: L) (H1 ++ own v' (n + m) (xs ++ news) e k :: H2)) :
    TK c (fun a w => (⟨some d, .call { callee := .builtin .append, args := #[x, y], argTypes := #[t, t] }, rty, pos, af, gd⟩ : Oper).wp P a w K Q) L H := fun a w ha hw => by
  rcases hr w hw with ⟨rfl, rfl, rfl⟩ | ⟨ad, cp, rfl, hc, hcell⟩
  · subst hH
    have h2 := ha.ev hx; have h3 := ha.ev hy
    obtain ⟨ht, i, z, hi, hz, hzs, hs1, rfl, hsz⟩ := he
    have hown := hw.mem (r := own v n xs e k) sI
    have e1 : (Builtin.append_ #[t, t] rty #[v, .slice none 0 0]).run P w = .ok v w := by
      rcases hown.2 with ⟨rfl, rfl⟩ | ⟨g, o, cap, cur, fr, T, rfl, hg, hf, hnc, hcm, hcs, htake⟩
      · simp [Builtin.append_, run_underlying ht, sizeOf, typeInfo, hi, Builtin.lenOf, Builtin.firstCells]
      · simp [Builtin.append_, run_underlying ht, sizeOf, typeInfo, hi, Builtin.lenOf, Builtin.firstCells, hnc, storeCells]
    have e2 : (execOp a.eval (⟨some d, .call { callee := .builtin .append, args := #[x, y], argTypes := #[t, t] }, rty, pos, af, gd⟩ : Oper)).run P w = .ok (.value v) w := by
      simp [execOp, resolve, h2, h3, invoke, builtin, e1]
    change Oper.upon P _ a K Q ((execOp a.eval _).run P w)
    rw [e2, Oper.upon_value]
    have := h v
    simp only [Nat.add_zero, List.append_nil] at this
    exact this _ _ (ha.put hn _) hw
  · exact (a_append (c := c) (K := K) (Q := Q) (rty := rty) (pos := pos) (af := af) (gd := gd) (L := L) (H := H) (d := d) hx hy he hn hH hm (fun w' hw' j u' hj => by
        rcases hr w' hw' with ⟨h0, _⟩ | ⟨ad', cp', h0, _, hcell'⟩
        · cases h0
        · cases h0; exact hcell' j u' hj) h1 hb h) a w ha hw
theorem a_appW {α : Type} {f : α → List Value} {H1 H2 : List Res} {l m : List α} {T : TypeId} {k bytes : Nat} (hx : ev L x = some v) (hy : ev L y = some u) (he : elB P t T k bytes) (hn : Nat.blt d c.n = true)
    (hH : H = H1 ++ ownA f k v l T :: H2) (hr : ∀ w, St c w H → RdC w u m.length (m.flatMap f)) (hk : ∀ a, (f a).length = k) (h1 : ∀ a, ∀ u ∈ f a, u.oneCell' = true)
    (hl : l.length + m.length ≤ 140737488355328) (hy1 : (l.length + m.length) * bytes ≤ 140737488355328) (h : ∀ v', TK c K ((d, v') :: L) (H1 ++ ownA f k v' (l ++ m) T :: H2)) :
    TK c (fun a w => (⟨some d, .call { callee := .builtin .append, args := #[x, y], argTypes := #[t, t] }, rty, pos, af, gd⟩ : Oper).wp P a w K Q) L H :=
  a_appendC (n := l.length) (m := m.length) (xs := l.flatMap f) (news := m.flatMap f) hx hy he hn hH hr (flat_len hk) (fun u hu => by obtain ⟨a, _, ha⟩ := List.mem_flatMap.1 hu; exact h1 a u ha) ⟨hl, hy1⟩
    (fun v' => by have := h v'; simp only [ownA, List.length_append, List.flatMap_append] at this; exact this)
theorem tk_celEmpty {H1 H2 : List Res} {g k : Nat} {e T : TypeId} (hH : H = H1 ++ cel g [] T :: H2) (h : TK c K L (H1 ++ own (.slice (some ⟨g, 0, none⟩) 0 0) 0 [] e k :: H2)) : TK c K L H := fun a w ha hw => by
  subst hH
  obtain ⟨fr, hb, hf⟩ := hw.mem (r := cel g [] T) sI
  refine h a w ha ((St.turn (r := cel g [] T) (N := [own (.slice (some ⟨g, 0, none⟩) 0 0) 0 [] e k]) hw (Fo.refl _ _) ⟨⟨by simp, .inr ⟨g, 0, 0, ([] : List Value).toArray, fr, T, rfl, hb, by simpa using hf, Nat.le_refl _, Nat.zero_le _, by simp, by simp⟩⟩, trivial⟩ ⟨fun _ _ h => h, trivial⟩ (fun k hk => ?_)).perm perm_mid)
  rcases hk with hk | hk
  · left; simp [own, Value.ownBlock] at hk; exact hk.symm
  · exact hk.elim
theorem run_slit0C {w : World} {e : TypeId} {k bytes : Nat} (he : elB P t e k bytes) :
    (Instr.buildSlice t 0 #[]).run P w = .ok (.slice (some ⟨w.heap.size, 0, none⟩) 0 0) { w with heap := w.heap.push (.cells ([] : List Value).toArray e) } := by
  obtain ⟨ht, i, _, hi, _, _, _, _, _⟩ := he
  have e0 : Array.range 0 = #[] := rfl
  simp [Instr.buildSlice, underlying, ht, Go.sizeOf, typeInfo, hi, Instr.fill, newRow, e0]
theorem a_slit0C {e : TypeId} {k bytes : Nat} (he : elB P t e k bytes) (hn : Nat.blt d c.n = true)
    (h : ∀ v, TK c K ((d, v) :: L) (own v 0 [] e k :: H)) :
    TK c (fun a w => (⟨some d, .buildSlice t 0 #[], rty, pos, af, gd⟩ : Oper).wp P a w K Q) L H :=
  a_slit (xs := []) (vs := []) (cs := []) rfl hn (fun _ => run_slit0C he) (fun b => tk_celEmpty (H1 := []) rfl (h _))
variable {ops : Array Oper} {S : World → Prop} {X : List Nat} {f : Nat} {l : Array Bool}
/-- each operation that may come next, those of X freely -/
def AllY (P : Program) (ops : Array Oper) (Q : Exit → Act → World → Prop) (S : World → Prop) (X : List Nat) (f : Nat) (l : Array Bool) (c : Cx) (L : Sl) (H : List Res) : List Nat → Prop
  | [] => True
  | i :: is => (∃ oi, ops[i]? = some oi ∧ gdB ops L oi = some true ∧ TK c (fun a w => oi.wp P a w (fun a w => (X.contains i = true ∨ S w) ∧ AnyX P ops Q S X f (l.setIfInBounds i true) a w) Q) L H) ∧ AllY P ops Q S X f l c L H is
theorem AllY.mem : ∀ {is : List Nat}, AllY P ops Q S X f l c L H is → ∀ i ∈ is, ∃ oi, ops[i]? = some oi ∧ gdB ops L oi = some true ∧ TK c (fun a w => oi.wp P a w (fun a w => (X.contains i = true ∨ S w) ∧ AnyX P ops Q S X f (l.setIfInBounds i true) a w) Q) L H
  | _ :: _, h, _, .head _ => h.1
  | _ :: _, h, i, .tail _ hm => AllY.mem h.2 i hm
end
end Go.Proofs.YtnhpghhibcdklaaGreatDoor
set_option linter.unusedSimpArgs false
set_option linter.unusedVariables false
namespace Go.Proofs.YtnhpghhibcdklaaGreatDoor
open Go Go.RowKit
set_option maxRecDepth 100000
def setA (cs : List UInt8) : List Bool := cs.foldl (fun s c => s.set c.toNat true) (List.replicate 256 false)
theorem setA_len {cs : List UInt8} : (setA cs).length = 256 := by
  have : ∀ (cs : List UInt8) (s : List Bool), (cs.foldl (fun s c => s.set c.toNat true) s).length = s.length := by
    intro cs
    induction cs with
    | nil => intro s; rfl
    | cons c cs ih => intro s; rw [List.foldl_cons, ih, List.length_set]
  unfold setA; rw [this, List.length_replicate]
theorem setA_step {l : List UInt8} {i : Nat} (h : i < l.length) : setA (l.take (i + 1)) = (setA (l.take i)).set (l.getD i 0).toNat true := by
  unfold setA
  rw [List.take_add_one, List.getElem?_eq_getElem h, List.foldl_append, List.getD_eq_getElem?_getD, List.getElem?_eq_getElem h]; rfl
theorem setA_get {cs : List UInt8} {x : UInt8} : (setA cs).getD x.toNat false = cs.contains x := by
  have : ∀ (cs : List UInt8) (s : List Bool), s.length = 256 → (cs.foldl (fun s c => s.set c.toNat true) s).getD x.toNat false = (s.getD x.toNat false || cs.contains x) := by
    intro cs
    induction cs with
    | nil => intro s _; simp
    | cons c cs ih =>
      intro s hs
      rw [List.foldl_cons, ih _ (by rw [List.length_set]; exact hs)]
      have hx : x.toNat < s.length := by have := UInt8.toNat_lt x; omega
      by_cases hc : c = x
      · subst hc
        simp [List.getD_eq_getElem?_getD, hx]
      · have hne : c.toNat ≠ x.toNat := fun e => hc (UInt8.toNat.inj e)
        have hbeq : (x == c) = false := by simpa using fun e : x = c => hc e.symm
        simp [List.getD_eq_getElem?_getD, List.getElem?_set_ne hne, hbeq, Ne.symm hc]
  unfold setA; rw [this _ _ sI, List.getD_eq_getElem?_getD, List.getElem?_replicate]
  split <;> rfl
theorem mkasc_spec {l : List UInt8} {w : World} (hA : ∀ c ∈ l, c.toNat < 128) (hl : l.length < 1099511627776) : Spec Tryz.prog 161 [Str l] w [] (fun _ : Unit => True) (fun _ => .tuple #[.agg ((setA l).map bo).toArray, .bool true]) (fun _ => []) := by
  refine spec_of (n := 21) Tryz.func161 rfl rfl trivial trivial rfl <| s_r <| tk_act rfl <| a_allocL (cs := (List.replicate 256 false).map bo) kR rfl fun b2 => q_a rfl rfl <| s_n <| tk_seq <| s_r <| q_a rfl rfl <| s_n <| tk_block <| tk_R (H1 := []) rfl (congrArg (fun z_ => cel b2 z_ 278) (show (List.replicate 256 false).map bo = (setA (l.take 0)).map bo from rfl)) <| tk_loop (X := Nat) (fun i => i ≤ l.length) (fun i => [(0, Str l), (2, PT b2), (4, IN i)]) (fun i => [cel b2 ((setA (l.take i)).map bo) 278]) (fun i => l.length - i) (0) (Nat.zero_le _) sB ((List.Sublist.refl _)) ?_
  rintro i hI
  try dsimp only at hI ⊢
  refine tk_seq <| s_r <| q_m rfl rfl <| q_m rfl rfl <| s_q rfl (y_lenStr (l := l) rfl rfl) <| s_q rfl (y_lss rfl rfl) <| s_n <| tk_condP rfl (fun ht9 => ?_) (fun ht9 => ?_)
  · refine tk_skip <| tk_then <| tk_seq <| tk_block <| s_r <| q_m rfl rfl <| q_m rfl rfl <| s_q rfl (y_ixT (l := l) (i := i) rfl rfl rfl ⟨rfl, lenP⟩) <| q_a rfl rfl <| s_n <| tk_seq <| s_r <| q_m rfl rfl <| tk_qe (.bool false) rfl rfl rfl (y_geq rfl rfl) (bool_f (by have := hA _ (getD_mem (d := 0) (l := l) (i := i) oM); omega)) <| s_n <| tk_cond0 rfl <| tk_skip <| tk_then <| tk_region <| q_m rfl rfl <| s_q rfl (y_ixA01 256 (i := (l.getD i 0).toNat) rfl rfl kR (by have := UInt8.toNat_lt (l.getD i 0); omega)) <| tk_act rfl <| a_storeE (H1 := []) (o := (l.getD i 0).toNat) (v := .bool true) (cs' := ((setA (l.take i)).set ((l.getD i 0).toNat) true).map bo) rfl rfl kR rfl rfl (by rw [List.length_map, setA_len]; exact UInt8.toNat_lt _) (sM) <| tk_nil ?_; exact tk_in_normal <| tk_then <| tk_region <| q_m rfl rfl <| s_q rfl (y_addN (a := i) (b := 1) rfl rfl oM) <| q_a rfl rfl <| tk_nil <| tk_R (H1 := []) rfl (congrArg (fun z_ => cel b2 z_ 278) (show ((setA (l.take i)).set ((l.getD i 0).toNat) true).map bo = (setA (l.take (i + 1))).map bo from by rw [setA_step oM])) <| tk_again (i + 1) oM oM sB (List.Sublist.refl _)
  · exact tk_exit <| tk_then_exit <| tk_then_exit <| tk_in_hit <| tk_then <| s_r <| tk_R (H1 := []) rfl (congrArg (fun z_ => cel b2 z_ 278) (show (setA (l.take i)).map bo = (setA l).map bo from by rw [show i = l.length by omega, List.take_length])) <| s_q rfl (y_loadA 256 rfl kR (by rw [List.length_map, setA_len]) (hcw (.head _))) <| tk_act rfl <| a_storeW (H1 := []) (vs := (setA l).map bo) 256 rfl rfl kR rfl ⟨(by rw [List.length_map, setA_len]), (by rw [List.length_map, setA_len])⟩ oneBo <| q_a rfl rfl <| s_n <| tk_retc <| tk_ret (()) (trivial) (.inl rfl) (rct (vs := (setA l).map bo) rfl rfl (by rw [List.length_map, setA_len]; kernel_rfl) (hcw (.head _)) rfl) (List.nil_sublist _)
theorem asc_spec {cs : List UInt8} {x : UInt8} {b : Nat} {w : World} (hh : Pre w [cel b ((setA cs).map bo) 278]) : Spec Tryz.prog 236 [PT b, B x] w [cel b ((setA cs).map bo) 278] (fun _ : Unit => True) (fun _ => .bool (cs.contains x)) (fun _ => [cel b ((setA cs).map bo) 278]) := by
  exact spec_of (n := 10) Tryz.func236 rfl rfl hh.1 hh.2 rfl <| s_r <| q_a rfl rfl <| s_n <| s_r <| q_m rfl rfl <| q_m rfl rfl <| s_q rfl (y_nilCheck rfl) <| s_q rfl (y_ixA01 256 (i := x.toNat) rfl rfl kR (by have := UInt8.toNat_lt x; omega)) <| tk_qe (.bool (List.contains cs x)) rfl rfl rfl (y_load rfl rfl (hc (o := x.toNat) (.head _) (gM (d := false) (by rw [setA_len]; have := UInt8.toNat_lt x; omega)))) (by rw [setA_get]) <| q_a rfl rfl <| s_n <| tk_retc <| tk_ret (()) (trivial) (.inl rfl) (r1 rfl rfl) (List.Sublist.refl _)
theorem take_getD {l : List UInt8} {n j : Nat} (h : j < n) : (l.take n).getD j 0 = l.getD j 0 := by
  rw [List.getD_eq_getElem?_getD, List.getElem?_take, if_pos h, List.getD_eq_getElem?_getD]
theorem drop_getD {l : List UInt8} {n j : Nat} : (l.drop n).getD j 0 = l.getD (n + j) 0 := by
  rw [List.getD_eq_getElem?_getD, List.getElem?_drop, List.getD_eq_getElem?_getD]
def endR (cs l : List UInt8) (n : Nat) : Prop := n ≤ l.length ∧ ∀ j, n ≤ j → j < l.length → cs.contains (l.getD j 0) = true
def endL (cs l : List UInt8) (n : Nat) : Prop := n ≤ l.length ∧ ∀ j, j < n → cs.contains (l.getD j 0) = true
theorem trimr_step {cs l : List UInt8} {n : Nat} (h : endR cs l n) (hn : 0 < n) (hc : cs.contains (l.getD (n - 1) 0) = true) : endR cs l (n - 1) :=
  ⟨by have := h.1; omega, fun j h1 h2 => by
    by_cases e : j = n - 1
    · rw [e]; exact hc
    · exact h.2 j oM h2⟩
theorem triml_step {cs l : List UInt8} {n : Nat} (h : endL cs l n) (hn : n < l.length) (hc : cs.contains (l.getD n 0) = true) : endL cs l (n + 1) :=
  ⟨hn, fun j h1 => by
    by_cases e : j = n
    · rw [e]; exact hc
    · exact h.2 j oM⟩
theorem trimr_spec {cs l : List UInt8} {b : Nat} {w : World} (hl : l.length < 9223372036854775808) (hh : Pre w [cel b ((setA cs).map bo) 278]) : Spec Tryz.prog 163 [Str l, PT b] w [cel b ((setA cs).map bo) 278] (fun n : Nat => endR cs l n ∧ (n = 0 ∨ cs.contains (l.getD (n - 1) 0) = false)) (fun n => Str (l.take n)) (fun _ => [cel b ((setA cs).map bo) 278]) := by
  refine spec_of (n := 22) Tryz.func163 rfl rfl hh.1 hh.2 rfl <| s_r <| q_a rfl rfl <| s_n <| tk_seq <| tk_block <| tk_re 0 (Str l) (Str (l.take l.length)) rfl (by rw [List.take_length]) <| tk_loop (X := Nat) (fun n => endR cs l n) (fun n => [(0, Str (l.take n)), (1, PT b), (4, Str [])]) (fun n => [cel b ((setA cs).map bo) 278]) (fun n => n) (l.length) (⟨Nat.le_refl _, fun j h1 h2 => absurd h2 oM⟩) sB ((List.Sublist.refl _)) ?_
  rintro n hI
  try dsimp only at hI ⊢
  have hnl := hI.1
  have hln : (l.take n).length = n := by rw [List.length_take]; omega
  refine tk_seq <| s_r <| q_m rfl rfl <| s_q rfl (y_lenStr (l := l.take n) rfl rfl) <| s_q rfl (y_gtr rfl rfl) <| s_n <| tk_condP rfl (fun ht7 => ?_) (fun ht7 => ?_)
  · refine tk_skip <| tk_then <| tk_block <| tk_seq <| s_r <| q_m rfl rfl <| q_m rfl rfl <| q_m rfl rfl <| s_q rfl (y_lenStr (l := l.take n) rfl rfl) <| s_q rfl (y_subN (a := (l.take n).length) (b := 1) rfl rfl oM) <| s_q rfl (y_ixT (l := l.take n) (i := ((l.take n).length) - 1) rfl rfl rfl ⟨rfl, lenP⟩) <| tk_re 13 (B ((l.take n).getD (((l.take n).length) - 1) 0)) (B (l.getD (n - 1) 0)) rfl (by rw [hln, take_getD oM]) <| tk_act rfl <| a_callv [] _ rfl kR rfl (fun w' hw' => asc_spec (b := b) (cs := cs) (x := l.getD (n - 1) 0) (St.pre hw')) rfl fun _ _ => s_q rfl (y_not rfl) <| s_n <| tk_cond rfl (fun ht15 => ?_) (fun ht15 => ?_)
    · exact tk_exit <| tk_then_exit <| tk_in_miss rfl <| tk_then_exit <| tk_in_hit <| tk_then <| s_r <| q_m rfl rfl <| q_a rfl rfl <| s_n <| tk_retc <| tk_ret (n) (⟨hI, .inr (by simpa using ht15)⟩) (.inl rfl) (r1 rfl rfl) (List.Sublist.refl _)
    · exact tk_skip <| tk_then <| tk_region <| q_m rfl rfl <| q_m rfl rfl <| s_q rfl (y_lenStr (l := l.take n) rfl rfl) <| s_q rfl (y_subN (a := (l.take n).length) (b := 1) rfl rfl oM) <| s_q rfl (y_cutTh (l := l.take n) (hi := ((l.take n).length) - 1) rfl rfl rfl oM) <| q_a rfl rfl <| tk_re 0 (Str ((l.take n).take (((l.take n).length) - 1))) (Str (l.take (n - 1))) rfl (by rw [hln, List.take_take, Nat.min_eq_left oM]) <| tk_nil <| tk_in_normal <| tk_again (n - 1) (trimr_step hI oM (by simpa using ht15)) oM sB (List.Sublist.refl _)
  · exact tk_exit <| tk_then_exit <| tk_then_exit <| tk_in_hit <| tk_then <| s_r <| q_m rfl rfl <| q_a rfl rfl <| s_n <| tk_retc <| tk_ret (n) (⟨hI, .inl oM⟩) (.inl rfl) (r1 rfl rfl) (List.Sublist.refl _)
theorem triml_spec {cs l : List UInt8} {b : Nat} {w : World} (hl : l.length < 9223372036854775808) (hh : Pre w [cel b ((setA cs).map bo) 278]) : Spec Tryz.prog 162 [Str l, PT b] w [cel b ((setA cs).map bo) 278] (fun n : Nat => endL cs l n ∧ (n = l.length ∨ cs.contains (l.getD n 0) = false)) (fun n => Str (l.drop n)) (fun _ => [cel b ((setA cs).map bo) 278]) := by
  refine spec_of (n := 16) Tryz.func162 rfl rfl hh.1 hh.2 rfl <| s_r <| q_a rfl rfl <| s_n <| tk_seq <| tk_block <| tk_re 0 (Str l) (Str (l.drop 0)) rfl (by rw [List.drop_zero]) <| tk_loop (X := Nat) (fun n => endL cs l n) (fun n => [(0, Str (l.drop n)), (1, PT b), (4, Str [])]) (fun n => [cel b ((setA cs).map bo) 278]) (fun n => l.length - n) (0) (⟨Nat.zero_le _, fun j h => absurd h oM⟩) sB ((List.Sublist.refl _)) ?_
  rintro n hI
  try dsimp only at hI ⊢
  have hnl := hI.1
  have hln : (l.drop n).length = l.length - n := by rw [List.length_drop]
  refine tk_seq <| s_r <| q_m rfl rfl <| s_q rfl (y_lenStr (l := l.drop n) rfl rfl) <| s_q rfl (y_gtr rfl rfl) <| s_n <| tk_condP rfl (fun ht7 => ?_) (fun ht7 => ?_)
  · refine tk_skip <| tk_then <| tk_block <| tk_seq <| s_r <| q_m rfl rfl <| q_m rfl rfl <| s_q rfl (y_ixT (l := l.drop n) (i := 0) rfl rfl rfl ⟨rfl, lenP⟩) <| tk_re 10 (B ((l.drop n).getD 0 0)) (B (l.getD n 0)) rfl (by rw [drop_getD]; rfl) <| tk_act rfl <| a_callv [] _ rfl kR rfl (fun w' hw' => asc_spec (b := b) (cs := cs) (x := l.getD n 0) (St.pre hw')) rfl fun _ _ => s_q rfl (y_not rfl) <| s_n <| tk_cond rfl (fun ht12 => ?_) (fun ht12 => ?_)
    · exact tk_exit <| tk_then_exit <| tk_in_miss rfl <| tk_then_exit <| tk_in_hit <| tk_then <| s_r <| q_m rfl rfl <| q_a rfl rfl <| s_n <| tk_retc <| tk_ret (n) (⟨hI, .inr (by simpa using ht12)⟩) (.inl rfl) (r1 rfl rfl) (List.Sublist.refl _)
    · exact tk_skip <| tk_then <| tk_region <| q_m rfl rfl <| s_q rfl (y_cutTl (l := l.drop n) (lo := 1) rfl rfl rfl oM) <| tk_re 14 (Str ((l.drop n).drop 1)) (Str (l.drop (n + 1))) rfl (by rw [List.drop_drop]) <| q_a rfl rfl <| tk_nil <| tk_in_normal <| tk_again (n + 1) (triml_step hI oM (by simpa using ht12)) oM sB (List.Sublist.refl _)
  · exact tk_exit <| tk_then_exit <| tk_then_exit <| tk_in_hit <| tk_then <| s_r <| q_m rfl rfl <| q_a rfl rfl <| s_n <| tk_retc <| tk_ret (n) (⟨hI, .inl oM⟩) (.inl rfl) (r1 rfl rfl) (List.Sublist.refl _)
end Go.Proofs.YtnhpghhibcdklaaGreatDoor
set_option linter.unusedSimpArgs false
set_option linter.unusedVariables false
namespace Go.Proofs.YtnhpghhibcdklaaGreatDoor
open Go Go.RowKit
set_option maxRecDepth 100000
def signsL : List UInt8 := [97, 98, 99, 100, 101, 102, 103, 104, 105, 106, 107, 108, 109, 110, 111, 112, 113, 114, 115, 116, 117, 118, 119, 120, 121, 122, 48, 49, 50, 51, 52, 53, 54, 55, 56, 57, 45, 47]
theorem signs_eq (c : UInt8) : signsL.contains c = signB c := by
  have h : ∀ n, n < 256 → signsL.contains (UInt8.ofNat n) = signB (UInt8.ofNat n) := by decide +kernel
  have := h c.toNat (UInt8.toNat_lt c)
  rwa [UInt8.ofNat_toNat] at this
theorem all_sign {l : List UInt8} : l.all signB = true ↔ ∀ j, j < l.length → signB (l.getD j 0) = true := by
  rw [List.all_eq_true]
  constructor
  · intro h j hj
    exact h _ (getD_mem hj)
  · intro h x hx
    obtain ⟨j, hj, rfl⟩ := List.mem_iff_getElem.1 hx
    have := h j hj
    rwa [List.getD_eq_getElem?_getD, List.getElem?_eq_getElem hj] at this
theorem trim_nil {l : List UInt8} (h : l = []) : l = [] ↔ l.all signB = true := by subst h; simp
theorem trim_iff {l : List UInt8} {n k : Nat} (h1 : endR signsL l n ∧ (n = 0 ∨ signsL.contains (l.getD (n - 1) 0) = false)) (h2 : endL signsL (l.take n) k ∧ (k = (l.take n).length ∨ signsL.contains ((l.take n).getD k 0) = false)) :
    (l.take n).drop k = [] ↔ l.all signB = true := by
  obtain ⟨⟨hn, hr⟩, hn0⟩ := h1
  obtain ⟨⟨hk, hl⟩, _⟩ := h2
  have hln : (l.take n).length = n := by rw [List.length_take]; omega
  rw [all_sign]
  constructor
  · intro h j hj
    have hkn : n ≤ k := by have := congrArg List.length h; rw [List.length_drop, hln, List.length_nil] at this; omega
    rw [← signs_eq]
    by_cases hjn : j < n
    · have := hl j oM
      rwa [take_getD hjn] at this
    · exact hr j oM hj
  · intro h
    have : n = 0 := Decidable.byContradiction fun hz => by
      have h3 := hn0.resolve_left hz
      have h4 := h (n - 1) oM
      rw [signs_eq, h4] at h3; cases h3
    subst this; simp
theorem trim_spec {l : List UInt8} {w : World} (hl : l.length < 9223372036854775808) : Spec Tryz.prog 84 [Str l, Str [97, 98, 99, 100, 101, 102, 103, 104, 105, 106, 107, 108, 109, 110, 111, 112, 113, 114, 115, 116, 117, 118, 119, 120, 121, 122, 48, 49, 50, 51, 52, 53, 54, 55, 56, 57, 45, 47]] w [] (fun r : List UInt8 => r = [] ↔ l.all signB = true) (fun r => Str r) (fun _ => []) := by
  refine spec_of (n := 43) Tryz.func84 rfl rfl trivial trivial rfl <| s_r <| q_a rfl rfl <| s_n <| tk_seq <| s_r <| q_m rfl rfl <| tk_qs rfl rfl rfl (y_strEq (l := l) (m := []) rfl rfl) (fun hs1_1 => ?_) (fun hs1_1 => ?_)
  · exact q_m rfl rfl <| tk_gno rfl rfl rfl <| tk_gno rfl rfl rfl <| s_q rfl (y_pick1 rfl rfl) <| s_n <| tk_cond1 rfl <| s_r <| q_m rfl rfl <| q_a rfl rfl <| s_n <| tk_retc <| tk_then_ret <| tk_ret (l) (trim_nil (by assumption)) (.inl rfl) (r1 rfl rfl) (List.Sublist.refl _)
  · refine q_m rfl rfl <| s_g rfl (y_move rfl) <| tk_gqe (.bool false) rfl rfl rfl (y_strEq (l := [97, 98, 99, 100, 101, 102, 103, 104, 105, 106, 107, 108, 109, 110, 111, 112, 113, 114, 115, 116, 117, 118, 119, 120, 121, 122, 48, 49, 50, 51, 52, 53, 54, 55, 56, 57, 45, 47]) (m := []) rfl rfl) (bool_f dC) <| s_q rfl (y_pick0 rfl rfl) <| s_n <| tk_cond0 rfl <| tk_skip <| tk_then <| tk_seq <| s_r <| q_m rfl rfl <| tk_qe (I 38) rfl rfl rfl (y_lenStr (l := [97, 98, 99, 100, 101, 102, 103, 104, 105, 106, 107, 108, 109, 110, 111, 112, 113, 114, 115, 116, 117, 118, 119, 120, 121, 122, 48, 49, 50, 51, 52, 53, 54, 55, 56, 57, 45, 47]) rfl rfl) (rfl) <| s_q rfl ((y_eql rfl rfl).cast (bool_f dC)) <| q_m rfl rfl <| tk_gno rfl rfl rfl <| tk_gno rfl rfl rfl <| tk_gno rfl rfl rfl <| s_q rfl (y_pick0 rfl rfl) <| s_n <| tk_cond0 rfl <| tk_skip <| tk_then <| tk_seq <| s_r ?_; refine q_m rfl rfl <| tk_act rfl <| a_callv [] _ rfl kR rfl (fun w' hw' => mkasc_spec (l := [97, 98, 99, 100, 101, 102, 103, 104, 105, 106, 107, 108, 109, 110, 111, 112, 113, 114, 115, 116, 117, 118, 119, 120, 121, 122, 48, 49, 50, 51, 52, 53, 54, 55, 56, 57, 45, 47]) dC lenP) rfl fun _ _ => q_m rfl rfl <| s_q rfl (y_extract rfl rfl) <| s_q rfl (y_extract rfl rfl) <| tk_act rfl <| a_allocL (cs := (List.replicate 256 false).map bo) kR rfl fun b5 => tk_act rfl <| a_storeW (H1 := []) (vs := (setA [97, 98, 99, 100, 101, 102, 103, 104, 105, 106, 107, 108, 109, 110, 111, 112, 113, 114, 115, 116, 117, 118, 119, 120, 121, 122, 48, 49, 50, 51, 52, 53, 54, 55, 56, 57, 45, 47]).map bo) 256 rfl rfl kR rfl ⟨(by first | (rw [List.length_map, setA_len]; done) | (rw [List.length_map]; rfl)), (by first | (rw [List.length_map, setA_len]; done) | (rw [List.length_map]; rfl))⟩ oneBo <| q_a rfl rfl <| s_n <| s_r <| q_m rfl rfl <| s_n <| tk_cond1 rfl <| s_r <| q_m rfl rfl <| tk_act rfl <| a_callv [] _ rfl kR rfl (fun w' hw' => trimr_spec (b := b5) (cs := [97, 98, 99, 100, 101, 102, 103, 104, 105, 106, 107, 108, 109, 110, 111, 112, 113, 114, 115, 116, 117, 118, 119, 120, 121, 122, 48, 49, 50, 51, 52, 53, 54, 55, 56, 57, 45, 47]) (l := l) lenP (St.pre hw')) rfl fun n36 hx36 => tk_act rfl <| a_callv [] _ rfl kR rfl (fun w' hw' => triml_spec (b := b5) (cs := [97, 98, 99, 100, 101, 102, 103, 104, 105, 106, 107, 108, 109, 110, 111, 112, 113, 114, 115, 116, 117, 118, 119, 120, 121, 122, 48, 49, 50, 51, 52, 53, 54, 55, 56, 57, 45, 47]) (l := l.take n36) lenP (St.pre hw')) rfl fun n37 hx37 => q_a rfl rfl <| s_n ?_; exact tk_retc <| tk_then_ret <| tk_ret ((l.take n36).drop n37) (trim_iff hx36 hx37) (.inl rfl) (r1 rfl rfl) (List.nil_sublist _)
theorem isname_spec {l : List UInt8} {w : World} (hl : l.length < 9223372036854775808) : Spec Tryz.prog 35 [Str l] w [] (fun _ : Unit => True) (fun _ => .bool (decide (isNm l))) (fun _ => []) := by
  refine spec_of (n := 15) Tryz.func35 rfl rfl trivial trivial rfl <| s_r <| q_a rfl rfl <| s_n <| s_r <| q_m rfl rfl <| tk_qs rfl rfl rfl (y_strNe (l := l) (m := []) rfl rfl) (fun hs1_1 => ?_) (fun hs1_1 => ?_)
  · refine q_m rfl rfl <| s_g rfl (y_move rfl) <| s_g rfl (y_lenStr (l := l) rfl rfl) <| s_g rfl (y_leq rfl rfl) <| tk_qs rfl rfl rfl (y_pick1 rfl rfl) (fun hs1_6 => ?_) (fun hs1_6 => ?_)
    · exact q_m rfl rfl <| s_g rfl (y_move rfl) <| tk_gact rfl <| a_callv [] _ rfl kR rfl (fun w' hw' => trim_spec (l := l) lenP) rfl fun r12 hx12 => s_g rfl (y_strEq (l := r12) (m := []) rfl rfl) <| s_q rfl (y_pick1 rfl rfl) <| q_a rfl rfl <| s_n <| tk_retc <| tk_re 2 (.bool (decide (r12 = []))) (.bool (decide (isNm l))) rfl (congrArg Value.bool (by rw [decide_eq_decide, hx12]; exact ⟨fun h => ⟨h, by have h0 : ¬ l = [] := (by assumption); have := List.length_pos_iff.2 h0; omega, by omega⟩, fun h => h.1⟩)) <| tk_ret (()) (trivial) (.inl rfl) (r1 rfl rfl) (List.Sublist.refl _)
    · exact q_m rfl rfl <| tk_gno rfl rfl rfl <| tk_gno rfl rfl rfl <| tk_gno rfl rfl rfl <| s_q rfl (y_pick0 rfl rfl) <| q_a rfl rfl <| s_n <| tk_retc <| tk_re 2 (.bool false) (.bool (decide (isNm l))) rfl ((bool_f (fun h => absurd h.2.2 oM)).symm) <| tk_ret (()) (trivial) (.inl rfl) (r1 rfl rfl) (List.Sublist.refl _)
  · exact q_m rfl rfl <| tk_gno rfl rfl rfl <| tk_gno rfl rfl rfl <| tk_gno rfl rfl rfl <| s_q rfl (y_pick0 rfl rfl) <| q_m rfl rfl <| tk_gno rfl rfl rfl <| tk_gno rfl rfl rfl <| tk_gno rfl rfl rfl <| s_q rfl (y_pick0 rfl rfl) <| q_a rfl rfl <| s_n <| tk_retc <| tk_re 2 (.bool false) (.bool (decide (isNm l))) rfl ((bool_f (fun h => by have h0 : l = [] := (by first | assumption | exact Decidable.not_not.1 (by assumption)); rw [h0] at h; exact absurd h.2.1 dC)).symm) <| tk_ret (()) (trivial) (.inl rfl) (r1 rfl rfl) (List.Sublist.refl _)
end Go.Proofs.YtnhpghhibcdklaaGreatDoor
set_option linter.unusedSimpArgs false
set_option linter.unusedVariables false
namespace Go.Proofs.YtnhpghhibcdklaaGreatDoor
open Go Go.RowKit
set_option maxRecDepth 100000
theorem take_snoc {α : Type} {l : List α} {d : α} {i : Nat} (h : i < l.length) : l.take i ++ [l.getD i d] = l.take (i + 1) := by
  have e : l.getD i d = l[i] := by rw [List.getD_eq_getElem?_getD, List.getElem?_eq_getElem h]; rfl
  rw [e, List.take_add_one, List.getElem?_eq_getElem h]; rfl
theorem list_ext {α : Type} {l m : List α} {d : α} (h : l.length = m.length) (hj : ∀ j, j < l.length → l.getD j d = m.getD j d) : l = m := by
  apply List.ext_getElem h
  intro i h1 h2
  have := hj i h1
  rw [List.getD_eq_getElem?_getD, List.getElem?_eq_getElem h1, List.getD_eq_getElem?_getD, List.getElem?_eq_getElem h2] at this
  simpa using this
theorem eqc_id {d : Nat} : EqC Tryz.prog (d + 2) 29 32 (fun xs => ∃ l : List UInt8, l.length = 32 ∧ xs = l.map B) := eqc_arr Tryz.underlying29 (by kernel_rfl) Tryz.underlying5 (by kernel_rfl)
end Go.Proofs.YtnhpghhibcdklaaGreatDoor
set_option linter.unusedSimpArgs false
set_option linter.unusedVariables false
namespace Go.Proofs.YtnhpghhibcdklaaGreatDoor
open Go Go.RowKit
set_option maxRecDepth 100000
theorem EL37 : elB Tryz.prog 37 31 35 64 := ⟨kR, _, _, rfl, rfl, rfl, rfl, rfl, by decide⟩
theorem EL35 : elB Tryz.prog 35 33 36 72 := ⟨kR, _, _, rfl, rfl, rfl, rfl, rfl, by decide⟩
theorem filt_1 {s : Snp} {z : Int} (h : ¬ s.seq = z) : [s].filter (notS z) = [s] := by simp [notS, h]
theorem filt_0 {s : Snp} {z : Int} (h : s.seq = z) : [s].filter (notS z) = [] := by simp [notS, h]
theorem fill_snap {a b c : Value} {l : List UInt8} (hl : l.length = 32) : fillL [(0, 1), (1, 1), (2, 1), (3, 32)] ([I 0, I 0, Str []] ++ (List.replicate 32 (0 : UInt8)).map B) [(0, [a]), (1, [b]), (2, [c]), (3, l.map B)] = some ([a, b, c] ++ l.map B) := by
  simp [fillL, hl]
theorem fill_rec {a : Value} {s : Snp} : fillL [(0, 1), (1, 35)] ([I 0, I 0, I 0, Str []] ++ (List.replicate 32 (0 : UInt8)).map B) [(0, [a]), (1, [I s.seq, I s.time, Str s.note] ++ s.root.map B)] = some ([a, I s.seq, I s.time, Str s.note] ++ s.root.map B) := by
  simp [fillL, s.h]
theorem eqc_str {P : Program} {d : Nat} {t : TypeId} (ht : P.underlying t = some .string) : EqC P (d + 1) t 1 (fun xs => ∃ l : List UInt8, xs = [Str l]) := fun w cs ds o h1 h2 => by
  obtain ⟨a, ha⟩ := h1; obtain ⟨b, hb⟩ := h2
  have sc : scB P t = true := by simp [scB, ht]
  have g : ∀ {cs : Array Value} {a : List UInt8}, (cs.toList.drop o).take 1 = [Str a] → cs[o]? = some (Str a) := fun {cs a} h => by
    have := congrArg (fun l => l[0]?) h
    simpa using this
  refine ⟨Str a, Str b, decide (a = b), ?_, ?_, ?_, ?_⟩
  · simp [part, scB_run sc, g ha]
  · simp [part, scB_run sc, g hb]
  · have h : (Op.equalIn (d + 1) t (Str a) (Str b)).run P w = .ok ((⟨a.toArray⟩ : ByteArray) == ⟨b.toArray⟩) w := by
      simp only [Op.equalIn, Sem.run_bind, run_underlying ht]
      rfl
    rw [h, ba_beq]
  · rw [ha, hb]; simp [Str]
theorem eqc_sn : EqC Tryz.prog 10000 31 35 (fun xs => ∃ e, xs = snC e) :=
  (eqc_struct (d := 9999) kR Tryz.underlying31 kR (.cons (k := 1) rfl dC (eqc_int (d := 9998) Tryz.underlying3) (.cons (k := 1) rfl dC (eqc_int (d := 9998) Tryz.underlying3) (.cons (k := 1) rfl dC (eqc_str (d := 9998) Tryz.underlying9) (.cons (k := 32) rfl dC (eqc_id (d := 9997)) (.nil _)))))).weak (by
    rintro _ ⟨e, rfl⟩
    refine ⟨⟨_, rfl⟩, ⟨_, rfl⟩, ⟨_, rfl⟩, ⟨e.root, e.h, ?_⟩, ?_⟩
    · show (e.root.map B).take 32 = e.root.map B
      exact List.take_of_length_le (by simp [e.h])
    · show (e.root.map B).drop 32 = []
      exact List.drop_of_length_le (by simp [e.h]))
theorem sqA_spec {s : Snp} {r : Rec} {rb : Nat} {w : World} (hh : Pre w [cel rb ([I (r.kind), I (r.s.seq), I (r.s.time), Str r.s.note] ++ (r.s.root.map B)) 33]) : Spec Tryz.prog 111 [.agg ([I (s.seq), I (s.time), Str s.note] ++ (s.root.map B)).toArray, PT rb] w [cel rb ([I (r.kind), I (r.s.seq), I (r.s.time), Str r.s.note] ++ (r.s.root.map B)) 33] (fun _ : Unit => True) (fun _ => .bool (decide (s.seq = r.s.seq))) (fun _ => [cel rb ([I (r.kind), I (r.s.seq), I (r.s.time), Str r.s.note] ++ (r.s.root.map B)) 33]) := by
  refine spec_of (n := 10) Tryz.func111 rfl rfl hh.1 hh.2 rfl ?_
  have hsh := s.h
  have hrh := r.s.h
  exact s_r <| tk_act rfl <| a_boxL (cs := [I (s.seq), I (s.time), Str s.note] ++ (s.root.map B)) rfl rfl fun b2 => q_a rfl rfl <| s_n <| s_r <| s_q rfl (y_fld0 (o := 0) rfl kR) <| s_q rfl (y_load rfl rfl (hc (o := 0) (.head _) (rfl))) <| s_q rfl (y_fldN (o := 0) 1 rfl kR) <| s_q rfl (y_fld0 (o := 1) rfl kR) <| s_q rfl (y_load rfl rfl (hc (o := 1) (mm 1 rfl) (rfl))) <| s_q rfl (y_eql rfl rfl) <| q_a rfl rfl <| s_n <| tk_retc <| tk_ret (()) (trivial) (.inl rfl) (r1 rfl rfl) (.cons _ (List.Sublist.refl _))
theorem sqB_spec {s : Snp} {r : Rec} {rb : Nat} {w : World} (hh : Pre w [cel rb ([I (r.kind), I (r.s.seq), I (r.s.time), Str r.s.note] ++ (r.s.root.map B)) 33]) : Spec Tryz.prog 130 [.agg ([I (s.seq), I (s.time), Str s.note] ++ (s.root.map B)).toArray, PT rb] w [cel rb ([I (r.kind), I (r.s.seq), I (r.s.time), Str r.s.note] ++ (r.s.root.map B)) 33] (fun _ : Unit => True) (fun _ => .bool (decide (s.seq = r.s.seq))) (fun _ => [cel rb ([I (r.kind), I (r.s.seq), I (r.s.time), Str r.s.note] ++ (r.s.root.map B)) 33]) := by
  refine spec_of (n := 10) Tryz.func130 rfl rfl hh.1 hh.2 rfl ?_
  have hsh := s.h
  have hrh := r.s.h
  exact s_r <| tk_act rfl <| a_boxL (cs := [I (s.seq), I (s.time), Str s.note] ++ (s.root.map B)) rfl rfl fun b2 => q_a rfl rfl <| s_n <| s_r <| s_q rfl (y_fld0 (o := 0) rfl kR) <| s_q rfl (y_load rfl rfl (hc (o := 0) (.head _) (rfl))) <| s_q rfl (y_fldN (o := 0) 1 rfl kR) <| s_q rfl (y_fld0 (o := 1) rfl kR) <| s_q rfl (y_load rfl rfl (hc (o := 1) (mm 1 rfl) (rfl))) <| s_q rfl (y_eql rfl rfl) <| q_a rfl rfl <| s_n <| tk_retc <| tk_ret (()) (trivial) (.inl rfl) (r1 rfl rfl) (.cons _ (List.Sublist.refl _))
theorem idxA_spec {v : Value} {l : List Snp} {r : Rec} {rb : Nat} {w : World} (hn : l.length < 1000000) (hh : Pre w [own v l.length (l.flatMap snC) 31 35, cel rb ([I (r.kind), I (r.s.seq), I (r.s.time), Str r.s.note] ++ (r.s.root.map B)) 33]) : Spec Tryz.prog 199 [v, .func (.func 111) #[] #[PT rb]] w [own v l.length (l.flatMap snC) 31 35, cel rb ([I (r.kind), I (r.s.seq), I (r.s.time), Str r.s.note] ++ (r.s.root.map B)) 33] (fun z : Int => idxS l r.s.seq z) (fun z => I z) (fun _ => [own v l.length (l.flatMap snC) 31 35, cel rb ([I (r.kind), I (r.s.seq), I (r.s.time), Str r.s.note] ++ (r.s.root.map B)) 33]) := by
  refine spec_of (n := 19) Tryz.func199 rfl rfl hh.1 hh.2 rfl <| tk_ownA (.head _) fun hfe => ?_
  have hrh := r.s.h
  refine s_r <| q_a rfl rfl <| s_n <| tk_seq <| s_r <| q_m rfl rfl <| s_q rfl (y_lenE rfl hfe.choose_spec rfl) <| q_m rfl rfl <| s_n <| tk_block <| tk_loop (X := Nat) (fun i => i ≤ l.length ∧ ∀ j, j < i → ¬ (l.getD j dSn).seq = r.s.seq) (fun i => [(0, v), (1, .func (.func 111) #[] #[PT rb]), (7, IN l.length), (8, IN i)]) (fun i => [own v l.length (l.flatMap snC) 31 35, cel rb ([I (r.kind), I (r.s.seq), I (r.s.time), Str r.s.note] ++ (r.s.root.map B)) 33]) (fun i => l.length - i) (0) (⟨Nat.zero_le _, fun _ h => absurd h oM⟩) sB ((List.Sublist.refl _)) ?_
  rintro i hI
  try dsimp only at hI ⊢
  refine s_r <| s_q rfl (y_lss rfl rfl) <| s_n <| tk_seq <| tk_condP rfl (fun ht9 => ?_) (fun ht9 => ?_)
  · have hsh := (l.getD i dSn).h
    refine tk_skip <| tk_then <| tk_seq <| tk_block <| s_r <| q_m rfl rfl <| q_a rfl rfl <| s_n <| s_r <| q_m rfl rfl <| q_m rfl rfl <| q_m rfl rfl <| s_q rfl (y_ixE (i := i) (k := 35) rfl rfl hfe.choose_spec lenP kR) <| s_q rfl (y_loadE (i := i) (k := 35) (o := 0) (f := snC) (l := l) (d0 := dSn) (vs := [I ((l.getD i dSn).seq), I ((l.getD i dSn).time), Str ((l.getD i dSn).note)] ++ (((l.getD i dSn).root).map B)) 35 rfl kR (by rw [List.length_append, List.length_map, (l.getD i dSn).h]; rfl) snC_len lenP (snC_all _) (fun w hw => own_rdC (hw.mem (.head _)))) <| tk_act rfl <| tk_ps [1] rfl <| a_callc [] _ rfl rfl kR rfl (fun w' hw' => sqA_spec (s := (l.getD i dSn)) (rb := rb) (r := r) (St.pre hw')) rfl fun _ _ => s_n <| tk_condP rfl (fun ht16 => ?_) (fun ht16 => ?_)
    · exact s_r <| q_m rfl rfl <| q_a rfl rfl <| s_n <| tk_retc <| tk_in_ret <| tk_then_ret <| tk_then_ret <| tk_in_ret <| tk_then_ret <| tk_ps [1] rfl <| tk_ret ((i : Int)) (.inr ⟨i, rfl, by omega, ht16, hI.2⟩) (.inl rfl) (r1 rfl rfl) (List.Sublist.refl _)
    · exact tk_skip <| tk_in_normal <| tk_then <| tk_region <| s_q rfl (y_addN (a := i) (b := 1) rfl rfl oM) <| q_m rfl rfl <| tk_nil <| tk_ps [1] rfl <| tk_again (i + 1) (⟨by omega, fun j hj => (Nat.lt_or_ge j i).elim (hI.2 j) (fun h => by rw [show j = i by omega]; exact ht16)⟩) oM sB (List.Sublist.refl _)
  · exact tk_exit <| tk_then_exit <| tk_then_exit <| tk_in_hit <| tk_then <| s_r <| q_a rfl rfl <| s_n <| tk_retc <| tk_ret (-1) (.inl ⟨rfl, fun j hj => hI.2 j oM⟩) (.inl rfl) (r1 rfl rfl) (List.Sublist.refl _)
theorem idxB_spec {v : Value} {l : List Snp} {r : Rec} {rb : Nat} {w : World} (hn : l.length < 1000000) (hh : Pre w [own v l.length (l.flatMap snC) 31 35, cel rb ([I (r.kind), I (r.s.seq), I (r.s.time), Str r.s.note] ++ (r.s.root.map B)) 33]) : Spec Tryz.prog 199 [v, .func (.func 130) #[] #[PT rb]] w [own v l.length (l.flatMap snC) 31 35, cel rb ([I (r.kind), I (r.s.seq), I (r.s.time), Str r.s.note] ++ (r.s.root.map B)) 33] (fun z : Int => idxS l r.s.seq z) (fun z => I z) (fun _ => [own v l.length (l.flatMap snC) 31 35, cel rb ([I (r.kind), I (r.s.seq), I (r.s.time), Str r.s.note] ++ (r.s.root.map B)) 33]) := by
  refine spec_of (n := 19) Tryz.func199 rfl rfl hh.1 hh.2 rfl <| tk_ownA (.head _) fun hfe => ?_
  have hrh := r.s.h
  refine s_r <| q_a rfl rfl <| s_n <| tk_seq <| s_r <| q_m rfl rfl <| s_q rfl (y_lenE rfl hfe.choose_spec rfl) <| q_m rfl rfl <| s_n <| tk_block <| tk_loop (X := Nat) (fun i => i ≤ l.length ∧ ∀ j, j < i → ¬ (l.getD j dSn).seq = r.s.seq) (fun i => [(0, v), (1, .func (.func 130) #[] #[PT rb]), (7, IN l.length), (8, IN i)]) (fun i => [own v l.length (l.flatMap snC) 31 35, cel rb ([I (r.kind), I (r.s.seq), I (r.s.time), Str r.s.note] ++ (r.s.root.map B)) 33]) (fun i => l.length - i) (0) (⟨Nat.zero_le _, fun _ h => absurd h oM⟩) sB ((List.Sublist.refl _)) ?_
  rintro i hI
  try dsimp only at hI ⊢
  refine s_r <| s_q rfl (y_lss rfl rfl) <| s_n <| tk_seq <| tk_condP rfl (fun ht9 => ?_) (fun ht9 => ?_)
  · have hsh := (l.getD i dSn).h
    refine tk_skip <| tk_then <| tk_seq <| tk_block <| s_r <| q_m rfl rfl <| q_a rfl rfl <| s_n <| s_r <| q_m rfl rfl <| q_m rfl rfl <| q_m rfl rfl <| s_q rfl (y_ixE (i := i) (k := 35) rfl rfl hfe.choose_spec lenP kR) <| s_q rfl (y_loadE (i := i) (k := 35) (o := 0) (f := snC) (l := l) (d0 := dSn) (vs := [I ((l.getD i dSn).seq), I ((l.getD i dSn).time), Str ((l.getD i dSn).note)] ++ (((l.getD i dSn).root).map B)) 35 rfl kR (by rw [List.length_append, List.length_map, (l.getD i dSn).h]; rfl) snC_len lenP (snC_all _) (fun w hw => own_rdC (hw.mem (.head _)))) <| tk_act rfl <| tk_ps [1] rfl <| a_callc [] _ rfl rfl kR rfl (fun w' hw' => sqB_spec (s := (l.getD i dSn)) (rb := rb) (r := r) (St.pre hw')) rfl fun _ _ => s_n <| tk_condP rfl (fun ht16 => ?_) (fun ht16 => ?_)
    · exact s_r <| q_m rfl rfl <| q_a rfl rfl <| s_n <| tk_retc <| tk_in_ret <| tk_then_ret <| tk_then_ret <| tk_in_ret <| tk_then_ret <| tk_ps [1] rfl <| tk_ret ((i : Int)) (.inr ⟨i, rfl, by omega, ht16, hI.2⟩) (.inl rfl) (r1 rfl rfl) (List.Sublist.refl _)
    · exact tk_skip <| tk_in_normal <| tk_then <| tk_region <| s_q rfl (y_addN (a := i) (b := 1) rfl rfl oM) <| q_m rfl rfl <| tk_nil <| tk_ps [1] rfl <| tk_again (i + 1) (⟨by omega, fun j hj => (Nat.lt_or_ge j i).elim (hI.2 j) (fun h => by rw [show j = i by omega]; exact ht16)⟩) oM sB (List.Sublist.refl _)
  · exact tk_exit <| tk_then_exit <| tk_then_exit <| tk_in_hit <| tk_then <| s_r <| q_a rfl rfl <| s_n <| tk_retc <| tk_ret (-1) (.inl ⟨rfl, fun j hj => hI.2 j oM⟩) (.inl rfl) (r1 rfl rfl) (List.Sublist.refl _)
theorem delF_spec {v : Value} {l : List Snp} {r : Rec} {rb : Nat} {w : World} (hn : l.length < 1000000) (hh : Pre w [own v l.length (l.flatMap snC) 31 35, cel rb ([I (r.kind), I (r.s.seq), I (r.s.time), Str r.s.note] ++ (r.s.root.map B)) 33]) : Spec Tryz.prog 110 [v, .func (.func 111) #[] #[PT rb]] w [own v l.length (l.flatMap snC) 31 35, cel rb ([I (r.kind), I (r.s.seq), I (r.s.time), Str r.s.note] ++ (r.s.root.map B)) 33] (fun _ : Value => True) (fun x => x) (fun x => [own x ((l.filter (notS r.s.seq)).length) ((l.filter (notS r.s.seq)).flatMap snC) 31 35, cel rb ([I (r.kind), I (r.s.seq), I (r.s.time), Str r.s.note] ++ (r.s.root.map B)) 33]) := by
  refine spec_of (n := 42) Tryz.func110 rfl rfl hh.1 hh.2 rfl <| tk_ownA (.head _) fun hfe => ?_
  have hrh := r.s.h
  refine s_r <| q_a rfl rfl <| s_n <| s_r <| q_m rfl rfl <| q_m rfl rfl <| tk_act rfl <| a_callv [] _ rfl kR rfl (fun w' hw' => idxA_spec (v := v) (l := l) (rb := rb) (r := r) lenP (St.pre hw')) rfl fun r10 hr10 => q_a rfl rfl <| s_n <| tk_seq <| s_r <| q_m rfl rfl <| s_q rfl (y_eql rfl rfl) <| s_n <| tk_condP rfl (fun ht12 => ?_) (fun ht12 => ?_)
  · exact s_r <| q_m rfl rfl <| q_a rfl rfl <| s_n <| tk_retc <| tk_then_ret <| tk_R (H1 := []) rfl (show own v l.length (l.flatMap snC) 31 35 = own v ((l.filter (notS r.s.seq)).length) ((l.filter (notS r.s.seq)).flatMap snC) 31 35 from ownA_cast (filt_none (hr10.elim (fun h => h.2) (fun h => by obtain ⟨i, e, _⟩ := h; omega))).symm) <| tk_ret (v) (trivial) (.inl rfl) (r1 rfl rfl) (List.Sublist.refl _)
  · obtain ⟨i0, rfl, hi0, hz0, hb0⟩ := hr10.resolve_left (fun h => ht12 h.1)
    refine tk_skip <| tk_then <| tk_seq <| s_r <| q_m rfl rfl <| s_q rfl (y_addN (a := i0) (b := 1) rfl rfl oM) <| q_a rfl rfl <| s_n <| tk_block <| tk_loop (X := Nat × Nat × List Snp) (fun (i, j, m) => m.length = l.length ∧ i < j ∧ j ≤ l.length ∧ m.take i = (l.take j).filter (notS r.s.seq) ∧ m.drop j = l.drop j) (fun (i, j, m) => [(0, v), (1, .func (.func 111) #[] #[PT rb]), (4, .slice none 0 0), (5, IN i), (6, IN j)]) (fun (i, j, m) => [own v m.length (m.flatMap snC) 31 35, cel rb ([I (r.kind), I (r.s.seq), I (r.s.time), Str r.s.note] ++ (r.s.root.map B)) 33]) (fun (i, j, m) => l.length - j) ((i0, i0 + 1, l)) (⟨rfl, by omega, by omega, filt_init hi0 hb0 hz0, rfl⟩) sB ((List.Sublist.refl _)) ?_
    rintro ⟨i, j, m⟩ hI
    try dsimp only at hI ⊢
    have hml := hI.1
    refine tk_ownA (.head _) fun hfm => tk_seq <| s_r <| q_m rfl rfl <| q_m rfl rfl <| s_q rfl (y_lenE rfl hfm.choose_spec rfl) <| s_q rfl (y_lss rfl rfl) <| s_n <| tk_condP rfl (fun ht19 => ?_) (fun ht19 => ?_)
    · have hsh := (l.getD j dSn).h
      have hmj := drop_get hI.2.2.2.2
      refine tk_skip <| tk_then <| tk_seq <| tk_block <| s_r <| q_m rfl rfl <| q_m rfl rfl <| s_q rfl (y_ixE (i := j) (k := 35) rfl rfl hfm.choose_spec lenP kR) <| s_q rfl (y_loadE (i := j) (k := 35) (o := 0) (f := snC) (l := m) (d0 := dSn) (vs := [I ((m.getD j dSn).seq), I ((m.getD j dSn).time), Str ((m.getD j dSn).note)] ++ (((m.getD j dSn).root).map B)) 35 rfl kR (by rw [List.length_append, List.length_map, (m.getD j dSn).h]; rfl) snC_len lenP (snC_all _) (fun w hw => own_rdC (hw.mem (.head _)))) <| tk_re 25 (.agg ([I ((m.getD j dSn).seq), I ((m.getD j dSn).time), Str ((m.getD j dSn).note)] ++ (((m.getD j dSn).root).map B)).toArray) (.agg ([I ((l.getD j dSn).seq), I ((l.getD j dSn).time), Str ((l.getD j dSn).note)] ++ (((l.getD j dSn).root).map B)).toArray) rfl (by rw [hmj]) <| tk_act rfl <| a_allocL (cs := [I 0, I 0, Str []] ++ ((List.replicate 32 0).map B)) kR rfl fun b7 => tk_act rfl <| a_storeW (H1 := []) (vs := [I ((l.getD j dSn).seq), I ((l.getD j dSn).time), Str ((l.getD j dSn).note)] ++ (((l.getD j dSn).root).map B)) 35 rfl rfl kR rfl ⟨lenP, lenP⟩ (List.forall_mem_append.2 ⟨(List.forall_mem_cons.2 ⟨rfl, (List.forall_mem_cons.2 ⟨rfl, (List.forall_mem_cons.2 ⟨rfl, (fun _ h => nomatch h)⟩)⟩)⟩), oneB⟩) <| s_n <| s_r <| q_m rfl rfl <| s_q rfl (y_loadA 35 rfl kR lenP (hcw (.head _))) <| tk_act rfl <| tk_ps [2] rfl <| a_callc [] _ rfl rfl kR rfl (fun w' hw' => sqA_spec (s := (l.getD j dSn)) (rb := rb) (r := r) (St.pre hw')) rfl fun _ _ => s_q rfl ((y_not rfl).cast (notdec _)) <| s_n <| tk_condP rfl (fun ht29 => ?_) (fun ht29 => ?_)
      · exact s_r <| q_m rfl rfl <| q_m rfl rfl <| s_q rfl (y_loadA 35 rfl kR lenP (hcw (mm 1 rfl))) <| s_q rfl (y_ixE (i := i) (k := 35) rfl rfl hfm.choose_spec lenP kR) <| tk_act rfl <| a_storeElt (H1 := [_, _]) (f := snC) (l := m) (e := (l.getD j dSn)) (i := i) (k := 35) rfl rfl kR snC_len dC rfl lenP (List.forall_mem_append.2 ⟨(List.forall_mem_cons.2 ⟨rfl, (List.forall_mem_cons.2 ⟨rfl, (List.forall_mem_cons.2 ⟨rfl, (fun _ h => nomatch h)⟩)⟩)⟩), oneB⟩) <| s_n <| tk_region <| q_m rfl rfl <| s_q rfl (y_addN (a := i) (b := 1) rfl rfl oM) <| q_a rfl rfl <| tk_nil <| tk_in_normal <| tk_then <| tk_region <| q_m rfl rfl <| s_q rfl (y_addN (a := j) (b := 1) rfl rfl oM) <| q_a rfl rfl <| tk_nil <| tk_ps [2] rfl <| tk_again ((i + 1, j + 1, m.set i (l.getD j dSn))) (⟨by rw [List.length_set]; exact hml, by dsimp only; omega, by dsimp only; omega, filt_keep oM oM hI.2.2.2.1 ht29, by dsimp only; rw [set_drop oM]; exact drop_next hI.2.2.2.2⟩) (by dsimp only; omega) sB (.cons_cons _ (.cons_cons _ (List.nil_sublist _)))
      · exact tk_skip <| tk_in_normal <| tk_then <| tk_region <| q_m rfl rfl <| s_q rfl (y_addN (a := j) (b := 1) rfl rfl oM) <| q_a rfl rfl <| tk_nil <| tk_ps [2] rfl <| tk_again ((i, j + 1, m)) (⟨hml, by dsimp only; omega, by dsimp only; omega, filt_skip oM hI.2.2.2.1 (Classical.not_not.1 ht29), drop_next hI.2.2.2.2⟩) (by dsimp only; omega) sB (.cons_cons _ (.cons_cons _ (List.nil_sublist _)))
    · exact tk_exit <| tk_then_exit <| tk_then_exit <| tk_in_hit <| tk_then <| s_r <| q_m rfl rfl <| q_m rfl rfl <| s_q rfl (y_cutW (sz := 35) i rfl rfl hfm.choose_spec kR lenP rfl) <| tk_act rfl <| a_clearCut (H1 := []) (f := snC) (l := m) (i := i) (k := 35) (zc := [I 0, I 0, Str []] ++ ((List.replicate 32 0).map B)) rfl Tryz.underlying37 (fun _ => kR) (by rfl) dC (List.forall_mem_append.2 ⟨(List.forall_mem_cons.2 ⟨rfl, (List.forall_mem_cons.2 ⟨rfl, (List.forall_mem_cons.2 ⟨rfl, (fun _ h => nomatch h)⟩)⟩)⟩), oneB⟩) snC_len rfl lenP <| s_n <| s_r <| q_m rfl rfl <| q_m rfl rfl <| s_q rfl (y_cutE (sz := 35) i rfl rfl hfm.choose_spec kR lenP rfl) <| q_a rfl rfl <| s_n <| tk_retc <| tk_R (H1 := []) rfl (show own (cutR v 0 i) ((m.take i).length) ((m.take i).flatMap snC) 31 35 = own (cutR v 0 i) ((l.filter (notS r.s.seq)).length) ((l.filter (notS r.s.seq)).flatMap snC) 31 35 from ownA_cast (by rw [hI.2.2.2.1, show j = l.length by omega, List.take_length])) <| tk_ret (cutR v 0 i) (trivial) (.inl rfl) (r1 rfl rfl) (List.Sublist.refl _)
theorem conF_spec {v : Value} {l : List Snp} {r : Rec} {rb : Nat} {w : World} (hn : l.length < 1000000) (hh : Pre w [own v l.length (l.flatMap snC) 31 35, cel rb ([I (r.kind), I (r.s.seq), I (r.s.time), Str r.s.note] ++ (r.s.root.map B)) 33]) : Spec Tryz.prog 129 [v, .func (.func 130) #[] #[PT rb]] w [own v l.length (l.flatMap snC) 31 35, cel rb ([I (r.kind), I (r.s.seq), I (r.s.time), Str r.s.note] ++ (r.s.root.map B)) 33] (fun _ : Unit => True) (fun _ => .bool (decide (hasS l r.s.seq))) (fun _ => [own v l.length (l.flatMap snC) 31 35, cel rb ([I (r.kind), I (r.s.seq), I (r.s.time), Str r.s.note] ++ (r.s.root.map B)) 33]) := by
  refine spec_of (n := 9) Tryz.func129 rfl rfl hh.1 hh.2 rfl <| tk_ownA (.head _) fun hfe => ?_
  have hrh := r.s.h
  exact s_r <| q_a rfl rfl <| s_n <| s_r <| q_m rfl rfl <| q_m rfl rfl <| tk_act rfl <| a_callv [] _ rfl kR rfl (fun w' hw' => idxB_spec (v := v) (l := l) (rb := rb) (r := r) lenP (St.pre hw')) rfl fun r7 hr7 => s_q rfl (y_geq rfl rfl) <| q_a rfl rfl <| s_n <| tk_retc <| tk_re 4 (.bool (decide ((0 : Int) ≤ r7))) (.bool (decide (hasS l r.s.seq))) rfl (congrArg Value.bool (by rw [decide_eq_decide]; exact idx_has hr7)) <| tk_ret (()) (trivial) (.inl rfl) (r1 rfl rfl) (List.Sublist.refl _)
theorem lfold_spec {v : Value} {l : List Rec} {w : World} (h1 : Ro (Fs []) w (rdC v l.length (l.flatMap rcC))) (hn : l.length < 1000000) : Spec Tryz.prog 59 [v] w [] (fun _ : Value => True) (fun x => x) (fun x => [ownA snC 35 x (foldR l) 31]) := by
  refine spec_of (n := 28) Tryz.func59 rfl rfl trivial trivial rfl <| s_r <| q_a rfl rfl <| s_n <| s_r <| q_a rfl rfl <| s_n <| tk_seq <| s_r <| q_m rfl rfl <| s_q rfl (y_lenE rfl h1.1 rfl) <| q_m rfl rfl <| s_n <| tk_block <| tk_ownA0 (f := snC) 35 31 <| tk_R (H1 := []) rfl (show own (.slice none 0 0) (([] : List Snp).length) (([] : List Snp).flatMap snC) 31 35 = own (.slice none 0 0) ((foldR (l.take 0)).length) ((foldR (l.take 0)).flatMap snC) 31 35 from ownA_cast rfl) <| tk_loop (X := Nat × Value) (fun (i, vo) => i ≤ l.length) (fun (i, vo) => [(2, .slice none 0 0), (3, vo), (6, v), (7, IN l.length), (8, IN i)]) (fun (i, vo) => [own vo ((foldR (l.take i)).length) ((foldR (l.take i)).flatMap snC) 31 35]) (fun (i, vo) => l.length - i) ((0, .slice none 0 0)) (Nat.zero_le _) sB ((List.Sublist.refl _)) ?_
  rintro ⟨i, vo⟩ hI
  try dsimp only at hI ⊢
  have hfl := foldR_len (l := l.take i)
  have hlt : (l.take i).length = i := by rw [List.length_take]; omega
  refine tk_ownA (.head _) fun hfo => s_r <| s_q rfl (y_lss rfl rfl) <| s_n <| tk_seq <| tk_condP rfl (fun ht9 => ?_) (fun ht9 => ?_)
  · have hrh := (l.getD i dRec).s.h
    refine tk_skip <| tk_then <| tk_seq <| tk_block <| s_r <| s_q rfl (y_ixE (i := i) (k := 36) rfl rfl h1.1 lenP kR) <| s_q rfl (y_loadE (i := i) (k := 36) (o := 0) (f := rcC) (l := l) (d0 := dRec) (vs := [I ((l.getD i dRec).kind), I ((l.getD i dRec).s.seq), I ((l.getD i dRec).s.time), Str ((l.getD i dRec).s.note)] ++ (((l.getD i dRec).s.root).map B)) 36 rfl kR (by rw [List.length_append, List.length_map, (l.getD i dRec).s.h]; rfl) rcC_len lenP (rcC_all _) (fun w hw => Ro.rdC h1 hw)) <| tk_act rfl <| a_allocL (cs := [I 0, I 0, I 0, Str []] ++ ((List.replicate 32 0).map B)) kR rfl fun b5 => tk_act rfl <| a_storeW (H1 := []) (vs := [I ((l.getD i dRec).kind), I ((l.getD i dRec).s.seq), I ((l.getD i dRec).s.time), Str ((l.getD i dRec).s.note)] ++ (((l.getD i dRec).s.root).map B)) 36 rfl rfl kR rfl ⟨lenP, lenP⟩ (List.forall_mem_append.2 ⟨(List.forall_mem_cons.2 ⟨rfl, (List.forall_mem_cons.2 ⟨rfl, (List.forall_mem_cons.2 ⟨rfl, (List.forall_mem_cons.2 ⟨rfl, (fun _ h => nomatch h)⟩)⟩)⟩)⟩), oneB⟩) <| s_n <| s_r <| s_q rfl (y_fld0 (o := 0) rfl kR) <| s_q rfl (y_load rfl rfl (hc (o := 0) (.head _) (rfl))) <| s_n <| tk_block <| s_r <| s_q rfl (y_eql rfl rfl) <| q_a rfl rfl <| s_n <| tk_condP rfl (fun ht14 => ?_) (fun ht14 => ?_)
    · exact tk_region <| q_m rfl rfl <| s_q rfl (y_fldN (o := 0) 1 rfl kR) <| s_q rfl (y_loadA (vs := [I ((l.getD i dRec).s.seq), I ((l.getD i dRec).s.time), Str ((l.getD i dRec).s.note)] ++ (((l.getD i dRec).s.root).map B)) 35 rfl kR lenP (hseg (pre := [I ((l.getD i dRec).kind)]) (post := ([] : List Value)) (.head _) lenP sI)) <| tk_act rfl <| a_slitE (k := 35) (cs := [I ((l.getD i dRec).s.seq), I ((l.getD i dRec).s.time), Str ((l.getD i dRec).s.note)] ++ (((l.getD i dRec).s.root).map B)) rfl EL37 lenP dC rfl fun b19 => tk_act rfl <| a_appE (H1 := [_, _]) (f := snC) (l := foldR (l.take i)) (e := (l.getD i dRec).s) (b := b19) (k := 35) rfl rfl EL37 rfl rfl (.head _) (snC_len _) (List.forall_mem_append.2 ⟨(List.forall_mem_cons.2 ⟨rfl, (List.forall_mem_cons.2 ⟨rfl, (List.forall_mem_cons.2 ⟨rfl, (fun _ h => nomatch h)⟩)⟩)⟩), oneB⟩) lenP lenP fun v20 => tk_ownA (mm 2 rfl) fun hfv20 => q_a rfl rfl <| tk_nil <| tk_in_normal <| tk_in_normal <| tk_then <| tk_region <| s_q rfl (y_addN (a := i) (b := 1) rfl rfl oM) <| q_m rfl rfl <| tk_nil <| tk_R (H1 := [_, _]) rfl (show own v20 (((foldR (l.take i)) ++ [(l.getD i dRec).s]).length) (((foldR (l.take i)) ++ [(l.getD i dRec).s]).flatMap snC) 31 35 = own v20 ((foldR (l.take (i + 1))).length) ((foldR (l.take (i + 1))).flatMap snC) 31 35 from ownA_cast (by rw [foldR_succ oM, step_1 ht14])) <| tk_again ((i + 1, v20)) (by dsimp only; omega) (by dsimp only; omega) sB (.cons _ (.cons _ (List.Sublist.refl _)))
    · refine s_r <| s_q rfl (y_eql rfl rfl) <| q_a rfl rfl <| s_n <| tk_condP rfl (fun ht21 => ?_) (fun ht21 => ?_)
      · exact tk_region <| q_m rfl rfl <| s_q rfl (y_makeFunc (cs := [PT b5]) rfl) <| tk_act rfl <| tk_ps [1] rfl <| a_callv [] _ rfl kR rfl (fun w' hw' => delF_spec (v := vo) (l := foldR (l.take i)) (rb := b5) (r := (l.getD i dRec)) lenP (St.pre hw')) rfl fun v25 _ => tk_ownA (.head _) fun hfv25 => q_a rfl rfl <| tk_nil <| tk_in_normal <| tk_in_normal <| tk_then <| tk_region <| s_q rfl (y_addN (a := i) (b := 1) rfl rfl oM) <| q_m rfl rfl <| tk_nil <| tk_R (H1 := []) rfl (show own v25 (((foldR (l.take i)).filter (notS (l.getD i dRec).s.seq)).length) (((foldR (l.take i)).filter (notS (l.getD i dRec).s.seq)).flatMap snC) 31 35 = own v25 ((foldR (l.take (i + 1))).length) ((foldR (l.take (i + 1))).flatMap snC) 31 35 from ownA_cast (by rw [foldR_succ oM, step_2 ht21])) <| tk_again ((i + 1, v25)) (by dsimp only; omega) (by dsimp only; omega) sB (.cons_cons _ (List.nil_sublist _))
      · exact tk_skip <| tk_in_normal <| tk_in_normal <| tk_then <| tk_region <| s_q rfl (y_addN (a := i) (b := 1) rfl rfl oM) <| q_m rfl rfl <| tk_nil <| tk_R (H1 := [_]) rfl (show own vo ((foldR (l.take i)).length) ((foldR (l.take i)).flatMap snC) 31 35 = own vo ((foldR (l.take (i + 1))).length) ((foldR (l.take (i + 1))).flatMap snC) 31 35 from ownA_cast (by rw [foldR_succ oM, step_0 ht14 ht21])) <| tk_again ((i + 1, vo)) (by dsimp only; omega) (by dsimp only; omega) sB (.cons _ (List.Sublist.refl _))
  · exact tk_exit <| tk_then_exit <| tk_then_exit <| tk_in_hit <| tk_then <| s_r <| q_m rfl rfl <| q_a rfl rfl <| s_n <| tk_retc <| tk_R (H1 := []) rfl (show own vo ((foldR (l.take i)).length) ((foldR (l.take i)).flatMap snC) 31 35 = own vo ((foldR l).length) ((foldR l).flatMap snC) 31 35 from ownA_cast (by rw [show i = l.length by omega, List.take_length])) <| tk_ret (vo) (trivial) (.inl rfl) (r1 rfl rfl) (List.Sublist.refl _)
theorem rfold_spec {v : Value} {l : List Rec} {w : World} (h1 : Ro (Fs []) w (rdC v l.length (l.flatMap rcC))) (hn : l.length < 1000000) : Spec Tryz.prog 22 [v] w [] (fun _ : Value => True) (fun x => x) (fun x => [ownA snC 35 x (foldR l) 31]) := by
  refine spec_of (n := 59) Tryz.func22 rfl rfl trivial trivial rfl <| s_r <| q_a rfl rfl <| s_n <| s_r <| q_a rfl rfl <| s_n <| tk_seq <| s_r <| q_a rfl rfl <| s_n <| tk_block <| tk_ownA0 (f := snC) 35 31 <| tk_R (H1 := []) rfl (show own (.slice none 0 0) (([] : List Snp).length) (([] : List Snp).flatMap snC) 31 35 = own (.slice none 0 0) ((foldR (l.take 0)).length) ((foldR (l.take 0)).flatMap snC) 31 35 from ownA_cast rfl) <| tk_loop (X := Nat × Value) (fun (i, vo) => i ≤ l.length) (fun (i, vo) => [(0, v), (2, .slice none 0 0), (3, vo), (4, IN i)]) (fun (i, vo) => [own vo ((foldR (l.take i)).length) ((foldR (l.take i)).flatMap snC) 31 35]) (fun (i, vo) => l.length - i) ((0, .slice none 0 0)) (Nat.zero_le _) sB ((List.Sublist.refl _)) ?_
  rintro ⟨i, vo⟩ hI
  try dsimp only at hI ⊢
  have hfl := foldR_len (l := l.take i)
  have hlt : (l.take i).length = i := by rw [List.length_take]; omega
  refine tk_ownA (.head _) fun hfo => tk_seq <| s_r <| q_m rfl rfl <| q_m rfl rfl <| s_q rfl (y_lenE rfl h1.1 rfl) <| s_q rfl (y_lss rfl rfl) <| s_n <| tk_condP rfl (fun ht11 => ?_) (fun ht11 => ?_)
  · have hrh := (l.getD i dRec).s.h
    refine tk_skip <| tk_then <| tk_seq <| tk_block <| s_r <| q_m rfl rfl <| q_m rfl rfl <| s_q rfl (y_ixE (i := i) (k := 36) rfl rfl h1.1 lenP kR) <| s_q rfl (y_loadE (i := i) (k := 36) (o := 0) (f := rcC) (l := l) (d0 := dRec) (vs := [I ((l.getD i dRec).kind), I ((l.getD i dRec).s.seq), I ((l.getD i dRec).s.time), Str ((l.getD i dRec).s.note)] ++ (((l.getD i dRec).s.root).map B)) 36 rfl kR (by rw [List.length_append, List.length_map, (l.getD i dRec).s.h]; rfl) rcC_len lenP (rcC_all _) (fun w hw => Ro.rdC h1 hw)) <| tk_act rfl <| a_allocL (cs := [I 0, I 0, I 0, Str []] ++ ((List.replicate 32 0).map B)) kR rfl fun b5 => tk_act rfl <| a_storeW (H1 := []) (vs := [I ((l.getD i dRec).kind), I ((l.getD i dRec).s.seq), I ((l.getD i dRec).s.time), Str ((l.getD i dRec).s.note)] ++ (((l.getD i dRec).s.root).map B)) 36 rfl rfl kR rfl ⟨lenP, lenP⟩ (List.forall_mem_append.2 ⟨(List.forall_mem_cons.2 ⟨rfl, (List.forall_mem_cons.2 ⟨rfl, (List.forall_mem_cons.2 ⟨rfl, (List.forall_mem_cons.2 ⟨rfl, (fun _ h => nomatch h)⟩)⟩)⟩)⟩), oneB⟩) <| s_n <| tk_seq <| s_r <| s_q rfl (y_fld0 (o := 0) rfl kR) <| s_q rfl (y_load rfl rfl (hc (o := 0) (.head _) (rfl))) <| s_q rfl (y_eql rfl rfl) <| s_n <| tk_condP rfl (fun ht20 => ?_) (fun ht20 => ?_)
    · refine tk_region <| q_m rfl rfl <| s_q rfl (y_fldN (o := 0) 1 rfl kR) <| s_q rfl (y_load rfl rfl (hc (o := 1) (.head _) (rfl))) <| s_q rfl (y_fldN (o := 0) 2 rfl kR) <| s_q rfl (y_load rfl rfl (hc (o := 2) (.head _) (rfl))) <| s_q rfl (y_fldN (o := 0) 3 rfl kR) <| s_q rfl (y_load rfl rfl (hc (o := 3) (.head _) (rfl))) <| s_q rfl (y_fldN (o := 0) 4 rfl kR) <| s_q rfl (y_loadA (vs := ((l.getD i dRec).s.root).map B) 32 rfl kR lenP (hseg (pre := [I ((l.getD i dRec).kind), I ((l.getD i dRec).s.seq), I ((l.getD i dRec).s.time), Str ((l.getD i dRec).s.note)]) (post := ([] : List Value)) (.head _) lenP sI)) <| s_q rfl (y_build (v := .agg ([I ((l.getD i dRec).s.seq), I ((l.getD i dRec).s.time), Str ((l.getD i dRec).s.note)] ++ (((l.getD i dRec).s.root).map B)).toArray) (vs := [(0, I ((l.getD i dRec).s.seq)), (1, I ((l.getD i dRec).s.time)), (2, Str (l.getD i dRec).s.note), (3, .agg ((l.getD i dRec).s.root.map B).toArray)]) rfl (run_build (zs := [I 0, I 0, Str []] ++ (List.replicate 32 0).map B) (pl := [(0, 1), (1, 1), (2, 1), (3, 32)]) Tryz.underlying31 (fun _ => kR) (fun _ => kR) (fill_snap (l.getD i dRec).s.h))) <| tk_act rfl <| a_slitE (k := 35) (cs := [I ((l.getD i dRec).s.seq), I ((l.getD i dRec).s.time), Str ((l.getD i dRec).s.note)] ++ (((l.getD i dRec).s.root).map B)) rfl EL37 lenP dC rfl fun b31 => tk_act rfl <| a_appE (H1 := [_, _]) (f := snC) (l := foldR (l.take i)) (e := (l.getD i dRec).s) (b := b31) (k := 35) rfl rfl EL37 rfl rfl (.head _) (snC_len _) (List.forall_mem_append.2 ⟨(List.forall_mem_cons.2 ⟨rfl, (List.forall_mem_cons.2 ⟨rfl, (List.forall_mem_cons.2 ⟨rfl, (fun _ h => nomatch h)⟩)⟩)⟩), oneB⟩) lenP lenP fun v32 => tk_ownA (mm 2 rfl) fun hfv32 => q_a rfl rfl <| s_n <| s_r <| s_q rfl (y_fld0 (o := 0) rfl kR) <| s_q rfl (y_load rfl rfl (hc (o := 0) (mm 1 rfl) (rfl))) <| s_q rfl (y_eql rfl rfl) <| s_n <| tk_condP rfl (fun ht35 => ?_) (fun ht35 => ?_)
      · exfalso; omega
      · exact tk_skip <| tk_in_normal <| tk_then <| tk_region <| q_m rfl rfl <| s_q rfl (y_addN (a := i) (b := 1) rfl rfl oM) <| q_a rfl rfl <| tk_nil <| tk_R (H1 := [_, _]) rfl (show own v32 (((foldR (l.take i)) ++ [(l.getD i dRec).s]).length) (((foldR (l.take i)) ++ [(l.getD i dRec).s]).flatMap snC) 31 35 = own v32 ((foldR (l.take (i + 1))).length) ((foldR (l.take (i + 1))).flatMap snC) 31 35 from ownA_cast (by rw [foldR_succ oM, step_1 ht20])) <| tk_again ((i + 1, v32)) (by dsimp only; omega) (by dsimp only; omega) sB (.cons _ (.cons _ (List.Sublist.refl _)))
    · refine tk_skip <| tk_then <| s_r <| s_q rfl (y_fld0 (o := 0) rfl kR) <| s_q rfl (y_load rfl rfl (hc (o := 0) (.head _) (rfl))) <| s_q rfl (y_eql rfl rfl) <| s_n <| tk_condP rfl (fun ht35 => ?_) (fun ht35 => ?_)
      · refine s_r <| q_a rfl rfl <| s_n <| tk_seq <| s_r <| q_a rfl rfl <| s_n <| tk_block <| tk_ownA0 (f := snC) 35 31 <| tk_R (H1 := []) rfl (show own (.slice none 0 0) (([] : List Snp).length) (([] : List Snp).flatMap snC) 31 35 = own (.slice none 0 0) ((((foldR (l.take i)).take 0).filter (notS (l.getD i dRec).s.seq)).length) ((((foldR (l.take i)).take 0).filter (notS (l.getD i dRec).s.seq)).flatMap snC) 31 35 from ownA_cast rfl) <| tk_loop (X := Nat × Value) (fun (k, vl) => k ≤ (foldR (l.take i)).length) (fun (k, vl) => [(0, v), (2, .slice none 0 0), (3, vo), (4, IN i), (5, PT b5), (6, vl), (7, IN k)]) (fun (k, vl) => [own vl ((((foldR (l.take i)).take k).filter (notS (l.getD i dRec).s.seq)).length) ((((foldR (l.take i)).take k).filter (notS (l.getD i dRec).s.seq)).flatMap snC) 31 35, cel b5 ([I ((l.getD i dRec).kind), I ((l.getD i dRec).s.seq), I ((l.getD i dRec).s.time), Str ((l.getD i dRec).s.note)] ++ (((l.getD i dRec).s.root).map B)) 57, own vo ((foldR (l.take i)).length) ((foldR (l.take i)).flatMap snC) 31 35]) (fun (k, vl) => (foldR (l.take i)).length - k) ((0, .slice none 0 0)) (Nat.zero_le _) sB ((List.Sublist.refl _)) ?_
        rintro ⟨k, vl⟩ hK
        dsimp only at hK ⊢
        have hfk : (((foldR (l.take i)).take k).filter (notS (l.getD i dRec).s.seq)).length ≤ (foldR (l.take i)).length := by have h1 := List.length_filter_le (notS (l.getD i dRec).s.seq) ((foldR (l.take i)).take k); rw [List.length_take] at h1; omega
        refine tk_ownA (.head _) fun hfp => tk_seq <| s_r <| q_m rfl rfl <| q_m rfl rfl <| s_q rfl (y_lenE rfl hfo.choose_spec rfl) <| s_q rfl (y_lss rfl rfl) <| s_n <| tk_condP rfl (fun ht39 => ?_) (fun ht39 => ?_)
        · have hkh := ((foldR (l.take i)).getD k dSn).h
          refine tk_skip <| tk_then <| tk_seq <| tk_block <| tk_seq <| tk_drawH [own vl ((((foldR (l.take i)).take k).filter (notS (l.getD i dRec).s.seq)).length) ((((foldR (l.take i)).take k).filter (notS (l.getD i dRec).s.seq)).flatMap snC) 31 35, cel b5 ([I ((l.getD i dRec).kind), I ((l.getD i dRec).s.seq), I ((l.getD i dRec).s.time), Str ((l.getD i dRec).s.note)] ++ (((l.getD i dRec).s.root).map B)) 57, own vo ((foldR (l.take i)).length) ((foldR (l.take i)).flatMap snC) 31 35] [] kR <| s_x 0 rfl (y_move rfl) <| s_x 1 rfl (y_move rfl) <| s_x 2 rfl (y_ixE (i := k) (k := 35) rfl rfl hfo.choose_spec lenP kR) <| s_x 3 rfl (y_fldE (o := k * 35 + 0) (off := 0) rfl kR) <| s_l 4 rfl (fun _ h => h) (y_loadE1 (i := k) (k := 35) (o := 0) (f := snC) (l := foldR (l.take i)) (d0 := dSn) (u := I (((foldR (l.take i)).getD k dSn).seq)) rfl rfl snC_len lenP rfl (fun w hw => own_rdC (hw.mem (mm 2 rfl)))) <| s_x 5 rfl (y_fldN (o := 0) 1 rfl kR) <| s_l 6 rfl (fun _ h => h) (y_load rfl rfl (hc (o := 1) (mm 1 rfl) (rfl))) <| s_x 7 rfl (y_neq rfl rfl) <| tx_done kR <| tk_then <| tk_condP rfl (fun ht49 => ?_) (fun ht49 => ?_)
          · exact tk_region <| q_m rfl rfl <| q_m rfl rfl <| q_m rfl rfl <| s_q rfl (y_ixE (i := k) (k := 35) rfl rfl hfo.choose_spec lenP kR) <| s_q rfl (y_loadE (i := k) (k := 35) (o := 0) (f := snC) (l := foldR (l.take i)) (d0 := dSn) (vs := [I (((foldR (l.take i)).getD k dSn).seq), I (((foldR (l.take i)).getD k dSn).time), Str (((foldR (l.take i)).getD k dSn).note)] ++ ((((foldR (l.take i)).getD k dSn).root).map B)) 35 rfl kR (by rw [List.length_append, List.length_map, ((foldR (l.take i)).getD k dSn).h]; rfl) snC_len lenP (snC_all _) (fun w hw => own_rdC (hw.mem (mm 2 rfl)))) <| tk_act rfl <| a_slitE (k := 35) (cs := [I (((foldR (l.take i)).getD k dSn).seq), I (((foldR (l.take i)).getD k dSn).time), Str (((foldR (l.take i)).getD k dSn).note)] ++ ((((foldR (l.take i)).getD k dSn).root).map B)) rfl EL37 lenP dC rfl fun b55 => tk_act rfl <| a_appE (H1 := [_]) (f := snC) (l := ((foldR (l.take i)).take k).filter (notS (l.getD i dRec).s.seq)) (e := ((foldR (l.take i)).getD k dSn)) (b := b55) (k := 35) rfl rfl EL37 rfl rfl (.head _) (snC_len _) (List.forall_mem_append.2 ⟨(List.forall_mem_cons.2 ⟨rfl, (List.forall_mem_cons.2 ⟨rfl, (List.forall_mem_cons.2 ⟨rfl, (fun _ h => nomatch h)⟩)⟩)⟩), oneB⟩) lenP lenP fun v56 => tk_ownA (mm 1 rfl) fun hfv56 => q_a rfl rfl <| tk_nil <| tk_in_normal <| tk_then <| tk_region <| q_m rfl rfl <| s_q rfl (y_addN (a := k) (b := 1) rfl rfl oM) <| q_a rfl rfl <| tk_nil <| tk_R (H1 := [_]) rfl (show own v56 (((((foldR (l.take i)).take k).filter (notS (l.getD i dRec).s.seq)) ++ [((foldR (l.take i)).getD k dSn)]).length) (((((foldR (l.take i)).take k).filter (notS (l.getD i dRec).s.seq)) ++ [((foldR (l.take i)).getD k dSn)]).flatMap snC) 31 35 = own v56 ((((foldR (l.take i)).take (k + 1)).filter (notS (l.getD i dRec).s.seq)).length) ((((foldR (l.take i)).take (k + 1)).filter (notS (l.getD i dRec).s.seq)).flatMap snC) 31 35 from ownA_cast (by rw [take_snocL (d := dSn) (show k < (foldR (l.take i)).length by omega), List.filter_append, filt_1 ht49])) <| tk_again ((k + 1, v56)) (by dsimp only; omega) (by dsimp only; omega) sB (.cons _ (List.Sublist.refl _))
          · exact tk_skip <| tk_in_normal <| tk_then <| tk_region <| q_m rfl rfl <| s_q rfl (y_addN (a := k) (b := 1) rfl rfl oM) <| q_a rfl rfl <| tk_nil <| tk_R (H1 := []) rfl (show own vl ((((foldR (l.take i)).take k).filter (notS (l.getD i dRec).s.seq)).length) ((((foldR (l.take i)).take k).filter (notS (l.getD i dRec).s.seq)).flatMap snC) 31 35 = own vl ((((foldR (l.take i)).take (k + 1)).filter (notS (l.getD i dRec).s.seq)).length) ((((foldR (l.take i)).take (k + 1)).filter (notS (l.getD i dRec).s.seq)).flatMap snC) 31 35 from ownA_cast (by rw [take_snocL (d := dSn) (show k < (foldR (l.take i)).length by omega), List.filter_append, filt_0 (Classical.not_not.1 ht49), List.append_nil])) <| tk_again ((k + 1, vl)) (by dsimp only; omega) (by dsimp only; omega) sB (List.Sublist.refl _)
        · exact tk_exit <| tk_then_exit <| tk_then_exit <| tk_in_hit <| tk_then <| tk_region <| q_m rfl rfl <| q_a rfl rfl <| tk_nil <| tk_in_normal <| tk_then <| tk_region <| q_m rfl rfl <| s_q rfl (y_addN (a := i) (b := 1) rfl rfl oM) <| q_a rfl rfl <| tk_nil <| tk_drop (.cons_cons _ (.cons_cons _ (List.nil_sublist _))) <| tk_R (H1 := []) rfl (show own vl ((((foldR (l.take i)).take k).filter (notS (l.getD i dRec).s.seq)).length) ((((foldR (l.take i)).take k).filter (notS (l.getD i dRec).s.seq)).flatMap snC) 31 35 = own vl ((foldR (l.take (i + 1))).length) ((foldR (l.take (i + 1))).flatMap snC) 31 35 from ownA_cast (by rw [foldR_succ oM, step_2 ht35, show k = (foldR (l.take i)).length by omega, List.take_length])) <| tk_again ((i + 1, vl)) (by dsimp only; omega) (by dsimp only; omega) sB (.cons_cons _ (List.nil_sublist _))
      · exact tk_skip <| tk_in_normal <| tk_then <| tk_region <| q_m rfl rfl <| s_q rfl (y_addN (a := i) (b := 1) rfl rfl oM) <| q_a rfl rfl <| tk_nil <| tk_R (H1 := [_]) rfl (show own vo ((foldR (l.take i)).length) ((foldR (l.take i)).flatMap snC) 31 35 = own vo ((foldR (l.take (i + 1))).length) ((foldR (l.take (i + 1))).flatMap snC) 31 35 from ownA_cast (by rw [foldR_succ oM, step_0 ht20 ht35])) <| tk_again ((i + 1, vo)) (by dsimp only; omega) (by dsimp only; omega) sB (.cons _ (List.Sublist.refl _))
  · exact tk_exit <| tk_then_exit <| tk_then_exit <| tk_in_hit <| tk_then <| s_r <| q_m rfl rfl <| q_a rfl rfl <| s_n <| tk_retc <| tk_R (H1 := []) rfl (show own vo ((foldR (l.take i)).length) ((foldR (l.take i)).flatMap snC) 31 35 = own vo ((foldR l).length) ((foldR l).flatMap snC) 31 35 from ownA_cast (by rw [show i = l.length by omega, List.take_length])) <| tk_ret (vo) (trivial) (.inl rfl) (r1 rfl rfl) (List.Sublist.refl _)
theorem shots_spec {v1 v2 : Value} {l m : List Snp} {w : World} (h1 : Ro (Fs []) w (rdC v1 l.length (l.flatMap snC))) (h2 : Ro (Fs []) w (rdC v2 m.length (m.flatMap snC))) (hl : l.length < 1000000) (hm : m.length < 1000000) : Spec Tryz.prog 21 [v1, v2] w [] (fun _ : Unit => True) (fun _ => .bool (decide (l = m))) (fun _ => []) := by
  refine spec_of (n := 26) Tryz.func21 rfl rfl trivial trivial rfl <| s_r <| q_a rfl rfl <| s_n <| tk_seq <| s_r <| q_m rfl rfl <| s_q rfl (y_lenE rfl h1.1 rfl) <| q_m rfl rfl <| s_q rfl (y_lenE rfl h2.1 rfl) <| s_q rfl (y_neq rfl rfl) <| s_n <| tk_condP rfl (fun ht10 => ?_) (fun ht10 => ?_)
  · exact s_r <| q_a rfl rfl <| s_n <| tk_retc <| tk_then_ret <| tk_re 4 (.bool false) (.bool (decide (l = m))) rfl (by rw [decide_eq_false (fun h : l = m => ht10 (by rw [h]))]) <| tk_ret (()) (trivial) (.inl rfl) (r1 rfl rfl) (List.Sublist.refl _)
  · refine tk_skip <| tk_then <| tk_seq <| s_r <| q_a rfl rfl <| s_n <| tk_block <| tk_loop (X := Nat) (fun i => i ≤ l.length ∧ ∀ j, j < i → l.getD j dSn = m.getD j dSn) (fun i => [(0, v1), (1, v2), (5, IN i)]) (fun i => []) (fun i => l.length - i) (0) (⟨Nat.zero_le _, fun _ h => absurd h oM⟩) sB ((List.Sublist.refl _)) ?_
    rintro i hI
    try dsimp only at hI ⊢
    refine tk_seq <| s_r <| q_m rfl rfl <| q_m rfl rfl <| s_q rfl (y_lenE rfl h1.1 rfl) <| s_q rfl (y_lss rfl rfl) <| s_n <| tk_condP rfl (fun ht14 => ?_) (fun ht14 => ?_)
    · refine tk_skip <| tk_then <| tk_seq <| tk_block <| tk_seq <| tk_drawH [] [] kR <| s_x 0 rfl (y_move rfl) <| s_x 1 rfl (y_move rfl) <| s_x 2 rfl (y_ixE (i := i) (k := 35) rfl rfl h1.1 lenP kR) <| s_l 3 rfl (fun _ h => h) (y_loadE (i := i) (k := 35) (o := 0) (f := snC) (l := l) (d0 := dSn) (vs := [I ((l.getD i dSn).seq), I ((l.getD i dSn).time), Str ((l.getD i dSn).note)] ++ (((l.getD i dSn).root).map B)) 35 rfl kR (by rw [List.length_append, List.length_map, (l.getD i dSn).h]; rfl) snC_len lenP (snC_all _) (fun w hw => Ro.rdC h1 hw)) <| s_x 4 rfl (y_move rfl) <| s_x 5 rfl (y_move rfl) <| s_x 6 rfl (y_ixE (i := i) (k := 35) rfl rfl h2.1 lenP kR) <| s_l 7 rfl (fun _ h => h) (y_loadE (i := i) (k := 35) (o := 0) (f := snC) (l := m) (d0 := dSn) (vs := [I ((m.getD i dSn).seq), I ((m.getD i dSn).time), Str ((m.getD i dSn).note)] ++ (((m.getD i dSn).root).map B)) 35 rfl kR (by rw [List.length_append, List.length_map, (m.getD i dSn).h]; rfl) snC_len lenP (snC_all _) (fun w hw => Ro.rdC h2 hw)) <| s_x 8 rfl (y_stNe (p := l.getD i dSn = m.getD i dSn) rfl rfl kR eqc_sn ⟨⟨_, rfl⟩, ⟨_, rfl⟩, snC_len _, snC_len _⟩ kR snC_inj) <| tx_done kR <| tk_then <| tk_condP rfl (fun ht25 => ?_) (fun ht25 => ?_)
      · exact s_r <| q_a rfl rfl <| s_n <| tk_retc <| tk_in_ret <| tk_then_ret <| tk_then_ret <| tk_in_ret <| tk_then_ret <| tk_re 4 (.bool false) (.bool (decide (l = m))) rfl (by rw [decide_eq_false (fun h : l = m => ht25 (by rw [h]))]) <| tk_ret (()) (trivial) (.inl rfl) (r1 rfl rfl) (List.Sublist.refl _)
      · exact tk_skip <| tk_in_normal <| tk_then <| tk_region <| q_m rfl rfl <| s_q rfl (y_addN (a := i) (b := 1) rfl rfl oM) <| q_a rfl rfl <| tk_nil <| tk_again (i + 1) (⟨by omega, fun j hj => (Nat.lt_or_ge j i).elim (hI.2 j) (fun h => by rw [show j = i by omega]; exact Classical.not_not.1 ht25)⟩) oM sB (List.Sublist.refl _)
    · exact tk_exit <| tk_then_exit <| tk_then_exit <| tk_in_hit <| tk_then <| s_r <| q_a rfl rfl <| s_n <| tk_retc <| tk_re 4 (.bool true) (.bool (decide (l = m))) rfl (by rw [decide_eq_true (list_ext oM (fun j hj => hI.2 j oM))]) <| tk_ret (()) (trivial) (.inl rfl) (r1 rfl rfl) (List.Sublist.refl _)
theorem to18_spec {r : Rec} {w : World} : Spec Tryz.prog 17 [.agg ([I (r.kind), I (r.s.seq), I (r.s.time), Str r.s.note] ++ (r.s.root.map B)).toArray] w [] (fun _ : Unit => True) (fun _ => .agg ([I (r.kind), I (r.s.seq), I (r.s.time), Str r.s.note] ++ (r.s.root.map B)).toArray) (fun _ => []) := by
  refine spec_of (n := 15) Tryz.func17 rfl rfl trivial trivial rfl ?_
  have hrh := r.s.h
  exact s_r <| tk_act rfl <| a_boxL (cs := [I (r.kind), I (r.s.seq), I (r.s.time), Str r.s.note] ++ (r.s.root.map B)) rfl rfl fun b1 => tk_act rfl <| a_allocL (cs := [I 0, I 0, I 0, Str []] ++ ((List.replicate 32 0).map B)) kR rfl fun b2 => s_n <| s_r <| s_q rfl (y_fld0 (o := 0) rfl kR) <| s_q rfl (y_load rfl rfl (hc (o := 0) (mm 1 rfl) (rfl))) <| s_q rfl (y_fldN (o := 0) 1 rfl kR) <| s_q rfl (y_load rfl rfl (hc (o := 1) (mm 1 rfl) (rfl))) <| s_q rfl (y_fldN (o := 0) 2 rfl kR) <| s_q rfl (y_load rfl rfl (hc (o := 2) (mm 1 rfl) (rfl))) <| s_q rfl (y_fldN (o := 0) 3 rfl kR) <| s_q rfl (y_load rfl rfl (hc (o := 3) (mm 1 rfl) (rfl))) <| s_q rfl (y_fldN (o := 0) 4 rfl kR) <| s_q rfl (y_loadA (vs := r.s.root.map B) 32 rfl kR (by simp [r.s.h]) (hseg (pre := [I (r.kind), I (r.s.seq), I (r.s.time), Str r.s.note]) (post := ([] : List Value)) (mm 1 rfl) (by simp [r.s.h]) sI)) <| s_q rfl (y_build (v := .agg ([I (r.s.seq), I (r.s.time), Str r.s.note] ++ (r.s.root.map B)).toArray) (vs := [(0, I (r.s.seq)), (1, I (r.s.time)), (2, Str r.s.note), (3, .agg (r.s.root.map B).toArray)]) rfl (run_build (zs := [I 0, I 0, Str []] ++ (List.replicate 32 0).map B) (pl := [(0, 1), (1, 1), (2, 1), (3, 32)]) Tryz.underlying31 (fun _ => kR) (fun _ => kR) (fill_snap r.s.h))) <| s_q rfl (y_build (v := .agg ([I (r.kind), I (r.s.seq), I (r.s.time), Str r.s.note] ++ (r.s.root.map B)).toArray) (vs := [(0, I (r.kind)), (1, .agg ([I (r.s.seq), I (r.s.time), Str r.s.note] ++ (r.s.root.map B)).toArray)]) rfl (run_build (zs := [I 0, I 0, I 0, Str []] ++ (List.replicate 32 0).map B) (pl := [(0, 1), (1, 35)]) Tryz.underlying33 (fun _ => kR) (fun _ => kR) (fill_rec (s := r.s)))) <| tk_act rfl <| a_storeW (H1 := []) (vs := [I (r.kind), I (r.s.seq), I (r.s.time), Str r.s.note] ++ (r.s.root.map B)) 36 rfl rfl kR rfl ⟨(by simp [r.s.h]), (by simp [r.s.h])⟩ (List.forall_mem_append.2 ⟨(List.forall_mem_cons.2 ⟨rfl, (List.forall_mem_cons.2 ⟨rfl, (List.forall_mem_cons.2 ⟨rfl, (List.forall_mem_cons.2 ⟨rfl, (fun _ h => nomatch h)⟩)⟩)⟩)⟩), oneB⟩) <| s_n <| tk_retc <| tk_ret (()) (trivial) (.inl rfl) (rc (vs := [I (r.kind), I (r.s.seq), I (r.s.time), Str r.s.note] ++ (r.s.root.map B)) rfl rfl (by simp [r.s.h]; kernel_rfl) (hcw (.head _))) (List.nil_sublist _)
end Go.Proofs.YtnhpghhibcdklaaGreatDoor
