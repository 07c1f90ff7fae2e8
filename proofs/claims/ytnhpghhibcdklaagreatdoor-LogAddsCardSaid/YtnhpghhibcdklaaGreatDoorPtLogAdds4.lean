/- Texts of the claim LogAdds, part 4 of 6: ShelfPure, ShelfInv, LogInv, ShelfA, ShelfB, ShelfC, ShelfD, KeysP, IterS, IterT, LogB, IndexD, IndexE, CipF, CipBox, CipG, CipH, CipI, WaxB, IndexF, IndexG. Own work. -/
import Derived.Lib.ItoaNum
import Derived.Lib.Repeat
import Derived.Maps.Own
import Derived.Shelf.LaysM
import Derived.Shelf.SlIter.Nil
import Derived.Shelf.SortM.Plain
import Derived.Shelf.SortM.SortNone
import Derived.Shelf.Strconv.Itoa3
import Derived.Shelf.Strings.Repeat
import Derived.Sort.KeysCollected
import Derived.StringKeys
import Derived.Test.YtnhpghhibcdklaaGreatDoorPtLogAdds3
set_option linter.unusedSimpArgs false
set_option linter.unusedVariables false
namespace Go.Proofs.YtnhpghhibcdklaaGreatDoor
open Go
/-- an object as it lies in memory -/
structure Ob where
  name : List UInt8
  v : Value
  b : List UInt8
  sure : Bool
def dOb : Ob := ⟨[], .slice none 0 0, [], false⟩
def obV (o : Ob) : Value := .agg [o.v, .bool o.sure].toArray
def nameTo (o : Ob) (n : List UInt8) : Ob := ⟨n, o.v, o.b, o.sure⟩
def kvO (l : List Ob) : KV := l.map (fun o => (o.name, obV o))
def hasO (l : List Ob) (k : List UInt8) : Prop := k ∈ l.map Ob.name
instance (l : List Ob) (k : List UInt8) : Decidable (hasO l k) := by unfold hasO; infer_instance
def lkO (l : List Ob) (k : List UInt8) : Ob := (l.find? (fun o => decide (o.name = k))).getD dOb
def delO (l : List Ob) (k : List UInt8) : List Ob := l.filter (fun o => !decide (o.name = k))
def syncO (l : List Ob) (k : List UInt8) : List Ob := l.map (fun o => if o.name = k then { o with sure := true } else o)
def sumO (l : List Ob) : Nat := (l.map (fun o => o.b.length)).sum
theorem kvO_len {l : List Ob} : (kvO l).length = l.length := by simp [kvO]
theorem kvO_find {l : List Ob} {k : List UInt8} : getS (kvO l) k = (l.find? (fun o => decide (o.name = k))).map obV := by
  unfold getS kvO
  rw [List.find?_map, Option.map_map]; rfl
theorem kvO_get {l : List Ob} {k : List UInt8} : (getS (kvO l) k).getD (.agg [Value.slice none 0 0, .bool false].toArray) = obV (lkO l k) := by
  rw [kvO_find, lkO]
  cases l.find? (fun o => decide (o.name = k)) <;> rfl
theorem kvO_some {l : List Ob} {k : List UInt8} : (getS (kvO l) k).isSome = decide (hasO l k) := by
  rw [kvO_find, Option.isSome_map, Bool.eq_iff_iff, List.find?_isSome]
  simp [hasO]
theorem kvO_ok {l : List Ob} {k : List UInt8} : Value.tuple #[(getS (kvO l) k).getD (.agg [Value.slice none 0 0, .bool false].toArray), .bool (getS (kvO l) k).isSome] = Value.tuple #[obV (lkO l k), .bool (decide (hasO l k))] := by rw [kvO_get, kvO_some]
theorem lkO_name {l : List Ob} {k : List UInt8} (h : hasO l k) : (lkO l k).name = k ∧ lkO l k ∈ l := by
  unfold lkO
  cases hf : l.find? (fun o => decide (o.name = k)) with
  | none =>
    obtain ⟨o, ho, e⟩ := List.mem_map.1 h
    have := List.find?_eq_none.1 hf o ho
    simp [e] at this
  | some o => exact ⟨by simpa using List.find?_some hf, List.mem_of_find?_eq_some hf⟩
theorem kvO_new {l : List Ob} {o : Ob} (h : ¬ hasO l o.name) : setS (kvO l) o.name (obV o) = kvO (l ++ [o]) := by
  rw [setS, kvO_some, decide_eq_false h]; simp [kvO]
theorem kvO_del {l : List Ob} {k : List UInt8} : delS (kvO l) k = kvO (delO l k) := by
  unfold delS kvO delO
  rw [List.filter_map]; rfl
theorem one_name {l : List Ob} (hn : (l.map Ob.name).Nodup) {a b : Ob} (ha : a ∈ l) (hb : b ∈ l) (h : a.name = b.name) : a = b := by
  induction l with
  | nil => cases ha
  | cons x l ih =>
    rw [List.map_cons, List.nodup_cons] at hn
    rcases List.mem_cons.1 ha with rfl | ha <;> rcases List.mem_cons.1 hb with rfl | hb
    · rfl
    · exact (hn.1 (by rw [h]; exact List.mem_map.2 ⟨b, ‹b ∈ l›, rfl⟩)).elim
    · exact (hn.1 (by rw [← h]; exact List.mem_map.2 ⟨a, ‹a ∈ l›, rfl⟩)).elim
    · exact ih hn.2 ‹a ∈ l› ‹b ∈ l›
theorem kvO_sync {l : List Ob} {k : List UInt8} (hn : (l.map Ob.name).Nodup) (h : hasO l k) : setS (kvO l) k (obV { lkO l k with sure := true }) = kvO (syncO l k) := by
  rw [setS, kvO_some, decide_eq_true h, if_pos rfl]
  unfold putS kvO syncO
  rw [List.map_map, List.map_map]
  refine List.map_congr_left (fun o ho => ?_)
  simp only [Function.comp]
  by_cases e : o.name = k
  · rw [if_pos e, if_pos e]
    have : lkO l k = o := one_name hn (lkO_name h).2 ho ((lkO_name h).1.trans e.symm)
    rw [this, e]
  · rw [if_neg e, if_neg e]
theorem sync_names {l : List Ob} {k : List UInt8} : (syncO l k).map Ob.name = l.map Ob.name := by
  unfold syncO
  rw [List.map_map]
  refine List.map_congr_left (fun o _ => ?_)
  simp only [Function.comp]
  split <;> rfl
def obR (T : TypeId) (o : Ob) : Res := ownB o.v o.b T
theorem sync_bag {T : TypeId} {l : List Ob} {k : List UInt8} : (syncO l k).map (obR T) = l.map (obR T) := by
  unfold syncO
  rw [List.map_map]
  refine List.map_congr_left (fun o _ => ?_)
  simp only [Function.comp]
  split <;> rfl
theorem del_has {l : List Ob} {k n : List UInt8} : hasO (delO l k) n ↔ hasO l n ∧ n ≠ k := by
  unfold hasO delO
  constructor
  · intro h
    obtain ⟨o, ho, rfl⟩ := List.mem_map.1 h
    have := List.mem_filter.1 ho
    exact ⟨List.mem_map.2 ⟨o, this.1, rfl⟩, by simpa using this.2⟩
  · rintro ⟨h, hne⟩
    obtain ⟨o, ho, rfl⟩ := List.mem_map.1 h
    exact List.mem_map.2 ⟨o, List.mem_filter.2 ⟨ho, by simpa using hne⟩, rfl⟩
theorem del_nodup {l : List Ob} {k : List UInt8} (h : (l.map Ob.name).Nodup) : ((delO l k).map Ob.name).Nodup := h.sublist (List.Sublist.map _ List.filter_sublist)
theorem add_nodup {l : List Ob} {o : Ob} (h : (l.map Ob.name).Nodup) (hn : ¬ hasO l o.name) : ((l ++ [o]).map Ob.name).Nodup := by
  rw [List.map_append, List.nodup_append]
  refine ⟨h, by simp, fun a ha b hb e => ?_⟩
  simp at hb
  exact hn (by unfold hasO; rw [← hb, ← e]; exact ha)
theorem del_perm {l : List Ob} {k : List UInt8} (hn : (l.map Ob.name).Nodup) (h : hasO l k) : l.Perm (delO l k ++ [lkO l k]) := by
  induction l with
  | nil => exact absurd h (by simp [hasO])
  | cons x l ih =>
    have hn0 := hn
    rw [List.map_cons, List.nodup_cons] at hn
    by_cases e : x.name = k
    · have hl : lkO (x :: l) k = x := by simp [lkO, e]
      have hd : delO (x :: l) k = l := by
        unfold delO
        rw [List.filter_cons, if_neg (by simp [e])]
        exact List.filter_eq_self.2 (fun o ho => by
          have : o.name ≠ k := fun e2 => hn.1 (by rw [e, ← e2]; exact List.mem_map.2 ⟨o, ho, rfl⟩)
          simp [this])
      rw [hl, hd]
      exact List.perm_append_comm (l₁ := [x]) (l₂ := l)
    · have hl : lkO (x :: l) k = lkO l k := by simp [lkO, e]
      have hd : delO (x :: l) k = x :: delO l k := by simp [delO, e]
      have h2 : hasO l k := by
        unfold hasO at h ⊢
        rw [List.map_cons, List.mem_cons] at h
        exact h.resolve_left (fun h => e h.symm)
      rw [hl, hd]
      exact (ih hn.2 h2).cons x
/-! ### what has come of a range -/
def VO (l vs : List Ob) : Prop := ∃ rest, (vs ++ rest).Perm l
theorem vo_0 {l : List Ob} : VO l [] := ⟨l, List.Perm.refl _⟩
theorem kvO_app {a b : List Ob} : kvO (a ++ b) = kvO a ++ kvO b := by simp [kvO]
theorem vo_step {l vs : List Ob} {p : List UInt8 × Value} {rest : KV} (hv : VO l vs) (h : (kvO vs ++ p :: rest).Perm (kvO l)) : ∃ o ∈ l, p = (o.name, obV o) ∧ VO l (vs ++ [o]) := by
  obtain ⟨r0, hr⟩ := hv
  have h1 : (kvO vs ++ kvO r0).Perm (kvO l) := by rw [← kvO_app]; exact hr.map _
  have h2 : (p :: rest).Perm (kvO r0) := (List.perm_append_left_iff _).1 (h.trans h1.symm)
  have h3 : p ∈ kvO r0 := h2.subset (List.mem_cons_self ..)
  obtain ⟨o, ho, e⟩ := List.mem_map.1 h3
  obtain ⟨s, t, rfl⟩ := List.append_of_mem ho
  refine ⟨o, hr.subset (List.mem_append_right _ ho), e.symm, s ++ t, ?_⟩
  refine List.Perm.trans ?_ hr
  rw [List.append_assoc]
  exact List.Perm.append_left vs ((List.perm_middle (a := o) (l₁ := s) (l₂ := t)).symm)
theorem vo_end {l vs : List Ob} (hv : VO l vs) (h : (kvO vs).Perm (kvO l)) : vs.Perm l := by
  obtain ⟨r0, hr⟩ := hv
  have h1 := h.length_eq
  have h2 := hr.length_eq
  rw [kvO_len, kvO_len] at h1
  rw [List.length_append] at h2
  have : r0 = [] := List.eq_nil_of_length_eq_zero (by omega)
  subst this
  rwa [List.append_nil] at hr
theorem sumO_perm {a b : List Ob} (h : a.Perm b) : sumO a = sumO b := by
  unfold sumO
  exact (h.map _).sum_nat
theorem sumO_snoc {a : List Ob} {o : Ob} : sumO (a ++ [o]) = sumO a + o.b.length := by simp [sumO]
theorem sumO_le {l vs : List Ob} (h : VO l vs) : sumO vs ≤ sumO l := by
  obtain ⟨r, hr⟩ := h
  rw [← sumO_perm hr]
  simp [sumO]
/-! ### the store -/
structure Sh where
  obs : List Ob
  left : Int
  off : Bool
  made : Int
  room : Int
/-- the same with other objects -/
def Sh.obsTo (s : Sh) (l : List Ob) : Sh := { s with obs := l }
def Sh.cells (s : Sh) (mb : Nat) : List Value := [.map (some mb), I s.left, .bool s.off, I s.made, I s.room]
structure ShOk (s : Sh) : Prop where
  nodup : (s.obs.map Ob.name).Nodup
  left : -1 ≤ s.left ∧ s.left < 4611686018427387904
  made : 0 ≤ s.made ∧ s.made < 4611686018427387904
  room : 0 ≤ s.room ∧ s.room < 4611686018427387904
  sum : sumO s.obs < 4611686018427387904
  len : s.obs.length < 1000000
  names : ∀ o ∈ s.obs, o.name.length < 9223372036854775808
  bytes : ∀ o ∈ s.obs, o.b.length < 4294967296
def Sh.spend (s : Sh) : Sh × Nat := if s.off = true ∨ s.left = 0 then ({ s with off := true }, 9) else ({ s with left := if 0 < s.left then s.left - 1 else s.left, made := s.made + 1 }, 0)
def Sh.change (s : Sh) (code : Nat) (d : Sh → Sh) : Sh × Nat := if s.off = true then (s, 9) else if ¬ code = 0 then (s, code) else if ¬ s.spend.2 = 0 then s.spend else (d s.spend.1, 0)
theorem spend_off {s : Sh} (h : s.off = true ∨ s.left = 0) : s.spend = ({ s with off := true }, 9) := by rw [Sh.spend, if_pos h]
theorem spend_pos {s : Sh} (h1 : ¬ s.off = true) (h : 0 < s.left) : s.spend = ({ s with left := s.left - 1, made := s.made + 1 }, 0) := by
  rw [Sh.spend, if_neg (fun q => q.elim h1 (by omega)), if_pos h]
theorem spend_neg {s : Sh} (h1 : ¬ s.off = true) (h0 : ¬ s.left = 0) (h : ¬ 0 < s.left) : s.spend = ({ s with made := s.made + 1 }, 0) := by
  rw [Sh.spend, if_neg (fun q => q.elim h1 h0), if_neg h]
theorem spend_obs {s : Sh} : s.spend.1.obs = s.obs ∧ s.spend.1.room = s.room := by
  unfold Sh.spend; split <;> exact ⟨rfl, rfl⟩
theorem change_off {s : Sh} {c : Nat} {d : Sh → Sh} (h : s.off = true) : s.change c d = (s, 9) := by rw [Sh.change, if_pos h]
theorem change_no {s : Sh} {c : Nat} {d : Sh → Sh} (h : ¬ s.off = true) (hc : ¬ c = 0) : s.change c d = (s, c) := by rw [Sh.change, if_neg h, if_pos hc]
theorem change_sp {s : Sh} {c : Nat} {d : Sh → Sh} (h : ¬ s.off = true) (hc : c = 0) (hs : ¬ s.spend.2 = 0) : s.change c d = s.spend := by rw [Sh.change, if_neg h, if_neg (fun q => q hc), if_pos hs]
theorem change_ok {s : Sh} {c : Nat} {d : Sh → Sh} (h : ¬ s.off = true) (hc : c = 0) (hs : s.spend.2 = 0) : s.change c d = (d s.spend.1, 0) := by rw [Sh.change, if_neg h, if_neg (fun q => q hc), if_neg (fun q => q hs)]
def putC (s : Sh) (name b : List UInt8) : Nat := if ¬ isNm name then 5 else if hasO s.obs name then 7 else if 1048576 < b.length then 4 else if s.room - (sumO s.obs : Int) < (b.length : Int) ∨ 2000 ≤ s.obs.length then 8 else 0
theorem putC_ok {s : Sh} {nm b : List UInt8} (h : putC s nm b = 0) : isNm nm ∧ ¬ hasO s.obs nm ∧ b.length ≤ 1048576 := by
  unfold putC at h
  split at h
  · cases h
  split at h
  · cases h
  split at h
  · cases h
  next h1 h2 h3 => exact ⟨Classical.not_not.1 h1, h2, by omega⟩
def Sh.put (s : Sh) (name : List UInt8) (v : Value) (b : List UInt8) : Sh × Nat := s.change (putC s name b) (fun s => s.obsTo (s.obs ++ [⟨name, v, b, false⟩]))
def renC (s : Sh) (a b : List UInt8) : Nat := if ¬ isNm b then 5 else if ¬ hasO s.obs a then 6 else if hasO s.obs b ∧ ¬ a = b then 7 else 0
theorem renC_ok {s : Sh} {a b : List UInt8} (h : renC s a b = 0) : isNm b ∧ hasO s.obs a ∧ (hasO s.obs b → a = b) := by
  unfold renC at h
  split at h
  · cases h
  split at h
  · cases h
  split at h
  · cases h
  next h1 h2 h3 => exact ⟨Classical.not_not.1 h1, Classical.not_not.1 h2, fun hb => Classical.not_not.1 fun hn => h3 ⟨hb, hn⟩⟩
def Sh.ren (s : Sh) (a b : List UInt8) : Sh × Nat := s.change (renC s a b) (fun s => s.obsTo (delO s.obs a ++ [nameTo (lkO s.obs a) b]))
def delC (s : Sh) (a : List UInt8) : Nat := if ¬ hasO s.obs a then 6 else 0
def Sh.del (s : Sh) (a : List UInt8) : Sh × Nat := s.change (delC s a) (fun s => s.obsTo (delO s.obs a))
def Sh.nudge (s : Sh) : Sh × Nat := s.change 0 id
def Sh.sync1 (s : Sh) (a : List UInt8) : Sh × Nat := if ¬ s.nudge.2 = 0 then s.nudge else if ¬ hasO s.nudge.1.obs a then (s.nudge.1, 6) else (s.nudge.1.obsTo (syncO s.nudge.1.obs a), 0)
theorem nudge_obs {s : Sh} : s.nudge.1.obs = s.obs ∧ s.nudge.1.room = s.room := by
  unfold Sh.nudge Sh.change
  split
  · exact ⟨rfl, rfl⟩
  split
  · exact ⟨rfl, rfl⟩
  split
  · exact spend_obs
  · exact spend_obs
theorem sync1_no {s : Sh} {a : List UInt8} (h : ¬ s.nudge.2 = 0) : s.sync1 a = s.nudge := by rw [Sh.sync1, if_pos h]
theorem sync1_miss {s : Sh} {a : List UInt8} (h : s.nudge.2 = 0) (h2 : ¬ hasO s.nudge.1.obs a) : s.sync1 a = (s.nudge.1, 6) := by rw [Sh.sync1, if_neg (fun q => q h), if_pos h2]
theorem sync1_ok {s : Sh} {a : List UInt8} (h : s.nudge.2 = 0) (h2 : hasO s.nudge.1.obs a) : s.sync1 a = (s.nudge.1.obsTo (syncO s.nudge.1.obs a), 0) := by rw [Sh.sync1, if_neg (fun q => q h), if_neg (fun q => q h2)]
/-- an object's bytes -/
def Sh.get (s : Sh) (a : List UInt8) : Nat × List UInt8 := if s.off = true then (9, []) else if ¬ hasO s.obs a then (6, []) else (0, (lkO s.obs a).b)
theorem lk_one {l : List Ob} (h : ∀ o ∈ l, ∃ w0, RdS w0 o.v (o.b.map B)) (k : List UInt8) : (lkO l k).v.oneCell' = true := by
  unfold lkO
  cases hf : l.find? (fun o => decide (o.name = k)) with
  | none => rfl
  | some o => exact (h o (List.mem_of_find?_eq_some hf)).choose_spec.one
end Go.Proofs.YtnhpghhibcdklaaGreatDoor
set_option linter.unusedSimpArgs false
set_option linter.unusedVariables false
namespace Go.Proofs.YtnhpghhibcdklaaGreatDoor
open Go
structure ShAt (s : Sh) (k : Int) : Prop where
  nodup : (s.obs.map Ob.name).Nodup
  left : -1 ≤ s.left ∧ s.left < 4611686018427387904
  made : 0 ≤ s.made ∧ s.made ≤ k
  room : 0 ≤ s.room ∧ s.room ≤ 1073741824
  sum : (sumO s.obs : Int) ≤ s.room
  len : s.obs.length ≤ 2000
  names : ∀ o ∈ s.obs, isNm o.name
  bytes : ∀ o ∈ s.obs, o.b.length ≤ 1048576
theorem ShAt.ok {s : Sh} {k : Int} (h : ShAt s k) (hk : k < 4611686018427387904) : ShOk s :=
  ⟨h.nodup, h.left, ⟨h.made.1, by have := h.made.2; omega⟩, ⟨h.room.1, by have := h.room.2; omega⟩, by have := h.sum; have := h.room.2; omega, by have := h.len; omega, fun o ho => by have := (h.names o ho).2.2; omega, fun o ho => by have := h.bytes o ho; omega⟩
theorem ShAt.mono {s : Sh} {k j : Int} (h : ShAt s k) (hk : k ≤ j) : ShAt s j := ⟨h.nodup, h.left, ⟨h.made.1, by have := h.made.2; omega⟩, h.room, h.sum, h.len, h.names, h.bytes⟩
theorem at_spend {s : Sh} {k : Int} (h : ShAt s k) : ShAt s.spend.1 (k + 1) := by
  unfold Sh.spend
  split
  · exact ⟨h.nodup, h.left, ⟨h.made.1, by have := h.made.2; dsimp only; omega⟩, h.room, h.sum, h.len, h.names, h.bytes⟩
  · have h1 := h.left; have h2 := h.made
    exact ⟨h.nodup, by dsimp only; split <;> omega, by dsimp only; omega, h.room, h.sum, h.len, h.names, h.bytes⟩
theorem at_obs {t : Sh} {k : Int} {l : List Ob} (h : ShAt t k) (h1 : (l.map Ob.name).Nodup) (h2 : (sumO l : Int) ≤ t.room) (h3 : l.length ≤ 2000) (h4 : ∀ o ∈ l, isNm o.name) (h5 : ∀ o ∈ l, o.b.length ≤ 1048576) : ShAt (t.obsTo l) k := ⟨h1, h.left, h.made, h.room, h2, h3, h4, h5⟩
theorem at_change {s : Sh} {k : Int} {c : Nat} {d : Sh → Sh} (h : ShAt s k) (hd : c = 0 → ∀ t : Sh, t.obs = s.obs → t.room = s.room → ShAt t (k + 1) → ShAt (d t) (k + 1)) : ShAt (s.change c d).1 (k + 1) := by
  unfold Sh.change
  split
  · exact h.mono (by omega)
  split
  · exact h.mono (by omega)
  split
  · exact at_spend h
  · next h1 h2 h3 => exact hd (Classical.not_not.1 h2) _ spend_obs.1 spend_obs.2 (at_spend h)
theorem at_nudge {s : Sh} {k : Int} (h : ShAt s k) : ShAt s.nudge.1 (k + 1) := at_change h (fun _ _ _ _ h => h)
theorem sumO_del {l : List Ob} {k : List UInt8} : sumO (delO l k) ≤ sumO l := by
  unfold sumO delO
  induction l with
  | nil => simp
  | cons o l ih =>
    rw [List.filter_cons]
    split
    · simp only [List.map_cons, List.sum_cons]; omega
    · simp only [List.map_cons, List.sum_cons]; omega
theorem at_del {s : Sh} {k : Int} {a : List UInt8} (h : ShAt s k) : ShAt (s.del a).1 (k + 1) := at_change h (fun _ t ho hr ht => at_obs ht (by rw [ho]; exact del_nodup h.nodup) (by have := sumO_del (l := t.obs) (k := a); have := ht.sum; omega)
  (by have : (delO t.obs a).length ≤ t.obs.length := List.length_filter_le _ _; have := ht.len; omega) (fun o hm => ht.names o (List.mem_filter.1 hm).1) (fun o hm => ht.bytes o (List.mem_filter.1 hm).1))
theorem at_put {s : Sh} {k : Int} {nm b : List UInt8} {v : Value} (h : ShAt s k) : ShAt (s.put nm v b).1 (k + 1) := at_change h (fun hc t ho hr ht => by
  obtain ⟨h1, h2, h3⟩ := putC_ok hc
  have h4 : ¬ (s.room - (sumO s.obs : Int) < (b.length : Int) ∨ 2000 ≤ s.obs.length) := fun q => by
    rw [putC, if_neg (fun q => q h1), if_neg h2, if_neg (by omega), if_pos q] at hc; cases hc
  rw [not_or] at h4
  refine at_obs ht (by rw [ho]; exact add_nodup h.nodup h2) (by rw [ho, sumO_snoc, hr]; dsimp only; omega) (by rw [ho, List.length_append]; simp; omega) (fun o hm => ?_) (fun o hm => ?_)
  · rcases List.mem_append.1 hm with hm | hm
    · exact ht.names o hm
    · rw [List.mem_singleton.1 hm]; exact h1
  · rcases List.mem_append.1 hm with hm | hm
    · exact ht.bytes o hm
    · rw [List.mem_singleton.1 hm]; exact h3)
theorem ren_nodup {l : List Ob} {a b : List UInt8} (hn : (l.map Ob.name).Nodup) (h : hasO l b → a = b) : ((delO l a ++ [nameTo (lkO l a) b]).map Ob.name).Nodup :=
  add_nodup (o := nameTo (lkO l a) b) (del_nodup hn) (fun q => (del_has.1 q).2 (h (del_has.1 q).1).symm)
theorem at_ren {s : Sh} {k : Int} {a b : List UInt8} (h : ShAt s k) : ShAt (s.ren a b).1 (k + 1) := at_change h (fun hc t ho hr ht => by
  obtain ⟨h1, h2, h3⟩ := renC_ok hc
  have hp := del_perm h.nodup h2
  have hs := sumO_perm hp
  have hl := hp.length_eq
  rw [sumO_snoc] at hs
  rw [List.length_append] at hl
  have hm2 := (lkO_name h2).2
  refine at_obs ht (by rw [ho]; exact ren_nodup h.nodup h3) (by rw [ho, sumO_snoc, hr]; show ((sumO (delO s.obs a) + (lkO s.obs a).b.length : Nat) : Int) ≤ s.room; have := h.sum; omega) (by rw [ho, List.length_append]; have := h.len; simp at hl ⊢; omega) (fun o hm => ?_) (fun o hm => ?_)
  · rw [ho] at hm
    rcases List.mem_append.1 hm with hm | hm
    · exact h.names o (List.mem_filter.1 hm).1
    · rw [List.mem_singleton.1 hm]; exact h1
  · rw [ho] at hm
    rcases List.mem_append.1 hm with hm | hm
    · exact h.bytes o (List.mem_filter.1 hm).1
    · rw [List.mem_singleton.1 hm]; exact h.bytes (lkO s.obs a) hm2)
theorem sumO_sync {l : List Ob} {k : List UInt8} : sumO (syncO l k) = sumO l := by
  unfold sumO syncO
  rw [List.map_map]
  congr 1
  refine List.map_congr_left (fun o _ => ?_)
  simp only [Function.comp]; split <;> rfl
theorem sync_mem {l : List Ob} {k : List UInt8} {o : Ob} (h : o ∈ syncO l k) : ∃ p ∈ l, o.name = p.name ∧ o.b = p.b := by
  obtain ⟨p, hp, rfl⟩ := List.mem_map.1 h
  refine ⟨p, hp, ?_⟩
  split <;> exact ⟨rfl, rfl⟩
theorem at_sync {s : Sh} {k : Int} {a : List UInt8} (h : ShAt s k) : ShAt (s.sync1 a).1 (k + 1) := by
  have hn := at_nudge h
  unfold Sh.sync1
  split
  · exact hn
  split
  · exact hn
  · refine at_obs hn (by rw [sync_names]; exact hn.nodup) (by rw [sumO_sync]; exact hn.sum) (by have := hn.len; simpa [syncO] using this) (fun o hm => ?_) (fun o hm => ?_)
    · obtain ⟨p, hp, e, _⟩ := sync_mem hm
      rw [e]; exact hn.names p hp
    · obtain ⟨p, hp, _, e⟩ := sync_mem hm
      rw [e]; exact hn.bytes p hp
/-! ### publishing -/
def dgL (b : List UInt8) : List UInt8 := (hexL (sumL b)).take 40
def drL (nm : List UInt8) : List UInt8 := [116, 47] ++ dgL nm
def pubK (nm d : List UInt8) (r3 : Sh × Nat) : Sh × Nat := if ¬ r3.2 = 0 then ((r3.1.del d).1, r3.2) else if ¬ (r3.1.ren d nm).2 = 0 then (((r3.1.ren d nm).1.del d).1, (r3.1.ren d nm).2) else r3.1.ren d nm
def Sh.pub (s : Sh) (nm : List UInt8) (v : Value) (b : List UInt8) : Sh × Nat :=
  if ¬ isNm nm then (s, 5) else if ¬ (s.del (drL nm)).2 = 0 ∧ ¬ (s.del (drL nm)).2 = 6 then s.del (drL nm) else
  if ¬ ((s.del (drL nm)).1.put (drL nm) v b).2 = 0 then (s.del (drL nm)).1.put (drL nm) v b else pubK nm (drL nm) (((s.del (drL nm)).1.put (drL nm) v b).1.sync1 (drL nm))
theorem pub_nm {s : Sh} {nm b : List UInt8} {v : Value} (h : ¬ isNm nm) : s.pub nm v b = (s, 5) := by rw [Sh.pub, if_pos h]
theorem pub_d1 {s : Sh} {nm b : List UInt8} {v : Value} (h : isNm nm) (h1 : ¬ (s.del (drL nm)).2 = 0 ∧ ¬ (s.del (drL nm)).2 = 6) : s.pub nm v b = s.del (drL nm) := by rw [Sh.pub, if_neg (fun q => q h), if_pos h1]
theorem pub_d2 {s : Sh} {nm b : List UInt8} {v : Value} (h : isNm nm) (h1 : ¬ (¬ (s.del (drL nm)).2 = 0 ∧ ¬ (s.del (drL nm)).2 = 6)) (h2 : ¬ ((s.del (drL nm)).1.put (drL nm) v b).2 = 0) : s.pub nm v b = (s.del (drL nm)).1.put (drL nm) v b := by rw [Sh.pub, if_neg (fun q => q h), if_neg h1, if_pos h2]
theorem pub_d3 {s : Sh} {nm b : List UInt8} {v : Value} (h : isNm nm) (h1 : ¬ (¬ (s.del (drL nm)).2 = 0 ∧ ¬ (s.del (drL nm)).2 = 6)) (h2 : ((s.del (drL nm)).1.put (drL nm) v b).2 = 0) : s.pub nm v b = pubK nm (drL nm) (((s.del (drL nm)).1.put (drL nm) v b).1.sync1 (drL nm)) := by rw [Sh.pub, if_neg (fun q => q h), if_neg h1, if_neg (fun q => q h2)]
theorem pubK_1 {nm d : List UInt8} {r : Sh × Nat} (h : ¬ r.2 = 0) : pubK nm d r = ((r.1.del d).1, r.2) := by rw [pubK, if_pos h]
theorem pubK_2 {nm d : List UInt8} {r : Sh × Nat} (h : r.2 = 0) (h2 : ¬ (r.1.ren d nm).2 = 0) : pubK nm d r = (((r.1.ren d nm).1.del d).1, (r.1.ren d nm).2) := by rw [pubK, if_neg (fun q => q h), if_pos h2]
theorem pubK_3 {nm d : List UInt8} {r : Sh × Nat} (h : r.2 = 0) (h2 : (r.1.ren d nm).2 = 0) : pubK nm d r = r.1.ren d nm := by rw [pubK, if_neg (fun q => q h), if_neg (fun q => q h2)]
theorem at_pub {s : Sh} {k : Int} {nm b : List UInt8} {v : Value} (h : ShAt s k) : ShAt (s.pub nm v b).1 (k + 5) := by
  have h1 := at_del (a := drL nm) h
  have h2 := at_put (nm := drL nm) (v := v) (b := b) h1
  have h3 := at_sync (a := drL nm) h2
  have h4 := at_ren (a := drL nm) (b := nm) h3
  have h5 := at_del (a := drL nm) h4
  have h6 := at_del (a := drL nm) h3
  unfold Sh.pub
  split
  · exact h.mono (by omega)
  split
  · exact h1.mono (by omega)
  split
  · exact h2.mono (by omega)
  unfold pubK
  split
  · exact h6.mono (by omega)
  split
  · exact h5.mono (by omega)
  · exact h4.mono (by omega)
end Go.Proofs.YtnhpghhibcdklaaGreatDoor
set_option linter.unusedSimpArgs false
set_option linter.unusedVariables false
namespace Go.Proofs.YtnhpghhibcdklaaGreatDoor
open Go
def rightR (r : Rec) : Prop := 0 ≤ r.s.time ∧ r.s.time ≤ 1099511627776 ∧ ((r.kind = 1 ∧ r.s.note.length ≤ 1000) ∨ (r.kind = 2 ∧ r.s.note = [] ∧ r.s.root = List.replicate 32 0))
instance (r : Rec) : Decidable (rightR r) := by unfold rightR; infer_instance
/-- may it come next? -/
def fitsR (rs : List Rec) (r : Rec) : Prop := if r.kind = 1 then r.s.seq = (rs.length : Int) + 1 else hasS (foldR rs) r.s.seq
instance (rs : List Rec) (r : Rec) : Decidable (fitsR rs r) := by unfold fitsR; infer_instance
def checkR (rs : List Rec) (off : Bool) (cn : Int) (r : Rec) : Nat :=
  if ¬ rightR r then 2 else if r.kind = 2 ∧ ¬ fitsR rs r then 6 else if (r.kind = 1 ∧ 200 ≤ (foldR rs).length) ∨ 99999999 ≤ rs.length then 8 else if off = true then 9 else if ¬ cn = (rs.length : Int) then 12 else 0
section
variable {rs : List Rec} {off : Bool} {cn : Int} {r : Rec}
theorem ck_2 (h : ¬ rightR r) : checkR rs off cn r = 2 := by rw [checkR, if_pos h]
theorem ck_6 (h : rightR r) (h2 : r.kind = 2 ∧ ¬ fitsR rs r) : checkR rs off cn r = 6 := by rw [checkR, if_neg (fun q => q h), if_pos h2]
theorem ck_8 (h : rightR r) (h2 : ¬ (r.kind = 2 ∧ ¬ fitsR rs r)) (h3 : (r.kind = 1 ∧ 200 ≤ (foldR rs).length) ∨ 99999999 ≤ rs.length) : checkR rs off cn r = 8 := by rw [checkR, if_neg (fun q => q h), if_neg h2, if_pos h3]
theorem ck_9 (h : rightR r) (h2 : ¬ (r.kind = 2 ∧ ¬ fitsR rs r)) (h3 : ¬ ((r.kind = 1 ∧ 200 ≤ (foldR rs).length) ∨ 99999999 ≤ rs.length)) (h4 : off = true) : checkR rs off cn r = 9 := by rw [checkR, if_neg (fun q => q h), if_neg h2, if_neg h3, if_pos h4]
theorem ck_12 (h : rightR r) (h2 : ¬ (r.kind = 2 ∧ ¬ fitsR rs r)) (h3 : ¬ ((r.kind = 1 ∧ 200 ≤ (foldR rs).length) ∨ 99999999 ≤ rs.length)) (h4 : ¬ off = true) (h5 : ¬ cn = (rs.length : Int)) : checkR rs off cn r = 12 := by rw [checkR, if_neg (fun q => q h), if_neg h2, if_neg h3, if_neg h4, if_pos h5]
theorem ck_0 (h : rightR r) (h2 : ¬ (r.kind = 2 ∧ ¬ fitsR rs r)) (h3 : ¬ ((r.kind = 1 ∧ 200 ≤ (foldR rs).length) ∨ 99999999 ≤ rs.length)) (h4 : ¬ off = true) (h5 : cn = (rs.length : Int)) : checkR rs off cn r = 0 := by rw [checkR, if_neg (fun q => q h), if_neg h2, if_neg h3, if_neg h4, if_neg (fun q => q h5)]
end
/-- a record with its number -/
def numR (n : Nat) (r : Rec) : Rec := if r.kind = 1 then ⟨r.kind, ⟨(n : Int), r.s.time, r.s.note, r.s.root, r.s.h⟩⟩ else r
theorem right_1 {r : Rec} (h0 : 0 ≤ r.s.time) (h1 : r.s.time ≤ 1099511627776) (hk : r.kind = 1) : r.s.note.length ≤ 1000 ↔ rightR r := by
  unfold rightR
  exact ⟨fun h => ⟨h0, h1, .inl ⟨hk, h⟩⟩, fun h => h.2.2.elim (fun h => h.2) (fun h => absurd h.1 (by omega))⟩
theorem right_2 {r : Rec} (h0 : 0 ≤ r.s.time) (h1 : r.s.time ≤ 1099511627776) (hk : r.kind = 2) (hn : r.s.note = []) : r.s.root = List.replicate 32 0 ↔ rightR r := by
  unfold rightR
  exact ⟨fun h => ⟨h0, h1, .inr ⟨hk, hn, h⟩⟩, fun h => h.2.2.elim (fun h => absurd h.1 (by omega)) (fun h => h.2.2)⟩
theorem rightR_no {r : Rec} (h : r.s.time < 0 ∨ 1099511627776 < r.s.time ∨ (¬ r.kind = 1 ∧ ¬ r.kind = 2) ∨ (¬ r.kind = 1 ∧ ¬ r.s.note = [])) : ¬ rightR r := fun q => by
  unfold rightR at q
  obtain ⟨h1, h2, h3⟩ := q
  rcases h with h | h | h | h
  · omega
  · omega
  · exact h3.elim (fun h4 => h.1 h4.1) (fun h4 => h.2 h4.1)
  · exact h3.elim (fun h4 => h.1 h4.1) (fun h4 => h.2 h4.2.1)
theorem fits_1 {rs : List Rec} {r : Rec} (hk : r.kind = 1) : r.s.seq = ((rs.length + 1 : Nat) : Int) ↔ fitsR rs r := by rw [fitsR, if_pos hk]; simp
theorem fits_2 {rs : List Rec} {r : Rec} (hk : ¬ r.kind = 1) : hasS (foldR rs) r.s.seq ↔ fitsR rs r := by rw [fitsR, if_neg hk]
/-- a number below 100 -/
def dec2 (n : Nat) : List UInt8 := if n < 10 then [UInt8.ofNat (48 + n)] else [UInt8.ofNat (48 + n / 10), UInt8.ofNat (48 + n % 10)]
theorem dec2_eq {n : Nat} (h : n < 100) : Lib.decDigits n = dec2 n := by
  rw [Lib.decDigits, dec2]
  split
  · rfl
  · rw [Lib.decDigits, dif_pos (by omega)]; rfl
theorem dec2_len {n : Nat} : (dec2 n).length ≤ 2 := by unfold dec2; split <;> simp
def nameR (n : Nat) : List UInt8 := ([115, 47] ++ Lib.repeatL [48] (max (8 - (dec2 n).length) 0)) ++ dec2 n
theorem nameR_nm {n : Nat} (h : n < 100) : isNm (nameR n) ∧ (nameR n).length = 10 := by
  have : ∀ n, n < 100 → (nameR n).all signB = true ∧ (nameR n).length = 10 := by decide +kernel
  have := this n h
  exact ⟨⟨this.1, by omega, by omega⟩, this.2⟩
theorem nameR_inj {m n : Nat} (hm : m < 100) (hn : n < 100) (h : nameR m = nameR n) : m = n := by
  have : ∀ m, m < 100 → ((nameR m).getD 8 0).toNat * 10 + ((nameR m).getD 9 0).toNat = 528 + m := by decide +kernel
  have h1 := this m hm
  have h2 := this n hn
  rw [h] at h1; omega
end Go.Proofs.YtnhpghhibcdklaaGreatDoor
set_option linter.unusedSimpArgs false
set_option linter.unusedVariables false
namespace Go.Proofs.YtnhpghhibcdklaaGreatDoor
open Go Go.RowKit
set_option maxRecDepth 100000
theorem itS_cast {r b : Nat} {kv vis vis' : KV} (h : vis = vis') : itS r b kv vis = itS r b kv vis' := by rw [h]
theorem tk_bagO {c : Cx} {L : Sl} {H : List Res} {K : Act → World → Prop} {T : TypeId} {l : List Ob} (hm : bag (l.map (obR T)) ∈ H) (h : (∀ o ∈ l, ∃ w0, RdS w0 o.v (o.b.map B)) → TK c K L H) : TK c K L H :=
  tk_form (fun w hw o ho => ⟨w, own_rdS (e := T) (Hs.mem (hw.mem hm) (obR T o) (List.mem_map.2 ⟨o, ho, rfl⟩))⟩) h
theorem ro_bagO {c : Cx} {T : TypeId} {w : World} {l : List Ob} {H0 Hr : List Res} {o : Ob} (hw : St c w (H0 ++ Hr)) (hq : bag (l.map (obR T)) ∈ Hr) (ho : o ∈ l) : Ro (Fs H0) w (rd o.v (o.b.map B)) := by
  have hb := hw.mem (r := bag (l.map (obR T))) (by simp [hq])
  have hm : obR T o ∈ l.map (obR T) := List.mem_map.2 ⟨o, ho, rfl⟩
  have h1 : (obR T o).holds w := Hs.mem hb _ hm
  refine ⟨own_rdS (e := T) h1, fun j hk h0 => (Dj_append.1 hw.dj).2.2 j h0 (Fs.of_mem hq (show Fs (l.map (obR T)) j from Fs.of_mem hm ?_))⟩
  rcases own_cells (e := T) h1 with ⟨_, _, h⟩ | ⟨g, o', cap, h, _⟩
  · exact (hk.1 h).elim
  · show o.v.ownBlock = some j
    have h2 := hk.2
    rw [h] at h2 ⊢
    rw [← h2]; rfl
theorem spend_spec {s : Sh} {sb mb : Nat} {w : World} (hok : ShOk s) (hh : Pre w [cel sb ([Value.map (some mb), I (s.left), .bool s.off, I (s.made), I (s.room)]) 159]) : Spec Tryz.prog 200 [.pointer (some ⟨sb, 1, none⟩)] w [cel sb ([Value.map (some mb), I (s.left), .bool s.off, I (s.made), I (s.room)]) 159] (fun _ : Unit => True) (fun _ => IN s.spend.2) (fun _ => [cel sb ([Value.map (some mb), I (s.spend.1.left), .bool s.spend.1.off, I (s.spend.1.made), I (s.spend.1.room)]) 159]) := by
  refine spec_of (n := 36) Tryz.func200 rfl rfl hh.1 hh.2 rfl ?_
  obtain ⟨_, ⟨hl1, hl2⟩, ⟨hm1, hm2⟩, _, _, _, _, _⟩ := hok
  refine s_r <| q_a rfl rfl <| s_n <| tk_seq <| s_r <| q_m rfl rfl <| s_q rfl (y_nilCheck rfl) <| s_q rfl (y_fldN (o := 1) 1 rfl kR) <| tk_qe (.bool (decide (s.off = true))) rfl rfl rfl (y_load rfl rfl (hc (o := 2) (.head _) (rfl))) sI <| tk_qs rfl rfl rfl (y_move rfl) (fun hs1_4 => ?_) (fun hs1_4 => ?_)
  · exact tk_gno rfl rfl rfl <| tk_gno rfl rfl rfl <| tk_gno rfl rfl rfl <| tk_gno rfl rfl rfl <| tk_gno rfl rfl rfl <| s_q rfl (y_pick1 rfl rfl) <| s_n <| tk_cond1 rfl <| s_r <| q_m rfl rfl <| s_q rfl (y_nilCheck rfl) <| s_q rfl (y_fldN (o := 1) 1 rfl kR) <| tk_act rfl <| a_storeE (H1 := []) (o := 2) (v := .bool true) (cs' := [Value.map (some mb), I (s.left), .bool true, I (s.made), I (s.room)]) rfl rfl kR rfl rfl sW (rfl) <| s_n <| s_r <| q_a rfl rfl <| s_n <| tk_retc <| tk_then_ret <| tk_R (H1 := []) rfl (congrArg (fun z_ => cel sb z_ 159) (show [Value.map (some mb), I (s.left), .bool true, I (s.made), I (s.room)] = [Value.map (some mb), I (s.spend.1.left), .bool s.spend.1.off, I (s.spend.1.made), I (s.spend.1.room)] from by rw [spend_off (.inl hs1_4)])) <| tk_re 2 (I 9) (IN s.spend.2) rfl (by rw [spend_off (.inl hs1_4)]; rfl) <| tk_ret (()) (trivial) (.inl rfl) (r1 rfl rfl) (List.Sublist.refl _)
  · refine s_g rfl (y_move rfl) <| s_g rfl (y_nilCheck rfl) <| s_g rfl (y_fld0 (o := 1) rfl kR) <| s_g rfl (y_load rfl rfl (hc (o := 1) (.head _) (rfl))) <| s_g rfl (y_eql rfl rfl) <| s_q rfl (y_pick0 rfl rfl) <| s_n <| tk_condP rfl (fun ht13 => ?_) (fun ht13 => ?_)
    · exact s_r <| q_m rfl rfl <| s_q rfl (y_nilCheck rfl) <| s_q rfl (y_fldN (o := 1) 1 rfl kR) <| tk_act rfl <| a_storeE (H1 := []) (o := 2) (v := .bool true) (cs' := [Value.map (some mb), I (s.left), .bool true, I (s.made), I (s.room)]) rfl rfl kR rfl rfl sW (rfl) <| s_n <| s_r <| q_a rfl rfl <| s_n <| tk_retc <| tk_then_ret <| tk_R (H1 := []) rfl (congrArg (fun z_ => cel sb z_ 159) (show [Value.map (some mb), I (s.left), .bool true, I (s.made), I (s.room)] = [Value.map (some mb), I (s.spend.1.left), .bool s.spend.1.off, I (s.spend.1.made), I (s.spend.1.room)] from by rw [spend_off (.inr ht13)])) <| tk_re 2 (I 9) (IN s.spend.2) rfl (by rw [spend_off (.inr ht13)]; rfl) <| tk_ret (()) (trivial) (.inl rfl) (r1 rfl rfl) (List.Sublist.refl _)
    · refine tk_skip <| tk_then <| tk_seq <| s_r <| q_m rfl rfl <| s_q rfl (y_nilCheck rfl) <| s_q rfl (y_fld0 (o := 1) rfl kR) <| s_q rfl (y_load rfl rfl (hc (o := 1) (.head _) (rfl))) <| s_q rfl (y_gtr rfl rfl) <| s_n <| tk_condP rfl (fun ht21 => ?_) (fun ht21 => ?_)
      · refine tk_region <| q_m rfl rfl <| s_q rfl (y_nilCheck rfl) <| s_q rfl (y_fld0 (o := 1) rfl kR) <| s_q rfl (y_load rfl rfl (hc (o := 1) (.head _) (rfl))) <| s_q rfl (y_subI rfl rfl oM) <| s_q rfl (y_nilCheck rfl) <| s_q rfl (y_fld0 (o := 1) rfl kR) <| tk_act rfl <| a_storeE (H1 := []) (o := 1) (v := I (s.left - (1 : Int))) (cs' := [Value.map (some mb), I (s.left - (1 : Int)), .bool s.off, I (s.made), I (s.room)]) rfl rfl kR rfl rfl sW (rfl) <| s_n <| s_r <| q_m rfl rfl <| s_q rfl (y_nilCheck rfl) <| s_q rfl (y_fldN (o := 1) 2 rfl kR) <| s_q rfl (y_load rfl rfl (hc (o := 3) (.head _) (rfl))) <| s_q rfl (y_addI rfl rfl oM) <| s_q rfl (y_nilCheck rfl) <| s_q rfl (y_fldN (o := 1) 2 rfl kR) <| tk_act rfl <| a_storeE (H1 := []) (o := 3) (v := I (s.made + (1 : Int))) (cs' := [Value.map (some mb), I (s.left - (1 : Int)), .bool s.off, I (s.made + (1 : Int)), I (s.room)]) rfl rfl kR rfl rfl sW (rfl) <| s_n <| s_r <| q_a rfl rfl ?_; exact s_n <| tk_retc <| tk_R (H1 := []) rfl (congrArg (fun z_ => cel sb z_ 159) (show [Value.map (some mb), I (s.left - (1 : Int)), .bool s.off, I (s.made + (1 : Int)), I (s.room)] = [Value.map (some mb), I (s.spend.1.left), .bool s.spend.1.off, I (s.spend.1.made), I (s.spend.1.room)] from by rw [spend_pos hs1_4 ht21])) <| tk_re 2 (I 0) (IN s.spend.2) rfl (by rw [spend_pos hs1_4 ht21]; rfl) <| tk_ret (()) (trivial) (.inl rfl) (r1 rfl rfl) (List.Sublist.refl _)
      · exact tk_skip <| tk_then <| s_r <| q_m rfl rfl <| s_q rfl (y_nilCheck rfl) <| s_q rfl (y_fldN (o := 1) 2 rfl kR) <| s_q rfl (y_load rfl rfl (hc (o := 3) (.head _) (rfl))) <| s_q rfl (y_addI rfl rfl oM) <| s_q rfl (y_nilCheck rfl) <| s_q rfl (y_fldN (o := 1) 2 rfl kR) <| tk_act rfl <| a_storeE (H1 := []) (o := 3) (v := I (s.made + (1 : Int))) (cs' := [Value.map (some mb), I (s.left), .bool s.off, I (s.made + (1 : Int)), I (s.room)]) rfl rfl kR rfl rfl sW (rfl) <| s_n <| s_r <| q_a rfl rfl <| s_n <| tk_retc <| tk_R (H1 := []) rfl (congrArg (fun z_ => cel sb z_ 159) (show [Value.map (some mb), I (s.left), .bool s.off, I (s.made + (1 : Int)), I (s.room)] = [Value.map (some mb), I (s.spend.1.left), .bool s.spend.1.off, I (s.spend.1.made), I (s.spend.1.room)] from by rw [spend_neg hs1_4 ht13 ht21])) <| tk_re 2 (I 0) (IN s.spend.2) rfl (by rw [spend_neg hs1_4 ht13 ht21]; rfl) <| tk_ret (()) (trivial) (.inl rfl) (r1 rfl rfl) (List.Sublist.refl _)
theorem used_spec {s : Sh} {sb mb : Nat} {w : World} (hok : ShOk s) (hh : Pre w [cel sb ([Value.map (some mb), I (s.left), .bool s.off, I (s.made), I (s.room)]) 159, mapS mb (kvO s.obs), bag (s.obs.map (obR 5))]) : Spec Tryz.prog 153 [PT sb] w [cel sb ([Value.map (some mb), I (s.left), .bool s.off, I (s.made), I (s.room)]) 159, mapS mb (kvO s.obs), bag (s.obs.map (obR 5))] (fun _ : Unit => True) (fun _ => IN (sumO s.obs)) (fun _ => [cel sb ([Value.map (some mb), I (s.left), .bool s.off, I (s.made), I (s.room)]) 159, mapS mb (kvO s.obs), bag (s.obs.map (obR 5))]) := by
  refine spec_of (n := 24) Tryz.func153 rfl rfl hh.1 hh.2 rfl ?_
  have hsum := hok.sum
  refine tk_bagO (mm 2 rfl) fun hbo => s_r <| q_a rfl rfl <| s_n <| s_r <| q_a rfl rfl <| s_n <| tk_seq <| s_r <| q_m rfl rfl <| s_q rfl (y_pnnil rfl rfl rfl) <| s_n <| tk_cond1 rfl <| s_r <| q_m rfl rfl <| s_q rfl (y_nilCheck rfl) <| s_q rfl (y_fld0 (o := 0) rfl kR) <| s_q rfl (y_fld0 (o := 0) rfl kR) <| s_q rfl (y_load rfl rfl (hc (o := 0) (.head _) (rfl))) <| tk_act rfl <| a_rangeS (H1 := [_]) (b := mb) (kv := (kvO s.obs)) rfl Tryz.underlying153 rfl rfl fun r13 => s_n <| tk_block <| tk_R (H1 := [_]) rfl (show itS r13 mb (kvO s.obs) [] = itS r13 mb (kvO s.obs) (kvO []) from rfl) ?_; refine tk_re 3 (I 0) (I ((sumO [] : Nat) : Int)) rfl (rfl) <| tk_loop (X := List Ob) (fun vs => VO s.obs vs) (fun vs => [(2, I 0), (3, IN (sumO vs)), (13, PT r13)]) (fun vs => [cel sb ([Value.map (some mb), I (s.left), .bool s.off, I (s.made), I (s.room)]) 159, itS r13 mb (kvO s.obs) (kvO vs), bag (s.obs.map (obR 5))]) (fun vs => s.obs.length - vs.length) ([]) (vo_0) sB ((List.Sublist.refl _)) ?_
  rintro vs hI
  try dsimp only at hI ⊢
  refine s_r <| tk_act rfl <| a_nextS (H1 := [_]) (kv := kvO s.obs) (vis := kvO vs) rfl rfl rfl (fun hv14 => ?_) (fun p14 rest14 hv14 => ?_)
  · exact s_q rfl (y_extract rfl rfl) <| s_n <| tk_seq <| tk_cond0 rfl <| tk_exit <| tk_then_exit <| tk_then_exit <| tk_in_hit <| tk_then <| s_r <| tk_ps [1] rfl <| tk_itS <| q_m rfl rfl <| q_a rfl rfl <| s_n <| tk_retc <| tk_re 2 (IN (sumO vs)) (IN (sumO s.obs)) rfl (by rw [sumO_perm (vo_end hI hv14)]) <| tk_ps [2, 1, 2] rfl <| tk_ret (()) (trivial) (.inl rfl) (r1 rfl rfl) (List.Sublist.refl _)
  · obtain ⟨o, ho, rfl, hvo⟩ := vo_step hI hv14
    have hsl := sumO_le hvo
    rw [sumO_snoc] at hsl
    refine tk_R (H1 := [_]) rfl (show itS r13 mb (kvO s.obs) (kvO vs ++ [(o.name, obV o)]) = itS r13 mb (kvO s.obs) (kvO (vs ++ [o])) from itS_cast (by rw [kvO_app]; rfl)) <| s_q rfl (y_extract rfl rfl) <| s_n <| tk_seq <| tk_cond1 rfl <| tk_skip <| tk_then <| tk_block <| s_r <| s_q rfl (y_entryS (p := (o.name, obV o)) (vis := kvO vs) rfl (fun w hw => by have h := hw.mem (mm 1 rfl); rw [kvO_app] at h; exact h)) <| s_q rfl (y_extract rfl rfl) <| tk_act rfl <| a_allocL (cs := [Value.slice none 0 0, .bool false]) kR rfl fun b5 => tk_act rfl <| a_storeW (H1 := []) (vs := [o.v, .bool o.sure]) 2 rfl rfl kR rfl ⟨lenP, lenP⟩ (List.forall_mem_cons.2 ⟨(RdS.one (hbo _ ho).choose_spec), (List.forall_mem_cons.2 ⟨rfl, (fun _ h => nomatch h)⟩)⟩) <| s_n <| tk_region <| q_m rfl rfl <| s_q rfl (y_fld0 (o := 0) rfl kR) <| s_q rfl (y_load rfl rfl (hc (o := 0) (.head _) (rfl))) <| s_q rfl (y_lenRN (n' := o.b.length) rfl (hbo _ ho).choose_spec rfl (by first | rfl | (rw [List.length_map]; omega) | simp)) <| s_q rfl (y_addN (a := sumO vs) (b := o.b.length) rfl rfl oM) <| q_a rfl rfl <| tk_nil ?_; exact tk_in_normal <| tk_re 3 (I (((sumO vs) + o.b.length : Nat) : Int)) (I ((sumO (vs ++ [o]) : Nat) : Int)) rfl (by rw [sumO_snoc]) <| tk_again (vs ++ [o]) (hvo) (by have := hvo; obtain ⟨rr, hr⟩ := this; have := hr.length_eq; simp only [List.length_append, List.length_cons, List.length_nil] at this ⊢; omega) sB (.cons _ (List.Sublist.refl _))
theorem look_spec {s : Sh} {sb mb : Nat} {w : World} (hh : Pre w [cel sb ([Value.map (some mb), I (s.left), .bool s.off, I (s.made), I (s.room)]) 159]) : Spec Tryz.prog 64 [PT sb] w [cel sb ([Value.map (some mb), I (s.left), .bool s.off, I (s.made), I (s.room)]) 159] (fun _ : Unit => True) (fun _ => I (((if s.off = true then 9 else 0 : Nat) : Nat) : Int)) (fun _ => [cel sb ([Value.map (some mb), I (s.left), .bool s.off, I (s.made), I (s.room)]) 159]) := by
  refine spec_of (n := 10) Tryz.func64 rfl rfl hh.1 hh.2 rfl <| s_r <| q_a rfl rfl <| s_n <| tk_seq <| s_r <| q_m rfl rfl <| s_q rfl (y_pnil rfl rfl rfl) <| s_n <| tk_cond0 rfl <| tk_skip <| tk_then <| tk_seq <| s_r <| q_m rfl rfl <| s_q rfl (y_nilCheck rfl) <| s_q rfl (y_fldN (o := 0) 1 rfl kR) <| s_q rfl (y_fldN (o := 1) 1 rfl kR) <| tk_qe (.bool (decide (s.off = true))) rfl rfl rfl (y_load rfl rfl (hc (o := 2) (.head _) (rfl))) sI <| s_n <| tk_condP rfl (fun ht9 => ?_) (fun ht9 => ?_)
  · exact s_r <| q_a rfl rfl <| s_n <| tk_retc <| tk_then_ret <| tk_re 2 (I 9) (I (((if s.off = true then 9 else 0) : Nat) : Int)) rfl (by rw [if_pos ht9]; rfl) <| tk_ret (()) (trivial) (.inl rfl) (r1 rfl rfl) (List.Sublist.refl _)
  · exact tk_skip <| tk_then <| s_r <| q_a rfl rfl <| s_n <| tk_retc <| tk_re 2 (I 0) (I (((if s.off = true then 9 else 0) : Nat) : Int)) rfl (by rw [if_neg ht9]; rfl) <| tk_ret (()) (trivial) (.inl rfl) (r1 rfl rfl) (List.Sublist.refl _)
end Go.Proofs.YtnhpghhibcdklaaGreatDoor
set_option linter.unusedSimpArgs false
set_option linter.unusedVariables false
namespace Go.Proofs.YtnhpghhibcdklaaGreatDoor
open Go Go.RowKit
set_option maxRecDepth 100000
theorem put1_spec {s : Sh} {sb mb c0 c1 c2 : Nat} {vv : Value} {nm b : List UInt8} {w : World} (hok : ShOk s) (hnm : nm.length < 9223372036854775808) (hbl : b.length < 4611686018427387904) (hh : Pre w [cel sb ([Value.map (some mb), I (s.left), .bool s.off, I (s.made), I (s.room)]) 159, mapS mb (kvO s.obs), bag (s.obs.map (obR 5)), cel c0 ([PT sb]) 40, cel c1 ([Str nm]) 9, cel c2 ([vv]) 64, ownB vv b 5]) : Spec Tryz.prog 152 [PT c0, PT c1, PT c2] w [cel sb ([Value.map (some mb), I (s.left), .bool s.off, I (s.made), I (s.room)]) 159, mapS mb (kvO s.obs), bag (s.obs.map (obR 5)), cel c0 ([PT sb]) 40, cel c1 ([Str nm]) 9, cel c2 ([vv]) 64, ownB vv b 5] (fun _ : Unit => True) (fun _ => IN (putC s nm b)) (fun _ => [cel sb ([Value.map (some mb), I (s.left), .bool s.off, I (s.made), I (s.room)]) 159, mapS mb (kvO s.obs), bag (s.obs.map (obR 5)), cel c0 ([PT sb]) 40, cel c1 ([Str nm]) 9, cel c2 ([vv]) 64, ownB vv b 5]) := by
  refine spec_of (n := 46) Tryz.func152 rfl rfl hh.1 hh.2 rfl ?_
  have hsum := hok.sum
  have hrm := hok.room
  refine tk_bagO (mm 2 rfl) fun hbo => ?_
  have hlk := lk_one hbo
  refine tk_own1 (mm 6 rfl) fun hfv => s_r <| q_a rfl rfl <| s_n <| tk_seq <| tk_drawH [cel sb ([Value.map (some mb), I (s.left), .bool s.off, I (s.made), I (s.room)]) 159, mapS mb (kvO s.obs), bag (s.obs.map (obR 5)), cel c0 ([PT sb]) 40, cel c1 ([Str nm]) 9, cel c2 ([vv]) 64, ownB vv b 5] [] kR <| s_l 0 rfl (fun _ h => h) (y_load rfl rfl (hc (o := 0) (mm 3 rfl) (rfl))) <| s_x 1 rfl (y_nilCheck rfl) <| s_x 2 rfl (y_fld0 (o := 0) rfl kR) <| s_x 3 rfl (y_fld0 (o := 0) rfl kR) <| s_l 4 rfl (fun _ h => h) (y_load rfl rfl (hc (o := 0) (.head _) (rfl))) <| s_l 5 rfl (fun _ h => h) (y_load rfl rfl (hc (o := 0) (mm 4 rfl) (rfl))) <| s_l 6 rfl (fun _ h => h) ((y_getSok (b := mb) (kv := (kvO s.obs)) (k := nm) (zv := .agg [Value.slice none 0 0, .bool false].toArray) rfl rfl Tryz.underlying153 Tryz.underlying9 (fun _ => kR) (fun w hw => hw.mem (mm 1 rfl))).cast (kvO_ok)) <| s_x 7 rfl (y_move rfl) <| s_x 8 rfl (y_extract rfl rfl) <| s_x 9 rfl (y_extract rfl rfl) <| tx_a 10 rfl kR rfl <| a_allocL (cs := [Value.slice none 0 0, .bool false]) kR rfl fun b4 => tk_S (fun _ h => kD 1 rfl h) <| tx_a 11 rfl kR rfl <| a_storeW (H1 := []) (vs := [(lkO s.obs nm).v, .bool ((lkO s.obs nm).sure)]) 2 rfl rfl kR rfl ⟨lenP, lenP⟩ (List.forall_mem_cons.2 ⟨(hlk _), (List.forall_mem_cons.2 ⟨rfl, (fun _ h => nomatch h)⟩)⟩) <| tk_S (fun _ h => kD 1 rfl h) <| s_x 12 rfl (y_assign rfl) <| tx_done kR ?_; refine tk_then <| tk_seq <| tk_block <| s_r <| s_q rfl (y_load rfl rfl (hc (o := 0) (mm 5 rfl) (rfl))) <| tk_act rfl <| a_callv [] _ rfl kR rfl (fun w' hw' => isname_spec (l := nm) lenP) rfl fun _ _ => s_q rfl ((y_not rfl).cast (notdec _)) <| q_a rfl rfl <| s_n <| tk_condP rfl (fun ht16 => ?_) (fun ht16 => ?_)
  · exact s_r <| q_a rfl rfl <| s_n <| tk_retc <| tk_in_ret <| tk_then_ret <| tk_re 3 (I 5) (IN (putC s nm b)) rfl (by rw [putC, if_pos ht16]; rfl) <| tk_ret (()) (trivial) (.inl rfl) (r1 rfl rfl) (.cons _ (List.Sublist.refl _))
  · refine s_r <| q_m rfl rfl <| q_a rfl rfl <| s_n <| tk_condP rfl (fun ht20 => ?_) (fun ht20 => ?_)
    · exact s_r <| q_a rfl rfl <| s_n <| tk_retc <| tk_in_ret <| tk_then_ret <| tk_re 3 (I 7) (IN (putC s nm b)) rfl (by rw [putC, if_neg ht16, if_pos ht20]; rfl) <| tk_ret (()) (trivial) (.inl rfl) (r1 rfl rfl) (.cons _ (List.Sublist.refl _))
    · refine s_r <| s_q rfl (y_load rfl rfl (hc (o := 0) (mm 6 rfl) (rfl))) <| s_q rfl (y_lenRN (n' := b.length) rfl hfv.choose_spec rfl (by first | rfl | (rw [List.length_map]; omega) | simp)) <| s_q rfl (y_gtr rfl rfl) <| q_a rfl rfl <| s_n <| tk_condP rfl (fun ht22 => ?_) (fun ht22 => ?_)
      · exact s_r <| q_a rfl rfl <| s_n <| tk_retc <| tk_in_ret <| tk_then_ret <| tk_re 3 (I 4) (IN (putC s nm b)) rfl (by rw [putC, if_neg ht16, if_neg ht20, if_pos oM]; rfl) <| tk_ret (()) (trivial) (.inl rfl) (r1 rfl rfl) (.cons _ (List.Sublist.refl _))
      · refine tk_seq <| tk_drawH [cel b4 ([(lkO s.obs nm).v, .bool ((lkO s.obs nm).sure)]) 151, cel sb ([Value.map (some mb), I (s.left), .bool s.off, I (s.made), I (s.room)]) 159, mapS mb (kvO s.obs), bag (s.obs.map (obR 5)), cel c0 ([PT sb]) 40, cel c1 ([Str nm]) 9, cel c2 ([vv]) 64, ownB vv b 5] [] kR <| s_l 0 rfl (fun _ h => h) (y_load rfl rfl (hc (o := 0) (mm 6 rfl) (rfl))) <| s_x 1 rfl (y_lenRN (n' := b.length) rfl hfv.choose_spec rfl (by first | rfl | (rw [List.length_map]; omega) | simp)) <| s_l 2 rfl (fun _ h => h) (y_load rfl rfl (hc (o := 0) (mm 4 rfl) (rfl))) <| s_x 3 rfl (y_nilCheck rfl) <| s_x 4 rfl (y_fldN (o := 0) 4 rfl kR) <| s_l 5 rfl (fun _ h => h) (y_load rfl rfl (hc (o := 4) (mm 1 rfl) (rfl))) <| s_l 6 rfl (fun _ h => h) (y_load rfl rfl (hc (o := 0) (mm 4 rfl) (rfl))) <| tx_a 7 rfl kR rfl <| tk_ps [3, 3, 3] rfl <| a_callv [] _ rfl kR rfl (fun w' hw' => used_spec (s := s) (sb := sb) (mb := mb) hok (St.pre hw')) rfl fun _ _ => tk_S (fun _ h => ((((((((h.perm (pk 7 rfl)).perm (pk 7 rfl)).perm (pk 7 rfl)).perm (pk 7 rfl)).perm (pk 6 rfl)).perm (pk 6 rfl)).perm (pk 6 rfl)).perm (pk 7 rfl)).sub (List.Sublist.refl _)) <| s_x 8 rfl (y_subI rfl rfl oM) ?_
        by_cases hs8_9 : (s.room - ((sumO s.obs : Nat) : Int)) < ((b.length : Nat) : Int)
        · exact s_x 9 rfl ((y_gtr rfl rfl).cast (v := _) (u := .bool true) (bool_t hs8_9)) <| s_x 10 rfl (y_move rfl) <| tx_no 11 rfl kR rfl rfl rfl (fun _ _ _ h => h) <| tx_no 12 rfl kR rfl rfl rfl (fun _ _ _ h => h) <| tx_no 13 rfl kR rfl rfl rfl (fun _ _ _ h => h) <| tx_no 14 rfl kR rfl rfl rfl (fun _ _ _ h => h) <| tx_no 15 rfl kR rfl rfl rfl (fun _ _ _ h => h) <| tx_no 16 rfl kR rfl rfl rfl (fun _ _ _ h => h) <| tx_no 17 rfl kR rfl rfl rfl (fun _ _ _ h => h) <| s_x 18 rfl (y_pick1 rfl rfl) <| s_x 19 rfl (y_assign rfl) <| tx_done kR <| tk_then <| tk_cond1 rfl <| s_r <| q_a rfl rfl <| s_n <| tk_retc <| tk_in_ret <| tk_then_ret <| tk_re 3 (I 8) (IN (putC s nm b)) rfl (by rw [putC, if_neg ht16, if_neg ht20, if_neg oM, if_pos (.inl hs8_9)]; rfl) <| tk_ret (()) (trivial) (.inl rfl) (r1 rfl rfl) (.cons_cons _ (.cons_cons _ (.cons_cons _ (.cons _ (List.Sublist.refl _)))))
        · refine s_x 9 rfl ((y_gtr rfl rfl).cast (v := _) (u := .bool false) (bool_f hs8_9)) <| s_x 10 rfl (y_move rfl) <| s_l 11 rfl (fun _ h => ((((((((h.perm (pk 7 rfl)).perm (pk 7 rfl)).perm (pk 7 rfl)).perm (pk 7 rfl)).perm (pk 6 rfl)).perm (pk 6 rfl)).perm (pk 6 rfl)).perm (pk 7 rfl)).sub (List.Sublist.refl _)) (y_load rfl rfl (hc (o := 0) (mm 4 rfl) (rfl))) <| s_x 12 rfl (y_nilCheck rfl) <| s_x 13 rfl (y_fld0 (o := 0) rfl kR) <| s_x 14 rfl (y_fld0 (o := 0) rfl kR) <| s_l 15 rfl (fun _ h => ((((((((h.perm (pk 7 rfl)).perm (pk 7 rfl)).perm (pk 7 rfl)).perm (pk 7 rfl)).perm (pk 6 rfl)).perm (pk 6 rfl)).perm (pk 6 rfl)).perm (pk 7 rfl)).sub (List.Sublist.refl _)) (y_load rfl rfl (hc (o := 0) (mm 1 rfl) (rfl))) <| s_l 16 rfl (fun _ h => ((((((((h.perm (pk 7 rfl)).perm (pk 7 rfl)).perm (pk 7 rfl)).perm (pk 7 rfl)).perm (pk 6 rfl)).perm (pk 6 rfl)).perm (pk 6 rfl)).perm (pk 7 rfl)).sub (List.Sublist.refl _)) (y_lenM (b := mb) (kv := (kvO s.obs)) rfl Tryz.underlying153 (fun w hw => hw.mem (mm 2 rfl))) <| tk_re 43 (I (((kvO s.obs).length : Nat) : Int)) (IN s.obs.length) rfl (by rw [kvO_len]) <| s_x 17 rfl (y_geq rfl rfl) <| s_x 18 rfl (y_pick0 rfl rfl) <| s_x 19 rfl (y_assign rfl) <| tx_done kR <| tk_then <| tk_condP rfl (fun ht26 => ?_) (fun ht26 => ?_)
          · exact s_r <| q_a rfl rfl <| s_n <| tk_retc <| tk_in_ret <| tk_then_ret <| tk_re 3 (I 8) (IN (putC s nm b)) rfl (by rw [putC, if_neg ht16, if_neg ht20, if_neg oM, if_pos (.inr oM)]; rfl) <| tk_ret (()) (trivial) (.inl rfl) (r1 rfl rfl) (.cons_cons _ (.cons_cons _ (.cons_cons _ (.cons _ (List.Sublist.refl _)))))
          · exact tk_skip <| tk_in_normal <| tk_then <| s_r <| q_a rfl rfl <| s_n <| tk_retc <| tk_re 3 (I 0) (IN (putC s nm b)) rfl (by rw [putC, if_neg ht16, if_neg ht20, if_neg oM, if_neg (fun q => q.elim hs8_9 oM)]; rfl) <| tk_ret (()) (trivial) (.inl rfl) (r1 rfl rfl) (.cons_cons _ (.cons_cons _ (.cons_cons _ (.cons _ (List.Sublist.refl _)))))
theorem put2_spec {s : Sh} {sb mb c0 c1 c2 : Nat} {vv : Value} {nm b : List UInt8} {w : World} (hno : ¬ hasO s.obs nm) (hh : Pre w [cel sb ([Value.map (some mb), I (s.left), .bool s.off, I (s.made), I (s.room)]) 159, mapS mb (kvO s.obs), bag (s.obs.map (obR 5)), cel c0 ([PT sb]) 40, cel c1 ([Str nm]) 9, cel c2 ([vv]) 64, ownB vv b 5]) : Spec Tryz.prog 154 [PT c2, PT c0, PT c1] w [cel sb ([Value.map (some mb), I (s.left), .bool s.off, I (s.made), I (s.room)]) 159, mapS mb (kvO s.obs), bag (s.obs.map (obR 5)), cel c0 ([PT sb]) 40, cel c1 ([Str nm]) 9, cel c2 ([vv]) 64, ownB vv b 5] (fun _ : Unit => True) (fun _ => .tuple #[]) (fun _ => [cel sb ([Value.map (some mb), I ((s.obsTo (s.obs ++ [(⟨nm, vv, b, false⟩ : Ob)])).left), .bool ((s.obsTo (s.obs ++ [(⟨nm, vv, b, false⟩ : Ob)])).off), I ((s.obsTo (s.obs ++ [(⟨nm, vv, b, false⟩ : Ob)])).made), I ((s.obsTo (s.obs ++ [(⟨nm, vv, b, false⟩ : Ob)])).room)]) 159, mapS mb (kvO ((s.obsTo (s.obs ++ [(⟨nm, vv, b, false⟩ : Ob)])).obs)), bag (((s.obsTo (s.obs ++ [(⟨nm, vv, b, false⟩ : Ob)])).obs).map (obR 5)), cel c0 ([PT sb]) 40, cel c1 ([Str nm]) 9, cel c2 ([vv]) 64]) := by
  exact spec_of (n := 11) Tryz.func154 rfl rfl hh.1 hh.2 rfl <| tk_own1 (mm 6 rfl) fun hfv => tk_drawH [cel sb ([Value.map (some mb), I (s.left), .bool s.off, I (s.made), I (s.room)]) 159, bag (s.obs.map (obR 5)), cel c0 ([PT sb]) 40, cel c1 ([Str nm]) 9, cel c2 ([vv]) 64, ownB vv b 5] [] kR <| s_l 0 rfl (fun _ h => kT [0] 1 rfl h) (y_load rfl rfl (hc (o := 0) (mm 2 rfl) (rfl))) <| s_x 1 rfl (y_nilCheck rfl) <| s_x 2 rfl (y_fld0 (o := 0) rfl kR) <| s_x 3 rfl (y_fld0 (o := 0) rfl kR) <| s_l 4 rfl (fun _ h => kT [0] 1 rfl h) (y_load rfl rfl (hc (o := 0) (.head _) (rfl))) <| s_l 5 rfl (fun _ h => kT [0] 1 rfl h) (y_load rfl rfl (hc (o := 0) (mm 3 rfl) (rfl))) <| s_l 6 rfl (fun _ h => kT [0] 1 rfl h) (y_load rfl rfl (hc (o := 0) (mm 4 rfl) (rfl))) <| s_x 7 rfl (y_build (v := .agg ([vv, .bool false]).toArray) (vs := [(0, vv)]) rfl (run_build (zs := [Value.slice none 0 0, .bool false]) (pl := [(0, 1), (1, 1)]) Tryz.underlying151 (fun _ => kR) (fun _ => kR) (fill_s0 (RdS.cells hfv.choose_spec)))) <| tx_a 8 rfl kR rfl <| a_setS (H1 := [_]) (b := mb) (kv := (kvO s.obs)) (k := nm) (v := (Value.agg ([vv, .bool false]).toArray)) rfl rfl rfl Tryz.underlying153 Tryz.underlying9 rfl <| tk_S (fun _ h => kT [0] 1 rfl h) <| tx_done kR <| tk_R (H1 := [_]) rfl (show mapS mb (setS (kvO s.obs) nm ((Value.agg ([vv, .bool false]).toArray))) = mapS mb (kvO (s.obs ++ [(⟨nm, vv, b, false⟩ : Ob)])) from mapS_cast (kvO_new (o := ⟨nm, vv, b, false⟩) hno)) <| tk_ps [2, 6] rfl <| tk_bag <| tk_R (H1 := []) rfl (show bag ((s.obs.map (obR 5)) ++ [ownB vv b 5]) = bag (((s.obs ++ [(⟨nm, vv, b, false⟩ : Ob)])).map (obR 5)) from bag_cast (by rw [List.map_append]; rfl)) <| tk_ps [5, 5, 5, 3, 5, 5] rfl <| tk_ret (()) (trivial) (.inr rfl) (r0 rfl) (List.Sublist.refl _)
theorem chPut_spec {s : Sh} {q : Sh × Nat} {sb mb c0 c1 c2 : Nat} {vv : Value} {nm b : List UInt8} {w : World} (hq : s.put nm vv b = q) (hok : ShOk s) (hnm : nm.length < 9223372036854775808) (hbl : b.length < 4611686018427387904) (hh : Pre w [cel sb ([Value.map (some mb), I (s.left), .bool s.off, I (s.made), I (s.room)]) 159, mapS mb (kvO s.obs), bag (s.obs.map (obR 5)), cel c0 ([PT sb]) 40, cel c1 ([Str nm]) 9, cel c2 ([vv]) 64, ownB vv b 5]) : Spec Tryz.prog 112 [PT sb, .func (.func 152) #[] #[PT c0, PT c1, PT c2], .func (.func 154) #[] #[PT c2, PT c0, PT c1]] w [cel sb ([Value.map (some mb), I (s.left), .bool s.off, I (s.made), I (s.room)]) 159, mapS mb (kvO s.obs), bag (s.obs.map (obR 5)), cel c0 ([PT sb]) 40, cel c1 ([Str nm]) 9, cel c2 ([vv]) 64, ownB vv b 5] (fun _ : Unit => True) (fun _ => IN q.2) (fun _ => [cel sb ([Value.map (some mb), I (q.1.left), .bool q.1.off, I (q.1.made), I (q.1.room)]) 159, mapS mb (kvO q.1.obs), bag (q.1.obs.map (obR 5))]) := by
  refine spec_of (n := 30) Tryz.func112 rfl rfl hh.1 hh.2 rfl ?_
  have hoff : ∀ h : Bool, Value.bool h = Value.bool (decide (h = true)) := fun h => by simp
  refine tk_own1 (mm 6 rfl) fun hfv => s_r <| q_a rfl rfl <| s_n <| tk_seq <| s_r <| q_m rfl rfl <| s_q rfl (y_pnil rfl rfl rfl) <| s_n <| tk_cond0 rfl <| tk_skip <| tk_then <| tk_seq <| s_r <| q_m rfl rfl <| s_q rfl (y_nilCheck rfl) <| s_q rfl (y_fldN (o := 0) 1 rfl kR) <| s_q rfl (y_fldN (o := 1) 1 rfl kR) <| tk_qe (.bool (decide (s.off = true))) rfl rfl rfl (y_load rfl rfl (hc (o := 2) (.head _) (rfl))) sI <| s_n <| tk_condP rfl (fun ht15 => ?_) (fun ht15 => ?_)
  · refine s_r <| q_a rfl rfl <| s_n <| tk_retc <| tk_then_ret ?_
    obtain rfl : (s, 9) = q := by rw [← hq]; exact Eq.symm (change_off ht15)
    exact tk_ret (()) (trivial) (.inl rfl) (r1 rfl rfl) (.cons_cons _ (.cons_cons _ (.cons_cons _ (List.nil_sublist _))))
  · refine tk_skip <| tk_then <| tk_seq <| s_r <| q_m rfl rfl <| tk_act rfl <| a_callc [] _ rfl rfl kR rfl (fun w' hw' => put1_spec (s := s) hok hnm hbl (St.pre hw')) rfl fun _ _ => q_a rfl rfl <| s_n <| s_r <| q_m rfl rfl <| s_q rfl (y_neq rfl rfl) <| s_n <| tk_condP rfl (fun ht19 => ?_) (fun ht19 => ?_)
    · refine s_r <| q_m rfl rfl <| q_a rfl rfl <| s_n <| tk_retc <| tk_then_ret ?_
      obtain rfl : (s, putC s nm b) = q := by rw [← hq]; exact Eq.symm (change_no ht15 oM)
      exact tk_ret (()) (trivial) (.inl rfl) (r1 rfl rfl) (.cons_cons _ (.cons_cons _ (.cons_cons _ (List.nil_sublist _))))
    · refine tk_skip <| tk_then <| tk_seq <| s_r <| q_m rfl rfl <| s_q rfl (y_nilCheck rfl) <| s_q rfl (y_fldN (o := 0) 1 rfl kR) <| tk_act rfl <| a_callv [] _ rfl kR rfl (fun w' hw' => spend_spec (s := s) (sb := sb) (mb := mb) hok (St.pre hw')) rfl fun _ _ => tk_R (H1 := [_]) rfl (show mapS mb (kvO s.obs) = mapS mb (kvO s.spend.1.obs) from mapS_cast (by rw [spend_obs.1])) <| tk_R (H1 := [_, _]) rfl (show bag (s.obs.map (obR 5)) = bag (s.spend.1.obs.map (obR 5)) from bag_cast (by rw [spend_obs.1])) <| q_a rfl rfl <| s_n <| s_r <| q_m rfl rfl <| s_q rfl (y_neq rfl rfl) <| s_n <| tk_condP rfl (fun ht26 => ?_) (fun ht26 => ?_)
      · refine s_r <| q_m rfl rfl <| q_a rfl rfl <| s_n <| tk_retc <| tk_then_ret ?_
        obtain rfl : s.spend = q := by rw [← hq]; exact Eq.symm (change_sp ht15 oM oM)
        exact tk_ret (()) (trivial) (.inl rfl) (r1 rfl rfl) (.cons_cons _ (.cons_cons _ (.cons_cons _ (List.nil_sublist _))))
      · refine tk_skip <| tk_then <| s_r <| q_m rfl rfl <| tk_act rfl <| a_callc [] _ rfl rfl kR rfl (fun w' hw' => put2_spec (s := s.spend.1) (by rw [spend_obs.1]; exact (putC_ok (s := s) (nm := nm) (b := b) oM).2.1) (St.pre hw')) rfl fun _ _ => s_n <| s_r <| q_a rfl rfl <| s_n <| tk_retc ?_
        obtain rfl : (s.spend.1.obsTo (s.spend.1.obs ++ [(⟨nm, vv, b, false⟩ : Ob)]), 0) = q := by rw [← hq]; exact Eq.symm (change_ok ht15 oM oM)
        exact tk_ret (()) (trivial) (.inl rfl) (r1 rfl rfl) (.cons_cons _ (.cons_cons _ (.cons_cons _ (List.nil_sublist _))))
end Go.Proofs.YtnhpghhibcdklaaGreatDoor
set_option linter.unusedSimpArgs false
set_option linter.unusedVariables false
namespace Go.Proofs.YtnhpghhibcdklaaGreatDoor
open Go Go.RowKit
set_option maxRecDepth 100000
theorem tk_bagW {c : Cx} {L : Sl} {H : List Res} {K : Act → World → Prop} {ps qs : List Res} (hpq : (∀ w, Hs w ps → Hs w qs) ∧ ∀ k, Fs qs k → Fs ps k) (h : TK c K L (bag qs :: H)) : TK c K L (bag ps :: H) := fun a w ha hw =>
  h a w ha ⟨hw.fr, ⟨hpq.1 w hw.hs.1, hw.hs.2⟩, ⟨fun k hk hf => hw.dj.1 k (hpq.2 k hk) hf, hw.dj.2⟩, fun k hk => hw.own k (hk.imp (hpq.2 k) id)⟩
theorem bagW_perm {ps qs : List Res} (h : ps.Perm qs) : (∀ w, Hs w ps → Hs w qs) ∧ ∀ k, Fs qs k → Fs ps k := ⟨fun _ hw => Hs_perm h hw, fun k hk => Fs_perm h.symm k hk⟩
theorem bagW_sub {ps qs : List Res} (h : qs.Sublist ps) : (∀ w, Hs w ps → Hs w qs) ∧ ∀ k, Fs qs k → Fs ps k := ⟨fun _ hw => Hs.sub h hw, fun _ hk => Fs.sub h hk⟩
theorem ren_bag {T : TypeId} {l : List Ob} {na nb : List UInt8} (hn : (l.map Ob.name).Nodup) (h : hasO l na) : (l.map (obR T)).Perm ((delO l na ++ [nameTo (lkO l na) nb]).map (obR T)) := by
  have := (del_perm hn h).map (obR T)
  rw [List.map_append] at this ⊢
  exact this
theorem ren1_spec {s : Sh} {sb mb c0 c1 c2 : Nat} {na nb : List UInt8} {w : World} (hok : ShOk s) (hnb : nb.length < 9223372036854775808) (hh : Pre w [cel sb ([Value.map (some mb), I (s.left), .bool s.off, I (s.made), I (s.room)]) 159, mapS mb (kvO s.obs), bag (s.obs.map (obR 5)), cel c0 ([PT sb]) 40, cel c1 ([Str na]) 9, cel c2 ([Str nb]) 9]) : Spec Tryz.prog 157 [PT c0, PT c1, PT c2] w [cel sb ([Value.map (some mb), I (s.left), .bool s.off, I (s.made), I (s.room)]) 159, mapS mb (kvO s.obs), bag (s.obs.map (obR 5)), cel c0 ([PT sb]) 40, cel c1 ([Str na]) 9, cel c2 ([Str nb]) 9] (fun _ : Unit => True) (fun _ => IN (renC s na nb)) (fun _ => [cel sb ([Value.map (some mb), I (s.left), .bool s.off, I (s.made), I (s.room)]) 159, mapS mb (kvO s.obs), bag (s.obs.map (obR 5)), cel c0 ([PT sb]) 40, cel c1 ([Str na]) 9, cel c2 ([Str nb]) 9]) := by
  refine spec_of (n := 42) Tryz.func157 rfl rfl hh.1 hh.2 rfl ?_
  have hsum := hok.sum
  have hrm := hok.room
  refine tk_bagO (mm 2 rfl) fun hbo => ?_
  have hlk := lk_one hbo
  
  refine s_r <| q_a rfl rfl <| s_n <| tk_seq <| tk_drawH [cel sb ([Value.map (some mb), I (s.left), .bool s.off, I (s.made), I (s.room)]) 159, mapS mb (kvO s.obs), bag (s.obs.map (obR 5)), cel c0 ([PT sb]) 40, cel c1 ([Str na]) 9, cel c2 ([Str nb]) 9] [] kR <| s_l 0 rfl (fun _ h => h) (y_load rfl rfl (hc (o := 0) (mm 3 rfl) (rfl))) <| s_x 1 rfl (y_nilCheck rfl) <| s_x 2 rfl (y_fld0 (o := 0) rfl kR) <| s_x 3 rfl (y_fld0 (o := 0) rfl kR) <| s_l 4 rfl (fun _ h => h) (y_load rfl rfl (hc (o := 0) (.head _) (rfl))) <| s_l 5 rfl (fun _ h => h) (y_load rfl rfl (hc (o := 0) (mm 4 rfl) (rfl))) <| s_l 6 rfl (fun _ h => h) ((y_getSok (b := mb) (kv := (kvO s.obs)) (k := na) (zv := .agg [Value.slice none 0 0, .bool false].toArray) rfl rfl Tryz.underlying153 Tryz.underlying9 (fun _ => kR) (fun w hw => hw.mem (mm 1 rfl))).cast (kvO_ok)) <| s_x 7 rfl (y_move rfl) <| s_x 8 rfl (y_extract rfl rfl) <| s_x 9 rfl (y_extract rfl rfl) <| tx_a 10 rfl kR rfl <| a_allocL (cs := [Value.slice none 0 0, .bool false]) kR rfl fun b4 => tk_S (fun _ h => kD 1 rfl h) <| tx_a 11 rfl kR rfl <| a_storeW (H1 := []) (vs := [(lkO s.obs na).v, .bool ((lkO s.obs na).sure)]) 2 rfl rfl kR rfl ⟨lenP, lenP⟩ (List.forall_mem_cons.2 ⟨(hlk _), (List.forall_mem_cons.2 ⟨rfl, (fun _ h => nomatch h)⟩)⟩) <| tk_S (fun _ h => kD 1 rfl h) <| s_x 12 rfl (y_assign rfl) <| tx_done kR <| tk_then ?_; refine tk_seq <| tk_drawH [cel b4 ([(lkO s.obs na).v, .bool ((lkO s.obs na).sure)]) 151, cel sb ([Value.map (some mb), I (s.left), .bool s.off, I (s.made), I (s.room)]) 159, mapS mb (kvO s.obs), bag (s.obs.map (obR 5)), cel c0 ([PT sb]) 40, cel c1 ([Str na]) 9, cel c2 ([Str nb]) 9] [] kR <| s_l 0 rfl (fun _ h => h) (y_load rfl rfl (hc (o := 0) (mm 4 rfl) (rfl))) <| s_x 1 rfl (y_nilCheck rfl) <| s_x 2 rfl (y_fld0 (o := 0) rfl kR) <| s_x 3 rfl (y_fld0 (o := 0) rfl kR) <| s_l 4 rfl (fun _ h => h) (y_load rfl rfl (hc (o := 0) (mm 1 rfl) (rfl))) <| s_l 5 rfl (fun _ h => h) (y_load rfl rfl (hc (o := 0) (mm 6 rfl) (rfl))) <| s_l 6 rfl (fun _ h => h) ((y_getSok (b := mb) (kv := (kvO s.obs)) (k := nb) (zv := .agg [Value.slice none 0 0, .bool false].toArray) rfl rfl Tryz.underlying153 Tryz.underlying9 (fun _ => kR) (fun w hw => hw.mem (mm 2 rfl))).cast (kvO_ok)) <| s_x 7 rfl (y_move rfl) <| s_x 8 rfl (y_extract rfl rfl) <| s_x 9 rfl (y_extract rfl rfl) <| tx_a 10 rfl kR rfl <| a_allocL (cs := [Value.slice none 0 0, .bool false]) kR rfl fun b6 => tk_S (fun _ h => kD 1 rfl h) <| tx_a 11 rfl kR rfl <| a_storeW (H1 := []) (vs := [(lkO s.obs nb).v, .bool ((lkO s.obs nb).sure)]) 2 rfl rfl kR rfl ⟨lenP, lenP⟩ (List.forall_mem_cons.2 ⟨(hlk _), (List.forall_mem_cons.2 ⟨rfl, (fun _ h => nomatch h)⟩)⟩) <| tk_S (fun _ h => kD 1 rfl h) <| s_x 12 rfl (y_assign rfl) <| tx_done kR <| tk_then <| tk_seq <| tk_block <| s_r ?_; refine s_q rfl (y_load rfl rfl (hc (o := 0) (mm 7 rfl) (rfl))) <| tk_act rfl <| a_callv [] _ rfl kR rfl (fun w' hw' => isname_spec (l := nb) lenP) rfl fun _ _ => s_q rfl ((y_not rfl).cast (notdec _)) <| q_a rfl rfl <| s_n <| tk_condP rfl (fun ht28 => ?_) (fun ht28 => ?_)
  · exact s_r <| q_a rfl rfl <| s_n <| tk_retc <| tk_in_ret <| tk_then_ret <| tk_re 3 (I 5) (IN (renC s na nb)) rfl (by rw [renC, if_pos ht28]; rfl) <| tk_ret (()) (trivial) (.inl rfl) (r1 rfl rfl) (.cons _ (.cons _ (List.Sublist.refl _)))
  · refine s_r <| q_m rfl rfl <| s_q rfl ((y_not rfl).cast (notdec _)) <| q_a rfl rfl <| s_n <| tk_condP rfl (fun ht32 => ?_) (fun ht32 => ?_)
    · exact s_r <| q_a rfl rfl <| s_n <| tk_retc <| tk_in_ret <| tk_then_ret <| tk_re 3 (I 6) (IN (renC s na nb)) rfl (by rw [renC, if_neg ht28, if_pos ht32]; rfl) <| tk_ret (()) (trivial) (.inl rfl) (r1 rfl rfl) (.cons _ (.cons _ (List.Sublist.refl _)))
    · refine s_r <| tk_qs rfl rfl rfl (y_move rfl) (fun hs7_0 => ?_) (fun hs7_0 => ?_)
      · refine q_m rfl rfl <| s_g rfl (y_load rfl rfl (hc (o := 0) (mm 6 rfl) (rfl))) <| s_g rfl (y_load rfl rfl (hc (o := 0) (mm 7 rfl) (rfl))) <| s_g rfl (y_strNe (l := na) (m := nb) rfl rfl) <| s_q rfl (y_pick1 rfl rfl) <| q_a rfl rfl <| s_n <| tk_condP rfl (fun ht35 => ?_) (fun ht35 => ?_)
        · exact s_r <| q_a rfl rfl <| s_n <| tk_retc <| tk_in_ret <| tk_then_ret <| tk_re 3 (I 7) (IN (renC s na nb)) rfl (by rw [renC, if_neg ht28, if_neg ht32, if_pos ⟨hs7_0, ht35⟩]; rfl) <| tk_ret (()) (trivial) (.inl rfl) (r1 rfl rfl) (.cons _ (.cons _ (List.Sublist.refl _)))
        · exact tk_skip <| tk_in_normal <| tk_then <| s_r <| q_a rfl rfl <| s_n <| tk_retc <| tk_re 3 (I 0) (IN (renC s na nb)) rfl (by rw [renC, if_neg ht28, if_neg ht32, if_neg (fun q => ht35 q.2)]; rfl) <| tk_ret (()) (trivial) (.inl rfl) (r1 rfl rfl) (.cons _ (.cons _ (List.Sublist.refl _)))
      · exact q_m rfl rfl <| tk_gno rfl rfl rfl <| tk_gno rfl rfl rfl <| tk_gno rfl rfl rfl <| s_q rfl (y_pick0 rfl rfl) <| q_a rfl rfl <| s_n <| tk_cond0 rfl <| tk_skip <| tk_in_normal <| tk_then <| s_r <| q_a rfl rfl <| s_n <| tk_retc <| tk_re 3 (I 0) (IN (renC s na nb)) rfl (by rw [renC, if_neg ht28, if_neg ht32, if_neg (fun q => hs7_0 q.1)]; rfl) <| tk_ret (()) (trivial) (.inl rfl) (r1 rfl rfl) (.cons _ (.cons _ (List.Sublist.refl _)))
theorem ren2_spec {s : Sh} {sb mb c0 c1 c2 : Nat} {na nb : List UInt8} {w : World} (hnd : (s.obs.map Ob.name).Nodup) (hha : hasO s.obs na) (hno : hasO s.obs nb → na = nb) (hh : Pre w [cel sb ([Value.map (some mb), I (s.left), .bool s.off, I (s.made), I (s.room)]) 159, mapS mb (kvO s.obs), bag (s.obs.map (obR 5)), cel c0 ([PT sb]) 40, cel c1 ([Str na]) 9, cel c2 ([Str nb]) 9]) : Spec Tryz.prog 158 [PT c0, PT c1, PT c2] w [cel sb ([Value.map (some mb), I (s.left), .bool s.off, I (s.made), I (s.room)]) 159, mapS mb (kvO s.obs), bag (s.obs.map (obR 5)), cel c0 ([PT sb]) 40, cel c1 ([Str na]) 9, cel c2 ([Str nb]) 9] (fun _ : Unit => True) (fun _ => .tuple #[]) (fun _ => [cel sb ([Value.map (some mb), I ((s.obsTo (delO s.obs na ++ [nameTo (lkO s.obs na) nb])).left), .bool ((s.obsTo (delO s.obs na ++ [nameTo (lkO s.obs na) nb])).off), I ((s.obsTo (delO s.obs na ++ [nameTo (lkO s.obs na) nb])).made), I ((s.obsTo (delO s.obs na ++ [nameTo (lkO s.obs na) nb])).room)]) 159, mapS mb (kvO ((s.obsTo (delO s.obs na ++ [nameTo (lkO s.obs na) nb])).obs)), bag (((s.obsTo (delO s.obs na ++ [nameTo (lkO s.obs na) nb])).obs).map (obR 5)), cel c0 ([PT sb]) 40, cel c1 ([Str na]) 9, cel c2 ([Str nb]) 9]) := by
  refine spec_of (n := 24) Tryz.func158 rfl rfl hh.1 hh.2 rfl <| tk_bagO (mm 2 rfl) fun hbo => ?_
  have hlk := lk_one hbo
  refine tk_seq <| tk_drawH [cel sb ([Value.map (some mb), I (s.left), .bool s.off, I (s.made), I (s.room)]) 159, mapS mb (kvO s.obs), bag (s.obs.map (obR 5)), cel c0 ([PT sb]) 40, cel c1 ([Str na]) 9, cel c2 ([Str nb]) 9] [] kR <| s_l 0 rfl (fun _ h => h) (y_load rfl rfl (hc (o := 0) (mm 3 rfl) (rfl))) <| s_x 1 rfl (y_nilCheck rfl) <| s_x 2 rfl (y_fld0 (o := 0) rfl kR) <| s_x 3 rfl (y_fld0 (o := 0) rfl kR) <| s_l 4 rfl (fun _ h => h) (y_load rfl rfl (hc (o := 0) (.head _) (rfl))) <| s_l 5 rfl (fun _ h => h) (y_load rfl rfl (hc (o := 0) (mm 4 rfl) (rfl))) <| s_l 6 rfl (fun _ h => h) ((y_getS (b := mb) (kv := (kvO s.obs)) (k := na) (zv := .agg [Value.slice none 0 0, .bool false].toArray) rfl rfl Tryz.underlying153 Tryz.underlying9 (fun _ => kR) (fun w hw => hw.mem (mm 1 rfl))).cast (kvO_get)) <| tx_a 7 rfl kR rfl <| a_allocL (cs := [Value.slice none 0 0, .bool false]) kR rfl fun b3 => tk_S (fun _ h => kD 1 rfl h) <| tx_a 8 rfl kR rfl <| a_storeW (H1 := []) (vs := [(lkO s.obs na).v, .bool ((lkO s.obs na).sure)]) 2 rfl rfl kR rfl ⟨lenP, lenP⟩ (List.forall_mem_cons.2 ⟨(hlk _), (List.forall_mem_cons.2 ⟨rfl, (fun _ h => nomatch h)⟩)⟩) <| tk_S (fun _ h => kD 1 rfl h) <| tx_done kR <| tk_then <| tk_seq <| tk_drawH [cel b3 ([(lkO s.obs na).v, .bool ((lkO s.obs na).sure)]) 151, cel sb ([Value.map (some mb), I (s.left), .bool s.off, I (s.made), I (s.room)]) 159, bag (s.obs.map (obR 5)), cel c0 ([PT sb]) 40, cel c1 ([Str na]) 9, cel c2 ([Str nb]) 9] [] kR <| s_l 0 rfl (fun _ h => kT [0, 0] 1 rfl h) (y_load rfl rfl (hc (o := 0) (mm 3 rfl) (rfl))) <| s_x 1 rfl (y_nilCheck rfl) <| s_x 2 rfl (y_fld0 (o := 0) rfl kR) <| s_x 3 rfl (y_fld0 (o := 0) rfl kR) <| s_l 4 rfl (fun _ h => kT [0, 0] 1 rfl h) (y_load rfl rfl (hc (o := 0) (mm 1 rfl) (rfl))) ?_; exact s_l 5 rfl (fun _ h => kT [0, 0] 1 rfl h) (y_load rfl rfl (hc (o := 0) (mm 4 rfl) (rfl))) <| tx_a 6 rfl kR rfl <| a_delS (H1 := [_, _]) (b := mb) (kv := (kvO s.obs)) (k := na) rfl rfl Tryz.underlying153 Tryz.underlying9 rfl <| tk_S (fun _ h => kT [0, 0] 1 rfl h) <| tx_done kR <| tk_then <| tk_R (H1 := [_, _]) rfl (show mapS mb (delS (kvO s.obs) na) = mapS mb (kvO (delO s.obs na)) from mapS_cast kvO_del) <| tk_drawH [cel b3 ([(lkO s.obs na).v, .bool ((lkO s.obs na).sure)]) 151, cel sb ([Value.map (some mb), I (s.left), .bool s.off, I (s.made), I (s.room)]) 159, bag (s.obs.map (obR 5)), cel c0 ([PT sb]) 40, cel c1 ([Str na]) 9, cel c2 ([Str nb]) 9] [] kR <| s_l 0 rfl (fun _ h => kT [0, 0] 1 rfl h) (y_load rfl rfl (hc (o := 0) (mm 3 rfl) (rfl))) <| s_x 1 rfl (y_nilCheck rfl) <| s_x 2 rfl (y_fld0 (o := 0) rfl kR) <| s_x 3 rfl (y_fld0 (o := 0) rfl kR) <| s_l 4 rfl (fun _ h => kT [0, 0] 1 rfl h) (y_load rfl rfl (hc (o := 0) (mm 1 rfl) (rfl))) <| s_l 5 rfl (fun _ h => kT [0, 0] 1 rfl h) (y_load rfl rfl (hc (o := 0) (mm 5 rfl) (rfl))) <| s_l 6 rfl (fun _ h => kT [0, 0] 1 rfl h) (y_loadA 2 rfl kR lenP (hcw (.head _))) <| tx_a 7 rfl kR rfl <| a_setS (H1 := [_, _]) (b := mb) (kv := (kvO (delO s.obs na))) (k := nb) (v := (Value.agg ([(lkO s.obs na).v, .bool ((lkO s.obs na).sure)]).toArray)) rfl rfl rfl Tryz.underlying153 Tryz.underlying9 rfl <| tk_S (fun _ h => kT [0, 0] 1 rfl h) <| tx_done kR <| tk_R (H1 := [_, _]) rfl (show mapS mb (setS ((kvO (delO s.obs na))) nb ((Value.agg ([(lkO s.obs na).v, .bool ((lkO s.obs na).sure)]).toArray))) = mapS mb (kvO (delO s.obs na ++ [nameTo (lkO s.obs na) nb])) from mapS_cast (kvO_new (o := nameTo (lkO s.obs na) nb) (fun h => (del_has.1 h).2 (hno (del_has.1 h).1).symm))) <| tk_ps [3] rfl <| tk_bagW (qs := (delO s.obs na ++ [nameTo (lkO s.obs na) nb]).map (obR 5)) (bagW_perm (ren_bag hnd hha)) <| tk_ps [6, 6, 6, 3, 6, 6] rfl <| tk_ret (()) (trivial) (.inr rfl) (r0 rfl) (.cons_cons _ (.cons_cons _ (.cons_cons _ (.cons_cons _ (.cons_cons _ (.cons_cons _ (List.nil_sublist _)))))))
theorem del1_spec {s : Sh} {sb mb c0 c1 : Nat} {na : List UInt8} {w : World} (hok : ShOk s) (hh : Pre w [cel sb ([Value.map (some mb), I (s.left), .bool s.off, I (s.made), I (s.room)]) 159, mapS mb (kvO s.obs), bag (s.obs.map (obR 5)), cel c0 ([PT sb]) 40, cel c1 ([Str na]) 9]) : Spec Tryz.prog 113 [PT c0, PT c1] w [cel sb ([Value.map (some mb), I (s.left), .bool s.off, I (s.made), I (s.room)]) 159, mapS mb (kvO s.obs), bag (s.obs.map (obR 5)), cel c0 ([PT sb]) 40, cel c1 ([Str na]) 9] (fun _ : Unit => True) (fun _ => IN (delC s na)) (fun _ => [cel sb ([Value.map (some mb), I (s.left), .bool s.off, I (s.made), I (s.room)]) 159, mapS mb (kvO s.obs), bag (s.obs.map (obR 5)), cel c0 ([PT sb]) 40, cel c1 ([Str na]) 9]) := by
  refine spec_of (n := 17) Tryz.func113 rfl rfl hh.1 hh.2 rfl ?_
  have hsum := hok.sum
  have hrm := hok.room
  refine tk_bagO (mm 2 rfl) fun hbo => ?_
  have hlk := lk_one hbo
  
  refine s_r <| q_a rfl rfl <| s_n <| tk_seq <| tk_seq <| tk_drawH [cel sb ([Value.map (some mb), I (s.left), .bool s.off, I (s.made), I (s.room)]) 159, mapS mb (kvO s.obs), bag (s.obs.map (obR 5)), cel c0 ([PT sb]) 40, cel c1 ([Str na]) 9] [] kR <| s_l 0 rfl (fun _ h => h) (y_load rfl rfl (hc (o := 0) (mm 3 rfl) (rfl))) <| s_x 1 rfl (y_nilCheck rfl) <| s_x 2 rfl (y_fld0 (o := 0) rfl kR) <| s_x 3 rfl (y_fld0 (o := 0) rfl kR) <| s_l 4 rfl (fun _ h => h) (y_load rfl rfl (hc (o := 0) (.head _) (rfl))) <| s_l 5 rfl (fun _ h => h) (y_load rfl rfl (hc (o := 0) (mm 4 rfl) (rfl))) <| s_l 6 rfl (fun _ h => h) ((y_getSok (b := mb) (kv := (kvO s.obs)) (k := na) (zv := .agg [Value.slice none 0 0, .bool false].toArray) rfl rfl Tryz.underlying153 Tryz.underlying9 (fun _ => kR) (fun w hw => hw.mem (mm 1 rfl))).cast (kvO_ok)) <| s_x 7 rfl (y_move rfl) <| s_x 8 rfl (y_extract rfl rfl) <| s_x 9 rfl (y_extract rfl rfl) <| tx_a 10 rfl kR rfl <| a_allocL (cs := [Value.slice none 0 0, .bool false]) kR rfl fun b3 => tk_S (fun _ h => kD 1 rfl h) <| tx_a 11 rfl kR rfl <| a_storeW (H1 := []) (vs := [(lkO s.obs na).v, .bool ((lkO s.obs na).sure)]) 2 rfl rfl kR rfl ⟨lenP, lenP⟩ (List.forall_mem_cons.2 ⟨(hlk _), (List.forall_mem_cons.2 ⟨rfl, (fun _ h => nomatch h)⟩)⟩) <| tk_S (fun _ h => kD 1 rfl h) <| s_x 12 rfl (y_assign rfl) <| tx_done kR ?_; refine tk_then <| s_r <| q_m rfl rfl <| s_q rfl ((y_not rfl).cast (notdec _)) <| s_n <| tk_condP rfl (fun ht16 => ?_) (fun ht16 => ?_)
  · exact s_r <| q_a rfl rfl <| s_n <| tk_retc <| tk_then_ret <| tk_re 2 (I 6) (IN (delC s na)) rfl (by rw [delC, if_pos ht16]; rfl) <| tk_ret (()) (trivial) (.inl rfl) (r1 rfl rfl) (.cons _ (List.Sublist.refl _))
  · exact tk_skip <| tk_then <| s_r <| q_a rfl rfl <| s_n <| tk_retc <| tk_re 2 (I 0) (IN (delC s na)) rfl (by rw [delC, if_neg ht16]; rfl) <| tk_ret (()) (trivial) (.inl rfl) (r1 rfl rfl) (.cons _ (List.Sublist.refl _))
theorem del2_spec {s : Sh} {sb mb c0 c1 : Nat} {na : List UInt8} {w : World} (hh : Pre w [cel sb ([Value.map (some mb), I (s.left), .bool s.off, I (s.made), I (s.room)]) 159, mapS mb (kvO s.obs), bag (s.obs.map (obR 5)), cel c0 ([PT sb]) 40, cel c1 ([Str na]) 9]) : Spec Tryz.prog 114 [PT c0, PT c1] w [cel sb ([Value.map (some mb), I (s.left), .bool s.off, I (s.made), I (s.room)]) 159, mapS mb (kvO s.obs), bag (s.obs.map (obR 5)), cel c0 ([PT sb]) 40, cel c1 ([Str na]) 9] (fun _ : Unit => True) (fun _ => .tuple #[]) (fun _ => [cel sb ([Value.map (some mb), I ((s.obsTo (delO s.obs na)).left), .bool ((s.obsTo (delO s.obs na)).off), I ((s.obsTo (delO s.obs na)).made), I ((s.obsTo (delO s.obs na)).room)]) 159, mapS mb (kvO ((s.obsTo (delO s.obs na)).obs)), bag (((s.obsTo (delO s.obs na)).obs).map (obR 5)), cel c0 ([PT sb]) 40, cel c1 ([Str na]) 9]) := by
  exact spec_of (n := 8) Tryz.func114 rfl rfl hh.1 hh.2 rfl <| tk_drawH [cel sb ([Value.map (some mb), I (s.left), .bool s.off, I (s.made), I (s.room)]) 159, bag (s.obs.map (obR 5)), cel c0 ([PT sb]) 40, cel c1 ([Str na]) 9] [] kR <| s_l 0 rfl (fun _ h => kT [0] 1 rfl h) (y_load rfl rfl (hc (o := 0) (mm 2 rfl) (rfl))) <| s_x 1 rfl (y_nilCheck rfl) <| s_x 2 rfl (y_fld0 (o := 0) rfl kR) <| s_x 3 rfl (y_fld0 (o := 0) rfl kR) <| s_l 4 rfl (fun _ h => kT [0] 1 rfl h) (y_load rfl rfl (hc (o := 0) (.head _) (rfl))) <| s_l 5 rfl (fun _ h => kT [0] 1 rfl h) (y_load rfl rfl (hc (o := 0) (mm 3 rfl) (rfl))) <| tx_a 6 rfl kR rfl <| a_delS (H1 := [_]) (b := mb) (kv := (kvO s.obs)) (k := na) rfl rfl Tryz.underlying153 Tryz.underlying9 rfl <| tk_S (fun _ h => kT [0] 1 rfl h) <| tx_done kR <| tk_R (H1 := [_]) rfl (show mapS mb (delS (kvO s.obs) na) = mapS mb (kvO (delO s.obs na)) from mapS_cast kvO_del) <| tk_ps [2] rfl <| tk_bagW (qs := (delO s.obs na).map (obR 5)) (bagW_sub (List.Sublist.map _ List.filter_sublist)) <| tk_ps [4, 4, 2, 4, 4] rfl <| tk_ret (()) (trivial) (.inr rfl) (r0 rfl) (List.Sublist.refl _)
theorem fine_spec {w : World} : Spec Tryz.prog 155 [] w [] (fun _ : Unit => True) (fun _ => I 0) (fun _ => []) := by
  exact spec_of (n := 1) Tryz.func155 rfl rfl trivial trivial rfl <| s_r <| q_a rfl rfl <| s_n <| s_r <| q_a rfl rfl <| s_n <| tk_retc <| tk_ret (()) (trivial) (.inl rfl) (r1 rfl rfl) (List.Sublist.refl _)
theorem nopS_spec {w : World} : Spec Tryz.prog 156 [] w [] (fun _ : Unit => True) (fun _ => .tuple #[]) (fun _ => []) := by
  exact spec_of (n := 0) Tryz.func156 rfl rfl trivial trivial rfl <| tk_skip <| tk_ret (()) (trivial) (.inr rfl) (r0 rfl) (List.Sublist.refl _)
theorem nopN_spec {w : World} : Spec Tryz.prog 197 [] w [] (fun _ : Unit => True) (fun _ => .tuple #[]) (fun _ => []) := by
  exact spec_of (n := 0) Tryz.func197 rfl rfl trivial trivial rfl <| tk_skip <| tk_ret (()) (trivial) (.inr rfl) (r0 rfl) (List.Sublist.refl _)
theorem chRen_spec {s : Sh} {q : Sh × Nat} {sb mb c0 c1 c2 : Nat} {na nb : List UInt8} {w : World} (hq : s.ren na nb = q) (hok : ShOk s) (hnb : nb.length < 9223372036854775808) (hh : Pre w [cel sb ([Value.map (some mb), I (s.left), .bool s.off, I (s.made), I (s.room)]) 159, mapS mb (kvO s.obs), bag (s.obs.map (obR 5)), cel c0 ([PT sb]) 40, cel c1 ([Str na]) 9, cel c2 ([Str nb]) 9]) : Spec Tryz.prog 112 [PT sb, .func (.func 157) #[] #[PT c0, PT c1, PT c2], .func (.func 158) #[] #[PT c0, PT c1, PT c2]] w [cel sb ([Value.map (some mb), I (s.left), .bool s.off, I (s.made), I (s.room)]) 159, mapS mb (kvO s.obs), bag (s.obs.map (obR 5)), cel c0 ([PT sb]) 40, cel c1 ([Str na]) 9, cel c2 ([Str nb]) 9] (fun _ : Unit => True) (fun _ => IN q.2) (fun _ => [cel sb ([Value.map (some mb), I (q.1.left), .bool q.1.off, I (q.1.made), I (q.1.room)]) 159, mapS mb (kvO q.1.obs), bag (q.1.obs.map (obR 5))]) := by
  refine spec_of (n := 30) Tryz.func112 rfl rfl hh.1 hh.2 rfl ?_
  have hoff : ∀ h : Bool, Value.bool h = Value.bool (decide (h = true)) := fun h => by simp
  refine s_r <| q_a rfl rfl <| s_n <| tk_seq <| s_r <| q_m rfl rfl <| s_q rfl (y_pnil rfl rfl rfl) <| s_n <| tk_cond0 rfl <| tk_skip <| tk_then <| tk_seq <| s_r <| q_m rfl rfl <| s_q rfl (y_nilCheck rfl) <| s_q rfl (y_fldN (o := 0) 1 rfl kR) <| s_q rfl (y_fldN (o := 1) 1 rfl kR) <| tk_qe (.bool (decide (s.off = true))) rfl rfl rfl (y_load rfl rfl (hc (o := 2) (.head _) (rfl))) sI <| s_n <| tk_condP rfl (fun ht15 => ?_) (fun ht15 => ?_)
  · refine s_r <| q_a rfl rfl <| s_n <| tk_retc <| tk_then_ret ?_
    obtain rfl : (s, 9) = q := by rw [← hq]; exact Eq.symm (change_off ht15)
    exact tk_ret (()) (trivial) (.inl rfl) (r1 rfl rfl) (.cons_cons _ (.cons_cons _ (.cons_cons _ (List.nil_sublist _))))
  · refine tk_skip <| tk_then <| tk_seq <| s_r <| q_m rfl rfl <| tk_act rfl <| a_callc [] _ rfl rfl kR rfl (fun w' hw' => ren1_spec (s := s) hok hnb (St.pre hw')) rfl fun _ _ => q_a rfl rfl <| s_n <| s_r <| q_m rfl rfl <| s_q rfl (y_neq rfl rfl) <| s_n <| tk_condP rfl (fun ht19 => ?_) (fun ht19 => ?_)
    · refine s_r <| q_m rfl rfl <| q_a rfl rfl <| s_n <| tk_retc <| tk_then_ret ?_
      obtain rfl : (s, renC s na nb) = q := by rw [← hq]; exact Eq.symm (change_no ht15 oM)
      exact tk_ret (()) (trivial) (.inl rfl) (r1 rfl rfl) (.cons_cons _ (.cons_cons _ (.cons_cons _ (List.nil_sublist _))))
    · refine tk_skip <| tk_then <| tk_seq <| s_r <| q_m rfl rfl <| s_q rfl (y_nilCheck rfl) <| s_q rfl (y_fldN (o := 0) 1 rfl kR) <| tk_act rfl <| a_callv [] _ rfl kR rfl (fun w' hw' => spend_spec (s := s) (sb := sb) (mb := mb) hok (St.pre hw')) rfl fun _ _ => tk_R (H1 := [_]) rfl (show mapS mb (kvO s.obs) = mapS mb (kvO s.spend.1.obs) from mapS_cast (by rw [spend_obs.1])) <| tk_R (H1 := [_, _]) rfl (show bag (s.obs.map (obR 5)) = bag (s.spend.1.obs.map (obR 5)) from bag_cast (by rw [spend_obs.1])) <| q_a rfl rfl <| s_n <| s_r <| q_m rfl rfl <| s_q rfl (y_neq rfl rfl) <| s_n <| tk_condP rfl (fun ht26 => ?_) (fun ht26 => ?_)
      · refine s_r <| q_m rfl rfl <| q_a rfl rfl <| s_n <| tk_retc <| tk_then_ret ?_
        obtain rfl : s.spend = q := by rw [← hq]; exact Eq.symm (change_sp ht15 oM oM)
        exact tk_ret (()) (trivial) (.inl rfl) (r1 rfl rfl) (.cons_cons _ (.cons_cons _ (.cons_cons _ (List.nil_sublist _))))
      · refine tk_skip <| tk_then <| s_r <| q_m rfl rfl <| tk_act rfl <| a_callc [] _ rfl rfl kR rfl (fun w' hw' => ren2_spec (s := s.spend.1) (by rw [spend_obs.1]; exact hok.nodup) (by rw [spend_obs.1]; exact (renC_ok (s := s) (a := na) (b := nb) oM).2.1) (by rw [spend_obs.1]; exact (renC_ok (s := s) (a := na) (b := nb) oM).2.2) (St.pre hw')) rfl fun _ _ => s_n <| s_r <| q_a rfl rfl <| s_n <| tk_retc ?_
        obtain rfl : (s.spend.1.obsTo (delO s.spend.1.obs na ++ [nameTo (lkO s.spend.1.obs na) nb]), 0) = q := by rw [← hq]; exact Eq.symm (change_ok ht15 oM oM)
        exact tk_ret (()) (trivial) (.inl rfl) (r1 rfl rfl) (.cons_cons _ (.cons_cons _ (.cons_cons _ (List.nil_sublist _))))
theorem chDel_spec {s : Sh} {q : Sh × Nat} {sb mb c0 c1 : Nat} {na : List UInt8} {w : World} (hq : s.del na = q) (hok : ShOk s) (hh : Pre w [cel sb ([Value.map (some mb), I (s.left), .bool s.off, I (s.made), I (s.room)]) 159, mapS mb (kvO s.obs), bag (s.obs.map (obR 5)), cel c0 ([PT sb]) 40, cel c1 ([Str na]) 9]) : Spec Tryz.prog 112 [PT sb, .func (.func 113) #[] #[PT c0, PT c1], .func (.func 114) #[] #[PT c0, PT c1]] w [cel sb ([Value.map (some mb), I (s.left), .bool s.off, I (s.made), I (s.room)]) 159, mapS mb (kvO s.obs), bag (s.obs.map (obR 5)), cel c0 ([PT sb]) 40, cel c1 ([Str na]) 9] (fun _ : Unit => True) (fun _ => IN q.2) (fun _ => [cel sb ([Value.map (some mb), I (q.1.left), .bool q.1.off, I (q.1.made), I (q.1.room)]) 159, mapS mb (kvO q.1.obs), bag (q.1.obs.map (obR 5))]) := by
  refine spec_of (n := 30) Tryz.func112 rfl rfl hh.1 hh.2 rfl ?_
  have hoff : ∀ h : Bool, Value.bool h = Value.bool (decide (h = true)) := fun h => by simp
  refine s_r <| q_a rfl rfl <| s_n <| tk_seq <| s_r <| q_m rfl rfl <| s_q rfl (y_pnil rfl rfl rfl) <| s_n <| tk_cond0 rfl <| tk_skip <| tk_then <| tk_seq <| s_r <| q_m rfl rfl <| s_q rfl (y_nilCheck rfl) <| s_q rfl (y_fldN (o := 0) 1 rfl kR) <| s_q rfl (y_fldN (o := 1) 1 rfl kR) <| tk_qe (.bool (decide (s.off = true))) rfl rfl rfl (y_load rfl rfl (hc (o := 2) (.head _) (rfl))) sI <| s_n <| tk_condP rfl (fun ht15 => ?_) (fun ht15 => ?_)
  · refine s_r <| q_a rfl rfl <| s_n <| tk_retc <| tk_then_ret ?_
    obtain rfl : (s, 9) = q := by rw [← hq]; exact Eq.symm (change_off ht15)
    exact tk_ret (()) (trivial) (.inl rfl) (r1 rfl rfl) (.cons_cons _ (.cons_cons _ (.cons_cons _ (List.nil_sublist _))))
  · refine tk_skip <| tk_then <| tk_seq <| s_r <| q_m rfl rfl <| tk_act rfl <| a_callc [] _ rfl rfl kR rfl (fun w' hw' => del1_spec (s := s) hok (St.pre hw')) rfl fun _ _ => q_a rfl rfl <| s_n <| s_r <| q_m rfl rfl <| s_q rfl (y_neq rfl rfl) <| s_n <| tk_condP rfl (fun ht19 => ?_) (fun ht19 => ?_)
    · refine s_r <| q_m rfl rfl <| q_a rfl rfl <| s_n <| tk_retc <| tk_then_ret ?_
      obtain rfl : (s, delC s na) = q := by rw [← hq]; exact Eq.symm (change_no ht15 oM)
      exact tk_ret (()) (trivial) (.inl rfl) (r1 rfl rfl) (.cons_cons _ (.cons_cons _ (.cons_cons _ (List.nil_sublist _))))
    · refine tk_skip <| tk_then <| tk_seq <| s_r <| q_m rfl rfl <| s_q rfl (y_nilCheck rfl) <| s_q rfl (y_fldN (o := 0) 1 rfl kR) <| tk_act rfl <| a_callv [] _ rfl kR rfl (fun w' hw' => spend_spec (s := s) (sb := sb) (mb := mb) hok (St.pre hw')) rfl fun _ _ => tk_R (H1 := [_]) rfl (show mapS mb (kvO s.obs) = mapS mb (kvO s.spend.1.obs) from mapS_cast (by rw [spend_obs.1])) <| tk_R (H1 := [_, _]) rfl (show bag (s.obs.map (obR 5)) = bag (s.spend.1.obs.map (obR 5)) from bag_cast (by rw [spend_obs.1])) <| q_a rfl rfl <| s_n <| s_r <| q_m rfl rfl <| s_q rfl (y_neq rfl rfl) <| s_n <| tk_condP rfl (fun ht26 => ?_) (fun ht26 => ?_)
      · refine s_r <| q_m rfl rfl <| q_a rfl rfl <| s_n <| tk_retc <| tk_then_ret ?_
        obtain rfl : s.spend = q := by rw [← hq]; exact Eq.symm (change_sp ht15 oM oM)
        exact tk_ret (()) (trivial) (.inl rfl) (r1 rfl rfl) (.cons_cons _ (.cons_cons _ (.cons_cons _ (List.nil_sublist _))))
      · refine tk_skip <| tk_then <| s_r <| q_m rfl rfl <| tk_act rfl <| a_callc [] _ rfl rfl kR rfl (fun w' hw' => del2_spec (s := s.spend.1)  (St.pre hw')) rfl fun _ _ => s_n <| s_r <| q_a rfl rfl <| s_n <| tk_retc ?_
        obtain rfl : (s.spend.1.obsTo (delO s.spend.1.obs na), 0) = q := by rw [← hq]; exact Eq.symm (change_ok ht15 oM oM)
        exact tk_ret (()) (trivial) (.inl rfl) (r1 rfl rfl) (.cons_cons _ (.cons_cons _ (.cons_cons _ (List.nil_sublist _))))
theorem chSyn_spec {s : Sh} {q : Sh × Nat} {sb mb : Nat} {w : World} (hq : s.nudge = q) (hok : ShOk s) (hh : Pre w [cel sb ([Value.map (some mb), I (s.left), .bool s.off, I (s.made), I (s.room)]) 159, mapS mb (kvO s.obs), bag (s.obs.map (obR 5))]) : Spec Tryz.prog 112 [PT sb, .func (.func 155) #[] #[], .func (.func 156) #[] #[]] w [cel sb ([Value.map (some mb), I (s.left), .bool s.off, I (s.made), I (s.room)]) 159, mapS mb (kvO s.obs), bag (s.obs.map (obR 5))] (fun _ : Unit => True) (fun _ => IN q.2) (fun _ => [cel sb ([Value.map (some mb), I (q.1.left), .bool q.1.off, I (q.1.made), I (q.1.room)]) 159, mapS mb (kvO q.1.obs), bag (q.1.obs.map (obR 5))]) := by
  refine spec_of (n := 30) Tryz.func112 rfl rfl hh.1 hh.2 rfl ?_
  have hoff : ∀ h : Bool, Value.bool h = Value.bool (decide (h = true)) := fun h => by simp
  refine s_r <| q_a rfl rfl <| s_n <| tk_seq <| s_r <| q_m rfl rfl <| s_q rfl (y_pnil rfl rfl rfl) <| s_n <| tk_cond0 rfl <| tk_skip <| tk_then <| tk_seq <| s_r <| q_m rfl rfl <| s_q rfl (y_nilCheck rfl) <| s_q rfl (y_fldN (o := 0) 1 rfl kR) <| s_q rfl (y_fldN (o := 1) 1 rfl kR) <| tk_qe (.bool (decide (s.off = true))) rfl rfl rfl (y_load rfl rfl (hc (o := 2) (.head _) (rfl))) sI <| s_n <| tk_condP rfl (fun ht15 => ?_) (fun ht15 => ?_)
  · refine s_r <| q_a rfl rfl <| s_n <| tk_retc <| tk_then_ret ?_
    obtain rfl : (s, 9) = q := by rw [← hq]; exact Eq.symm (change_off ht15)
    exact tk_ret (()) (trivial) (.inl rfl) (r1 rfl rfl) (List.Sublist.refl _)
  · refine tk_skip <| tk_then <| tk_seq <| s_r <| q_m rfl rfl <| tk_act rfl <| a_callc [] _ rfl rfl kR rfl (fun w' hw' => fine_spec) rfl fun _ _ => q_a rfl rfl <| s_n <| s_r <| q_m rfl rfl <| s_q rfl ((y_neq rfl rfl).cast (bool_f dC)) <| s_n <| tk_cond0 rfl <| tk_skip <| tk_then <| tk_seq <| s_r <| q_m rfl rfl <| s_q rfl (y_nilCheck rfl) <| s_q rfl (y_fldN (o := 0) 1 rfl kR) <| tk_act rfl <| a_callv [] _ rfl kR rfl (fun w' hw' => spend_spec (s := s) (sb := sb) (mb := mb) hok (St.pre hw')) rfl fun _ _ => tk_R (H1 := [_]) rfl (show mapS mb (kvO s.obs) = mapS mb (kvO s.spend.1.obs) from mapS_cast (by rw [spend_obs.1])) ?_; refine tk_R (H1 := [_, _]) rfl (show bag (s.obs.map (obR 5)) = bag (s.spend.1.obs.map (obR 5)) from bag_cast (by rw [spend_obs.1])) <| q_a rfl rfl <| s_n <| s_r <| q_m rfl rfl <| s_q rfl (y_neq rfl rfl) <| s_n <| tk_condP rfl (fun ht26 => ?_) (fun ht26 => ?_)
    · refine s_r <| q_m rfl rfl <| q_a rfl rfl <| s_n <| tk_retc <| tk_then_ret ?_
      obtain rfl : s.spend = q := by rw [← hq]; exact Eq.symm (change_sp ht15 oM oM)
      exact tk_ret (()) (trivial) (.inl rfl) (r1 rfl rfl) (List.Sublist.refl _)
    · refine tk_skip <| tk_then <| s_r <| q_m rfl rfl <| tk_act rfl <| a_callc [] _ rfl rfl kR rfl (fun w' hw' => nopS_spec) rfl fun _ _ => s_n <| s_r <| q_a rfl rfl <| s_n <| tk_retc ?_
      obtain rfl : (s.spend.1, 0) = q := by rw [← hq]; exact Eq.symm (change_ok ht15 oM oM)
      exact tk_ret (()) (trivial) (.inl rfl) (r1 rfl rfl) (List.Sublist.refl _)
theorem chNud_spec {s : Sh} {q : Sh × Nat} {sb mb : Nat} {w : World} (hq : s.nudge = q) (hok : ShOk s) (hh : Pre w [cel sb ([Value.map (some mb), I (s.left), .bool s.off, I (s.made), I (s.room)]) 159, mapS mb (kvO s.obs), bag (s.obs.map (obR 5))]) : Spec Tryz.prog 112 [PT sb, .func (.func 155) #[] #[], .func (.func 197) #[] #[]] w [cel sb ([Value.map (some mb), I (s.left), .bool s.off, I (s.made), I (s.room)]) 159, mapS mb (kvO s.obs), bag (s.obs.map (obR 5))] (fun _ : Unit => True) (fun _ => IN q.2) (fun _ => [cel sb ([Value.map (some mb), I (q.1.left), .bool q.1.off, I (q.1.made), I (q.1.room)]) 159, mapS mb (kvO q.1.obs), bag (q.1.obs.map (obR 5))]) := by
  refine spec_of (n := 30) Tryz.func112 rfl rfl hh.1 hh.2 rfl ?_
  have hoff : ∀ h : Bool, Value.bool h = Value.bool (decide (h = true)) := fun h => by simp
  refine s_r <| q_a rfl rfl <| s_n <| tk_seq <| s_r <| q_m rfl rfl <| s_q rfl (y_pnil rfl rfl rfl) <| s_n <| tk_cond0 rfl <| tk_skip <| tk_then <| tk_seq <| s_r <| q_m rfl rfl <| s_q rfl (y_nilCheck rfl) <| s_q rfl (y_fldN (o := 0) 1 rfl kR) <| s_q rfl (y_fldN (o := 1) 1 rfl kR) <| tk_qe (.bool (decide (s.off = true))) rfl rfl rfl (y_load rfl rfl (hc (o := 2) (.head _) (rfl))) sI <| s_n <| tk_condP rfl (fun ht15 => ?_) (fun ht15 => ?_)
  · refine s_r <| q_a rfl rfl <| s_n <| tk_retc <| tk_then_ret ?_
    obtain rfl : (s, 9) = q := by rw [← hq]; exact Eq.symm (change_off ht15)
    exact tk_ret (()) (trivial) (.inl rfl) (r1 rfl rfl) (List.Sublist.refl _)
  · refine tk_skip <| tk_then <| tk_seq <| s_r <| q_m rfl rfl <| tk_act rfl <| a_callc [] _ rfl rfl kR rfl (fun w' hw' => fine_spec) rfl fun _ _ => q_a rfl rfl <| s_n <| s_r <| q_m rfl rfl <| s_q rfl ((y_neq rfl rfl).cast (bool_f dC)) <| s_n <| tk_cond0 rfl <| tk_skip <| tk_then <| tk_seq <| s_r <| q_m rfl rfl <| s_q rfl (y_nilCheck rfl) <| s_q rfl (y_fldN (o := 0) 1 rfl kR) <| tk_act rfl <| a_callv [] _ rfl kR rfl (fun w' hw' => spend_spec (s := s) (sb := sb) (mb := mb) hok (St.pre hw')) rfl fun _ _ => tk_R (H1 := [_]) rfl (show mapS mb (kvO s.obs) = mapS mb (kvO s.spend.1.obs) from mapS_cast (by rw [spend_obs.1])) ?_; refine tk_R (H1 := [_, _]) rfl (show bag (s.obs.map (obR 5)) = bag (s.spend.1.obs.map (obR 5)) from bag_cast (by rw [spend_obs.1])) <| q_a rfl rfl <| s_n <| s_r <| q_m rfl rfl <| s_q rfl (y_neq rfl rfl) <| s_n <| tk_condP rfl (fun ht26 => ?_) (fun ht26 => ?_)
    · refine s_r <| q_m rfl rfl <| q_a rfl rfl <| s_n <| tk_retc <| tk_then_ret ?_
      obtain rfl : s.spend = q := by rw [← hq]; exact Eq.symm (change_sp ht15 oM oM)
      exact tk_ret (()) (trivial) (.inl rfl) (r1 rfl rfl) (List.Sublist.refl _)
    · refine tk_skip <| tk_then <| s_r <| q_m rfl rfl <| tk_act rfl <| a_callc [] _ rfl rfl kR rfl (fun w' hw' => nopN_spec) rfl fun _ _ => s_n <| s_r <| q_a rfl rfl <| s_n <| tk_retc ?_
      obtain rfl : (s.spend.1, 0) = q := by rw [← hq]; exact Eq.symm (change_ok ht15 oM oM)
      exact tk_ret (()) (trivial) (.inl rfl) (r1 rfl rfl) (List.Sublist.refl _)
theorem put_spec {s : Sh} {sb mb : Nat} {v : Value} {ps : List Sb} {nm b : List UInt8} {w : World} (hok : ShOk s) (hnm : nm.length < 9223372036854775808) (hbl : b.length < 4294967296 ∧ ps.length < 4294967296) (hv : Ro (Fs [cel sb ([Value.map (some mb), I (s.left), .bool s.off, I (s.made), I (s.room)]) 159, mapS mb (kvO s.obs), bag (s.obs.map (obR 5))]) w (rd v (ps.map Prod.fst))) (hp : ∀ p ∈ ps, Ro (Fs [cel sb ([Value.map (some mb), I (s.left), .bool s.off, I (s.made), I (s.room)]) 159, mapS mb (kvO s.obs), bag (s.obs.map (obR 5))]) w (rdB p.1 p.2)) (hL : ps.flatMap Prod.snd = b) (hh : Pre w [cel sb ([Value.map (some mb), I (s.left), .bool s.off, I (s.made), I (s.room)]) 159, mapS mb (kvO s.obs), bag (s.obs.map (obR 5))]) :
    Spec Tryz.prog 81 [PT sb, Str nm, v] w [cel sb ([Value.map (some mb), I (s.left), .bool s.off, I (s.made), I (s.room)]) 159, mapS mb (kvO s.obs), bag (s.obs.map (obR 5))] (fun _ : Value => True) (fun x => I (((s.put nm x b).2 : Nat) : Int)) (fun x => [cel sb ([Value.map (some mb), I ((s.put nm x b).1.left), .bool ((s.put nm x b).1.off), I ((s.put nm x b).1.made), I ((s.put nm x b).1.room)]) 159, mapS mb (kvO ((s.put nm x b).1.obs)), bag (((s.put nm x b).1.obs).map (obR 5))]) := by
  refine spec_of (n := 14) Tryz.func81 rfl rfl hh.1 hh.2 rfl ?_
  have hLl := congrArg List.length hL
  refine s_r <| tk_act rfl <| a_box1 rfl rfl rfl fun b3 => tk_act rfl <| a_box1 rfl rfl rfl fun b4 => q_a rfl rfl <| s_n <| s_r <| q_m rfl rfl <| tk_act rfl <| a_callv [] _ rfl kR rfl (fun w' hw' => concat_spec (ps := ps) (L := ps.flatMap Prod.snd) (Ro.call hv hw') (fun p hp0 => (hp p hp0).call hw') sI ⟨lenP, lenP⟩) rfl fun v9 _ => tk_R (H1 := []) rfl (show ownB v9 (ps.flatMap Prod.snd) 5 = ownB v9 b 5 from ownM_cast hL) <| tk_own1 (.head _) fun hfb => tk_act rfl <| a_alloc1 (v := .slice none 0 0) kR rfl rfl fun b7 => tk_act rfl <| a_storeE (H1 := []) (o := 0) (v := v9) (cs' := [v9]) rfl rfl kR (RdS.one hfb.choose_spec) rfl sW (rfl) <| s_n <| s_r <| s_q rfl (y_load rfl rfl (hc (o := 0) (mm 3 rfl) (rfl))) <| s_q rfl (y_makeFunc (cs := [PT b3, PT b4, PT b7]) rfl) <| s_q rfl (y_makeFunc (cs := [PT b7, PT b3, PT b4]) rfl) <| tk_act rfl <| tk_ps [1, 1, 2, 3, 6, 6, 6] rfl ?_; exact a_callv [] _ rfl kR rfl (fun w' hw' => chPut_spec (s := s) (q := (s.put nm v9 b)) (c0 := b3) (c1 := b4) (c2 := b7) (vv := v9) (nm := nm) (b := b) rfl hok lenP lenP (St.pre hw')) rfl fun _ _ => q_a rfl rfl <| s_n <| tk_retc <| tk_ret (v9) (trivial) (.inl rfl) (r1 rfl rfl) (List.Sublist.refl _)
theorem ren_spec {s : Sh} {sb mb : Nat} {na nb : List UInt8} {w : World} (hok : ShOk s) (hnb : nb.length < 9223372036854775808) (hh : Pre w [cel sb ([Value.map (some mb), I (s.left), .bool s.off, I (s.made), I (s.room)]) 159, mapS mb (kvO s.obs), bag (s.obs.map (obR 5))]) : Spec Tryz.prog 83 [PT sb, Str na, Str nb] w [cel sb ([Value.map (some mb), I (s.left), .bool s.off, I (s.made), I (s.room)]) 159, mapS mb (kvO s.obs), bag (s.obs.map (obR 5))] (fun _ : Unit => True) (fun _ => I (((s.ren na nb).2 : Nat) : Int)) (fun _ => [cel sb ([Value.map (some mb), I ((s.ren na nb).1.left), .bool ((s.ren na nb).1.off), I ((s.ren na nb).1.made), I ((s.ren na nb).1.room)]) 159, mapS mb (kvO ((s.ren na nb).1.obs)), bag (((s.ren na nb).1.obs).map (obR 5))]) := by
  exact spec_of (n := 11) Tryz.func83 rfl rfl hh.1 hh.2 rfl <| s_r <| tk_act rfl <| a_box1 rfl rfl rfl fun b3 => tk_act rfl <| a_box1 rfl rfl rfl fun b4 => tk_act rfl <| a_box1 rfl rfl rfl fun b5 => q_a rfl rfl <| s_n <| s_r <| s_q rfl (y_load rfl rfl (hc (o := 0) (mm 2 rfl) (rfl))) <| s_q rfl (y_makeFunc (cs := [PT b3, PT b4, PT b5]) rfl) <| s_q rfl (y_makeFunc (cs := [PT b3, PT b4, PT b5]) rfl) <| tk_act rfl <| tk_ps [1, 2, 5, 5, 5] rfl <| a_callv [] _ rfl kR rfl (fun w' hw' => chRen_spec (s := s) (q := (s.ren na nb)) (c0 := b3) (c1 := b4) (c2 := b5) (na := na) (nb := nb) rfl hok lenP (St.pre hw')) rfl fun _ _ => q_a rfl rfl <| s_n <| tk_retc <| tk_ret (()) (trivial) (.inl rfl) (r1 rfl rfl) (List.Sublist.refl _)
theorem del_spec {s : Sh} {sb mb : Nat} {na : List UInt8} {w : World} (hok : ShOk s) (hh : Pre w [cel sb ([Value.map (some mb), I (s.left), .bool s.off, I (s.made), I (s.room)]) 159, mapS mb (kvO s.obs), bag (s.obs.map (obR 5))]) : Spec Tryz.prog 60 [PT sb, Str na] w [cel sb ([Value.map (some mb), I (s.left), .bool s.off, I (s.made), I (s.room)]) 159, mapS mb (kvO s.obs), bag (s.obs.map (obR 5))] (fun _ : Unit => True) (fun _ => I (((s.del na).2 : Nat) : Int)) (fun _ => [cel sb ([Value.map (some mb), I ((s.del na).1.left), .bool ((s.del na).1.off), I ((s.del na).1.made), I ((s.del na).1.room)]) 159, mapS mb (kvO ((s.del na).1.obs)), bag (((s.del na).1.obs).map (obR 5))]) := by
  exact spec_of (n := 9) Tryz.func60 rfl rfl hh.1 hh.2 rfl <| s_r <| tk_act rfl <| a_box1 rfl rfl rfl fun b2 => tk_act rfl <| a_box1 rfl rfl rfl fun b3 => q_a rfl rfl <| s_n <| s_r <| s_q rfl (y_load rfl rfl (hc (o := 0) (mm 1 rfl) (rfl))) <| s_q rfl (y_makeFunc (cs := [PT b2, PT b3]) rfl) <| s_q rfl (y_makeFunc (cs := [PT b2, PT b3]) rfl) <| tk_act rfl <| tk_ps [1, 4, 4, 4] rfl <| a_callv [] _ rfl kR rfl (fun w' hw' => chDel_spec (s := s) (q := (s.del na)) (c0 := b2) (c1 := b3) (na := na) rfl hok (St.pre hw')) rfl fun _ _ => q_a rfl rfl <| s_n <| tk_retc <| tk_ret (()) (trivial) (.inl rfl) (r1 rfl rfl) (List.Sublist.refl _)
theorem nudge_spec {s : Sh} {sb mb : Nat} {w : World} (hok : ShOk s) (hh : Pre w [cel sb ([Value.map (some mb), I (s.left), .bool s.off, I (s.made), I (s.room)]) 159, mapS mb (kvO s.obs), bag (s.obs.map (obR 5))]) : Spec Tryz.prog 107 [PT sb] w [cel sb ([Value.map (some mb), I (s.left), .bool s.off, I (s.made), I (s.room)]) 159, mapS mb (kvO s.obs), bag (s.obs.map (obR 5))] (fun _ : Unit => True) (fun _ => IN s.nudge.2) (fun _ => [cel sb ([Value.map (some mb), I (s.nudge.1.left), .bool s.nudge.1.off, I (s.nudge.1.made), I (s.nudge.1.room)]) 159, mapS mb (kvO s.nudge.1.obs), bag (s.nudge.1.obs.map (obR 5))]) := by
  exact spec_of (n := 5) Tryz.func107 rfl rfl hh.1 hh.2 rfl <| s_r <| q_a rfl rfl <| s_n <| s_r <| q_m rfl rfl <| tk_act rfl <| a_callv [] _ rfl kR rfl (fun w' hw' => chNud_spec (s := s) (q := s.nudge) rfl hok (St.pre hw')) rfl fun _ _ => q_a rfl rfl <| s_n <| tk_retc <| tk_ret (()) (trivial) (.inl rfl) (r1 rfl rfl) (List.Sublist.refl _)
theorem sync_q {s : Sh} {q : Sh × Nat} {sb mb : Nat} {nv : Value} {na : List UInt8} {w : World} (hq : s.sync1 na = q) (hok : ShOk s) (hn : Ro (Fs [cel sb ([Value.map (some mb), I (s.left), .bool s.off, I (s.made), I (s.room)]) 159, mapS mb (kvO s.obs), bag (s.obs.map (obR 5))]) w (rd nv ([na].map Str))) (hh : Pre w [cel sb ([Value.map (some mb), I (s.left), .bool s.off, I (s.made), I (s.room)]) 159, mapS mb (kvO s.obs), bag (s.obs.map (obR 5))]) : Spec Tryz.prog 82 [PT sb, nv] w [cel sb ([Value.map (some mb), I (s.left), .bool s.off, I (s.made), I (s.room)]) 159, mapS mb (kvO s.obs), bag (s.obs.map (obR 5))] (fun _ : Unit => True) (fun _ => IN q.2) (fun _ => [cel sb ([Value.map (some mb), I (q.1.left), .bool q.1.off, I (q.1.made), I (q.1.room)]) 159, mapS mb (kvO q.1.obs), bag (q.1.obs.map (obR 5))]) := by
  refine spec_of (n := 42) Tryz.func82 rfl rfl hh.1 hh.2 rfl <| s_r <| q_a rfl rfl <| s_n <| s_r <| q_m rfl rfl <| tk_act rfl <| a_callv [] _ rfl kR rfl (fun w' hw' => chSyn_spec (s := s) (q := s.nudge) rfl hok (St.pre hw')) rfl fun _ _ => q_a rfl rfl <| s_n <| tk_seq <| s_r <| q_m rfl rfl <| s_q rfl (y_lenRN (n' := 1) rfl hn.1 rfl (by first | rfl | (rw [List.length_map]; omega) | simp)) <| q_m rfl rfl <| s_n <| tk_block <| tk_loop (X := Nat × Sh × Nat) (fun (i, t, e) => (i = 0 ∧ t = s.nudge.1 ∧ e = s.nudge.2) ∨ (i = 1 ∧ s.sync1 na = (t, e))) (fun (i, t, e) => [(0, PT sb), (4, I 0), (5, IN e), (12, nv), (13, I 1), (14, IN i)]) (fun (i, t, e) => [cel sb ([Value.map (some mb), I (t.left), .bool t.off, I (t.made), I (t.room)]) 159, mapS mb (kvO t.obs), bag (t.obs.map (obR 5))]) (fun (i, t, e) => 1 - i) ((0, s.nudge.1, s.nudge.2)) (.inl ⟨rfl, rfl, rfl⟩) sB ((List.Sublist.refl _)) ?_
  rintro ⟨i, t, e⟩ hI
  dsimp only at hI ⊢
  refine s_r <| s_q rfl (y_lss rfl rfl) <| s_n <| tk_seq <| tk_condP rfl (fun ht15 => ?_) (fun ht15 => ?_)
  · obtain ⟨hte, hee⟩ : t = s.nudge.1 ∧ e = s.nudge.2 := hI.elim (fun h => h.2) (fun h => absurd h.1 oM)
    refine tk_bagO (mm 2 rfl) fun hbo => ?_
    have hlk := lk_one hbo
    have hnt : (t.obs.map Ob.name).Nodup := by rw [hte, nudge_obs.1]; exact hok.nodup
    refine tk_skip <| tk_then <| tk_seq <| tk_block <| s_r <| s_q rfl (y_ixR (j := i) rfl rfl hn.1 lenP kR) <| tk_qe (Str na) rfl rfl rfl (y_load rfl rfl (fun w hw => ((fun w hw => Ro.rd hn hw) w hw).cell (gM (d := []) lenP))) (by rw [show i = 0 by omega]; rfl) <| q_a rfl rfl <| s_n <| tk_seq <| s_r <| q_m rfl rfl <| s_q rfl (y_neq rfl rfl) <| s_n <| tk_condP rfl (fun ht19 => ?_) (fun ht19 => ?_)
    · refine tk_exit <| tk_then_exit <| tk_in_miss rfl <| tk_then_exit <| tk_then_exit <| tk_in_hit <| tk_then <| s_r <| q_m rfl rfl <| q_a rfl rfl <| s_n <| tk_retc ?_
      obtain rfl : (t, e) = q := by rw [← hq]; exact Eq.symm (by rw [sync1_no (by rw [← hee]; omega), hte, hee])
      exact tk_ret (()) (trivial) (.inl rfl) (r1 rfl rfl) (List.Sublist.refl _)
    · have he0 : e = 0 := by omega
      have hn0 : s.nudge.2 = 0 := by rw [← hee]; exact he0
      refine tk_skip <| tk_then <| s_r <| q_m rfl rfl <| s_q rfl (y_nilCheck rfl) <| s_q rfl (y_fld0 (o := 0) rfl kR) <| s_q rfl (y_fld0 (o := 0) rfl kR) <| s_q rfl (y_load rfl rfl (hc (o := 0) (.head _) (rfl))) <| q_m rfl rfl <| s_q rfl ((y_getSok (b := mb) (kv := (kvO t.obs)) (k := na) (zv := .agg [Value.slice none 0 0, .bool false].toArray) rfl rfl Tryz.underlying153 Tryz.underlying9 (fun _ => kR) (fun w hw => hw.mem (mm 1 rfl))).cast (kvO_ok)) <| q_m rfl rfl <| s_q rfl (y_extract rfl rfl) <| s_q rfl (y_extract rfl rfl) <| tk_act rfl <| a_allocL (cs := [Value.slice none 0 0, .bool false]) kR rfl fun b8 => tk_act rfl <| a_storeW (H1 := []) (vs := [(lkO t.obs na).v, .bool ((lkO t.obs na).sure)]) 2 rfl rfl kR rfl ⟨lenP, lenP⟩ (List.forall_mem_cons.2 ⟨(hlk _), (List.forall_mem_cons.2 ⟨rfl, (fun _ h => nomatch h)⟩)⟩) <| q_a rfl rfl <| s_n <| tk_seq <| s_r <| q_m rfl rfl <| s_q rfl ((y_not rfl).cast (notdec _)) <| s_n ?_; refine tk_condP rfl (fun ht31 => ?_) (fun ht31 => ?_)
      · refine s_r <| q_a rfl rfl <| s_n <| tk_exit <| tk_then_exit <| tk_in_miss rfl <| tk_then_exit <| tk_then_exit <| tk_in_hit <| tk_then <| s_r <| q_m rfl rfl <| q_a rfl rfl <| s_n <| tk_retc ?_
        obtain rfl : (t, 6) = q := by rw [← hq]; exact Eq.symm (by rw [sync1_miss hn0 (by rw [← hte]; exact ht31), hte])
        exact tk_ret (()) (trivial) (.inl rfl) (r1 rfl rfl) (.cons _ (List.Sublist.refl _))
      · refine tk_skip <| tk_then <| s_r <| s_q rfl (y_fldN (o := 0) 1 rfl kR) <| tk_act rfl <| a_storeE (H1 := []) (o := 1) (v := .bool true) (cs' := [(lkO t.obs na).v, .bool true]) rfl rfl kR rfl rfl sW (rfl) <| s_n <| tk_drawH [cel b8 ([(lkO t.obs na).v, .bool true]) 151, cel sb ([Value.map (some mb), I (t.left), .bool t.off, I (t.made), I (t.room)]) 159, bag (t.obs.map (obR 5))] [] kR <| s_x 0 rfl (y_move rfl) <| s_x 1 rfl (y_nilCheck rfl) <| s_x 2 rfl (y_fld0 (o := 0) rfl kR) <| s_x 3 rfl (y_fld0 (o := 0) rfl kR) <| s_l 4 rfl (fun _ h => kT [0, 0] 1 rfl h) (y_load rfl rfl (hc (o := 0) (mm 1 rfl) (rfl))) <| s_x 5 rfl (y_move rfl) <| s_l 6 rfl (fun _ h => kT [0, 0] 1 rfl h) (y_loadA 2 rfl kR lenP (hcw (.head _))) <| tx_a 7 rfl kR rfl <| a_setS (H1 := [_, _]) (b := mb) (kv := (kvO t.obs)) (k := na) (v := (Value.agg ([(lkO t.obs na).v, .bool true]).toArray)) rfl rfl rfl Tryz.underlying153 Tryz.underlying9 rfl <| tk_S (fun _ h => kT [0, 0] 1 rfl h) <| tx_done kR <| tk_in_normal <| tk_then <| tk_region <| s_q rfl (y_addN (a := i) (b := 1) rfl rfl oM) <| q_m rfl rfl ?_; exact tk_nil <| tk_re 5 (IN e) (I 0) rfl (by rw [he0]; rfl) <| tk_R (H1 := [_, _]) rfl (show mapS mb (setS (kvO t.obs) na ((Value.agg ([(lkO t.obs na).v, .bool true]).toArray))) = mapS mb (kvO (syncO t.obs na)) from mapS_cast (kvO_sync hnt (Classical.not_not.1 ht31))) <| tk_R (H1 := [_, _, _]) rfl (show bag (t.obs.map (obR 5)) = bag ((syncO t.obs na).map (obR 5)) from bag_cast sync_bag.symm) <| tk_again ((i + 1, t.obsTo (syncO t.obs na), 0)) (.inr ⟨by dsimp only; omega, by dsimp only; rw [sync1_ok hn0 (by rw [← hte]; exact Classical.not_not.1 ht31), hte]⟩) (by dsimp only; omega) sB (.cons _ (List.Sublist.refl _))
  · refine tk_exit <| tk_then_exit <| tk_then_exit <| tk_in_hit <| tk_then <| s_r <| q_m rfl rfl <| q_a rfl rfl <| s_n <| tk_retc ?_
    obtain rfl : (t, e) = q := by rw [← hq]; exact Eq.symm (by exact hI.elim (fun h => absurd h.1 oM) (fun h => h.2))
    exact tk_ret (()) (trivial) (.inl rfl) (r1 rfl rfl) (List.Sublist.refl _)
theorem sync_spec {s : Sh} {sb mb : Nat} {nv : Value} {na : List UInt8} {w : World} (hok : ShOk s) (hn : Ro (Fs [cel sb ([Value.map (some mb), I (s.left), .bool s.off, I (s.made), I (s.room)]) 159, mapS mb (kvO s.obs), bag (s.obs.map (obR 5))]) w (rd nv ([na].map Str))) (hh : Pre w [cel sb ([Value.map (some mb), I (s.left), .bool s.off, I (s.made), I (s.room)]) 159, mapS mb (kvO s.obs), bag (s.obs.map (obR 5))]) : Spec Tryz.prog 82 [PT sb, nv] w [cel sb ([Value.map (some mb), I (s.left), .bool s.off, I (s.made), I (s.room)]) 159, mapS mb (kvO s.obs), bag (s.obs.map (obR 5))] (fun _ : Unit => True) (fun _ => I (((s.sync1 na).2 : Nat) : Int)) (fun _ => [cel sb ([Value.map (some mb), I ((s.sync1 na).1.left), .bool ((s.sync1 na).1.off), I ((s.sync1 na).1.made), I ((s.sync1 na).1.room)]) 159, mapS mb (kvO ((s.sync1 na).1.obs)), bag (((s.sync1 na).1.obs).map (obR 5))]) := sync_q rfl hok hn hh
theorem get_q {s : Sh} {q : Nat × List UInt8} {sb mb : Nat} {na : List UInt8} {w : World} (hq : s.get na = q) (hok : ShOk s) (hh : Pre w [cel sb ([Value.map (some mb), I (s.left), .bool s.off, I (s.made), I (s.room)]) 159, mapS mb (kvO s.obs), bag (s.obs.map (obR 5))]) : Spec Tryz.prog 23 [PT sb, Str na] w [cel sb ([Value.map (some mb), I (s.left), .bool s.off, I (s.made), I (s.room)]) 159, mapS mb (kvO s.obs), bag (s.obs.map (obR 5))] (fun _ : Value => True) (fun x => .tuple #[x, IN q.1]) (fun x => [ownB x q.2 5, cel sb ([Value.map (some mb), I (s.left), .bool s.off, I (s.made), I (s.room)]) 159, mapS mb (kvO s.obs), bag (s.obs.map (obR 5))]) := by
  refine spec_of (n := 29) Tryz.func23 rfl rfl hh.1 hh.2 rfl ?_
  have hsum := hok.sum
  have hrm := hok.room
  refine tk_bagO (mm 2 rfl) fun hbo => ?_
  have hlk := lk_one hbo
  
  refine s_r <| q_a rfl rfl <| q_a rfl rfl <| s_n <| tk_seq <| s_r <| q_m rfl rfl <| tk_act rfl <| a_callv [] _ rfl kR rfl (fun w' hw' => look_spec (s := s) (sb := sb) (mb := mb) (St.pre hw')) rfl fun _ _ => q_a rfl rfl <| s_n <| s_r <| q_m rfl rfl <| s_q rfl (y_neq rfl rfl) <| s_n <| tk_condP rfl (fun ht12 => ?_) (fun ht12 => ?_)
  · have hof : s.off = true := Classical.not_not.1 fun h => by rw [if_neg h] at ht12; omega
    refine s_r <| q_m rfl rfl <| q_a rfl rfl <| q_a rfl rfl <| s_n <| tk_retc <| tk_then_ret <| tk_ownM0 (f := B) 5 ?_
    obtain rfl : (9, []) = q := by rw [← hq]; exact Eq.symm (by rw [Sh.get, if_pos hof])
    exact tk_re 5 (I (((if s.off = true then 9 else 0) : Nat) : Int)) (I 9) rfl (by rw [if_pos hof]; rfl) <| tk_ret ((.slice none 0 0)) (trivial) (.inl rfl) (r2 rfl rfl rfl) (List.Sublist.refl _)
  · have hno : ¬ s.off = true := fun h => by rw [if_pos h] at ht12; omega
    refine tk_skip <| tk_then <| s_r <| q_m rfl rfl <| s_q rfl (y_nilCheck rfl) <| s_q rfl (y_fld0 (o := 0) rfl kR) <| s_q rfl (y_fld0 (o := 0) rfl kR) <| s_q rfl (y_load rfl rfl (hc (o := 0) (.head _) (rfl))) <| q_m rfl rfl <| s_q rfl ((y_getSok (b := mb) (kv := (kvO s.obs)) (k := na) (zv := .agg [Value.slice none 0 0, .bool false].toArray) rfl rfl Tryz.underlying153 Tryz.underlying9 (fun _ => kR) (fun w hw => hw.mem (mm 1 rfl))).cast (kvO_ok)) <| q_m rfl rfl <| s_q rfl (y_extract rfl rfl) <| s_q rfl (y_extract rfl rfl) <| tk_act rfl <| a_allocL (cs := [Value.slice none 0 0, .bool false]) kR rfl fun b7 => tk_act rfl <| a_storeW (H1 := []) (vs := [(lkO s.obs na).v, .bool ((lkO s.obs na).sure)]) 2 rfl rfl kR rfl ⟨lenP, lenP⟩ (List.forall_mem_cons.2 ⟨(hlk _), (List.forall_mem_cons.2 ⟨rfl, (fun _ h => nomatch h)⟩)⟩) <| q_a rfl rfl <| s_n <| tk_seq <| s_r <| q_m rfl rfl <| s_q rfl ((y_not rfl).cast (notdec _)) <| s_n ?_; refine tk_condP rfl (fun ht25 => ?_) (fun ht25 => ?_)
    · refine s_r <| q_a rfl rfl <| q_a rfl rfl <| s_n <| tk_retc <| tk_then_ret <| tk_ownM0 (f := B) 5 ?_
      obtain rfl : (6, []) = q := by rw [← hq]; exact Eq.symm (by rw [Sh.get, if_neg hno, if_pos ht25])
      exact tk_ret ((.slice none 0 0)) (trivial) (.inl rfl) (r2 rfl rfl rfl) (.cons_cons _ (.cons _ (List.Sublist.refl _)))
    · have hha : hasO s.obs na := Classical.not_not.1 ht25
      have hbl := hok.bytes _ (lkO_name hha).2
      refine tk_skip <| tk_then <| s_r <| s_q rfl (y_fld0 (o := 0) rfl kR) <| s_q rfl (y_load rfl rfl (hc (o := 0) (.head _) (rfl))) <| tk_act rfl <| a_callv [] _ rfl kR rfl (fun w' hw' => clone_spec (l := (lkO s.obs na).b) (ro_bagO (T := 5) hw' (mm 3 rfl) (lkO_name hha).2) lenP) rfl fun v28 _ => q_a rfl rfl <| q_a rfl rfl <| s_n <| tk_retc ?_
      obtain rfl : (0, (lkO s.obs na).b) = q := by rw [← hq]; exact Eq.symm (by rw [Sh.get, if_neg hno, if_neg ht25])
      exact tk_ret (v28) (trivial) (.inl rfl) (r2 rfl rfl rfl) (.cons_cons _ (.cons _ (List.Sublist.refl _)))
theorem get_spec {s : Sh} {sb mb : Nat} {na : List UInt8} {w : World} (hok : ShOk s) (hh : Pre w [cel sb ([Value.map (some mb), I (s.left), .bool s.off, I (s.made), I (s.room)]) 159, mapS mb (kvO s.obs), bag (s.obs.map (obR 5))]) : Spec Tryz.prog 23 [PT sb, Str na] w [cel sb ([Value.map (some mb), I (s.left), .bool s.off, I (s.made), I (s.room)]) 159, mapS mb (kvO s.obs), bag (s.obs.map (obR 5))] (fun _ : Value => True) (fun x => .tuple #[x, I (((s.get na).1 : Nat) : Int)]) (fun x => [ownB x (s.get na).2 5, cel sb ([Value.map (some mb), I (s.left), .bool s.off, I (s.made), I (s.room)]) 159, mapS mb (kvO s.obs), bag (s.obs.map (obR 5))]) := get_q rfl hok hh
end Go.Proofs.YtnhpghhibcdklaaGreatDoor
set_option linter.unusedSimpArgs false
set_option linter.unusedVariables false
namespace Go.Proofs.YtnhpghhibcdklaaGreatDoor
open Go Go.RowKit
set_option maxRecDepth 100000
attribute [local irreducible] sumL hexL dgL
def newS (room : Nat) : Sh := ⟨[], -1, false, 0, (room : Int)⟩
def raiseF (s : Sh) (cn m : Int) : Sh × Int × Nat := if s.off = true then (s, cn, 9) else if m ≤ cn ∨ 4611686018427387903 < m then (s, cn, 1) else if ¬ s.nudge.2 = 0 then (s.nudge.1, cn, s.nudge.2) else (s.nudge.1, m, 0)
theorem get_nine {s : Sh} {a : List UInt8} (h : (s.get a).1 = 9) : (s.get a).1 = if s.off = true then 9 else 0 := by
  unfold Sh.get at h ⊢
  split
  · rfl
  · next h1 =>
    rw [if_neg h1] at h
    split at h <;> cases h
theorem get_notnine {s : Sh} {a : List UInt8} (h : ¬ (s.get a).1 = 9) : (if s.off = true then 9 else 0) = 0 := by
  unfold Sh.get at h
  split
  · next h1 => rw [if_pos h1] at h; exact (h rfl).elim
  · rfl
theorem shNew_spec {room : Nat} {w : World} (hr : room ≤ 1073741824) : Spec Tryz.prog 32 [IN room] w [] (fun _ : Nat × Nat => True) (fun x => .tuple #[PT x.1, I 0])
    (fun x => [cel x.1 [.map (some x.2), I (newS room).left, .bool (newS room).off, I (newS room).made, I (newS room).room] 159, mapS x.2 (kvO (newS room).obs), bag ((newS room).obs.map (obR 5))]) := by
  refine spec_of (n := 16) Tryz.func32 rfl rfl trivial trivial rfl <| s_r <| q_a rfl rfl <| q_a rfl rfl <| s_n <| tk_seq <| s_r <| q_m rfl rfl <| tk_qe (.bool false) rfl rfl rfl (y_lss rfl rfl) (bool_f oM) <| q_m rfl rfl <| s_g rfl (y_move rfl) <| tk_gqe (.bool false) rfl rfl rfl (y_gtr rfl rfl) (bool_f oM) <| s_q rfl (y_pick0 rfl rfl) <| s_n <| tk_cond0 rfl <| tk_skip <| tk_then <| s_r <| tk_act rfl <| a_makeMapS rfl fun mb => s_q rfl (y_build (v := .agg ([Value.map (some mb)]).toArray) (vs := [(0, .map (some mb))]) rfl (run_build (zs := [Value.map none]) (pl := [(0, 1)]) Tryz.underlying155 (fun _ => kR) (fun _ => kR) (by simp [fillL, Value.cells]))) <| s_q rfl (y_build (v := .agg ([I (-1), .bool false, I 0]).toArray) (vs := [(0, I (-1))]) rfl (fun _ => kR)) <| q_m rfl rfl <| s_q rfl (y_build (v := .agg ([Value.map (some mb), I (-1), .bool false, I 0, IN room]).toArray) (vs := [(0, .agg ([Value.map (some mb)]).toArray), (1, .agg ([I (-1), .bool false, I 0]).toArray), (2, IN room)]) rfl (run_build (zs := [Value.map none, I 0, .bool false, I 0, I 0]) (pl := [(0, 1), (1, 3), (4, 1)]) Tryz.underlying159 (fun _ => kR) (fun _ => kR) (by simp [fillL, Value.cells]))) ?_; exact tk_act rfl <| a_boxL (cs := [Value.map (some mb), I (-1), .bool false, I 0, IN room]) rfl rfl fun b15 => q_a rfl rfl <| q_a rfl rfl <| s_n <| tk_retc <| tk_bag0 <| tk_ps [2, 2] rfl <| tk_ret ((b15, mb)) (trivial) (.inl rfl) (r2 rfl rfl rfl) (List.Sublist.refl _)
theorem cNew_spec {sb : Nat} {w : World} : Spec Tryz.prog 61 [PT sb] w [] (fun _ : Nat => True) (fun x => .tuple #[PT x, I 0]) (fun x => [cel x [PT sb, I 0] 168]) := by
  exact spec_of (n := 9) Tryz.func61 rfl rfl trivial trivial rfl <| s_r <| q_a rfl rfl <| q_a rfl rfl <| s_n <| tk_seq <| s_r <| q_m rfl rfl <| s_q rfl (y_pnil rfl rfl rfl) <| s_n <| tk_cond0 rfl <| tk_skip <| tk_then <| s_r <| q_m rfl rfl <| s_q rfl (y_build (v := .agg ([PT sb, I 0]).toArray) (vs := [(0, PT sb)]) rfl (run_build (zs := [Value.pointer none, I 0]) (pl := [(0, 1), (1, 1)]) Tryz.underlying168 (fun _ => kR) (fun _ => kR) (by simp [fillL, Value.cells]))) <| tk_act rfl <| a_boxL (cs := [PT sb, I 0]) rfl rfl fun b8 => q_a rfl rfl <| q_a rfl rfl <| s_n <| tk_retc <| tk_ret (b8) (trivial) (.inl rfl) (r2 rfl rfl rfl) (List.Sublist.refl _)
theorem on_spec {s : Sh} {cb sb mb : Nat} {cn : Int} {w : World} (hok : ShOk s) (hh : Pre w [cel cb ([PT sb, I (cn)]) 168, cel sb ([Value.map (some mb), I (s.left), .bool s.off, I (s.made), I (s.room)]) 159, mapS mb (kvO s.obs), bag (s.obs.map (obR 5))]) : Spec Tryz.prog 70 [PT cb] w [cel cb ([PT sb, I (cn)]) 168, cel sb ([Value.map (some mb), I (s.left), .bool s.off, I (s.made), I (s.room)]) 159, mapS mb (kvO s.obs), bag (s.obs.map (obR 5))] (fun _ : Unit => True) (fun _ => I (((if s.off = true then 9 else 0 : Nat) : Nat) : Int)) (fun _ => [cel cb ([PT sb, I (cn)]) 168, cel sb ([Value.map (some mb), I (s.left), .bool s.off, I (s.made), I (s.room)]) 159, mapS mb (kvO s.obs), bag (s.obs.map (obR 5))]) := by
  refine spec_of (n := 18) Tryz.func70 rfl rfl hh.1 hh.2 rfl <| s_r <| q_a rfl rfl <| s_n <| tk_seq <| s_r <| q_m rfl rfl <| s_q rfl (y_pnil rfl rfl rfl) <| s_n <| tk_cond0 rfl <| tk_skip <| tk_then <| tk_seq <| s_r <| q_m rfl rfl <| s_q rfl (y_nilCheck rfl) <| s_q rfl (y_fld0 (o := 0) rfl kR) <| s_q rfl (y_load rfl rfl (hc (o := 0) (.head _) (rfl))) <| tk_act rfl <| tk_ps [3, 3, 3] rfl <| a_callv [] _ rfl kR rfl (fun w' hw' => get_spec (s := s) (sb := sb) (mb := mb) (na := []) hok (St.pre hw')) rfl fun v12 _ => q_m rfl rfl <| s_q rfl (y_extract rfl rfl) <| s_q rfl (y_extract rfl rfl) ?_; refine q_a rfl rfl <| q_a rfl rfl <| s_n <| s_r <| q_m rfl rfl <| s_q rfl (y_eql rfl rfl) <| s_n <| tk_condP rfl (fun ht16 => ?_) (fun ht16 => ?_)
  · exact s_r <| q_m rfl rfl <| q_a rfl rfl <| s_n <| tk_retc <| tk_then_ret <| tk_re 2 (I (((s.get []).1 : Nat) : Int)) (I (((if s.off = true then 9 else 0) : Nat) : Int)) rfl (by rw [get_nine oM]) <| tk_ps [3, 3, 3, 4] rfl <| tk_ret (()) (trivial) (.inl rfl) (r1 rfl rfl) (.cons_cons _ (.cons_cons _ (.cons_cons _ (.cons_cons _ (List.nil_sublist _)))))
  · exact tk_skip <| tk_then <| s_r <| q_a rfl rfl <| s_n <| tk_retc <| tk_re 2 (I 0) (I (((if s.off = true then 9 else 0) : Nat) : Int)) rfl (by rw [get_notnine (s := s) (a := []) oM]; rfl) <| tk_ps [3, 3, 3, 4] rfl <| tk_ret (()) (trivial) (.inl rfl) (r1 rfl rfl) (.cons_cons _ (.cons_cons _ (.cons_cons _ (.cons_cons _ (List.nil_sublist _)))))
theorem cread_spec {s : Sh} {cb sb mb : Nat} {cn : Int} {w : World} (hok : ShOk s) (hh : Pre w [cel cb ([PT sb, I (cn)]) 168, cel sb ([Value.map (some mb), I (s.left), .bool s.off, I (s.made), I (s.room)]) 159, mapS mb (kvO s.obs), bag (s.obs.map (obR 5))]) : Spec Tryz.prog 27 [PT cb] w [cel cb ([PT sb, I (cn)]) 168, cel sb ([Value.map (some mb), I (s.left), .bool s.off, I (s.made), I (s.room)]) 159, mapS mb (kvO s.obs), bag (s.obs.map (obR 5))] (fun _ : Unit => True) (fun _ => .tuple #[I (if s.off = true then 0 else cn), I (((if s.off = true then 9 else 0 : Nat) : Nat) : Int)]) (fun _ => [cel cb ([PT sb, I (cn)]) 168, cel sb ([Value.map (some mb), I (s.left), .bool s.off, I (s.made), I (s.room)]) 159, mapS mb (kvO s.obs), bag (s.obs.map (obR 5))]) := by
  refine spec_of (n := 14) Tryz.func27 rfl rfl hh.1 hh.2 rfl <| s_r <| q_a rfl rfl <| q_a rfl rfl <| s_n <| tk_seq <| s_r <| q_m rfl rfl <| tk_act rfl <| a_callv [] _ rfl kR rfl (fun w' hw' => on_spec (s := s) (cb := cb) (cn := cn) hok (St.pre hw')) rfl fun _ _ => q_a rfl rfl <| s_n <| s_r <| q_m rfl rfl <| s_q rfl (y_neq rfl rfl) <| s_n <| tk_condP rfl (fun ht8 => ?_) (fun ht8 => ?_)
  · have hof : s.off = true := Classical.not_not.1 fun h => by rw [if_neg h] at ht8; omega
    exact s_r <| q_m rfl rfl <| q_a rfl rfl <| q_a rfl rfl <| s_n <| tk_retc <| tk_then_ret <| tk_re 2 (I 0) (I ((if s.off = true then 0 else cn))) rfl (by rw [if_pos hof]) <| tk_re 3 (I (((if s.off = true then 9 else 0) : Nat) : Int)) (I (((if s.off = true then 9 else 0) : Nat) : Int)) rfl (rfl) <| tk_ret (()) (trivial) (.inl rfl) (r2 rfl rfl rfl) (List.Sublist.refl _)
  · have hno : ¬ s.off = true := fun h => by rw [if_pos h] at ht8; omega
    exact tk_skip <| tk_then <| s_r <| q_m rfl rfl <| s_q rfl (y_nilCheck rfl) <| s_q rfl (y_fldN (o := 0) 1 rfl kR) <| s_q rfl (y_load rfl rfl (hc (o := 1) (.head _) (rfl))) <| q_a rfl rfl <| q_a rfl rfl <| s_n <| tk_retc <| tk_re 2 (I (cn)) (I ((if s.off = true then 0 else cn))) rfl (by rw [if_neg hno]) <| tk_re 3 (I 0) (I (((if s.off = true then 9 else 0) : Nat) : Int)) rfl (by rw [if_neg hno]; rfl) <| tk_ret (()) (trivial) (.inl rfl) (r2 rfl rfl rfl) (List.Sublist.refl _)
theorem raise_q {s : Sh} {q : Sh × Int × Nat} {cb sb mb : Nat} {cn m : Int} {w : World} (hq : raiseF s cn m = q) (hok : ShOk s) (hh : Pre w [cel cb ([PT sb, I (cn)]) 168, cel sb ([Value.map (some mb), I (s.left), .bool s.off, I (s.made), I (s.room)]) 159, mapS mb (kvO s.obs), bag (s.obs.map (obR 5))]) : Spec Tryz.prog 56 [PT cb, I m] w [cel cb ([PT sb, I (cn)]) 168, cel sb ([Value.map (some mb), I (s.left), .bool s.off, I (s.made), I (s.room)]) 159, mapS mb (kvO s.obs), bag (s.obs.map (obR 5))] (fun _ : Unit => True) (fun _ => IN q.2.2) (fun _ => [cel cb ([PT sb, I (q.2.1)]) 168, cel sb ([Value.map (some mb), I (q.1.left), .bool q.1.off, I (q.1.made), I (q.1.room)]) 159, mapS mb (kvO q.1.obs), bag (q.1.obs.map (obR 5))]) := by
  refine spec_of (n := 34) Tryz.func56 rfl rfl hh.1 hh.2 rfl <| s_r <| q_a rfl rfl <| s_n <| tk_seq <| s_r <| q_m rfl rfl <| tk_act rfl <| a_callv [] _ rfl kR rfl (fun w' hw' => on_spec (s := s) (cb := cb) (cn := cn) hok (St.pre hw')) rfl fun _ _ => q_a rfl rfl <| s_n <| s_r <| q_m rfl rfl <| s_q rfl (y_neq rfl rfl) <| s_n <| tk_condP rfl (fun ht10 => ?_) (fun ht10 => ?_)
  · have hof : s.off = true := Classical.not_not.1 fun h => by rw [if_neg h] at ht10; omega
    refine tk_re 5 (I (((if s.off = true then 9 else 0) : Nat) : Int)) (I 9) rfl (by rw [if_pos hof]; rfl) <| s_r <| q_m rfl rfl <| q_a rfl rfl <| s_n <| tk_retc <| tk_then_ret ?_
    obtain rfl : (s, cn, 9) = q := by rw [← hq]; exact Eq.symm (by rw [raiseF, if_pos hof])
    exact tk_ret (()) (trivial) (.inl rfl) (r1 rfl rfl) (List.Sublist.refl _)
  · have hno : ¬ s.off = true := fun h => by rw [if_pos h] at ht10; omega
    refine tk_skip <| tk_then <| tk_seq <| s_r <| q_m rfl rfl <| q_m rfl rfl <| s_q rfl (y_nilCheck rfl) <| s_q rfl (y_fldN (o := 0) 1 rfl kR) <| s_q rfl (y_load rfl rfl (hc (o := 1) (.head _) (rfl))) <| tk_qs rfl rfl rfl (y_leq rfl rfl) (fun hs4_5 => ?_) (fun hs4_5 => ?_)
    · refine q_m rfl rfl <| tk_gno rfl rfl rfl <| tk_gno rfl rfl rfl <| s_q rfl (y_pick1 rfl rfl) <| s_n <| tk_cond1 rfl <| s_r <| q_a rfl rfl <| s_n <| tk_retc <| tk_then_ret ?_
      obtain rfl : (s, cn, 1) = q := by rw [← hq]; exact Eq.symm (by rw [raiseF, if_neg hno, if_pos (.inl hs4_5)])
      exact tk_ret (()) (trivial) (.inl rfl) (r1 rfl rfl) (List.Sublist.refl _)
    · refine q_m rfl rfl <| s_g rfl (y_move rfl) <| s_g rfl (y_gtr rfl rfl) <| s_q rfl (y_pick0 rfl rfl) <| s_n <| tk_condP rfl (fun ht21 => ?_) (fun ht21 => ?_)
      · refine s_r <| q_a rfl rfl <| s_n <| tk_retc <| tk_then_ret ?_
        obtain rfl : (s, cn, 1) = q := by rw [← hq]; exact Eq.symm (by rw [raiseF, if_neg hno, if_pos (.inr ht21)])
        exact tk_ret (()) (trivial) (.inl rfl) (r1 rfl rfl) (List.Sublist.refl _)
      · refine tk_skip <| tk_then <| tk_seq <| s_r <| q_m rfl rfl <| s_q rfl (y_nilCheck rfl) <| s_q rfl (y_fld0 (o := 0) rfl kR) <| s_q rfl (y_load rfl rfl (hc (o := 0) (.head _) (rfl))) <| tk_act rfl <| tk_ps [3, 3, 3] rfl <| a_callv [] _ rfl kR rfl (fun w' hw' => nudge_spec (s := s) (sb := sb) (mb := mb)  hok  (St.pre hw')) rfl fun _ _ => q_a rfl rfl <| s_n <| s_r <| q_m rfl rfl <| s_q rfl (y_neq rfl rfl) <| s_n <| tk_condP rfl (fun ht28 => ?_) (fun ht28 => ?_)
        · refine s_r <| q_m rfl rfl <| q_a rfl rfl <| s_n <| tk_retc <| tk_then_ret ?_
          obtain rfl : (s.nudge.1, cn, s.nudge.2) = q := by rw [← hq]; exact Eq.symm (by rw [raiseF, if_neg hno, if_neg (fun q => q.elim hs4_5 ht21), if_pos oM])
          exact tk_ps [2, 2, 2, 3] rfl <| tk_ret (()) (trivial) (.inl rfl) (r1 rfl rfl) (List.Sublist.refl _)
        · refine tk_skip <| tk_then <| s_r <| q_m rfl rfl <| q_m rfl rfl <| s_q rfl (y_nilCheck rfl) <| s_q rfl (y_fldN (o := 0) 1 rfl kR) <| tk_act rfl <| a_storeE (H1 := [_, _, _]) (o := 1) (v := I (m)) (cs' := [PT sb, I (m)]) rfl rfl kR rfl rfl sW (rfl) <| s_n <| s_r <| q_a rfl rfl <| s_n <| tk_retc ?_
          obtain rfl : (s.nudge.1, m, 0) = q := by rw [← hq]; exact Eq.symm (by rw [raiseF, if_neg hno, if_neg (fun q => q.elim hs4_5 ht21), if_neg oM])
          exact tk_ps [2, 2, 2, 3] rfl <| tk_ret (()) (trivial) (.inl rfl) (r1 rfl rfl) (List.Sublist.refl _)
theorem raise_spec {s : Sh} {cb sb mb : Nat} {cn m : Int} {w : World} (hok : ShOk s) (hh : Pre w [cel cb ([PT sb, I (cn)]) 168, cel sb ([Value.map (some mb), I (s.left), .bool s.off, I (s.made), I (s.room)]) 159, mapS mb (kvO s.obs), bag (s.obs.map (obR 5))]) : Spec Tryz.prog 56 [PT cb, I m] w [cel cb ([PT sb, I (cn)]) 168, cel sb ([Value.map (some mb), I (s.left), .bool s.off, I (s.made), I (s.room)]) 159, mapS mb (kvO s.obs), bag (s.obs.map (obR 5))] (fun _ : Unit => True) (fun _ => I (((raiseF s cn m).2.2 : Nat) : Int)) (fun _ => [cel cb ([PT sb, I ((raiseF s cn m).2.1)]) 168, cel sb ([Value.map (some mb), I ((raiseF s cn m).1.left), .bool ((raiseF s cn m).1.off), I ((raiseF s cn m).1.made), I ((raiseF s cn m).1.room)]) 159, mapS mb (kvO ((raiseF s cn m).1.obs)), bag (((raiseF s cn m).1.obs).map (obR 5))]) := raise_q rfl hok hh
theorem digest_spec {v : Value} {l : List UInt8} {w : World} (h1 : Ro (Fs []) w (rdB v l)) (hl : l.length < 4294967296) (hg : Ro (Fs []) w glob) : Spec Tryz.prog 80 [v] w [] (fun _ : Unit => True) (fun _ => Str (dgL l)) (fun _ => []) := by
  refine spec_of (n := 8) Tryz.func80 rfl rfl trivial trivial rfl <| s_r <| q_a rfl rfl <| s_n <| s_r <| q_m rfl rfl <| tk_act rfl <| a_slitN (vs := [v]) rfl (List.forall_mem_cons.2 ⟨(RdS.one h1.1), (fun _ h => nomatch h)⟩) (EL208) rfl rfl dC fun b4 => tk_act rfl <| a_callv [] _ rfl kR rfl (fun w' hw' => of_spec (ps := [(v, l)]) (L := l) (Ro.cel (vs := [v]) hw' (.head _) rS rfl dC) (List.forall_mem_cons.2 ⟨(Ro.call (H0 := []) h1 hw'), (fun _ h => nomatch h)⟩) sI lenP lenP (hg.call hw')) rfl fun _ _ => ?_
  have hx64 : (hexL (sumL l)).length = 64 := by rw [hexL_len, sumL_len]
  exact tk_act rfl <| a_callv [] _ rfl kR rfl (fun w' hw' => text_spec (l := sumL l) sumL_len) rfl fun _ _ => s_q rfl (y_cutTh (l := hexL (sumL l)) (hi := 40) rfl rfl rfl oM) <| q_a rfl rfl <| s_n <| tk_retc <| tk_re 2 (Str ((hexL (sumL l)).take 40)) (Str (dgL l)) rfl (by unfold dgL; rfl) <| tk_ret (()) (trivial) (.inl rfl) (r1 rfl rfl) (List.nil_sublist _)
theorem pub_spec {s : Sh} {sb mb : Nat} {k : Int} {bv : Value} {nm b : List UInt8} {w : World} (hat : ShAt s k) (hk : k < 4611686018427387000) (hnl : nm.length < 4294967296) (hbl : b.length < 4294967296) (hb : Ro (Fs [cel sb ([Value.map (some mb), I (s.left), .bool s.off, I (s.made), I (s.room)]) 159, mapS mb (kvO s.obs), bag (s.obs.map (obR 5))]) w (rdB bv b)) (hg : Ro (Fs [cel sb ([Value.map (some mb), I (s.left), .bool s.off, I (s.made), I (s.room)]) 159, mapS mb (kvO s.obs), bag (s.obs.map (obR 5))]) w glob) (hh : Pre w [cel sb ([Value.map (some mb), I (s.left), .bool s.off, I (s.made), I (s.room)]) 159, mapS mb (kvO s.obs), bag (s.obs.map (obR 5))]) :
    Spec Tryz.prog 34 [PT sb, Str nm, bv] w [cel sb ([Value.map (some mb), I (s.left), .bool s.off, I (s.made), I (s.room)]) 159, mapS mb (kvO s.obs), bag (s.obs.map (obR 5))] (fun _ : Value => True) (fun x => I (((s.pub nm x b).2 : Nat) : Int)) (fun x => [cel sb ([Value.map (some mb), I ((s.pub nm x b).1.left), .bool ((s.pub nm x b).1.off), I ((s.pub nm x b).1.made), I ((s.pub nm x b).1.room)]) 159, mapS mb (kvO ((s.pub nm x b).1.obs)), bag (((s.pub nm x b).1.obs).map (obR 5))]) := by
  refine spec_of (n := 53) Tryz.func34 rfl rfl hh.1 hh.2 rfl ?_
  have hok := hat.ok oM
  have hat1 := at_del (a := drL nm) hat
  have hok1 : ShOk (s.del (drL nm)).1 := hat1.ok oM
  refine s_r <| q_a rfl rfl <| s_n <| tk_seq <| s_r <| q_m rfl rfl <| s_q rfl (y_pnil rfl rfl rfl) <| s_n <| tk_cond0 rfl <| tk_skip <| tk_then <| tk_seq <| s_r <| q_m rfl rfl <| tk_act rfl <| a_callv [] _ rfl kR rfl (fun w' hw' => isname_spec (l := nm) lenP) rfl fun _ _ => s_q rfl ((y_not rfl).cast (notdec _)) <| s_n <| tk_condP rfl (fun ht14 => ?_) (fun ht14 => ?_)
  · exact s_r <| q_a rfl rfl <| s_n <| tk_retc <| tk_then_ret <| tk_R (H1 := []) rfl (congrArg (fun z_ => cel sb z_ 159) (show [Value.map (some mb), I (s.left), .bool s.off, I (s.made), I (s.room)] = [Value.map (some mb), I ((s.pub nm (.slice none 0 0) b).1.left), .bool ((s.pub nm (.slice none 0 0) b).1.off), I ((s.pub nm (.slice none 0 0) b).1.made), I ((s.pub nm (.slice none 0 0) b).1.room)] from by rw [pub_nm ht14])) <| tk_R (H1 := [_]) rfl (show mapS mb (kvO s.obs) = mapS mb (kvO ((s.pub nm (.slice none 0 0) b).1.obs)) from by rw [pub_nm ht14]) <| tk_R (H1 := [_, _]) rfl (show bag (s.obs.map (obR 5)) = bag (((s.pub nm (.slice none 0 0) b).1.obs).map (obR 5)) from by rw [pub_nm ht14]) <| tk_re 6 (I 5) (I (((s.pub nm (.slice none 0 0) b).2 : Nat) : Int)) rfl (by rw [pub_nm ht14]; rfl) <| tk_ret ((.slice none 0 0)) (trivial) (.inl rfl) (r1 rfl rfl) (List.Sublist.refl _)
  · have hnm := Classical.not_not.1 ht14
    have hdl : (drL nm).length ≤ 42 := by unfold drL dgL; rw [List.length_append, List.length_take]; simp only [List.length_cons, List.length_nil]; omega
    have hdg : (dgL nm).length ≤ 40 := by unfold dgL; rw [List.length_take]; omega
    refine tk_skip <| tk_then <| s_r <| q_m rfl rfl <| tk_act rfl <| a_s2bO (l := nm) rfl rfl rfl rfl rfl (by simp only [maxLen]; first | omega | (simp; done) | (simp; omega)) fun v16 => tk_own1 (.head _) fun hfv16 => tk_act rfl <| a_callv [] _ rfl kR rfl (fun w' hw' => digest_spec (l := nm) (Ro.own (H0 := []) hw' (.head _)) lenP (hg.call hw')) rfl fun _ _ => s_q rfl (y_catT (l := [116, 47]) (m := dgL nm) rfl rfl lenP) <| tk_re 18 (Str ([116, 47] ++ (dgL nm))) (Str (drL nm)) rfl (rfl) <| q_a rfl rfl <| s_n <| tk_seq <| s_r <| q_m rfl rfl <| q_m rfl rfl <| tk_act rfl <| tk_ps [3, 3, 3] rfl <| a_callv [] _ rfl kR rfl (fun w' hw' => del_spec (s := s) (sb := sb) (mb := mb) (na := drL nm) hok  (St.pre hw')) rfl fun _ _ => q_a rfl rfl <| s_n <| s_r <| q_m rfl rfl ?_; refine tk_qs rfl rfl rfl (y_neq rfl rfl) (fun hs7_1 => ?_) (fun hs7_1 => ?_)
    · refine q_m rfl rfl <| s_g rfl (y_move rfl) <| s_g rfl (y_neq rfl rfl) <| s_q rfl (y_pick1 rfl rfl) <| s_n <| tk_condP rfl (fun ht27 => ?_) (fun ht27 => ?_)
      · exact s_r <| q_m rfl rfl <| q_a rfl rfl <| s_n <| tk_retc <| tk_then_ret <| tk_R (H1 := []) rfl (congrArg (fun z_ => cel sb z_ 159) (show [Value.map (some mb), I ((s.del (drL nm)).1.left), .bool ((s.del (drL nm)).1.off), I ((s.del (drL nm)).1.made), I ((s.del (drL nm)).1.room)] = [Value.map (some mb), I ((s.pub nm (.slice none 0 0) b).1.left), .bool ((s.pub nm (.slice none 0 0) b).1.off), I ((s.pub nm (.slice none 0 0) b).1.made), I ((s.pub nm (.slice none 0 0) b).1.room)] from by rw [show s.pub nm (.slice none 0 0) b = s.del (drL nm) from pub_d1 hnm ⟨by omega, by omega⟩])) <| tk_R (H1 := [_]) rfl (show mapS mb (kvO ((s.del (drL nm)).1.obs)) = mapS mb (kvO ((s.pub nm (.slice none 0 0) b).1.obs)) from by rw [show s.pub nm (.slice none 0 0) b = s.del (drL nm) from pub_d1 hnm ⟨by omega, by omega⟩]) <| tk_R (H1 := [_, _]) rfl (show bag (((s.del (drL nm)).1.obs).map (obR 5)) = bag (((s.pub nm (.slice none 0 0) b).1.obs).map (obR 5)) from by rw [show s.pub nm (.slice none 0 0) b = s.del (drL nm) from pub_d1 hnm ⟨by omega, by omega⟩]) <| tk_re 6 (I (((s.del (drL nm)).2 : Nat) : Int)) (I (((s.pub nm (.slice none 0 0) b).2 : Nat) : Int)) rfl (by rw [show s.pub nm (.slice none 0 0) b = s.del (drL nm) from pub_d1 hnm ⟨by omega, by omega⟩]) <| tk_ret ((.slice none 0 0)) (trivial) (.inl rfl) (r1 rfl rfl) (.cons_cons _ (.cons_cons _ (.cons_cons _ (List.nil_sublist _))))
      · refine tk_skip <| tk_then <| s_r <| q_m rfl rfl <| q_m rfl rfl <| q_m rfl rfl <| tk_act rfl <| a_slitN (vs := [bv]) rfl (List.forall_mem_cons.2 ⟨(RdS.one hb.1), (fun _ h => nomatch h)⟩) (EL208) rfl rfl dC fun b32 => tk_act rfl <| tk_ps [3, 3, 3] rfl <| a_callv [] _ rfl kR rfl (fun w' hw' => put_spec (s := (s.del (drL nm)).1) (sb := sb) (mb := mb) (nm := drL nm) (b := b) (ps := [(bv, b)]) hok1 lenP lenP (Ro.cel (vs := [bv]) hw' (.head _) rS rfl dC) (List.forall_mem_cons.2 ⟨(Ro.call hb hw'), (fun _ h => nomatch h)⟩) sI (St.pre hw')) rfl fun v33 _ => ?_
        have hat2 := at_put (nm := drL nm) (v := v33) (b := b) hat1
        have hok2 : ShOk ((s.del (drL nm)).1.put (drL nm) v33 b).1 := hat2.ok oM
        have hat3 := at_sync (a := drL nm) hat2
        have hok3 : ShOk (((s.del (drL nm)).1.put (drL nm) v33 b).1.sync1 (drL nm)).1 := hat3.ok oM
        have hat4 := at_ren (a := drL nm) (b := nm) hat3
        have hok4 : ShOk ((((s.del (drL nm)).1.put (drL nm) v33 b).1.sync1 (drL nm)).1.ren (drL nm) nm).1 := hat4.ok oM
        refine q_a rfl rfl <| s_n <| tk_seq <| s_r <| q_m rfl rfl <| s_q rfl (y_neq rfl rfl) <| s_n <| tk_condP rfl (fun ht35 => ?_) (fun ht35 => ?_)
        · exact s_r <| q_m rfl rfl <| q_a rfl rfl <| s_n <| tk_retc <| tk_then_ret <| tk_R (H1 := []) rfl (congrArg (fun z_ => cel sb z_ 159) (show [Value.map (some mb), I ((((s.del (drL nm)).1).put (drL nm) v33 b).1.left), .bool ((((s.del (drL nm)).1).put (drL nm) v33 b).1.off), I ((((s.del (drL nm)).1).put (drL nm) v33 b).1.made), I ((((s.del (drL nm)).1).put (drL nm) v33 b).1.room)] = [Value.map (some mb), I ((s.pub nm v33 b).1.left), .bool ((s.pub nm v33 b).1.off), I ((s.pub nm v33 b).1.made), I ((s.pub nm v33 b).1.room)] from by rw [show s.pub nm v33 b = ((s.del (drL nm)).1.put (drL nm) v33 b) from pub_d2 hnm (fun q => by omega) oM])) <| tk_R (H1 := [_]) rfl (show mapS mb (kvO ((((s.del (drL nm)).1).put (drL nm) v33 b).1.obs)) = mapS mb (kvO ((s.pub nm v33 b).1.obs)) from by rw [show s.pub nm v33 b = ((s.del (drL nm)).1.put (drL nm) v33 b) from pub_d2 hnm (fun q => by omega) oM]) <| tk_R (H1 := [_, _]) rfl (show bag (((((s.del (drL nm)).1).put (drL nm) v33 b).1.obs).map (obR 5)) = bag (((s.pub nm v33 b).1.obs).map (obR 5)) from by rw [show s.pub nm v33 b = ((s.del (drL nm)).1.put (drL nm) v33 b) from pub_d2 hnm (fun q => by omega) oM]) <| tk_re 6 (I (((((s.del (drL nm)).1).put (drL nm) v33 b).2 : Nat) : Int)) (I (((s.pub nm v33 b).2 : Nat) : Int)) rfl (by rw [show s.pub nm v33 b = ((s.del (drL nm)).1.put (drL nm) v33 b) from pub_d2 hnm (fun q => by omega) oM]) <| tk_ret (v33) (trivial) (.inl rfl) (r1 rfl rfl) (.cons_cons _ (.cons_cons _ (.cons_cons _ (List.nil_sublist _))))
        · refine tk_skip <| tk_then <| tk_seq <| s_r <| q_m rfl rfl <| q_m rfl rfl <| tk_act rfl <| a_slitN (vs := [Str (drL nm)]) rfl (List.forall_mem_cons.2 ⟨rfl, (fun _ h => nomatch h)⟩) (EL81) rfl rfl dC fun b39 => tk_act rfl <| tk_ps [3, 3, 3] rfl <| a_callv [] _ rfl kR rfl (fun w' hw' => sync_spec (s := (((s.del (drL nm)).1).put (drL nm) v33 b).1) (sb := sb) (mb := mb) (na := drL nm) hok2 (Ro.cel (vs := [drL nm].map Str) hw' (.head _) rS rfl dC) (St.pre hw')) rfl fun _ _ => q_a rfl rfl <| s_n <| s_r <| q_m rfl rfl <| s_q rfl (y_eql rfl rfl) <| s_n <| tk_condP rfl (fun ht42 => ?_) (fun ht42 => ?_)
          · refine tk_region <| q_m rfl rfl <| q_m rfl rfl <| q_m rfl rfl <| tk_act rfl <| a_callv [] _ rfl kR rfl (fun w' hw' => ren_spec (s := (((((s.del (drL nm)).1).put (drL nm) v33 b).1).sync1 (drL nm)).1) (sb := sb) (mb := mb) (na := drL nm) (nb := nm) hok3 lenP (St.pre hw')) rfl fun _ _ => q_a rfl rfl <| s_n <| tk_seq <| s_r <| q_m rfl rfl <| s_q rfl (y_neq rfl rfl) <| s_n <| tk_condP rfl (fun ht48 => ?_) (fun ht48 => ?_)
            · refine tk_region <| q_m rfl rfl <| q_m rfl rfl <| tk_act rfl <| a_callv [] _ rfl kR rfl (fun w' hw' => del_spec (s := (((((((s.del (drL nm)).1).put (drL nm) v33 b).1).sync1 (drL nm)).1).ren (drL nm) nm).1) (sb := sb) (mb := mb) (na := drL nm) (by first | exact hok4 | exact hok3)  (St.pre hw')) rfl fun _ _ => s_n <| s_r <| q_m rfl rfl <| q_a rfl rfl <| s_n <| tk_retc <| tk_R (H1 := []) rfl (congrArg (fun z_ => cel sb z_ 159) (show [Value.map (some mb), I ((((((((((s.del (drL nm)).1).put (drL nm) v33 b).1).sync1 (drL nm)).1).ren (drL nm) nm).1).del (drL nm)).1.left), .bool ((((((((((s.del (drL nm)).1).put (drL nm) v33 b).1).sync1 (drL nm)).1).ren (drL nm) nm).1).del (drL nm)).1.off), I ((((((((((s.del (drL nm)).1).put (drL nm) v33 b).1).sync1 (drL nm)).1).ren (drL nm) nm).1).del (drL nm)).1.made), I ((((((((((s.del (drL nm)).1).put (drL nm) v33 b).1).sync1 (drL nm)).1).ren (drL nm) nm).1).del (drL nm)).1.room)] = [Value.map (some mb), I ((s.pub nm v33 b).1.left), .bool ((s.pub nm v33 b).1.off), I ((s.pub nm v33 b).1.made), I ((s.pub nm v33 b).1.room)] from by rw [show s.pub nm v33 b = ((((((s.del (drL nm)).1.put (drL nm) v33 b).1.sync1 (drL nm)).1.ren (drL nm) nm).1.del (drL nm)).1, ((((s.del (drL nm)).1.put (drL nm) v33 b).1.sync1 (drL nm)).1.ren (drL nm) nm).2) from (pub_d3 hnm (fun q => by omega) oM).trans (pubK_2 oM oM)])) <| tk_R (H1 := [_]) rfl (show mapS mb (kvO ((((((((((s.del (drL nm)).1).put (drL nm) v33 b).1).sync1 (drL nm)).1).ren (drL nm) nm).1).del (drL nm)).1.obs)) = mapS mb (kvO ((s.pub nm v33 b).1.obs)) from by rw [show s.pub nm v33 b = ((((((s.del (drL nm)).1.put (drL nm) v33 b).1.sync1 (drL nm)).1.ren (drL nm) nm).1.del (drL nm)).1, ((((s.del (drL nm)).1.put (drL nm) v33 b).1.sync1 (drL nm)).1.ren (drL nm) nm).2) from (pub_d3 hnm (fun q => by omega) oM).trans (pubK_2 oM oM)]) <| tk_R (H1 := [_, _]) rfl (show bag (((((((((((s.del (drL nm)).1).put (drL nm) v33 b).1).sync1 (drL nm)).1).ren (drL nm) nm).1).del (drL nm)).1.obs).map (obR 5)) = bag (((s.pub nm v33 b).1.obs).map (obR 5)) from by rw [show s.pub nm v33 b = ((((((s.del (drL nm)).1.put (drL nm) v33 b).1.sync1 (drL nm)).1.ren (drL nm) nm).1.del (drL nm)).1, ((((s.del (drL nm)).1.put (drL nm) v33 b).1.sync1 (drL nm)).1.ren (drL nm) nm).2) from (pub_d3 hnm (fun q => by omega) oM).trans (pubK_2 oM oM)]) <| tk_re 6 (I (((((((((s.del (drL nm)).1).put (drL nm) v33 b).1).sync1 (drL nm)).1).ren (drL nm) nm).2 : Nat) : Int)) (I (((s.pub nm v33 b).2 : Nat) : Int)) rfl (by rw [show s.pub nm v33 b = ((((((s.del (drL nm)).1.put (drL nm) v33 b).1.sync1 (drL nm)).1.ren (drL nm) nm).1.del (drL nm)).1, ((((s.del (drL nm)).1.put (drL nm) v33 b).1.sync1 (drL nm)).1.ren (drL nm) nm).2) from (pub_d3 hnm (fun q => by omega) oM).trans (pubK_2 oM oM)]) ?_; exact tk_ret (v33) (trivial) (.inl rfl) (r1 rfl rfl) (.cons_cons _ (.cons_cons _ (.cons_cons _ (List.nil_sublist _))))
            · exact tk_skip <| tk_then <| s_r <| q_m rfl rfl <| q_a rfl rfl <| s_n <| tk_retc <| tk_R (H1 := []) rfl (congrArg (fun z_ => cel sb z_ 159) (show [Value.map (some mb), I ((((((((s.del (drL nm)).1).put (drL nm) v33 b).1).sync1 (drL nm)).1).ren (drL nm) nm).1.left), .bool ((((((((s.del (drL nm)).1).put (drL nm) v33 b).1).sync1 (drL nm)).1).ren (drL nm) nm).1.off), I ((((((((s.del (drL nm)).1).put (drL nm) v33 b).1).sync1 (drL nm)).1).ren (drL nm) nm).1.made), I ((((((((s.del (drL nm)).1).put (drL nm) v33 b).1).sync1 (drL nm)).1).ren (drL nm) nm).1.room)] = [Value.map (some mb), I ((s.pub nm v33 b).1.left), .bool ((s.pub nm v33 b).1.off), I ((s.pub nm v33 b).1.made), I ((s.pub nm v33 b).1.room)] from by rw [show s.pub nm v33 b = ((((s.del (drL nm)).1.put (drL nm) v33 b).1.sync1 (drL nm)).1.ren (drL nm) nm) from (pub_d3 hnm (fun q => by omega) oM).trans (pubK_3 oM oM)])) <| tk_R (H1 := [_]) rfl (show mapS mb (kvO ((((((((s.del (drL nm)).1).put (drL nm) v33 b).1).sync1 (drL nm)).1).ren (drL nm) nm).1.obs)) = mapS mb (kvO ((s.pub nm v33 b).1.obs)) from by rw [show s.pub nm v33 b = ((((s.del (drL nm)).1.put (drL nm) v33 b).1.sync1 (drL nm)).1.ren (drL nm) nm) from (pub_d3 hnm (fun q => by omega) oM).trans (pubK_3 oM oM)]) <| tk_R (H1 := [_, _]) rfl (show bag (((((((((s.del (drL nm)).1).put (drL nm) v33 b).1).sync1 (drL nm)).1).ren (drL nm) nm).1.obs).map (obR 5)) = bag (((s.pub nm v33 b).1.obs).map (obR 5)) from by rw [show s.pub nm v33 b = ((((s.del (drL nm)).1.put (drL nm) v33 b).1.sync1 (drL nm)).1.ren (drL nm) nm) from (pub_d3 hnm (fun q => by omega) oM).trans (pubK_3 oM oM)]) <| tk_re 6 (I (((((((((s.del (drL nm)).1).put (drL nm) v33 b).1).sync1 (drL nm)).1).ren (drL nm) nm).2 : Nat) : Int)) (I (((s.pub nm v33 b).2 : Nat) : Int)) rfl (by rw [show s.pub nm v33 b = ((((s.del (drL nm)).1.put (drL nm) v33 b).1.sync1 (drL nm)).1.ren (drL nm) nm) from (pub_d3 hnm (fun q => by omega) oM).trans (pubK_3 oM oM)]) <| tk_ret (v33) (trivial) (.inl rfl) (r1 rfl rfl) (.cons_cons _ (.cons_cons _ (.cons_cons _ (List.nil_sublist _))))
          · refine tk_skip <| tk_then <| tk_seq <| s_r <| q_m rfl rfl <| s_q rfl (y_neq rfl rfl) <| s_n <| tk_condP rfl (fun ht48 => ?_) (fun ht48 => ?_)
            · exact tk_region <| q_m rfl rfl <| q_m rfl rfl <| tk_act rfl <| a_callv [] _ rfl kR rfl (fun w' hw' => del_spec (s := (((((s.del (drL nm)).1).put (drL nm) v33 b).1).sync1 (drL nm)).1) (sb := sb) (mb := mb) (na := drL nm) (by first | exact hok4 | exact hok3)  (St.pre hw')) rfl fun _ _ => s_n <| s_r <| q_m rfl rfl <| q_a rfl rfl <| s_n <| tk_retc <| tk_R (H1 := []) rfl (congrArg (fun z_ => cel sb z_ 159) (show [Value.map (some mb), I ((((((((s.del (drL nm)).1).put (drL nm) v33 b).1).sync1 (drL nm)).1).del (drL nm)).1.left), .bool ((((((((s.del (drL nm)).1).put (drL nm) v33 b).1).sync1 (drL nm)).1).del (drL nm)).1.off), I ((((((((s.del (drL nm)).1).put (drL nm) v33 b).1).sync1 (drL nm)).1).del (drL nm)).1.made), I ((((((((s.del (drL nm)).1).put (drL nm) v33 b).1).sync1 (drL nm)).1).del (drL nm)).1.room)] = [Value.map (some mb), I ((s.pub nm v33 b).1.left), .bool ((s.pub nm v33 b).1.off), I ((s.pub nm v33 b).1.made), I ((s.pub nm v33 b).1.room)] from by rw [show s.pub nm v33 b = (((((s.del (drL nm)).1.put (drL nm) v33 b).1.sync1 (drL nm)).1.del (drL nm)).1, (((s.del (drL nm)).1.put (drL nm) v33 b).1.sync1 (drL nm)).2) from (pub_d3 hnm (fun q => by omega) oM).trans (pubK_1 oM)])) <| tk_R (H1 := [_]) rfl (show mapS mb (kvO ((((((((s.del (drL nm)).1).put (drL nm) v33 b).1).sync1 (drL nm)).1).del (drL nm)).1.obs)) = mapS mb (kvO ((s.pub nm v33 b).1.obs)) from by rw [show s.pub nm v33 b = (((((s.del (drL nm)).1.put (drL nm) v33 b).1.sync1 (drL nm)).1.del (drL nm)).1, (((s.del (drL nm)).1.put (drL nm) v33 b).1.sync1 (drL nm)).2) from (pub_d3 hnm (fun q => by omega) oM).trans (pubK_1 oM)]) <| tk_R (H1 := [_, _]) rfl (show bag (((((((((s.del (drL nm)).1).put (drL nm) v33 b).1).sync1 (drL nm)).1).del (drL nm)).1.obs).map (obR 5)) = bag (((s.pub nm v33 b).1.obs).map (obR 5)) from by rw [show s.pub nm v33 b = (((((s.del (drL nm)).1.put (drL nm) v33 b).1.sync1 (drL nm)).1.del (drL nm)).1, (((s.del (drL nm)).1.put (drL nm) v33 b).1.sync1 (drL nm)).2) from (pub_d3 hnm (fun q => by omega) oM).trans (pubK_1 oM)]) <| tk_re 6 (I (((((((s.del (drL nm)).1).put (drL nm) v33 b).1).sync1 (drL nm)).2 : Nat) : Int)) (I (((s.pub nm v33 b).2 : Nat) : Int)) rfl (by rw [show s.pub nm v33 b = (((((s.del (drL nm)).1.put (drL nm) v33 b).1.sync1 (drL nm)).1.del (drL nm)).1, (((s.del (drL nm)).1.put (drL nm) v33 b).1.sync1 (drL nm)).2) from (pub_d3 hnm (fun q => by omega) oM).trans (pubK_1 oM)]) <| tk_ret (v33) (trivial) (.inl rfl) (r1 rfl rfl) (.cons_cons _ (.cons_cons _ (.cons_cons _ (List.nil_sublist _))))
            · exact tk_skip <| tk_then <| s_r <| q_m rfl rfl <| q_a rfl rfl <| s_n <| tk_retc <| tk_R (H1 := []) rfl (congrArg (fun z_ => cel sb z_ 159) (show [Value.map (some mb), I ((((((s.del (drL nm)).1).put (drL nm) v33 b).1).sync1 (drL nm)).1.left), .bool ((((((s.del (drL nm)).1).put (drL nm) v33 b).1).sync1 (drL nm)).1.off), I ((((((s.del (drL nm)).1).put (drL nm) v33 b).1).sync1 (drL nm)).1.made), I ((((((s.del (drL nm)).1).put (drL nm) v33 b).1).sync1 (drL nm)).1.room)] = [Value.map (some mb), I ((s.pub nm v33 b).1.left), .bool ((s.pub nm v33 b).1.off), I ((s.pub nm v33 b).1.made), I ((s.pub nm v33 b).1.room)] from by rw [show s.pub nm v33 b = (((s.del (drL nm)).1.put (drL nm) v33 b).1.sync1 (drL nm)) from (pub_d3 hnm (fun q => by omega) oM).trans (absurd (show ((((s.del (drL nm)).1.put (drL nm) v33 b).1.sync1 (drL nm)).2) = 0 by omega) oM)])) <| tk_R (H1 := [_]) rfl (show mapS mb (kvO ((((((s.del (drL nm)).1).put (drL nm) v33 b).1).sync1 (drL nm)).1.obs)) = mapS mb (kvO ((s.pub nm v33 b).1.obs)) from by rw [show s.pub nm v33 b = (((s.del (drL nm)).1.put (drL nm) v33 b).1.sync1 (drL nm)) from (pub_d3 hnm (fun q => by omega) oM).trans (absurd (show ((((s.del (drL nm)).1.put (drL nm) v33 b).1.sync1 (drL nm)).2) = 0 by omega) oM)]) <| tk_R (H1 := [_, _]) rfl (show bag (((((((s.del (drL nm)).1).put (drL nm) v33 b).1).sync1 (drL nm)).1.obs).map (obR 5)) = bag (((s.pub nm v33 b).1.obs).map (obR 5)) from by rw [show s.pub nm v33 b = (((s.del (drL nm)).1.put (drL nm) v33 b).1.sync1 (drL nm)) from (pub_d3 hnm (fun q => by omega) oM).trans (absurd (show ((((s.del (drL nm)).1.put (drL nm) v33 b).1.sync1 (drL nm)).2) = 0 by omega) oM)]) <| tk_re 6 (I (((((((s.del (drL nm)).1).put (drL nm) v33 b).1).sync1 (drL nm)).2 : Nat) : Int)) (I (((s.pub nm v33 b).2 : Nat) : Int)) rfl (by rw [show s.pub nm v33 b = (((s.del (drL nm)).1.put (drL nm) v33 b).1.sync1 (drL nm)) from (pub_d3 hnm (fun q => by omega) oM).trans (absurd (show ((((s.del (drL nm)).1.put (drL nm) v33 b).1.sync1 (drL nm)).2) = 0 by omega) oM)]) <| tk_ret (v33) (trivial) (.inl rfl) (r1 rfl rfl) (.cons_cons _ (.cons_cons _ (.cons_cons _ (List.nil_sublist _))))
    · refine q_m rfl rfl <| tk_gno rfl rfl rfl <| tk_gno rfl rfl rfl <| s_q rfl (y_pick0 rfl rfl) <| s_n <| tk_cond0 rfl <| tk_skip <| tk_then <| s_r <| q_m rfl rfl <| q_m rfl rfl <| q_m rfl rfl <| tk_act rfl <| a_slitN (vs := [bv]) rfl (List.forall_mem_cons.2 ⟨(RdS.one hb.1), (fun _ h => nomatch h)⟩) (EL208) rfl rfl dC fun b32 => tk_act rfl <| tk_ps [3, 3, 3] rfl <| a_callv [] _ rfl kR rfl (fun w' hw' => put_spec (s := (s.del (drL nm)).1) (sb := sb) (mb := mb) (nm := drL nm) (b := b) (ps := [(bv, b)]) hok1 lenP lenP (Ro.cel (vs := [bv]) hw' (.head _) rS rfl dC) (List.forall_mem_cons.2 ⟨(Ro.call hb hw'), (fun _ h => nomatch h)⟩) sI (St.pre hw')) rfl fun v33 _ => ?_
      have hat2 := at_put (nm := drL nm) (v := v33) (b := b) hat1
      have hok2 : ShOk ((s.del (drL nm)).1.put (drL nm) v33 b).1 := hat2.ok oM
      have hat3 := at_sync (a := drL nm) hat2
      have hok3 : ShOk (((s.del (drL nm)).1.put (drL nm) v33 b).1.sync1 (drL nm)).1 := hat3.ok oM
      have hat4 := at_ren (a := drL nm) (b := nm) hat3
      have hok4 : ShOk ((((s.del (drL nm)).1.put (drL nm) v33 b).1.sync1 (drL nm)).1.ren (drL nm) nm).1 := hat4.ok oM
      refine q_a rfl rfl <| s_n <| tk_seq <| s_r <| q_m rfl rfl <| s_q rfl (y_neq rfl rfl) <| s_n <| tk_condP rfl (fun ht35 => ?_) (fun ht35 => ?_)
      · exact s_r <| q_m rfl rfl <| q_a rfl rfl <| s_n <| tk_retc <| tk_then_ret <| tk_R (H1 := []) rfl (congrArg (fun z_ => cel sb z_ 159) (show [Value.map (some mb), I ((((s.del (drL nm)).1).put (drL nm) v33 b).1.left), .bool ((((s.del (drL nm)).1).put (drL nm) v33 b).1.off), I ((((s.del (drL nm)).1).put (drL nm) v33 b).1.made), I ((((s.del (drL nm)).1).put (drL nm) v33 b).1.room)] = [Value.map (some mb), I ((s.pub nm v33 b).1.left), .bool ((s.pub nm v33 b).1.off), I ((s.pub nm v33 b).1.made), I ((s.pub nm v33 b).1.room)] from by rw [show s.pub nm v33 b = ((s.del (drL nm)).1.put (drL nm) v33 b) from pub_d2 hnm (fun q => by omega) oM])) <| tk_R (H1 := [_]) rfl (show mapS mb (kvO ((((s.del (drL nm)).1).put (drL nm) v33 b).1.obs)) = mapS mb (kvO ((s.pub nm v33 b).1.obs)) from by rw [show s.pub nm v33 b = ((s.del (drL nm)).1.put (drL nm) v33 b) from pub_d2 hnm (fun q => by omega) oM]) <| tk_R (H1 := [_, _]) rfl (show bag (((((s.del (drL nm)).1).put (drL nm) v33 b).1.obs).map (obR 5)) = bag (((s.pub nm v33 b).1.obs).map (obR 5)) from by rw [show s.pub nm v33 b = ((s.del (drL nm)).1.put (drL nm) v33 b) from pub_d2 hnm (fun q => by omega) oM]) <| tk_re 6 (I (((((s.del (drL nm)).1).put (drL nm) v33 b).2 : Nat) : Int)) (I (((s.pub nm v33 b).2 : Nat) : Int)) rfl (by rw [show s.pub nm v33 b = ((s.del (drL nm)).1.put (drL nm) v33 b) from pub_d2 hnm (fun q => by omega) oM]) <| tk_ret (v33) (trivial) (.inl rfl) (r1 rfl rfl) (.cons_cons _ (.cons_cons _ (.cons_cons _ (List.nil_sublist _))))
      · refine tk_skip <| tk_then <| tk_seq <| s_r <| q_m rfl rfl <| q_m rfl rfl <| tk_act rfl <| a_slitN (vs := [Str (drL nm)]) rfl (List.forall_mem_cons.2 ⟨rfl, (fun _ h => nomatch h)⟩) (EL81) rfl rfl dC fun b39 => tk_act rfl <| tk_ps [3, 3, 3] rfl <| a_callv [] _ rfl kR rfl (fun w' hw' => sync_spec (s := (((s.del (drL nm)).1).put (drL nm) v33 b).1) (sb := sb) (mb := mb) (na := drL nm) hok2 (Ro.cel (vs := [drL nm].map Str) hw' (.head _) rS rfl dC) (St.pre hw')) rfl fun _ _ => q_a rfl rfl <| s_n <| s_r <| q_m rfl rfl <| s_q rfl (y_eql rfl rfl) <| s_n <| tk_condP rfl (fun ht42 => ?_) (fun ht42 => ?_)
        · refine tk_region <| q_m rfl rfl <| q_m rfl rfl <| q_m rfl rfl <| tk_act rfl <| a_callv [] _ rfl kR rfl (fun w' hw' => ren_spec (s := (((((s.del (drL nm)).1).put (drL nm) v33 b).1).sync1 (drL nm)).1) (sb := sb) (mb := mb) (na := drL nm) (nb := nm) hok3 lenP (St.pre hw')) rfl fun _ _ => q_a rfl rfl <| s_n <| tk_seq <| s_r <| q_m rfl rfl <| s_q rfl (y_neq rfl rfl) <| s_n <| tk_condP rfl (fun ht48 => ?_) (fun ht48 => ?_)
          · refine tk_region <| q_m rfl rfl <| q_m rfl rfl <| tk_act rfl <| a_callv [] _ rfl kR rfl (fun w' hw' => del_spec (s := (((((((s.del (drL nm)).1).put (drL nm) v33 b).1).sync1 (drL nm)).1).ren (drL nm) nm).1) (sb := sb) (mb := mb) (na := drL nm) (by first | exact hok4 | exact hok3)  (St.pre hw')) rfl fun _ _ => s_n <| s_r <| q_m rfl rfl <| q_a rfl rfl <| s_n <| tk_retc <| tk_R (H1 := []) rfl (congrArg (fun z_ => cel sb z_ 159) (show [Value.map (some mb), I ((((((((((s.del (drL nm)).1).put (drL nm) v33 b).1).sync1 (drL nm)).1).ren (drL nm) nm).1).del (drL nm)).1.left), .bool ((((((((((s.del (drL nm)).1).put (drL nm) v33 b).1).sync1 (drL nm)).1).ren (drL nm) nm).1).del (drL nm)).1.off), I ((((((((((s.del (drL nm)).1).put (drL nm) v33 b).1).sync1 (drL nm)).1).ren (drL nm) nm).1).del (drL nm)).1.made), I ((((((((((s.del (drL nm)).1).put (drL nm) v33 b).1).sync1 (drL nm)).1).ren (drL nm) nm).1).del (drL nm)).1.room)] = [Value.map (some mb), I ((s.pub nm v33 b).1.left), .bool ((s.pub nm v33 b).1.off), I ((s.pub nm v33 b).1.made), I ((s.pub nm v33 b).1.room)] from by rw [show s.pub nm v33 b = ((((((s.del (drL nm)).1.put (drL nm) v33 b).1.sync1 (drL nm)).1.ren (drL nm) nm).1.del (drL nm)).1, ((((s.del (drL nm)).1.put (drL nm) v33 b).1.sync1 (drL nm)).1.ren (drL nm) nm).2) from (pub_d3 hnm (fun q => by omega) oM).trans (pubK_2 oM oM)])) <| tk_R (H1 := [_]) rfl (show mapS mb (kvO ((((((((((s.del (drL nm)).1).put (drL nm) v33 b).1).sync1 (drL nm)).1).ren (drL nm) nm).1).del (drL nm)).1.obs)) = mapS mb (kvO ((s.pub nm v33 b).1.obs)) from by rw [show s.pub nm v33 b = ((((((s.del (drL nm)).1.put (drL nm) v33 b).1.sync1 (drL nm)).1.ren (drL nm) nm).1.del (drL nm)).1, ((((s.del (drL nm)).1.put (drL nm) v33 b).1.sync1 (drL nm)).1.ren (drL nm) nm).2) from (pub_d3 hnm (fun q => by omega) oM).trans (pubK_2 oM oM)]) <| tk_R (H1 := [_, _]) rfl (show bag (((((((((((s.del (drL nm)).1).put (drL nm) v33 b).1).sync1 (drL nm)).1).ren (drL nm) nm).1).del (drL nm)).1.obs).map (obR 5)) = bag (((s.pub nm v33 b).1.obs).map (obR 5)) from by rw [show s.pub nm v33 b = ((((((s.del (drL nm)).1.put (drL nm) v33 b).1.sync1 (drL nm)).1.ren (drL nm) nm).1.del (drL nm)).1, ((((s.del (drL nm)).1.put (drL nm) v33 b).1.sync1 (drL nm)).1.ren (drL nm) nm).2) from (pub_d3 hnm (fun q => by omega) oM).trans (pubK_2 oM oM)]) <| tk_re 6 (I (((((((((s.del (drL nm)).1).put (drL nm) v33 b).1).sync1 (drL nm)).1).ren (drL nm) nm).2 : Nat) : Int)) (I (((s.pub nm v33 b).2 : Nat) : Int)) rfl (by rw [show s.pub nm v33 b = ((((((s.del (drL nm)).1.put (drL nm) v33 b).1.sync1 (drL nm)).1.ren (drL nm) nm).1.del (drL nm)).1, ((((s.del (drL nm)).1.put (drL nm) v33 b).1.sync1 (drL nm)).1.ren (drL nm) nm).2) from (pub_d3 hnm (fun q => by omega) oM).trans (pubK_2 oM oM)]) ?_; exact tk_ret (v33) (trivial) (.inl rfl) (r1 rfl rfl) (.cons_cons _ (.cons_cons _ (.cons_cons _ (List.nil_sublist _))))
          · exact tk_skip <| tk_then <| s_r <| q_m rfl rfl <| q_a rfl rfl <| s_n <| tk_retc <| tk_R (H1 := []) rfl (congrArg (fun z_ => cel sb z_ 159) (show [Value.map (some mb), I ((((((((s.del (drL nm)).1).put (drL nm) v33 b).1).sync1 (drL nm)).1).ren (drL nm) nm).1.left), .bool ((((((((s.del (drL nm)).1).put (drL nm) v33 b).1).sync1 (drL nm)).1).ren (drL nm) nm).1.off), I ((((((((s.del (drL nm)).1).put (drL nm) v33 b).1).sync1 (drL nm)).1).ren (drL nm) nm).1.made), I ((((((((s.del (drL nm)).1).put (drL nm) v33 b).1).sync1 (drL nm)).1).ren (drL nm) nm).1.room)] = [Value.map (some mb), I ((s.pub nm v33 b).1.left), .bool ((s.pub nm v33 b).1.off), I ((s.pub nm v33 b).1.made), I ((s.pub nm v33 b).1.room)] from by rw [show s.pub nm v33 b = ((((s.del (drL nm)).1.put (drL nm) v33 b).1.sync1 (drL nm)).1.ren (drL nm) nm) from (pub_d3 hnm (fun q => by omega) oM).trans (pubK_3 oM oM)])) <| tk_R (H1 := [_]) rfl (show mapS mb (kvO ((((((((s.del (drL nm)).1).put (drL nm) v33 b).1).sync1 (drL nm)).1).ren (drL nm) nm).1.obs)) = mapS mb (kvO ((s.pub nm v33 b).1.obs)) from by rw [show s.pub nm v33 b = ((((s.del (drL nm)).1.put (drL nm) v33 b).1.sync1 (drL nm)).1.ren (drL nm) nm) from (pub_d3 hnm (fun q => by omega) oM).trans (pubK_3 oM oM)]) <| tk_R (H1 := [_, _]) rfl (show bag (((((((((s.del (drL nm)).1).put (drL nm) v33 b).1).sync1 (drL nm)).1).ren (drL nm) nm).1.obs).map (obR 5)) = bag (((s.pub nm v33 b).1.obs).map (obR 5)) from by rw [show s.pub nm v33 b = ((((s.del (drL nm)).1.put (drL nm) v33 b).1.sync1 (drL nm)).1.ren (drL nm) nm) from (pub_d3 hnm (fun q => by omega) oM).trans (pubK_3 oM oM)]) <| tk_re 6 (I (((((((((s.del (drL nm)).1).put (drL nm) v33 b).1).sync1 (drL nm)).1).ren (drL nm) nm).2 : Nat) : Int)) (I (((s.pub nm v33 b).2 : Nat) : Int)) rfl (by rw [show s.pub nm v33 b = ((((s.del (drL nm)).1.put (drL nm) v33 b).1.sync1 (drL nm)).1.ren (drL nm) nm) from (pub_d3 hnm (fun q => by omega) oM).trans (pubK_3 oM oM)]) <| tk_ret (v33) (trivial) (.inl rfl) (r1 rfl rfl) (.cons_cons _ (.cons_cons _ (.cons_cons _ (List.nil_sublist _))))
        · refine tk_skip <| tk_then <| tk_seq <| s_r <| q_m rfl rfl <| s_q rfl (y_neq rfl rfl) <| s_n <| tk_condP rfl (fun ht48 => ?_) (fun ht48 => ?_)
          · exact tk_region <| q_m rfl rfl <| q_m rfl rfl <| tk_act rfl <| a_callv [] _ rfl kR rfl (fun w' hw' => del_spec (s := (((((s.del (drL nm)).1).put (drL nm) v33 b).1).sync1 (drL nm)).1) (sb := sb) (mb := mb) (na := drL nm) (by first | exact hok4 | exact hok3)  (St.pre hw')) rfl fun _ _ => s_n <| s_r <| q_m rfl rfl <| q_a rfl rfl <| s_n <| tk_retc <| tk_R (H1 := []) rfl (congrArg (fun z_ => cel sb z_ 159) (show [Value.map (some mb), I ((((((((s.del (drL nm)).1).put (drL nm) v33 b).1).sync1 (drL nm)).1).del (drL nm)).1.left), .bool ((((((((s.del (drL nm)).1).put (drL nm) v33 b).1).sync1 (drL nm)).1).del (drL nm)).1.off), I ((((((((s.del (drL nm)).1).put (drL nm) v33 b).1).sync1 (drL nm)).1).del (drL nm)).1.made), I ((((((((s.del (drL nm)).1).put (drL nm) v33 b).1).sync1 (drL nm)).1).del (drL nm)).1.room)] = [Value.map (some mb), I ((s.pub nm v33 b).1.left), .bool ((s.pub nm v33 b).1.off), I ((s.pub nm v33 b).1.made), I ((s.pub nm v33 b).1.room)] from by rw [show s.pub nm v33 b = (((((s.del (drL nm)).1.put (drL nm) v33 b).1.sync1 (drL nm)).1.del (drL nm)).1, (((s.del (drL nm)).1.put (drL nm) v33 b).1.sync1 (drL nm)).2) from (pub_d3 hnm (fun q => by omega) oM).trans (pubK_1 oM)])) <| tk_R (H1 := [_]) rfl (show mapS mb (kvO ((((((((s.del (drL nm)).1).put (drL nm) v33 b).1).sync1 (drL nm)).1).del (drL nm)).1.obs)) = mapS mb (kvO ((s.pub nm v33 b).1.obs)) from by rw [show s.pub nm v33 b = (((((s.del (drL nm)).1.put (drL nm) v33 b).1.sync1 (drL nm)).1.del (drL nm)).1, (((s.del (drL nm)).1.put (drL nm) v33 b).1.sync1 (drL nm)).2) from (pub_d3 hnm (fun q => by omega) oM).trans (pubK_1 oM)]) <| tk_R (H1 := [_, _]) rfl (show bag (((((((((s.del (drL nm)).1).put (drL nm) v33 b).1).sync1 (drL nm)).1).del (drL nm)).1.obs).map (obR 5)) = bag (((s.pub nm v33 b).1.obs).map (obR 5)) from by rw [show s.pub nm v33 b = (((((s.del (drL nm)).1.put (drL nm) v33 b).1.sync1 (drL nm)).1.del (drL nm)).1, (((s.del (drL nm)).1.put (drL nm) v33 b).1.sync1 (drL nm)).2) from (pub_d3 hnm (fun q => by omega) oM).trans (pubK_1 oM)]) <| tk_re 6 (I (((((((s.del (drL nm)).1).put (drL nm) v33 b).1).sync1 (drL nm)).2 : Nat) : Int)) (I (((s.pub nm v33 b).2 : Nat) : Int)) rfl (by rw [show s.pub nm v33 b = (((((s.del (drL nm)).1.put (drL nm) v33 b).1.sync1 (drL nm)).1.del (drL nm)).1, (((s.del (drL nm)).1.put (drL nm) v33 b).1.sync1 (drL nm)).2) from (pub_d3 hnm (fun q => by omega) oM).trans (pubK_1 oM)]) <| tk_ret (v33) (trivial) (.inl rfl) (r1 rfl rfl) (.cons_cons _ (.cons_cons _ (.cons_cons _ (List.nil_sublist _))))
          · exact tk_skip <| tk_then <| s_r <| q_m rfl rfl <| q_a rfl rfl <| s_n <| tk_retc <| tk_R (H1 := []) rfl (congrArg (fun z_ => cel sb z_ 159) (show [Value.map (some mb), I ((((((s.del (drL nm)).1).put (drL nm) v33 b).1).sync1 (drL nm)).1.left), .bool ((((((s.del (drL nm)).1).put (drL nm) v33 b).1).sync1 (drL nm)).1.off), I ((((((s.del (drL nm)).1).put (drL nm) v33 b).1).sync1 (drL nm)).1.made), I ((((((s.del (drL nm)).1).put (drL nm) v33 b).1).sync1 (drL nm)).1.room)] = [Value.map (some mb), I ((s.pub nm v33 b).1.left), .bool ((s.pub nm v33 b).1.off), I ((s.pub nm v33 b).1.made), I ((s.pub nm v33 b).1.room)] from by rw [show s.pub nm v33 b = (((s.del (drL nm)).1.put (drL nm) v33 b).1.sync1 (drL nm)) from (pub_d3 hnm (fun q => by omega) oM).trans (absurd (show ((((s.del (drL nm)).1.put (drL nm) v33 b).1.sync1 (drL nm)).2) = 0 by omega) oM)])) <| tk_R (H1 := [_]) rfl (show mapS mb (kvO ((((((s.del (drL nm)).1).put (drL nm) v33 b).1).sync1 (drL nm)).1.obs)) = mapS mb (kvO ((s.pub nm v33 b).1.obs)) from by rw [show s.pub nm v33 b = (((s.del (drL nm)).1.put (drL nm) v33 b).1.sync1 (drL nm)) from (pub_d3 hnm (fun q => by omega) oM).trans (absurd (show ((((s.del (drL nm)).1.put (drL nm) v33 b).1.sync1 (drL nm)).2) = 0 by omega) oM)]) <| tk_R (H1 := [_, _]) rfl (show bag (((((((s.del (drL nm)).1).put (drL nm) v33 b).1).sync1 (drL nm)).1.obs).map (obR 5)) = bag (((s.pub nm v33 b).1.obs).map (obR 5)) from by rw [show s.pub nm v33 b = (((s.del (drL nm)).1.put (drL nm) v33 b).1.sync1 (drL nm)) from (pub_d3 hnm (fun q => by omega) oM).trans (absurd (show ((((s.del (drL nm)).1.put (drL nm) v33 b).1.sync1 (drL nm)).2) = 0 by omega) oM)]) <| tk_re 6 (I (((((((s.del (drL nm)).1).put (drL nm) v33 b).1).sync1 (drL nm)).2 : Nat) : Int)) (I (((s.pub nm v33 b).2 : Nat) : Int)) rfl (by rw [show s.pub nm v33 b = (((s.del (drL nm)).1.put (drL nm) v33 b).1.sync1 (drL nm)) from (pub_d3 hnm (fun q => by omega) oM).trans (absurd (show ((((s.del (drL nm)).1.put (drL nm) v33 b).1.sync1 (drL nm)).2) = 0 by omega) oM)]) <| tk_ret (v33) (trivial) (.inl rfl) (r1 rfl rfl) (.cons_cons _ (.cons_cons _ (.cons_cons _ (List.nil_sublist _))))
end Go.Proofs.YtnhpghhibcdklaaGreatDoor
set_option linter.unusedSimpArgs false
set_option linter.unusedVariables false
namespace Go.Proofs.YtnhpghhibcdklaaGreatDoor
open Go Go.RowKit Go.MapKept
end Go.Proofs.YtnhpghhibcdklaaGreatDoor
namespace Go.Proofs.YtnhpghhibcdklaaGreatDoor
open Go Go.RowKit Go.Maps Go.Sort Go.Shelf
set_option maxRecDepth 100000
theorem Fo_below {E : Nat → Prop} {w w' : World} (h : Go.RowKit.Below w.heap.size w w') : Fo E w w' := ⟨h.os, h.tape, h.output, h.size, fun k hk _ => h.block k hk⟩
end Go.Proofs.YtnhpghhibcdklaaGreatDoor
namespace Go.Proofs.YtnhpghhibcdklaaGreatDoor
open Go Go.RowKit Go.Shelf
set_option maxRecDepth 100000
def laysItoa_ren : Go.Shelf.Ren := ⟨fun | 171 => 105 | 243 => 191 | 246 => 264 | 283 => 319 | 284 => 320 | 285 => 321 | 286 => 322 | 129 => 294 | 317 => 365 | 318 => 366 | 319 => 367 | 320 => 368 | 337 => 384 | 338 => 385 | n => n, fun | 3 => 3 | 9 => 9 | 2 => 2 | 4 => 4 | 171 => 471 | 0 => 0 | 53 => 79 | 37 => 64 | 5 => 5 | 173 => 473 | 212 => 511 | 51 => 213 | 20 => 20 | 213 => 512 | 46 => 326 | 232 => 28 | 233 => 215 | n => n, fun | 17 => 5 | 18 => 6 | 19 => 7 | n => n⟩
theorem laysItoa : Go.Proofs.Lays.n171 Tryz.prog laysItoa_ren := {
  mixed := by kernel_rfl
  f129 := Tryz.func294.trans (congrArg some (by kernel_rfl))
  f171 := Tryz.func105.trans (congrArg some (by kernel_rfl))
  f243 := Tryz.func191.trans (congrArg some (by kernel_rfl))
  f246 := Tryz.func264.trans (congrArg some (by kernel_rfl))
  f283 := Tryz.func319.trans (congrArg some (by kernel_rfl))
  f284 := Tryz.func320.trans (congrArg some (by kernel_rfl))
  f285 := Tryz.func321.trans (congrArg some (by kernel_rfl))
  f286 := Tryz.func322.trans (congrArg some (by kernel_rfl))
  f317 := Tryz.func365.trans (congrArg some (by kernel_rfl))
  f318 := Tryz.func366.trans (congrArg some (by kernel_rfl))
  f319 := Tryz.func367.trans (congrArg some (by kernel_rfl))
  f320 := Tryz.func368.trans (congrArg some (by kernel_rfl))
  f337 := Tryz.func384.trans (congrArg some (by kernel_rfl))
  f338 := Tryz.func385.trans (congrArg some (by kernel_rfl))
  t0 := Tryz.underlying0
  a0 := Tryz.isAgg0
  z0 := Tryz.sizeOf0
  v0 := Tryz.zeroValue0
  t2 := Tryz.underlying2
  a2 := Tryz.isAgg2
  z2 := Tryz.sizeOf2
  v2 := Tryz.zeroValue2
  t3 := Tryz.underlying3
  a3 := Tryz.isAgg3
  z3 := Tryz.sizeOf3
  v3 := Tryz.zeroValue3
  t4 := Tryz.underlying4
  a4 := Tryz.isAgg4
  z4 := Tryz.sizeOf4
  v4 := Tryz.zeroValue4
  t5 := Tryz.underlying5
  a5 := Tryz.isAgg5
  z5 := Tryz.sizeOf5
  v5 := Tryz.zeroValue5
  t9 := Tryz.underlying9
  a9 := Tryz.isAgg9
  z9 := Tryz.sizeOf9
  v9 := Tryz.zeroValue9
  t20 := Tryz.underlying20
  a20 := Tryz.isAgg20
  z20 := Tryz.sizeOf20
  v20 := Tryz.zeroValue20
  t37 := Tryz.underlying64
  a37 := Tryz.isAgg64
  z37 := Tryz.sizeOf64
  v37 := Tryz.zeroValue64
  t46 := Tryz.underlying326
  a46 := Tryz.isAgg326
  z46 := Tryz.sizeOf326
  v46 := Tryz.zeroValue326
  t51 := Tryz.underlying213
  a51 := Tryz.isAgg213
  z51 := Tryz.sizeOf213
  v51 := Tryz.zeroValue213
  t53 := Tryz.underlying79
  a53 := Tryz.isAgg79
  z53 := Tryz.sizeOf79
  v53 := Tryz.zeroValue79
  t171 := Tryz.underlying471
  a171 := Tryz.isAgg471
  z171 := Tryz.sizeOf471
  v171 := Tryz.zeroValue471
  t173 := Tryz.underlying473
  a173 := Tryz.isAgg473
  z173 := Tryz.sizeOf473
  v173 := Tryz.zeroValue473
  t212 := Tryz.underlying511
  a212 := Tryz.isAgg511
  z212 := Tryz.sizeOf511
  v212 := Tryz.zeroValue511
  t213 := Tryz.underlying512
  a213 := Tryz.isAgg512
  z213 := Tryz.sizeOf512
  t232 := Tryz.underlying28
  a232 := Tryz.isAgg28
  z232 := Tryz.sizeOf28
  v232 := Tryz.zeroValue28
  t233 := Tryz.underlying215
  a233 := Tryz.isAgg215
  z233 := Tryz.sizeOf215
  v233 := Tryz.zeroValue215
  g17 := by kernel_rfl
  g18 := by kernel_rfl
  g19 := by kernel_rfl }

def laysRep_ren : Go.Shelf.Ren := ⟨fun | 105 => 106 | 212 => 192 | 99 => 74 | 165 => 193 | 166 => 194 | 170 => 195 | 169 => 196 | 263 => 265 | 264 => 266 | 206 => 134 | 240 => 267 | 241 => 268 | 276 => 323 | 277 => 324 | n => n, fun | 9 => 9 | 3 => 3 | 4 => 4 | 20 => 20 | 0 => 0 | 46 => 326 | 109 => 327 | 5 => 5 | 72 => 331 | 76 => 334 | 51 => 213 | 146 => 417 | 53 => 79 | 148 => 419 | 70 => 329 | 37 => 64 | 75 => 333 | 127 => 421 | 164 => 475 | 80 => 336 | n => n, fun | n => n⟩
theorem laysRep : Go.Proofs.Lays.n105 Tryz.prog laysRep_ren := {
  mixed := by kernel_rfl
  f99 := Tryz.func74.trans (congrArg some (by kernel_rfl))
  f105 := Tryz.func106.trans (congrArg some (by kernel_rfl))
  f165 := Tryz.func193.trans (congrArg some (by kernel_rfl))
  f166 := Tryz.func194.trans (congrArg some (by kernel_rfl))
  f169 := Tryz.func196.trans (congrArg some (by kernel_rfl))
  f170 := Tryz.func195.trans (congrArg some (by kernel_rfl))
  f206 := Tryz.func134.trans (congrArg some (by kernel_rfl))
  f212 := Tryz.func192.trans (congrArg some (by kernel_rfl))
  f240 := Tryz.func267.trans (congrArg some (by kernel_rfl))
  f241 := Tryz.func268.trans (congrArg some (by kernel_rfl))
  f263 := Tryz.func265.trans (congrArg some (by kernel_rfl))
  f264 := Tryz.func266.trans (congrArg some (by kernel_rfl))
  f276 := Tryz.func323.trans (congrArg some (by kernel_rfl))
  f277 := Tryz.func324.trans (congrArg some (by kernel_rfl))
  t0 := Tryz.underlying0
  a0 := Tryz.isAgg0
  z0 := Tryz.sizeOf0
  v0 := Tryz.zeroValue0
  t3 := Tryz.underlying3
  a3 := Tryz.isAgg3
  z3 := Tryz.sizeOf3
  v3 := Tryz.zeroValue3
  t4 := Tryz.underlying4
  a4 := Tryz.isAgg4
  z4 := Tryz.sizeOf4
  v4 := Tryz.zeroValue4
  t5 := Tryz.underlying5
  a5 := Tryz.isAgg5
  z5 := Tryz.sizeOf5
  v5 := Tryz.zeroValue5
  t9 := Tryz.underlying9
  a9 := Tryz.isAgg9
  z9 := Tryz.sizeOf9
  v9 := Tryz.zeroValue9
  t20 := Tryz.underlying20
  a20 := Tryz.isAgg20
  z20 := Tryz.sizeOf20
  v20 := Tryz.zeroValue20
  t37 := Tryz.underlying64
  a37 := Tryz.isAgg64
  z37 := Tryz.sizeOf64
  v37 := Tryz.zeroValue64
  t46 := Tryz.underlying326
  a46 := Tryz.isAgg326
  z46 := Tryz.sizeOf326
  v46 := Tryz.zeroValue326
  t51 := Tryz.underlying213
  a51 := Tryz.isAgg213
  z51 := Tryz.sizeOf213
  v51 := Tryz.zeroValue213
  t53 := Tryz.underlying79
  a53 := Tryz.isAgg79
  z53 := Tryz.sizeOf79
  v53 := Tryz.zeroValue79
  t70 := Tryz.underlying329
  a70 := Tryz.isAgg329
  z70 := Tryz.sizeOf329
  v70 := Tryz.zeroValue329
  t72 := Tryz.underlying331
  a72 := Tryz.isAgg331
  z72 := Tryz.sizeOf331
  v72 := Tryz.zeroValue331
  t75 := Tryz.underlying333
  a75 := Tryz.isAgg333
  z75 := Tryz.sizeOf333
  v75 := Tryz.zeroValue333
  t76 := Tryz.underlying334
  a76 := Tryz.isAgg334
  z76 := Tryz.sizeOf334
  v76 := Tryz.zeroValue334
  t109 := Tryz.underlying327
  a109 := Tryz.isAgg327
  z109 := Tryz.sizeOf327
  v109 := Tryz.zeroValue327
  t127 := Tryz.underlying421
  a127 := Tryz.isAgg421
  z127 := Tryz.sizeOf421
  v127 := Tryz.zeroValue421
  t146 := Tryz.underlying417
  a146 := Tryz.isAgg417
  z146 := Tryz.sizeOf417
  v146 := Tryz.zeroValue417
  t148 := Tryz.underlying419
  a148 := Tryz.isAgg419
  z148 := Tryz.sizeOf419
  v148 := Tryz.zeroValue419
  t164 := Tryz.underlying475
  a164 := Tryz.isAgg475
  z164 := Tryz.sizeOf475
  v164 := Tryz.zeroValue475 }

theorem bextRep : Builder.Extra Tryz.prog laysRep_ren := {
  sizeBuilder := by kernel_rfl
  liesBuilder := by kernel_rfl
  t5 := Tryz.underlying5
  a5 := Tryz.isAgg5
  z5 := Tryz.sizeOf5
  v5 := Tryz.zeroValue5
  infoByte := by kernel_rfl
  cellsByte := by kernel_rfl
  sizeByte := by kernel_rfl
  neB5 := by decide }
theorem itoa_spec {i : Nat} {w : World} (hi : i < 100) : Spec Tryz.prog 105 [I ((i : Nat) : Int)] w [] (fun _ : Unit => True) (fun _ => Str (Lib.decDigits i)) (fun _ => []) := by
  refine Calls.mono (Any.strconv_Itoa_small laysItoa i hi w) ?_
  rintro e w' ⟨rfl, rfl⟩
  exact ⟨(), trivial, rfl, Fo.refl _ _, trivial, trivial, fun _ h => h.elim⟩
theorem repeat_spec {l : List UInt8} {n : Nat} {w : World} (hn : n < 1000000 ∧ l.length < 1000000) : Spec Tryz.prog 106 [Str l, I ((n : Nat) : Int)] w [] (fun _ : Unit => True) (fun _ => Str (Lib.repeatL l n)) (fun _ => []) := by
  have hm : l.length * n ≤ 1000000 * 1000000 := Nat.mul_le_mul (by omega) (by omega)
  have h := Any.strings_Repeat laysRep bextRep ⟨l.toArray⟩ n w (by omega) (by show l.toArray.size * n ≤ 140737488355328; rw [List.size_toArray]; omega)
  refine Calls.mono h ?_
  rintro e w' ⟨rfl, hb⟩
  exact ⟨(), trivial, rfl, Fo_below hb, trivial, trivial, fun _ h => h.elim⟩
end Go.Proofs.YtnhpghhibcdklaaGreatDoor
set_option linter.unusedSimpArgs false
set_option linter.unusedVariables false
namespace Go.Proofs.YtnhpghhibcdklaaGreatDoor
open Go Go.RowKit
set_option maxRecDepth 100000
theorem itoa2_spec {i : Nat} {w : World} (hi : i < 100) : Spec Tryz.prog 105 [IN i] w [] (fun _ : Unit => True) (fun _ => Str (dec2 i)) (fun _ => []) := by rw [← dec2_eq hi]; exact itoa_spec hi
theorem lname_spec {n : Nat} {w : World} (hn : n < 100) : Spec Tryz.prog 55 [IN n] w [] (fun _ : Unit => True) (fun _ => Str (nameR n)) (fun _ => []) := by
  refine spec_of (n := 14) Tryz.func55 rfl rfl trivial trivial rfl ?_
  have hd2 := dec2_len (n := n)
  refine s_r <| q_a rfl rfl <| s_n <| s_r <| q_m rfl rfl <| tk_act rfl <| a_callv [] _ rfl kR rfl (fun w' hw' => itoa2_spec (i := n) lenP) rfl fun _ _ => q_a rfl rfl <| s_n <| s_r <| q_m rfl rfl <| s_q rfl (y_lenStr (l := dec2 n) rfl rfl) <| s_q rfl (y_subN (a := 8) (b := (dec2 n).length) rfl rfl oM) <| s_q rfl (y_maxN (a := 8 - ((dec2 n).length)) (b := 0) rfl rfl) <| tk_act rfl <| a_callv [] _ rfl kR rfl (fun w' hw' => repeat_spec (l := [48]) (n := max (8 - ((dec2 n).length)) 0) ⟨lenP, lenP⟩) rfl fun _ _ => ?_
  have hrl : (Lib.repeatL [48] (max (8 - (dec2 n).length) 0)).length ≤ 8 := by rw [Lib.repeatL_length]; simp
  exact s_q rfl (y_catT (l := [115, 47]) (m := Lib.repeatL [48] (max (8 - ((dec2 n).length)) 0)) rfl rfl lenP) <| q_m rfl rfl <| s_q rfl (y_catT (l := [115, 47] ++ (Lib.repeatL [48] (max (8 - ((dec2 n).length)) 0))) (m := dec2 n) rfl rfl lenP) <| q_a rfl rfl <| s_n <| tk_retc <| tk_ret (()) (trivial) (.inl rfl) (r1 rfl rfl) (List.Sublist.refl _)
theorem rightR_spec {r : Rec} {w : World} (hnt : r.s.note.length < 9223372036854775808) : Spec Tryz.prog 97 [.agg ([I (r.kind), I (r.s.seq), I (r.s.time), Str r.s.note] ++ (r.s.root.map B)).toArray] w [] (fun _ : Unit => True) (fun _ => .bool (decide (rightR r))) (fun _ => []) := by
  refine spec_of (n := 35) Tryz.func97 rfl rfl trivial trivial rfl ?_
  have hrh := r.s.h
  refine s_r <| tk_act rfl <| a_boxL (cs := [I (r.kind), I (r.s.seq), I (r.s.time), Str r.s.note] ++ (r.s.root.map B)) rfl rfl fun b1 => q_a rfl rfl <| s_n <| tk_seq <| s_r <| s_q rfl (y_fldN (o := 0) 1 rfl kR) <| s_q rfl (y_fldN (o := 1) 1 rfl kR) <| s_q rfl (y_load rfl rfl (hc (o := 2) (.head _) (rfl))) <| tk_qs rfl rfl rfl (y_lss rfl rfl) (fun hs1_3 => ?_) (fun hs1_3 => ?_)
  · exact q_m rfl rfl <| tk_gno rfl rfl rfl <| tk_gno rfl rfl rfl <| tk_gno rfl rfl rfl <| tk_gno rfl rfl rfl <| s_q rfl (y_pick1 rfl rfl) <| s_n <| tk_cond1 rfl <| s_r <| q_a rfl rfl <| s_n <| tk_retc <| tk_then_ret <| tk_re 2 (.bool false) (.bool (decide (rightR r))) rfl ((bool_f (rightR_no (.inl oM))).symm) <| tk_ret (()) (trivial) (.inl rfl) (r1 rfl rfl) (List.nil_sublist _)
  · refine q_m rfl rfl <| s_g rfl (y_fldN (o := 0) 1 rfl kR) <| s_g rfl (y_fldN (o := 1) 1 rfl kR) <| s_g rfl (y_load rfl rfl (hc (o := 2) (.head _) (rfl))) <| s_g rfl (y_gtr rfl rfl) <| s_q rfl (y_pick0 rfl rfl) <| s_n <| tk_condP rfl (fun ht12 => ?_) (fun ht12 => ?_)
    · exact s_r <| q_a rfl rfl <| s_n <| tk_retc <| tk_then_ret <| tk_re 2 (.bool false) (.bool (decide (rightR r))) rfl ((bool_f (rightR_no (.inr (.inl oM)))).symm) <| tk_ret (()) (trivial) (.inl rfl) (r1 rfl rfl) (List.nil_sublist _)
    · refine tk_skip <| tk_then <| tk_seq <| s_r <| s_q rfl (y_fld0 (o := 0) rfl kR) <| s_q rfl (y_load rfl rfl (hc (o := 0) (.head _) (rfl))) <| s_n <| tk_block <| s_r <| s_q rfl (y_eql rfl rfl) <| q_a rfl rfl <| s_n <| tk_condP rfl (fun ht15 => ?_) (fun ht15 => ?_)
      · exact s_r <| s_q rfl (y_fldN (o := 0) 1 rfl kR) <| s_q rfl (y_fldN (o := 1) 2 rfl kR) <| s_q rfl (y_load rfl rfl (hc (o := 3) (.head _) (rfl))) <| s_q rfl (y_lenStr (l := r.s.note) rfl rfl) <| s_q rfl (y_leq rfl rfl) <| q_a rfl rfl <| s_n <| tk_retc <| tk_in_ret <| tk_then_ret <| tk_re 2 (.bool (decide (((r.s.note.length : Nat) : Int) ≤ (1000 : Int)))) (.bool (decide (rightR r))) rfl (congrArg Value.bool (by rw [decide_eq_decide]; exact ⟨fun h => (right_1 oM oM ht15).1 oM, fun h => by have := (right_1 oM oM ht15).2 h; omega⟩)) <| tk_ret (()) (trivial) (.inl rfl) (r1 rfl rfl) (List.nil_sublist _)
      · refine s_r <| s_q rfl (y_eql rfl rfl) <| q_a rfl rfl <| s_n <| tk_condP rfl (fun ht22 => ?_) (fun ht22 => ?_)
        · refine s_r <| s_q rfl (y_fldN (o := 0) 1 rfl kR) <| s_q rfl (y_fldN (o := 1) 2 rfl kR) <| s_q rfl (y_load rfl rfl (hc (o := 3) (.head _) (rfl))) <| tk_qs rfl rfl rfl (y_strEq (l := r.s.note) (m := []) rfl rfl) (fun hs7_3 => ?_) (fun hs7_3 => ?_)
          · exact q_m rfl rfl <| s_g rfl (y_fldN (o := 0) 1 rfl kR) <| s_g rfl (y_fldN (o := 1) 3 rfl kR) <| s_g rfl (y_loadA (vs := r.s.root.map B) 32 rfl kR lenP (hseg (pre := [I (r.kind), I (r.s.seq), I (r.s.time), Str r.s.note]) (post := ([] : List Value)) (.head _) lenP sI)) <| s_g rfl (y_build (v := .agg ((List.replicate 32 0 : List UInt8).map B).toArray) (vs := []) rfl (fun _ => kR)) <| s_g rfl (y_agEq (l := r.s.root) (m := (List.replicate 32 0 : List UInt8)) rfl rfl Tryz.underlying29 Tryz.underlying5 kR kR ⟨r.s.h, (by rfl)⟩) <| s_q rfl (y_pick1 rfl rfl) <| q_a rfl rfl <| s_n <| tk_retc <| tk_in_ret <| tk_then_ret <| tk_re 2 (.bool (decide (r.s.root = (List.replicate 32 0 : List UInt8)))) (.bool (decide (rightR r))) rfl (congrArg Value.bool (by rw [decide_eq_decide]; exact right_2 oM oM ht22 hs7_3)) <| tk_ret (()) (trivial) (.inl rfl) (r1 rfl rfl) (List.nil_sublist _)
          · exact q_m rfl rfl <| tk_gno rfl rfl rfl <| tk_gno rfl rfl rfl <| tk_gno rfl rfl rfl <| tk_gno rfl rfl rfl <| tk_gno rfl rfl rfl <| s_q rfl (y_pick0 rfl rfl) <| q_a rfl rfl <| s_n <| tk_retc <| tk_in_ret <| tk_then_ret <| tk_re 2 (.bool false) (.bool (decide (rightR r))) rfl ((bool_f (rightR_no (.inr (.inr (.inr ⟨ht15, hs7_3⟩))))).symm) <| tk_ret (()) (trivial) (.inl rfl) (r1 rfl rfl) (List.nil_sublist _)
        · exact tk_skip <| tk_in_normal <| tk_then <| s_r <| q_a rfl rfl <| s_n <| tk_retc <| tk_re 2 (.bool false) (.bool (decide (rightR r))) rfl ((bool_f (rightR_no (.inr (.inr (.inl ⟨ht15, ht22⟩))))).symm) <| tk_ret (()) (trivial) (.inl rfl) (r1 rfl rfl) (List.nil_sublist _)
theorem snaps_spec {hk mk nk la : List UInt8} {lb tb sb cb : Nat} {rv : Value} {rs : List Rec} {w : World} (h3 : hk.length = 32 ∧ mk.length = 32 ∧ nk.length = 32) (hla : la.length = 32) (hrl : rs.length < 1000000) (hh : Pre w [cel lb (hk.map B ++ (mk.map B ++ (nk.map B ++ ([PT tb, PT sb, PT cb, rv] ++ (la.map B))))) 138, own rv rs.length (rs.flatMap rcC) 33 36]) : Spec Tryz.prog 12 [PT lb] w [cel lb (hk.map B ++ (mk.map B ++ (nk.map B ++ ([PT tb, PT sb, PT cb, rv] ++ (la.map B))))) 138, own rv rs.length (rs.flatMap rcC) 33 36] (fun _ : Value => True) (fun x => x) (fun x => [ownA snC 35 x (foldR rs) 31, cel lb (hk.map B ++ (mk.map B ++ (nk.map B ++ ([PT tb, PT sb, PT cb, rv] ++ (la.map B))))) 138, own rv rs.length (rs.flatMap rcC) 33 36]) := by
  refine spec_of (n := 10) Tryz.func12 rfl rfl hh.1 hh.2 rfl ?_
  obtain ⟨hk32, mk32, nk32⟩ := h3
  exact tk_ownA (mm 1 rfl) fun hfr => s_r <| q_a rfl rfl <| s_n <| tk_seq <| s_r <| q_m rfl rfl <| s_q rfl (y_pnil rfl rfl rfl) <| s_n <| tk_cond0 rfl <| tk_skip <| tk_then <| s_r <| q_m rfl rfl <| s_q rfl (y_nilCheck rfl) <| s_q rfl (y_fldN (o := 0) 99 rfl kR) <| s_q rfl (y_load rfl rfl (hc (o := 99) (.head _) (gA (k := 32) (i := 67) (by rw [List.length_map]; exact hk32) oM (gA (k := 32) (i := 35) (by rw [List.length_map]; exact mk32) oM (gA (k := 32) (i := 3) (by rw [List.length_map]; exact nk32) oM (rfl)))))) <| tk_act rfl <| a_callv [] _ rfl kR rfl (fun w' hw' => lfold_spec (l := rs) (ro_ownC (H0 := []) hw' (mm 1 rfl)) lenP) rfl fun v9 _ => tk_ownA (.head _) fun hfv9 => q_a rfl rfl <| s_n <| tk_retc <| tk_ret (v9) (trivial) (.inl rfl) (r1 rfl rfl) (List.Sublist.refl _)
theorem fits_spec {r : Rec} {hk mk nk la : List UInt8} {lb tb sb cb : Nat} {rv : Value} {rs : List Rec} {w : World} (h3 : hk.length = 32 ∧ mk.length = 32 ∧ nk.length = 32) (hla : la.length = 32) (hrl : rs.length < 1000000) (hh : Pre w [cel lb (hk.map B ++ (mk.map B ++ (nk.map B ++ ([PT tb, PT sb, PT cb, rv] ++ (la.map B))))) 138, own rv rs.length (rs.flatMap rcC) 33 36]) : Spec Tryz.prog 69 [PT lb, .agg ([I (r.kind), I (r.s.seq), I (r.s.time), Str r.s.note] ++ (r.s.root.map B)).toArray] w [cel lb (hk.map B ++ (mk.map B ++ (nk.map B ++ ([PT tb, PT sb, PT cb, rv] ++ (la.map B))))) 138, own rv rs.length (rs.flatMap rcC) 33 36] (fun _ : Unit => True) (fun _ => .bool (decide (fitsR rs r))) (fun _ => [cel lb (hk.map B ++ (mk.map B ++ (nk.map B ++ ([PT tb, PT sb, PT cb, rv] ++ (la.map B))))) 138, own rv rs.length (rs.flatMap rcC) 33 36]) := by
  refine spec_of (n := 22) Tryz.func69 rfl rfl hh.1 hh.2 rfl ?_
  obtain ⟨hk32, mk32, nk32⟩ := h3
  refine tk_ownA (mm 1 rfl) fun hfr => ?_
  have hrh := r.s.h
  have hfl := foldR_len (l := rs)
  refine s_r <| tk_act rfl <| a_boxL (cs := [I (r.kind), I (r.s.seq), I (r.s.time), Str r.s.note] ++ (r.s.root.map B)) rfl rfl fun b3 => q_a rfl rfl <| s_n <| tk_seq <| s_r <| s_q rfl (y_fld0 (o := 0) rfl kR) <| s_q rfl (y_load rfl rfl (hc (o := 0) (.head _) (rfl))) <| s_q rfl (y_eql rfl rfl) <| s_n <| tk_condP rfl (fun ht7 => ?_) (fun ht7 => ?_)
  · exact tk_seq <| tk_drawH [cel b3 ([I (r.kind), I (r.s.seq), I (r.s.time), Str r.s.note] ++ (r.s.root.map B)) 33, cel lb (hk.map B ++ (mk.map B ++ (nk.map B ++ ([PT tb, PT sb, PT cb, rv] ++ (la.map B))))) 138, own rv rs.length (rs.flatMap rcC) 33 36] [] kR <| s_x 0 rfl (y_fldN (o := 0) 1 rfl kR) <| s_x 1 rfl (y_fld0 (o := 1) rfl kR) <| s_l 2 rfl (fun _ h => h) (y_load rfl rfl (hc (o := 1) (.head _) (rfl))) <| s_x 3 rfl (y_move rfl) <| s_x 4 rfl (y_nilCheck rfl) <| s_x 5 rfl (y_fldN (o := 0) 99 rfl kR) <| s_l 6 rfl (fun _ h => h) (y_load rfl rfl (hc (o := 99) (mm 1 rfl) (gA (k := 32) (i := 67) (by rw [List.length_map]; exact hk32) oM (gA (k := 32) (i := 35) (by rw [List.length_map]; exact mk32) oM (gA (k := 32) (i := 3) (by rw [List.length_map]; exact nk32) oM (rfl)))))) <| s_x 7 rfl (y_lenE rfl hfr.choose_spec rfl) <| s_x 8 rfl (y_addN (a := rs.length) (b := 1) rfl rfl oM) <| s_x 9 rfl (y_eql rfl rfl) <| s_x 10 rfl (y_assign rfl) <| tx_done kR <| tk_then <| tk_retc <| tk_then_ret <| tk_re 4 (.bool (decide (r.s.seq = ((rs.length + 1 : Nat) : Int)))) (.bool (decide (fitsR rs r))) rfl (congrArg Value.bool (by rw [decide_eq_decide]; exact fits_1 ht7)) <| tk_ret (()) (trivial) (.inl rfl) (r1 rfl rfl) (.cons _ (List.Sublist.refl _))
  · exact tk_skip <| tk_then <| s_r <| q_m rfl rfl <| tk_act rfl <| tk_ps [2, 2] rfl <| a_callv [] _ rfl kR rfl (fun w' hw' => snaps_spec (hk := hk) (mk := mk) (nk := nk) (tb := tb) (cb := cb) (lb := lb) (rv := rv) (rs := rs) (la := la) ⟨lenP, lenP, lenP⟩ lenP lenP (St.pre hw')) rfl fun v19 _ => tk_ownA (.head _) fun hfv19 => s_q rfl (y_makeFunc (cs := [PT b3]) rfl) <| tk_act rfl <| tk_ps [3, 1] rfl <| a_callv [] _ rfl kR rfl (fun w' hw' => conF_spec (v := v19) (l := foldR rs) (rb := b3) (r := r) lenP (St.pre hw')) rfl fun _ _ => q_a rfl rfl <| s_n <| tk_retc <| tk_re 4 (.bool (decide (hasS (foldR rs) r.s.seq))) (.bool (decide (fitsR rs r))) rfl (congrArg Value.bool (by rw [decide_eq_decide]; exact fits_2 ht7)) <| tk_ret (()) (trivial) (.inl rfl) (r1 rfl rfl) (.cons _ (.cons _ (List.Sublist.refl _)))
theorem check_spec {r : Rec} {s : Sh} {cn : Int} {mb : Nat} {hk mk nk la : List UInt8} {lb tb sb cb : Nat} {rv : Value} {rs : List Rec} {w : World} (h3 : hk.length = 32 ∧ mk.length = 32 ∧ nk.length = 32) (hla : la.length = 32) (hrl : rs.length < 1000000) (hnt : r.s.note.length < 9223372036854775808) (hok : ShOk s) (hh : Pre w [cel lb (hk.map B ++ (mk.map B ++ (nk.map B ++ ([PT tb, PT sb, PT cb, rv] ++ (la.map B))))) 138, own rv rs.length (rs.flatMap rcC) 33 36, cel cb ([PT sb, I (cn)]) 168, cel sb ([Value.map (some mb), I (s.left), .bool s.off, I (s.made), I (s.room)]) 159, mapS mb (kvO s.obs), bag (s.obs.map (obR 5))]) : Spec Tryz.prog 52 [PT lb, .agg ([I (r.kind), I (r.s.seq), I (r.s.time), Str r.s.note] ++ (r.s.root.map B)).toArray] w [cel lb (hk.map B ++ (mk.map B ++ (nk.map B ++ ([PT tb, PT sb, PT cb, rv] ++ (la.map B))))) 138, own rv rs.length (rs.flatMap rcC) 33 36, cel cb ([PT sb, I (cn)]) 168, cel sb ([Value.map (some mb), I (s.left), .bool s.off, I (s.made), I (s.room)]) 159, mapS mb (kvO s.obs), bag (s.obs.map (obR 5))] (fun _ : Unit => True) (fun _ => IN (checkR rs s.off cn r)) (fun _ => [cel lb (hk.map B ++ (mk.map B ++ (nk.map B ++ ([PT tb, PT sb, PT cb, rv] ++ (la.map B))))) 138, own rv rs.length (rs.flatMap rcC) 33 36, cel cb ([PT sb, I (cn)]) 168, cel sb ([Value.map (some mb), I (s.left), .bool s.off, I (s.made), I (s.room)]) 159, mapS mb (kvO s.obs), bag (s.obs.map (obR 5))]) := by
  refine spec_of (n := 61) Tryz.func52 rfl rfl hh.1 hh.2 rfl ?_
  obtain ⟨hk32, mk32, nk32⟩ := h3
  refine tk_ownA (mm 1 rfl) fun hfr => ?_
  have hrh := r.s.h
  have hfl := foldR_len (l := rs)
  refine s_r <| tk_act rfl <| a_boxL (cs := [I (r.kind), I (r.s.seq), I (r.s.time), Str r.s.note] ++ (r.s.root.map B)) rfl rfl fun b3 => q_a rfl rfl <| s_n <| s_r <| q_m rfl rfl <| tk_act rfl <| tk_ps [2, 2] rfl <| a_callv [] _ rfl kR rfl (fun w' hw' => snaps_spec (hk := hk) (mk := mk) (nk := nk) (tb := tb) (cb := cb) (lb := lb) (rv := rv) (rs := rs) (la := la) ⟨lenP, lenP, lenP⟩ lenP lenP (St.pre hw')) rfl fun v9 _ => tk_ownA (.head _) fun hfv9 => q_a rfl rfl <| s_n <| tk_seq <| tk_block <| s_r <| s_q rfl (y_loadA 36 rfl kR lenP (hcw (mm 3 rfl))) <| tk_act rfl <| a_callv [] _ rfl kR rfl (fun w' hw' => rightR_spec (r := r) hnt) rfl fun _ _ => s_q rfl ((y_not rfl).cast (notdec _)) <| q_a rfl rfl <| s_n <| tk_condP rfl (fun ht10 => ?_) (fun ht10 => ?_)
  · exact s_r <| q_a rfl rfl <| s_n <| tk_retc <| tk_in_ret <| tk_then_ret <| tk_re 4 (I 2) (IN (checkR rs s.off cn r)) rfl (by rw [ck_2 ht10]; rfl) <| tk_ret (()) (trivial) (.inl rfl) (r1 rfl rfl) (.cons _ (.cons_cons _ (.cons_cons _ (.cons _ (List.Sublist.refl _)))))
  · refine s_r <| s_q rfl (y_fld0 (o := 0) rfl kR) <| s_q rfl (y_load rfl rfl (hc (o := 0) (mm 3 rfl) (rfl))) <| tk_qs rfl rfl rfl (y_eql rfl rfl) (fun hs4_2 => ?_) (fun hs4_2 => ?_)
    · refine q_m rfl rfl <| s_g rfl (y_move rfl) <| s_g rfl (y_loadA 36 rfl kR lenP (hcw (mm 3 rfl))) <| tk_gact rfl <| tk_ps [2, 2] rfl <| a_callv [] _ rfl kR rfl (fun w' hw' => fits_spec (r := r) (hk := hk) (mk := mk) (nk := nk) (tb := tb) (cb := cb) (lb := lb) (rv := rv) (rs := rs) (la := la) ⟨lenP, lenP, lenP⟩ lenP lenP (St.pre hw')) rfl fun _ _ => s_g rfl ((y_not rfl).cast (notdec _)) <| s_q rfl (y_pick1 rfl rfl) <| q_a rfl rfl <| s_n <| tk_condP rfl (fun ht14 => ?_) (fun ht14 => ?_)
      · exact s_r <| q_a rfl rfl <| s_n <| tk_retc <| tk_in_ret <| tk_then_ret <| tk_re 4 (I 6) (IN (checkR rs s.off cn r)) rfl (by rw [ck_6 (Classical.not_not.1 ht10) ⟨hs4_2, ht14⟩]; rfl) <| tk_ret (()) (trivial) (.inl rfl) (r1 rfl rfl) (.cons_cons _ (.cons_cons _ (.cons _ (.cons _ (List.Sublist.refl _)))))
      · refine s_r <| s_q rfl (y_fld0 (o := 0) rfl kR) <| s_q rfl (y_load rfl rfl (hc (o := 0) (mm 3 rfl) (rfl))) <| tk_qs rfl rfl rfl (y_eql rfl rfl) (fun hs6_2 => ?_) (fun hs6_2 => ?_)
        · refine q_m rfl rfl <| s_g rfl (y_move rfl) <| s_g rfl (y_lenE rfl hfv9.choose_spec rfl) <| s_g rfl (y_geq rfl rfl) <| tk_qs rfl rfl rfl (y_pick1 rfl rfl) (fun hs6_7 => ?_) (fun hs6_7 => ?_)
          · refine q_m rfl rfl <| tk_gno rfl rfl rfl <| tk_gno rfl rfl rfl <| tk_gno rfl rfl rfl <| tk_gno rfl rfl rfl <| tk_gno rfl rfl rfl <| tk_gno rfl rfl rfl <| s_q rfl (y_pick1 rfl rfl) <| q_a rfl rfl <| s_n <| tk_cond1 rfl <| s_r <| q_a rfl rfl <| s_n <| tk_retc <| tk_in_ret <| tk_then_ret <| tk_re 4 (I 8) (IN (checkR rs s.off cn r)) rfl (by rw [ck_8 (Classical.not_not.1 ht10) (fun q => by first | exact ht14 q.2 | exact hs4_2 q.1) (by first | exact .inl ⟨hs6_2, by omega⟩ | exact .inr oM)]; rfl) ?_; exact tk_ret (()) (trivial) (.inl rfl) (r1 rfl rfl) (.cons_cons _ (.cons_cons _ (.cons _ (.cons _ (List.Sublist.refl _)))))
          · refine q_m rfl rfl <| s_g rfl (y_move rfl) <| s_g rfl (y_nilCheck rfl) <| s_g rfl (y_fldN (o := 0) 99 rfl kR) <| s_g rfl (y_load rfl rfl (hc (o := 99) (.head _) (gA (k := 32) (i := 67) (by rw [List.length_map]; exact hk32) oM (gA (k := 32) (i := 35) (by rw [List.length_map]; exact mk32) oM (gA (k := 32) (i := 3) (by rw [List.length_map]; exact nk32) oM (rfl)))))) <| s_g rfl (y_lenE rfl hfr.choose_spec rfl) <| s_g rfl (y_geq rfl rfl) <| s_q rfl (y_pick0 rfl rfl) <| q_a rfl rfl <| s_n <| tk_condP rfl (fun ht24 => ?_) (fun ht24 => ?_)
            · refine s_r <| q_a rfl rfl <| s_n <| tk_retc <| tk_in_ret <| tk_then_ret <| tk_re 4 (I 8) (IN (checkR rs s.off cn r)) rfl (by rw [ck_8 (Classical.not_not.1 ht10) (fun q => by first | exact ht14 q.2 | exact hs4_2 q.1) (by first | exact .inl ⟨hs6_2, by omega⟩ | exact .inr oM)]; rfl) ?_; exact tk_ret (()) (trivial) (.inl rfl) (r1 rfl rfl) (.cons_cons _ (.cons_cons _ (.cons _ (.cons _ (List.Sublist.refl _)))))
            · refine tk_skip <| tk_in_normal <| tk_then <| s_r <| q_m rfl rfl <| s_q rfl (y_nilCheck rfl) <| s_q rfl (y_fldN (o := 0) 98 rfl kR) <| s_q rfl (y_load rfl rfl (hc (o := 98) (.head _) (gA (k := 32) (i := 66) (by rw [List.length_map]; exact hk32) oM (gA (k := 32) (i := 34) (by rw [List.length_map]; exact mk32) oM (gA (k := 32) (i := 2) (by rw [List.length_map]; exact nk32) oM (rfl)))))) <| tk_act rfl <| tk_ps [7, 7, 7, 7] rfl <| a_callv [] _ rfl kR rfl (fun w' hw' => cread_spec (s := s) (cb := cb) (cn := cn) hok (St.pre hw')) rfl fun _ _ => q_m rfl rfl <| s_q rfl (y_extract rfl rfl) <| s_q rfl (y_extract rfl rfl) <| q_a rfl rfl <| q_a rfl rfl <| s_n <| tk_seq <| s_r <| q_m rfl rfl <| tk_qs rfl rfl rfl (y_eql rfl rfl) (fun hs9_1 => ?_) (fun hs9_1 => ?_)
              · refine q_m rfl rfl <| s_g rfl (y_move rfl) <| s_g rfl (y_move rfl) <| s_g rfl (y_nilCheck rfl) <| s_g rfl (y_fldN (o := 0) 99 rfl kR) <| s_g rfl (y_load rfl rfl (hc (o := 99) (mm 4 rfl) (gA (k := 32) (i := 67) (by rw [List.length_map]; exact hk32) oM (gA (k := 32) (i := 35) (by rw [List.length_map]; exact mk32) oM (gA (k := 32) (i := 3) (by rw [List.length_map]; exact nk32) oM (rfl)))))) <| s_g rfl (y_lenE rfl hfr.choose_spec rfl) <| s_g rfl (y_neq rfl rfl) <| s_q rfl (y_pick1 rfl rfl) <| s_n <| tk_condP rfl (fun ht59 => ?_) (fun ht59 => ?_)
                · refine tk_region <| q_a rfl rfl <| s_n <| s_r <| q_m rfl rfl <| q_a rfl rfl <| s_n <| tk_retc ?_
                  have hno : ¬ s.off = true := fun h => by rw [if_pos h] at hs9_1; omega
                  refine tk_re 4 (I 12) (IN (checkR rs s.off cn r)) rfl (by rw [ck_12 (Classical.not_not.1 ht10) (fun q => by first | exact ht14 q.2 | exact hs4_2 q.1) oM hno (by rw [if_neg hno] at ht59; exact ht59)]; rfl) ?_; exact tk_ps [3, 3, 3, 3, 5, 5] rfl <| tk_ret (()) (trivial) (.inl rfl) (r1 rfl rfl) (.cons_cons _ (.cons_cons _ (.cons_cons _ (.cons_cons _ (.cons_cons _ (.cons_cons _ (List.nil_sublist _)))))))
                · refine tk_skip <| tk_then <| s_r <| q_m rfl rfl <| q_a rfl rfl <| s_n <| tk_retc ?_
                  have hno : ¬ s.off = true := fun h => by rw [if_pos h] at hs9_1; omega
                  refine tk_re 4 (I (((if s.off = true then 9 else 0) : Nat) : Int)) (IN (checkR rs s.off cn r)) rfl (by rw [ck_0 (Classical.not_not.1 ht10) (fun q => by first | exact ht14 q.2 | exact hs4_2 q.1) oM hno (by rw [if_neg hno] at ht59; exact Classical.not_not.1 ht59), if_neg hno]) ?_; exact tk_ps [3, 3, 3, 3, 5, 5] rfl <| tk_ret (()) (trivial) (.inl rfl) (r1 rfl rfl) (.cons_cons _ (.cons_cons _ (.cons_cons _ (.cons_cons _ (.cons_cons _ (.cons_cons _ (List.nil_sublist _)))))))
              · refine q_m rfl rfl <| tk_gno rfl rfl rfl <| tk_gno rfl rfl rfl <| tk_gno rfl rfl rfl <| tk_gno rfl rfl rfl <| tk_gno rfl rfl rfl <| tk_gno rfl rfl rfl <| tk_gno rfl rfl rfl <| s_q rfl (y_pick0 rfl rfl) <| s_n <| tk_cond0 rfl <| tk_skip <| tk_then <| s_r <| q_m rfl rfl <| q_a rfl rfl <| s_n <| tk_retc ?_
                have hof : s.off = true := Classical.not_not.1 fun h => by rw [if_neg h] at hs9_1; omega
                refine tk_re 4 (I (((if s.off = true then 9 else 0) : Nat) : Int)) (IN (checkR rs s.off cn r)) rfl (by rw [ck_9 (Classical.not_not.1 ht10) (fun q => by first | exact ht14 q.2 | exact hs4_2 q.1) oM hof, if_pos hof]) ?_; exact tk_ps [3, 3, 3, 3, 5, 5] rfl <| tk_ret (()) (trivial) (.inl rfl) (r1 rfl rfl) (.cons_cons _ (.cons_cons _ (.cons_cons _ (.cons_cons _ (.cons_cons _ (.cons_cons _ (List.nil_sublist _)))))))
        · refine q_m rfl rfl <| tk_gno rfl rfl rfl <| tk_gno rfl rfl rfl <| tk_gno rfl rfl rfl <| s_q rfl (y_pick0 rfl rfl) <| q_m rfl rfl <| s_g rfl (y_move rfl) <| s_g rfl (y_nilCheck rfl) <| s_g rfl (y_fldN (o := 0) 99 rfl kR) <| s_g rfl (y_load rfl rfl (hc (o := 99) (.head _) (gA (k := 32) (i := 67) (by rw [List.length_map]; exact hk32) oM (gA (k := 32) (i := 35) (by rw [List.length_map]; exact mk32) oM (gA (k := 32) (i := 3) (by rw [List.length_map]; exact nk32) oM (rfl)))))) <| s_g rfl (y_lenE rfl hfr.choose_spec rfl) <| s_g rfl (y_geq rfl rfl) <| s_q rfl (y_pick0 rfl rfl) <| q_a rfl rfl <| s_n <| tk_condP rfl (fun ht24 => ?_) (fun ht24 => ?_)
          · refine s_r <| q_a rfl rfl <| s_n <| tk_retc <| tk_in_ret <| tk_then_ret <| tk_re 4 (I 8) (IN (checkR rs s.off cn r)) rfl (by rw [ck_8 (Classical.not_not.1 ht10) (fun q => by first | exact ht14 q.2 | exact hs4_2 q.1) (by first | exact .inl ⟨hs6_2, by omega⟩ | exact .inr oM)]; rfl) ?_; exact tk_ret (()) (trivial) (.inl rfl) (r1 rfl rfl) (.cons_cons _ (.cons_cons _ (.cons _ (.cons _ (List.Sublist.refl _)))))
          · refine tk_skip <| tk_in_normal <| tk_then <| s_r <| q_m rfl rfl <| s_q rfl (y_nilCheck rfl) <| s_q rfl (y_fldN (o := 0) 98 rfl kR) <| s_q rfl (y_load rfl rfl (hc (o := 98) (.head _) (gA (k := 32) (i := 66) (by rw [List.length_map]; exact hk32) oM (gA (k := 32) (i := 34) (by rw [List.length_map]; exact mk32) oM (gA (k := 32) (i := 2) (by rw [List.length_map]; exact nk32) oM (rfl)))))) <| tk_act rfl <| tk_ps [7, 7, 7, 7] rfl <| a_callv [] _ rfl kR rfl (fun w' hw' => cread_spec (s := s) (cb := cb) (cn := cn) hok (St.pre hw')) rfl fun _ _ => q_m rfl rfl <| s_q rfl (y_extract rfl rfl) <| s_q rfl (y_extract rfl rfl) <| q_a rfl rfl <| q_a rfl rfl <| s_n <| tk_seq <| s_r <| q_m rfl rfl <| tk_qs rfl rfl rfl (y_eql rfl rfl) (fun hs9_1 => ?_) (fun hs9_1 => ?_)
            · refine q_m rfl rfl <| s_g rfl (y_move rfl) <| s_g rfl (y_move rfl) <| s_g rfl (y_nilCheck rfl) <| s_g rfl (y_fldN (o := 0) 99 rfl kR) <| s_g rfl (y_load rfl rfl (hc (o := 99) (mm 4 rfl) (gA (k := 32) (i := 67) (by rw [List.length_map]; exact hk32) oM (gA (k := 32) (i := 35) (by rw [List.length_map]; exact mk32) oM (gA (k := 32) (i := 3) (by rw [List.length_map]; exact nk32) oM (rfl)))))) <| s_g rfl (y_lenE rfl hfr.choose_spec rfl) <| s_g rfl (y_neq rfl rfl) <| s_q rfl (y_pick1 rfl rfl) <| s_n <| tk_condP rfl (fun ht59 => ?_) (fun ht59 => ?_)
              · refine tk_region <| q_a rfl rfl <| s_n <| s_r <| q_m rfl rfl <| q_a rfl rfl <| s_n <| tk_retc ?_
                have hno : ¬ s.off = true := fun h => by rw [if_pos h] at hs9_1; omega
                refine tk_re 4 (I 12) (IN (checkR rs s.off cn r)) rfl (by rw [ck_12 (Classical.not_not.1 ht10) (fun q => by first | exact ht14 q.2 | exact hs4_2 q.1) oM hno (by rw [if_neg hno] at ht59; exact ht59)]; rfl) ?_; exact tk_ps [3, 3, 3, 3, 5, 5] rfl <| tk_ret (()) (trivial) (.inl rfl) (r1 rfl rfl) (.cons_cons _ (.cons_cons _ (.cons_cons _ (.cons_cons _ (.cons_cons _ (.cons_cons _ (List.nil_sublist _)))))))
              · refine tk_skip <| tk_then <| s_r <| q_m rfl rfl <| q_a rfl rfl <| s_n <| tk_retc ?_
                have hno : ¬ s.off = true := fun h => by rw [if_pos h] at hs9_1; omega
                refine tk_re 4 (I (((if s.off = true then 9 else 0) : Nat) : Int)) (IN (checkR rs s.off cn r)) rfl (by rw [ck_0 (Classical.not_not.1 ht10) (fun q => by first | exact ht14 q.2 | exact hs4_2 q.1) oM hno (by rw [if_neg hno] at ht59; exact Classical.not_not.1 ht59), if_neg hno]) ?_; exact tk_ps [3, 3, 3, 3, 5, 5] rfl <| tk_ret (()) (trivial) (.inl rfl) (r1 rfl rfl) (.cons_cons _ (.cons_cons _ (.cons_cons _ (.cons_cons _ (.cons_cons _ (.cons_cons _ (List.nil_sublist _)))))))
            · refine q_m rfl rfl <| tk_gno rfl rfl rfl <| tk_gno rfl rfl rfl <| tk_gno rfl rfl rfl <| tk_gno rfl rfl rfl <| tk_gno rfl rfl rfl <| tk_gno rfl rfl rfl <| tk_gno rfl rfl rfl <| s_q rfl (y_pick0 rfl rfl) <| s_n <| tk_cond0 rfl <| tk_skip <| tk_then <| s_r <| q_m rfl rfl <| q_a rfl rfl <| s_n <| tk_retc ?_
              have hof : s.off = true := Classical.not_not.1 fun h => by rw [if_neg h] at hs9_1; omega
              refine tk_re 4 (I (((if s.off = true then 9 else 0) : Nat) : Int)) (IN (checkR rs s.off cn r)) rfl (by rw [ck_9 (Classical.not_not.1 ht10) (fun q => by first | exact ht14 q.2 | exact hs4_2 q.1) oM hof, if_pos hof]) ?_; exact tk_ps [3, 3, 3, 3, 5, 5] rfl <| tk_ret (()) (trivial) (.inl rfl) (r1 rfl rfl) (.cons_cons _ (.cons_cons _ (.cons_cons _ (.cons_cons _ (.cons_cons _ (.cons_cons _ (List.nil_sublist _)))))))
    · refine q_m rfl rfl <| tk_gno rfl rfl rfl <| tk_gno rfl rfl rfl <| tk_gno rfl rfl rfl <| tk_gno rfl rfl rfl <| s_q rfl (y_pick0 rfl rfl) <| q_a rfl rfl <| s_n <| tk_cond0 rfl <| s_r <| s_q rfl (y_fld0 (o := 0) rfl kR) <| s_q rfl (y_load rfl rfl (hc (o := 0) (mm 3 rfl) (rfl))) <| tk_qs rfl rfl rfl (y_eql rfl rfl) (fun hs6_2 => ?_) (fun hs6_2 => ?_)
      · refine q_m rfl rfl <| s_g rfl (y_move rfl) <| s_g rfl (y_lenE rfl hfv9.choose_spec rfl) <| s_g rfl (y_geq rfl rfl) <| tk_qs rfl rfl rfl (y_pick1 rfl rfl) (fun hs6_7 => ?_) (fun hs6_7 => ?_)
        · refine q_m rfl rfl <| tk_gno rfl rfl rfl <| tk_gno rfl rfl rfl <| tk_gno rfl rfl rfl <| tk_gno rfl rfl rfl <| tk_gno rfl rfl rfl <| tk_gno rfl rfl rfl <| s_q rfl (y_pick1 rfl rfl) <| q_a rfl rfl <| s_n <| tk_cond1 rfl <| s_r <| q_a rfl rfl <| s_n <| tk_retc <| tk_in_ret <| tk_then_ret <| tk_re 4 (I 8) (IN (checkR rs s.off cn r)) rfl (by rw [ck_8 (Classical.not_not.1 ht10) (fun q => by first | exact ht14 q.2 | exact hs4_2 q.1) (by first | exact .inl ⟨hs6_2, by omega⟩ | exact .inr oM)]; rfl) ?_; exact tk_ret (()) (trivial) (.inl rfl) (r1 rfl rfl) (.cons _ (.cons_cons _ (.cons_cons _ (.cons _ (List.Sublist.refl _)))))
        · refine q_m rfl rfl <| s_g rfl (y_move rfl) <| s_g rfl (y_nilCheck rfl) <| s_g rfl (y_fldN (o := 0) 99 rfl kR) <| s_g rfl (y_load rfl rfl (hc (o := 99) (mm 1 rfl) (gA (k := 32) (i := 67) (by rw [List.length_map]; exact hk32) oM (gA (k := 32) (i := 35) (by rw [List.length_map]; exact mk32) oM (gA (k := 32) (i := 3) (by rw [List.length_map]; exact nk32) oM (rfl)))))) <| s_g rfl (y_lenE rfl hfr.choose_spec rfl) <| s_g rfl (y_geq rfl rfl) <| s_q rfl (y_pick0 rfl rfl) <| q_a rfl rfl <| s_n <| tk_condP rfl (fun ht24 => ?_) (fun ht24 => ?_)
          · refine s_r <| q_a rfl rfl <| s_n <| tk_retc <| tk_in_ret <| tk_then_ret <| tk_re 4 (I 8) (IN (checkR rs s.off cn r)) rfl (by rw [ck_8 (Classical.not_not.1 ht10) (fun q => by first | exact ht14 q.2 | exact hs4_2 q.1) (by first | exact .inl ⟨hs6_2, by omega⟩ | exact .inr oM)]; rfl) ?_; exact tk_ret (()) (trivial) (.inl rfl) (r1 rfl rfl) (.cons _ (.cons_cons _ (.cons_cons _ (.cons _ (List.Sublist.refl _)))))
          · refine tk_skip <| tk_in_normal <| tk_then <| s_r <| q_m rfl rfl <| s_q rfl (y_nilCheck rfl) <| s_q rfl (y_fldN (o := 0) 98 rfl kR) <| s_q rfl (y_load rfl rfl (hc (o := 98) (mm 1 rfl) (gA (k := 32) (i := 66) (by rw [List.length_map]; exact hk32) oM (gA (k := 32) (i := 34) (by rw [List.length_map]; exact mk32) oM (gA (k := 32) (i := 2) (by rw [List.length_map]; exact nk32) oM (rfl)))))) <| tk_act rfl <| tk_ps [7, 7, 7, 7] rfl <| a_callv [] _ rfl kR rfl (fun w' hw' => cread_spec (s := s) (cb := cb) (cn := cn) hok (St.pre hw')) rfl fun _ _ => q_m rfl rfl <| s_q rfl (y_extract rfl rfl) <| s_q rfl (y_extract rfl rfl) <| q_a rfl rfl <| q_a rfl rfl <| s_n <| tk_seq <| s_r <| q_m rfl rfl <| tk_qs rfl rfl rfl (y_eql rfl rfl) (fun hs9_1 => ?_) (fun hs9_1 => ?_)
            · refine q_m rfl rfl <| s_g rfl (y_move rfl) <| s_g rfl (y_move rfl) <| s_g rfl (y_nilCheck rfl) <| s_g rfl (y_fldN (o := 0) 99 rfl kR) <| s_g rfl (y_load rfl rfl (hc (o := 99) (mm 5 rfl) (gA (k := 32) (i := 67) (by rw [List.length_map]; exact hk32) oM (gA (k := 32) (i := 35) (by rw [List.length_map]; exact mk32) oM (gA (k := 32) (i := 3) (by rw [List.length_map]; exact nk32) oM (rfl)))))) <| s_g rfl (y_lenE rfl hfr.choose_spec rfl) <| s_g rfl (y_neq rfl rfl) <| s_q rfl (y_pick1 rfl rfl) <| s_n <| tk_condP rfl (fun ht59 => ?_) (fun ht59 => ?_)
              · refine tk_region <| q_a rfl rfl <| s_n <| s_r <| q_m rfl rfl <| q_a rfl rfl <| s_n <| tk_retc ?_
                have hno : ¬ s.off = true := fun h => by rw [if_pos h] at hs9_1; omega
                refine tk_re 4 (I 12) (IN (checkR rs s.off cn r)) rfl (by rw [ck_12 (Classical.not_not.1 ht10) (fun q => by first | exact ht14 q.2 | exact hs4_2 q.1) oM hno (by rw [if_neg hno] at ht59; exact ht59)]; rfl) ?_; exact tk_ps [3, 3, 3, 3, 6, 6] rfl <| tk_ret (()) (trivial) (.inl rfl) (r1 rfl rfl) (.cons_cons _ (.cons_cons _ (.cons_cons _ (.cons_cons _ (.cons_cons _ (.cons_cons _ (List.nil_sublist _)))))))
              · refine tk_skip <| tk_then <| s_r <| q_m rfl rfl <| q_a rfl rfl <| s_n <| tk_retc ?_
                have hno : ¬ s.off = true := fun h => by rw [if_pos h] at hs9_1; omega
                refine tk_re 4 (I (((if s.off = true then 9 else 0) : Nat) : Int)) (IN (checkR rs s.off cn r)) rfl (by rw [ck_0 (Classical.not_not.1 ht10) (fun q => by first | exact ht14 q.2 | exact hs4_2 q.1) oM hno (by rw [if_neg hno] at ht59; exact Classical.not_not.1 ht59), if_neg hno]) ?_; exact tk_ps [3, 3, 3, 3, 6, 6] rfl <| tk_ret (()) (trivial) (.inl rfl) (r1 rfl rfl) (.cons_cons _ (.cons_cons _ (.cons_cons _ (.cons_cons _ (.cons_cons _ (.cons_cons _ (List.nil_sublist _)))))))
            · refine q_m rfl rfl <| tk_gno rfl rfl rfl <| tk_gno rfl rfl rfl <| tk_gno rfl rfl rfl <| tk_gno rfl rfl rfl <| tk_gno rfl rfl rfl <| tk_gno rfl rfl rfl <| tk_gno rfl rfl rfl <| s_q rfl (y_pick0 rfl rfl) <| s_n <| tk_cond0 rfl <| tk_skip <| tk_then <| s_r <| q_m rfl rfl <| q_a rfl rfl <| s_n <| tk_retc ?_
              have hof : s.off = true := Classical.not_not.1 fun h => by rw [if_neg h] at hs9_1; omega
              refine tk_re 4 (I (((if s.off = true then 9 else 0) : Nat) : Int)) (IN (checkR rs s.off cn r)) rfl (by rw [ck_9 (Classical.not_not.1 ht10) (fun q => by first | exact ht14 q.2 | exact hs4_2 q.1) oM hof, if_pos hof]) ?_; exact tk_ps [3, 3, 3, 3, 6, 6] rfl <| tk_ret (()) (trivial) (.inl rfl) (r1 rfl rfl) (.cons_cons _ (.cons_cons _ (.cons_cons _ (.cons_cons _ (.cons_cons _ (.cons_cons _ (List.nil_sublist _)))))))
      · refine q_m rfl rfl <| tk_gno rfl rfl rfl <| tk_gno rfl rfl rfl <| tk_gno rfl rfl rfl <| s_q rfl (y_pick0 rfl rfl) <| q_m rfl rfl <| s_g rfl (y_move rfl) <| s_g rfl (y_nilCheck rfl) <| s_g rfl (y_fldN (o := 0) 99 rfl kR) <| s_g rfl (y_load rfl rfl (hc (o := 99) (mm 1 rfl) (gA (k := 32) (i := 67) (by rw [List.length_map]; exact hk32) oM (gA (k := 32) (i := 35) (by rw [List.length_map]; exact mk32) oM (gA (k := 32) (i := 3) (by rw [List.length_map]; exact nk32) oM (rfl)))))) <| s_g rfl (y_lenE rfl hfr.choose_spec rfl) <| s_g rfl (y_geq rfl rfl) <| s_q rfl (y_pick0 rfl rfl) <| q_a rfl rfl <| s_n <| tk_condP rfl (fun ht24 => ?_) (fun ht24 => ?_)
        · refine s_r <| q_a rfl rfl <| s_n <| tk_retc <| tk_in_ret <| tk_then_ret <| tk_re 4 (I 8) (IN (checkR rs s.off cn r)) rfl (by rw [ck_8 (Classical.not_not.1 ht10) (fun q => by first | exact ht14 q.2 | exact hs4_2 q.1) (by first | exact .inl ⟨hs6_2, by omega⟩ | exact .inr oM)]; rfl) ?_; exact tk_ret (()) (trivial) (.inl rfl) (r1 rfl rfl) (.cons _ (.cons_cons _ (.cons_cons _ (.cons _ (List.Sublist.refl _)))))
        · refine tk_skip <| tk_in_normal <| tk_then <| s_r <| q_m rfl rfl <| s_q rfl (y_nilCheck rfl) <| s_q rfl (y_fldN (o := 0) 98 rfl kR) <| s_q rfl (y_load rfl rfl (hc (o := 98) (mm 1 rfl) (gA (k := 32) (i := 66) (by rw [List.length_map]; exact hk32) oM (gA (k := 32) (i := 34) (by rw [List.length_map]; exact mk32) oM (gA (k := 32) (i := 2) (by rw [List.length_map]; exact nk32) oM (rfl)))))) <| tk_act rfl <| tk_ps [7, 7, 7, 7] rfl <| a_callv [] _ rfl kR rfl (fun w' hw' => cread_spec (s := s) (cb := cb) (cn := cn) hok (St.pre hw')) rfl fun _ _ => q_m rfl rfl <| s_q rfl (y_extract rfl rfl) <| s_q rfl (y_extract rfl rfl) <| q_a rfl rfl <| q_a rfl rfl <| s_n <| tk_seq <| s_r <| q_m rfl rfl <| tk_qs rfl rfl rfl (y_eql rfl rfl) (fun hs9_1 => ?_) (fun hs9_1 => ?_)
          · refine q_m rfl rfl <| s_g rfl (y_move rfl) <| s_g rfl (y_move rfl) <| s_g rfl (y_nilCheck rfl) <| s_g rfl (y_fldN (o := 0) 99 rfl kR) <| s_g rfl (y_load rfl rfl (hc (o := 99) (mm 5 rfl) (gA (k := 32) (i := 67) (by rw [List.length_map]; exact hk32) oM (gA (k := 32) (i := 35) (by rw [List.length_map]; exact mk32) oM (gA (k := 32) (i := 3) (by rw [List.length_map]; exact nk32) oM (rfl)))))) <| s_g rfl (y_lenE rfl hfr.choose_spec rfl) <| s_g rfl (y_neq rfl rfl) <| s_q rfl (y_pick1 rfl rfl) <| s_n <| tk_condP rfl (fun ht59 => ?_) (fun ht59 => ?_)
            · refine tk_region <| q_a rfl rfl <| s_n <| s_r <| q_m rfl rfl <| q_a rfl rfl <| s_n <| tk_retc ?_
              have hno : ¬ s.off = true := fun h => by rw [if_pos h] at hs9_1; omega
              refine tk_re 4 (I 12) (IN (checkR rs s.off cn r)) rfl (by rw [ck_12 (Classical.not_not.1 ht10) (fun q => by first | exact ht14 q.2 | exact hs4_2 q.1) oM hno (by rw [if_neg hno] at ht59; exact ht59)]; rfl) ?_; exact tk_ps [3, 3, 3, 3, 6, 6] rfl <| tk_ret (()) (trivial) (.inl rfl) (r1 rfl rfl) (.cons_cons _ (.cons_cons _ (.cons_cons _ (.cons_cons _ (.cons_cons _ (.cons_cons _ (List.nil_sublist _)))))))
            · refine tk_skip <| tk_then <| s_r <| q_m rfl rfl <| q_a rfl rfl <| s_n <| tk_retc ?_
              have hno : ¬ s.off = true := fun h => by rw [if_pos h] at hs9_1; omega
              refine tk_re 4 (I (((if s.off = true then 9 else 0) : Nat) : Int)) (IN (checkR rs s.off cn r)) rfl (by rw [ck_0 (Classical.not_not.1 ht10) (fun q => by first | exact ht14 q.2 | exact hs4_2 q.1) oM hno (by rw [if_neg hno] at ht59; exact Classical.not_not.1 ht59), if_neg hno]) ?_; exact tk_ps [3, 3, 3, 3, 6, 6] rfl <| tk_ret (()) (trivial) (.inl rfl) (r1 rfl rfl) (.cons_cons _ (.cons_cons _ (.cons_cons _ (.cons_cons _ (.cons_cons _ (.cons_cons _ (List.nil_sublist _)))))))
          · refine q_m rfl rfl <| tk_gno rfl rfl rfl <| tk_gno rfl rfl rfl <| tk_gno rfl rfl rfl <| tk_gno rfl rfl rfl <| tk_gno rfl rfl rfl <| tk_gno rfl rfl rfl <| tk_gno rfl rfl rfl <| s_q rfl (y_pick0 rfl rfl) <| s_n <| tk_cond0 rfl <| tk_skip <| tk_then <| s_r <| q_m rfl rfl <| q_a rfl rfl <| s_n <| tk_retc ?_
            have hof : s.off = true := Classical.not_not.1 fun h => by rw [if_neg h] at hs9_1; omega
            refine tk_re 4 (I (((if s.off = true then 9 else 0) : Nat) : Int)) (IN (checkR rs s.off cn r)) rfl (by rw [ck_9 (Classical.not_not.1 ht10) (fun q => by first | exact ht14 q.2 | exact hs4_2 q.1) oM hof, if_pos hof]) ?_; exact tk_ps [3, 3, 3, 3, 6, 6] rfl <| tk_ret (()) (trivial) (.inl rfl) (r1 rfl rfl) (.cons_cons _ (.cons_cons _ (.cons_cons _ (.cons_cons _ (.cons_cons _ (.cons_cons _ (List.nil_sublist _)))))))
end Go.Proofs.YtnhpghhibcdklaaGreatDoor
set_option linter.unusedSimpArgs false
set_option linter.unusedVariables false
namespace Go.Proofs.YtnhpghhibcdklaaGreatDoor
open Go Go.RowKit
set_option maxRecDepth 100000
end Go.Proofs.YtnhpghhibcdklaaGreatDoor
set_option linter.unusedSimpArgs false
set_option linter.unusedVariables false
namespace Go.Proofs.YtnhpghhibcdklaaGreatDoor
open Go Go.RowKit
set_option maxRecDepth 100000
end Go.Proofs.YtnhpghhibcdklaaGreatDoor
set_option linter.unusedSimpArgs false
set_option linter.unusedVariables false
namespace Go.Proofs.YtnhpghhibcdklaaGreatDoor.Cip
open Go Go.RowKit
set_option maxRecDepth 100000
theorem ofNat_mod256 (m : Nat) : UInt8.ofNat (m % 256) = UInt8.ofNat m := by apply UInt8.toNat_inj.1; simp
theorem get_app {l r : List Value} {i : Nat} {v : Value} (h : l[i]? = some v) : (l ++ r)[i]? = some v := by
  rw [List.getElem?_append_left (List.getElem?_eq_some_iff.1 h).1]; exact h
theorem set_map_app {l : List UInt8} {r : List Value} {i : Nat} {b : UInt8} (h : i < l.length) : (l.set i b).map B ++ r = (l.map B ++ r).set i (B b) := by
  rw [List.map_set, List.set_append_left _ _ (by simpa using h)]
theorem plusTo_le {N : List UInt8} {n k : Nat} : (plusTo N n k).2 ≤ n := by
  induction k with
  | zero => exact Nat.le_refl _
  | succ k ih =>
    simp only [plusTo]; split
    · exact ih
    · have := b_lt ((plusTo N n k).1.getD (15 - k) 0)
      simp only; omega
theorem sl7 {a k : Nat} (ha : a < 256) (hk : k ≤ 7) : a * 2 ^ k < 65536 := by
  have h1 : 2 ^ k ≤ 2 ^ 7 := Nat.pow_le_pow_right dC hk
  have : a * 2 ^ k ≤ 255 * 2 ^ 7 := Nat.mul_le_mul oM h1
  omega
theorem p6 (k : Nat) : 283 * 2 ^ (6 - k) < 65536 := by
  have h1 : 2 ^ (6 - k) ≤ 2 ^ 6 := Nat.pow_le_pow_right dC oM
  omega
attribute [local irreducible] plus
set_option maxHeartbeats 400000 in
theorem plus_spec (N : List UInt8) (n : Nat) (w : World) (hN : N.length = 16) (hn : n < 2 ^ 63 - 256) : Spec Tryz.prog 205 [Str N, I (n : Int)] w [] (fun _ : Unit => True) (fun _ => Str (plus N n)) (fun _ => []) := by
  refine spec_of (n := 34) Tryz.func205 rfl rfl trivial trivial rfl <| s_r <| q_a rfl rfl <| s_n <| s_r <| q_m rfl rfl <| tk_act rfl <| a_s2b rfl rfl rfl rfl rfl fun b8 cap rest hcap => q_a rfl rfl <| s_n <| tk_seqI (X := Unit) (fun _ => True) (fun _ => [(5, .slice (some ⟨b8, 0, none⟩) N.length cap)]) (fun _ => [cel b8 ((plus N n).map B ++ rest) 5]) ?_ ?_
  · refine s_r <| q_a rfl rfl <| s_n <| tk_block <| tk_loop (X := Nat) (fun k => k ≤ 16) (fun k => [(5, .slice (some ⟨b8, 0, none⟩) N.length cap), (1, I ((plusTo N n k).2 : Int)), (6, I (15 - (k : Int)))]) (fun k => [cel b8 ((plusTo N n k).1.map B ++ rest) 5]) (fun k => 16 - k) (0) oM sB (List.Sublist.refl _) ?_
    intro k hI
    have hcr := plusTo_le (N := N) (n := n) (k := k)
    have hb8 := b_lt ((plusTo N n k).1.getD (15 - k) 0)
    refine tk_seq <| s_r <| q_m rfl rfl <| tk_qs rfl rfl rfl (y_geq rfl rfl) (fun hs3_1 => ?_) (fun hs3_1 => ?_)
    · refine q_m rfl rfl <| s_g rfl (y_move rfl) <| tk_gqs rfl rfl rfl (y_gtr rfl rfl) (fun hs3_4 => ?_) (fun hs3_4 => ?_)
      · refine s_q rfl (y_pick1 rfl rfl) <| s_n <| tk_cond1 rfl <| tk_skip <| tk_then <| tk_seq <| tk_block <| s_r <| q_m rfl rfl <| q_m rfl rfl <| q_m rfl rfl <| s_q rfl (y_ixS0I (15 - k) rfl rfl kR oM) <| s_q rfl (y_load rfl rfl (hc (.head _) (get_app (getB (by simp [hN] <;> omega))))) <| s_q rfl (y_conv8i rfl rfl rfl) <| s_q rfl (y_addN rfl rfl oM) <| q_a rfl rfl <| s_n <| s_r <| q_m rfl rfl <| q_m rfl rfl <| q_m rfl rfl <| s_q rfl (y_remN (b := 256) rfl rfl oM) <| tk_qe (B (UInt8.ofNat ((plusTo N n k).2 + ((plusTo N n k).1.getD (15 - k) 0).toNat))) rfl rfl rfl (y_convi8 rfl rfl rfl) (by rw [ofNat_mod256]) <| s_q rfl (y_ixS0I (15 - k) rfl rfl kR oM) ?_; refine tk_act rfl <| a_store1 (H1 := []) rfl rfl kR rfl rfl (by simp [hN] <;> omega) <| s_n <| tk_region <| q_m rfl rfl <| s_q rfl (y_quoN (b := 256) rfl rfl oM) <| q_a rfl rfl <| tk_nil <| tk_in_normal <| tk_then <| tk_region <| q_m rfl rfl <| tk_qe (I (15 - ((k + 1 : Nat) : Int))) rfl rfl rfl (y_subI rfl rfl oM) (by congr 1; omega) <| q_a rfl rfl <| tk_nil <| tk_again (k + 1) oM oM ⟨rfl, ?_, rfl, trivial⟩ ?_
        · simp only [plusTo]; rw [if_neg oM]; rfl
        · simp only [plusTo]; rw [if_neg oM, set_map_app (by simp [hN] <;> omega)]; exact List.Sublist.refl _
      · exact s_q rfl (y_pick1 rfl rfl) <| s_n <| tk_cond0 rfl <| tk_exit <| tk_then_exit <| tk_then_exit <| tk_in_hit <| tk_to () trivial sB (by rw [plus_at (k := k) oM oM]; exact List.Sublist.refl _)
    · exact q_m rfl rfl <| tk_gno rfl rfl rfl <| tk_gno rfl rfl rfl <| s_q rfl (y_pick0 rfl rfl) <| s_n <| tk_cond0 rfl <| tk_exit <| tk_then_exit <| tk_then_exit <| tk_in_hit <| tk_to () trivial sB (by rw [plus_at (k := k) oM oM]; exact List.Sublist.refl _)
  · intro _ _
    exact s_r <| q_m rfl rfl <| s_q rfl (y_str (l := plus N n) rfl rfl rfl rfl (fun w hw => cel_rd (o := 0) (hw.mem (.head _)) sI (by rw [List.length_map, plus_len]) oM)) <| q_a rfl rfl <| s_n <| tk_retc <| tk_ret () trivial (.inl rfl) (r1 rfl rfl) (List.nil_sublist _)
theorem times_spec (a b : Nat) (w : World) (ha : a < 256) (hb : b < 256) : Spec Tryz.prog 203 [I (a : Int), I (b : Int)] w [] (fun _ : Unit => True) (fun _ => I (timesN a b : Int)) (fun _ => []) := by
  refine spec_of (n := 37) Tryz.func203 rfl rfl trivial trivial rfl <| s_r <| q_a rfl rfl <| s_n <| s_r <| q_a rfl rfl <| s_n <| tk_seq <| s_r <| q_a rfl rfl <| s_n <| tk_block <| tk_loop (X := Nat) (fun k => k ≤ 8) (fun k => [(0, I (a : Int)), (1, I (b : Int)), (5, I (tmA a b k : Int)), (6, I (k : Int))]) (fun _ => []) (fun k => 8 - k) (0) oM sB (List.Sublist.refl _) ?_
  intro k hI
  have hA := tmA_lt (b := b) ha hI
  refine tk_seq <| s_r <| q_m rfl rfl <| s_q rfl (y_lss rfl rfl) <| s_n <| tk_condP rfl (fun h9 => ?_) (fun h9 => ?_)
  · have hk7 : k ≤ 7 := by omega
    refine tk_skip <| tk_then <| tk_seqI (X := Unit) (fun _ => True) (fun _ => [(0, I (a : Int)), (1, I (b : Int)), (5, I (tmA a b (k + 1) : Int)), (6, I (k : Int))]) (fun _ => []) ?_ ?_
    · refine tk_block <| s_r <| q_m rfl rfl <| q_m rfl rfl <| s_q rfl (y_shrI rfl rfl oM) <| s_q rfl (y_and1 rfl rfl (by have := Nat.div_le_self b (2 ^ k); omega)) <| s_q rfl (y_eql rfl rfl) <| s_n <| tk_condP rfl (fun h16 => ?_) (fun h16 => ?_)
      · exact tk_region <| q_m rfl rfl <| q_m rfl rfl <| q_m rfl rfl <| s_q rfl (y_shlI rfl rfl oM (by have := sl7 ha hk7; omega)) <| s_q rfl (y_xorN rfl rfl ⟨by omega, by have := sl7 ha hk7; omega⟩) <| q_a rfl rfl <| tk_nil <| tk_in_normal <| tk_to () trivial ⟨rfl, rfl, by rw [tmA_on oM]; rfl, rfl, trivial⟩ (List.Sublist.refl _)
      · exact tk_skip <| tk_in_normal <| tk_to () trivial ⟨rfl, rfl, by rw [tmA_off oM]; rfl, rfl, trivial⟩ (List.Sublist.refl _)
    · intro _ _
      exact tk_region <| q_m rfl rfl <| tk_qe (I ((k + 1 : Nat) : Int)) rfl rfl rfl (y_addI rfl rfl oM) (by congr 1) <| q_a rfl rfl <| tk_nil <| tk_again (k + 1) oM oM sB (List.Sublist.refl _)
  · obtain rfl : k = 8 := by omega
    refine tk_exit <| tk_then_exit <| tk_then_exit <| tk_in_hit <| tk_then <| tk_seq <| s_r <| q_a rfl rfl <| s_n <| tk_block <| tk_loop (X := Nat) (fun k => k ≤ 7) (fun k => [(0, I (a : Int)), (1, I (b : Int)), (5, I (tmB (tmA a b 8) k : Int)), (7, I ((14 - k : Nat) : Int))]) (fun _ => []) (fun k => 7 - k) (0) oM sB (List.Sublist.refl _) ?_
    intro k hI
    have hB := tmB_lt (tmA_lt (b := b) ha (Nat.le_refl 8)) hI
    refine tk_seq <| s_r <| q_m rfl rfl <| s_q rfl (y_geq rfl rfl) <| s_n <| tk_condP rfl (fun h23 => ?_) (fun h23 => ?_)
    · have hk6 : k ≤ 6 := by omega
      refine tk_skip <| tk_then <| tk_seqI (X := Unit) (fun _ => True) (fun _ => [(0, I (a : Int)), (1, I (b : Int)), (5, I (tmB (tmA a b 8) (k + 1) : Int)), (7, I ((14 - k : Nat) : Int))]) (fun _ => []) ?_ ?_
      · refine tk_block <| s_r <| q_m rfl rfl <| q_m rfl rfl <| s_q rfl (y_shrI rfl rfl oM) <| s_q rfl (y_and1 rfl rfl (by have := Nat.div_le_self (tmB (tmA a b 8) k) (2 ^ (14 - k)); omega)) <| s_q rfl (y_eql rfl rfl) <| s_n <| tk_condP rfl (fun h30 => ?_) (fun h30 => ?_)
        · exact tk_region <| q_m rfl rfl <| q_m rfl rfl <| tk_qe (I ((6 - k : Nat) : Int)) rfl rfl rfl (y_subI rfl rfl oM) (by congr 1; omega) <| s_q rfl (y_shlI (a := 283) rfl rfl oM (by have := p6 k; omega)) <| s_q rfl (y_xorN rfl rfl ⟨by omega, by have := p6 k; omega⟩) <| q_a rfl rfl <| tk_nil <| tk_in_normal <| tk_to () trivial ⟨rfl, rfl, by rw [tmB_on oM]; rfl, rfl, trivial⟩ (List.Sublist.refl _)
        · exact tk_skip <| tk_in_normal <| tk_to () trivial ⟨rfl, rfl, by rw [tmB_off oM]; rfl, rfl, trivial⟩ (List.Sublist.refl _)
      · intro _ _
        exact tk_region <| q_m rfl rfl <| tk_qe (I ((14 - (k + 1) : Nat) : Int)) rfl rfl rfl (y_subI rfl rfl oM) (by congr 1; omega) <| q_a rfl rfl <| tk_nil <| tk_again (k + 1) oM oM sB (List.Sublist.refl _)
    · obtain rfl : k = 7 := by omega
      exact tk_exit <| tk_then_exit <| tk_then_exit <| tk_in_hit <| tk_then <| s_r <| q_m rfl rfl <| q_a rfl rfl <| s_n <| tk_retc <| tk_ret () trivial (.inl rfl) (r1 rfl rfl) (List.Sublist.refl _)
end Go.Proofs.YtnhpghhibcdklaaGreatDoor.Cip
set_option linter.unusedSimpArgs false
set_option linter.unusedVariables false
namespace Go.Proofs.YtnhpghhibcdklaaGreatDoor.Cip
theorem box_fwd : (List.range 256).map boxN = fwd.map UInt8.toNat := by kernel_rfl
end Go.Proofs.YtnhpghhibcdklaaGreatDoor.Cip
set_option linter.unusedSimpArgs false
set_option linter.unusedVariables false
namespace Go.Proofs.YtnhpghhibcdklaaGreatDoor.Cip
open Go Go.RowKit
set_option maxRecDepth 100000
abbrev II (u : UInt8) : Value := I (u.toNat : Int)
def bxTo (x : Nat) : List Value := (List.range x).map (fun i => I (boxN i : Int)) ++ List.replicate (256 - x) (I 0)
theorem bx_set {x : Nat} (h : x < 256) : (bxTo x).set x (I (boxN x : Int)) = bxTo (x + 1) := by
  unfold bxTo
  rw [List.set_append_right _ _ sI]
  simp only [List.length_map, List.length_range, Nat.sub_self, List.range_succ, List.map_append, List.append_assoc]
  rw [show 256 - x = (256 - (x + 1)) + 1 by omega, List.replicate_succ]; rfl
theorem bx_all : bxTo 256 = fwd.map II := by
  have h := congrArg (List.map fun n : Nat => I (n : Int)) box_fwd
  rw [List.map_map, List.map_map] at h
  unfold bxTo
  rw [Nat.sub_self, List.replicate_zero, List.append_nil]; exact h
theorem dl {v m : Nat} (h : v < 256) : v / 2 ^ m < 4611686018427387904 := by have := Nat.div_le_self v (2 ^ m); omega
theorem xl {a b : Nat} (ha : a < 4611686018427387904) (hb : b < 4611686018427387904) : a ^^^ b < 4611686018427387904 := xor_lt 62 ha hb
theorem mx_lt {v i : Nat} (h : i ≤ 7) : mixN v i < 256 := by
  have h1 := mixN_lt (v := v) (i := i)
  have h2 : 2 ^ i ≤ 2 ^ 7 := Nat.pow_le_pow_right dC h
  omega
theorem invN_pos {x : Nat} (h : x ≠ 0) : invN x = invTo x 255 1 := by
  unfold invN
  have : Nat.beq x 0 = false := by
    cases hb : Nat.beq x 0 with
    | false => rfl
    | true => exact (h (Nat.eq_of_beq_eq_true hb)).elim
  rw [this]; rfl
theorem inv_hit {x y : Nat} (hy : y < 256) (h : timesN x y = 1) : invTo x (256 - y) y = y := by
  rw [show 256 - y = (255 - y) + 1 by omega]; simp only [invTo]; rw [h]; rfl
theorem inv_miss {x y : Nat} (hy : y < 256) (h : ¬ timesN x y = 1) : invTo x (256 - y) y = invTo x (256 - (y + 1)) (y + 1) := by
  rw [show 256 - y = (256 - (y + 1)) + 1 by omega]; simp only [invTo]
  have : Nat.beq (timesN x y) 1 = false := by
    cases hb : Nat.beq (timesN x y) 1 with
    | false => rfl
    | true => exact (h (Nat.eq_of_beq_eq_true hb)).elim
  rw [this]; rfl
theorem inv_end {x y : Nat} (hy : y = 256) (h : x ≠ 0 → invTo x (256 - y) y = invN x) : invN x = 0 := by
  subst hy
  by_cases h0 : x = 0
  · subst h0; rfl
  · rw [← h h0]; rfl
theorem kcell {v : Value} {W : List UInt8} {o m : Nat} (ho : o = 1 + m) (hm : m < W.length) : (v :: W.map II)[o]? = some (II (W.getD m 0)) := by
  subst ho
  rw [Nat.add_comm, List.getElem?_cons_succ, List.getElem?_map, List.getElem?_eq_getElem hm, List.getD_eq_getElem?_getD, List.getElem?_eq_getElem hm]; rfl
theorem kset {v : Value} {W : List UInt8} {o m : Nat} {u : UInt8} (ho : o = 1 + m) : v :: (W.set m u).map II = (v :: W.map II).set o (II u) := by
  subst ho
  rw [Nat.add_comm, List.set_cons_succ, List.map_set]
theorem ref_same {b : List UInt8} {i : Nat} (h : i < 8 ∨ ¬ i % 8 = 0) : (refW b (i + 1)).2 = (refW b i).2 := by
  rcases Nat.lt_or_ge i 8 with h1 | h1
  · rw [refW_lo oM, refW_lo oM]
  · obtain ⟨n, rfl⟩ : ∃ n, i = n + 8 := ⟨i - 8, by omega⟩
    rw [show n + 8 + 1 = (n + 1) + 8 by omega, refW_hi, refW_hi, con_same oM]
theorem fcell (u : UInt8) : (fwd.map II)[u.toNat]? = some (II (sbox u)) := by rw [List.getElem?_map, sbox_at]; rfl
section
variable {P : Program} {n : Nat} {S : World → Prop} {L : Sl} {dst : Option Tmp} {rty : TypeId} {pos : String} {af : Array Edge} {gd : Option (Nat × Bool)} {t t' : TypeId} {x y : Operand}
theorem y_xorII {a b : UInt8} (hx : ev L x = some (II a)) (hy : ev L y = some (II b)) : Y P n S L ⟨dst, .binOp .xor t x y t', rty, pos, af, gd⟩ (II (a ^^^ b)) :=
  (y_xorN hx hy ⟨by have := b_lt a; omega, by have := b_lt b; omega⟩).cast (by rw [← UInt8.toNat_xor])
end
set_option maxHeartbeats 1000000 in
theorem box_spec (w : World) : Spec Tryz.prog 202 [] w [] (fun _ : Nat => True) (fun b => .slice (some ⟨b, 0, none⟩) 256 256) (fun b => [cel b (fwd.map II) 3]) := by
  refine spec_of (n := 71) Tryz.func202 rfl rfl trivial trivial rfl <| s_r <| q_a rfl rfl <| s_n <| s_r <| tk_act rfl <| a_make (m := 256) (z := I 0) (bytes := 8) rfl rfl rfl ⟨_, rfl, rfl, rfl, rfl⟩ rfl rfl oM fun b8 => q_a rfl rfl <| s_n <| tk_seq <| s_r <| q_a rfl rfl <| s_n <| tk_block <| tk_loop (X := Nat) (fun x => x ≤ 256) (fun x => [(1, .slice (some ⟨b8, 0, none⟩) 256 256), (2, I (x : Int))]) (fun x => [cel b8 (bxTo x) 3]) (fun x => 256 - x) (0) oM sB (List.Sublist.refl _) ?_
  intro x hI
  refine tk_seq <| s_r <| q_m rfl rfl <| s_q rfl (y_lss rfl rfl) <| s_n <| tk_condP rfl (fun h10 => ?_) (fun h10 => ?_)
  · refine tk_skip <| tk_then <| tk_seq <| tk_block <| s_r <| q_a rfl rfl <| s_n <| tk_seqI (X := Unit) (fun _ => True) (fun _ => [(1, .slice (some ⟨b8, 0, none⟩) 256 256), (2, I (x : Int)), (3, I (invN x : Int))]) (fun _ => [cel b8 (bxTo x) 3]) ?_ ?_
    · refine s_r <| q_a rfl rfl <| s_n <| tk_block <| tk_loop (X := Nat) (fun y => 1 ≤ y ∧ y ≤ 256 ∧ (x ≠ 0 → invTo x (256 - y) y = invN x)) (fun y => [(1, .slice (some ⟨b8, 0, none⟩) 256 256), (2, I (x : Int)), (3, I 0), (4, I (y : Int))]) (fun y => [cel b8 (bxTo x) 3]) (fun y => 256 - y) (1) (⟨Nat.le_refl _, by omega, fun h => (invN_pos h).symm⟩) sB (List.Sublist.refl _) ?_
      rintro y ⟨hy1, hy2, hy3⟩
      refine tk_seq <| s_r <| q_m rfl rfl <| tk_qs rfl rfl rfl (y_lss rfl rfl) (fun hs7_1 => ?_) (fun hs7_1 => ?_)
      · refine q_m rfl rfl <| s_g rfl (y_move rfl) <| tk_gqs rfl rfl rfl (y_gtr rfl rfl) (fun hs7_4 => ?_) (fun hs7_4 => ?_)
        · refine s_q rfl (y_pick1 rfl rfl) <| s_n <| tk_cond1 rfl <| tk_skip <| tk_then <| tk_seq <| tk_block <| s_r <| q_m rfl rfl <| q_m rfl rfl <| tk_act rfl <| a_callv [] _ rfl kR rfl (fun w' hw' => times_spec x y w' oM oM) rfl fun _ _ => s_q rfl (y_eql rfl rfl) <| s_n <| tk_condP rfl (fun h24 => ?_) (fun h24 => ?_)
          · exact s_r <| q_m rfl rfl <| q_a rfl rfl <| s_n <| tk_exit <| tk_in_miss rfl <| tk_then_exit <| tk_then_exit <| tk_in_hit <| tk_to () trivial ⟨rfl, rfl, by rw [← hy3 oM, inv_hit oM oM]; rfl, trivial⟩ (List.Sublist.refl _)
          · exact tk_skip <| tk_in_normal <| tk_then <| tk_region <| q_m rfl rfl <| tk_qe (I ((y + 1 : Nat) : Int)) rfl rfl rfl (y_addI rfl rfl oM) (by congr 1) <| q_a rfl rfl <| tk_nil <| tk_again (y + 1) ⟨by omega, by omega, fun h => by rw [← hy3 h]; exact (inv_miss oM oM).symm⟩ oM sB (List.Sublist.refl _)
        · exact s_q rfl (y_pick1 rfl rfl) <| s_n <| tk_cond0 rfl <| tk_exit <| tk_then_exit <| tk_then_exit <| tk_in_hit <| tk_to () trivial ⟨rfl, rfl, by rw [show x = 0 by omega]; rfl, trivial⟩ (List.Sublist.refl _)
      · exact q_m rfl rfl <| tk_gno rfl rfl rfl <| tk_gno rfl rfl rfl <| s_q rfl (y_pick0 rfl rfl) <| s_n <| tk_cond0 rfl <| tk_exit <| tk_then_exit <| tk_then_exit <| tk_in_hit <| tk_to () trivial ⟨rfl, rfl, by rw [inv_end oM hy3]; rfl, trivial⟩ (List.Sublist.refl _)
    · intro _ _
      have hv := invN_lt (x := x)
      generalize hvx : invN x = v at hv ⊢
      refine s_r <| q_a rfl rfl <| s_n <| tk_seq <| s_r <| q_a rfl rfl <| s_n <| tk_block <| tk_loop (X := Nat) (fun i => i ≤ 8) (fun i => [(1, .slice (some ⟨b8, 0, none⟩) 256 256), (2, I (x : Int)), (3, I (v : Int)), (5, I (mixN v i : Int)), (6, I (i : Int))]) (fun i => [cel b8 (bxTo x) 3]) (fun i => 8 - i) (0) oM sB (List.Sublist.refl _) ?_
      intro i hI
      refine tk_seq <| s_r <| q_m rfl rfl <| s_q rfl (y_lss rfl rfl) <| s_n <| tk_condP rfl (fun h27 => ?_) (fun h27 => ?_)
      · have hi7 : i ≤ 7 := by omega
        refine tk_skip <| tk_then <| tk_seq <| tk_block <| tk_seq <| tk_drawS [] kR <| s_x 0 rfl (y_move rfl) <| s_x 1 rfl (y_move rfl) <| s_x 2 rfl (y_shrI rfl rfl oM) <| s_x 3 rfl (y_move rfl) <| s_x 4 rfl (y_move rfl) <| s_x 5 rfl (y_addN (b := 4) rfl rfl oM) <| s_x 6 rfl (y_remN (b := 8) rfl rfl oM) <| s_x 7 rfl (y_shrI rfl rfl oM) <| s_x 8 rfl (y_xorN rfl rfl ⟨(dl hv), (dl hv)⟩) <| s_x 9 rfl (y_move rfl) <| s_x 10 rfl (y_move rfl) <| s_x 11 rfl (y_addN (b := 5) rfl rfl oM) <| s_x 12 rfl (y_remN (b := 8) rfl rfl oM) <| s_x 13 rfl (y_shrI rfl rfl oM) <| s_x 14 rfl (y_xorN rfl rfl ⟨(xl (dl hv) (dl hv)), (dl hv)⟩) <| s_x 15 rfl (y_move rfl) <| s_x 16 rfl (y_move rfl) <| s_x 17 rfl (y_addN (b := 6) rfl rfl oM) ?_; refine s_x 18 rfl (y_remN (b := 8) rfl rfl oM) <| s_x 19 rfl (y_shrI rfl rfl oM) <| s_x 20 rfl (y_xorN rfl rfl ⟨(xl (xl (dl hv) (dl hv)) (dl hv)), (dl hv)⟩) <| s_x 21 rfl (y_move rfl) <| s_x 22 rfl (y_move rfl) <| s_x 23 rfl (y_addN (b := 7) rfl rfl oM) <| s_x 24 rfl (y_remN (b := 8) rfl rfl oM) <| s_x 25 rfl (y_shrI rfl rfl oM) <| s_x 26 rfl (y_xorN rfl rfl ⟨(xl (xl (xl (dl hv) (dl hv)) (dl hv)) (dl hv)), (dl hv)⟩) <| s_x 27 rfl (y_move rfl) <| s_x 28 rfl (y_shrI (a := 99) rfl rfl oM) <| s_x 29 rfl (y_xorN rfl rfl ⟨(xl (xl (xl (xl (dl hv) (dl hv)) (dl hv)) (dl hv)) (dl hv)), (dl dC)⟩) <| s_x 30 rfl (y_assign rfl) <| tx_done kR <| tk_then <| tk_region <| q_m rfl rfl <| q_m rfl rfl <| s_q rfl (y_remN (b := 2) rfl rfl oM) <| q_m rfl rfl <| s_q rfl (y_shlI rfl rfl oM (by have := sl7 (a := bit1 v i) (by simp only [bit1]; omega) hi7; simp only [bit1] at this; omega)) <| s_q rfl (y_addN rfl rfl (by have := sl7 (a := bit1 v i) (by simp only [bit1]; omega) hi7; simp only [bit1] at this; have := mx_lt (v := v) hi7; omega)) <| q_a rfl rfl <| tk_nil ?_; exact tk_in_normal <| tk_then <| tk_region <| q_m rfl rfl <| tk_qe (I ((i + 1 : Nat) : Int)) rfl rfl rfl (y_addI rfl rfl oM) (by congr 1) <| q_a rfl rfl <| tk_nil <| tk_again (i + 1) oM oM sB (List.Sublist.refl _)
      · obtain rfl : i = 8 := by omega
        exact tk_exit <| tk_then_exit <| tk_then_exit <| tk_in_hit <| tk_then <| tk_region <| q_m rfl rfl <| q_m rfl rfl <| q_m rfl rfl <| s_q rfl (y_ixS01 (i := x) rfl rfl kR oM) <| tk_act rfl <| a_store1 (H1 := []) rfl rfl kR rfl rfl (by simp [bxTo] <;> omega) <| tk_nil <| tk_in_normal <| tk_then <| tk_region <| q_m rfl rfl <| tk_qe (I ((x + 1 : Nat) : Int)) rfl rfl rfl (y_addI rfl rfl oM) (by congr 1) <| q_a rfl rfl <| tk_nil <| tk_again (x + 1) oM oM sB (by rw [← bx_set oM]; unfold boxN; rw [hvx]; exact List.Sublist.refl _)
  · obtain rfl : x = 256 := by omega
    exact tk_exit <| tk_then_exit <| tk_then_exit <| tk_in_hit <| tk_then <| s_r <| q_m rfl rfl <| q_a rfl rfl <| s_n <| tk_retc <| tk_ret b8 trivial (.inl rfl) (r1 rfl rfl) (by rw [bx_all]; exact List.Sublist.refl _)
attribute [local irreducible] expW refW inW keyW tv
set_option maxHeartbeats 1000000 in
theorem rmake_spec (b : List UInt8) (w : World) (hb : b.length = 32) : Spec Tryz.prog 116 [Str b] w [] (fun _ : Nat × Nat => True) (fun x => PT x.1) (fun x => [cel x.1 (.slice (some ⟨x.2, 0, none⟩) 256 256 :: (keyW b).map II) 343, cel x.2 (fwd.map II) 3]) := by
  refine spec_of (n := 107) Tryz.func116 rfl rfl trivial trivial rfl <| s_r <| q_a rfl rfl <| s_n <| s_r <| tk_act rfl <| a_callv [] _ rfl kR rfl (fun w' hw' => box_spec w') rfl fun bb _ => s_q rfl (y_build (v := .agg ((.slice (some ⟨bb, 0, none⟩) 256 256) :: (List.replicate 240 0).map II).toArray) rfl (fun _ => kR)) <| tk_act rfl <| a_boxL rfl rfl fun b10 => q_a rfl rfl <| s_n <| s_r <| q_a rfl rfl <| s_n <| tk_seq <| s_r <| q_a rfl rfl <| s_n <| tk_block <| tk_loop (X := Nat) (fun i => i ≤ 60) (fun i => [(0, Str b), (3, PT b10), (4, II (refW b i).2), (5, I (i : Int))]) (fun i => [cel b10 ((.slice (some ⟨bb, 0, none⟩) 256 256) :: ((refW b i).1).map II) 343, cel bb (fwd.map II) 3]) (fun i => 60 - i) (0) oM (by rw [ref0]; exact ⟨rfl, rfl, rfl, rfl, trivial⟩) (by rw [ref0]; exact List.Sublist.refl _) ?_
  intro i hI
  refine tk_seq <| s_r <| q_m rfl rfl <| s_q rfl (y_lss rfl rfl) <| s_n <| tk_condP rfl (fun h12 => ?_) (fun h12 => ?_)
  · refine tk_skip <| tk_then <| tk_seqI (X := Unit) (fun _ => True) (fun _ => [(0, Str b), (3, PT b10), (4, II (refW b (i + 1)).2), (5, I (i : Int))]) (fun _ => [cel b10 ((.slice (some ⟨bb, 0, none⟩) 256 256) :: ((refW b (i + 1)).1).map II) 343, cel bb (fwd.map II) 3]) ?_ ?_
    · refine tk_block <| tk_seq <| s_r <| q_a rfl rfl <| s_n <| tk_block <| tk_loop (X := Nat) (fun j => j ≤ 4) (fun j => [(0, Str b), (3, PT b10), (4, II (refW b i).2), (5, I (i : Int)), (6, I (j : Int))]) (fun j => [cel b10 ((.slice (some ⟨bb, 0, none⟩) 256 256) :: (inW b i j).map II) 343, cel bb (fwd.map II) 3]) (fun j => 4 - j) (0) oM sB (by rw [inW_zero]; exact List.Sublist.refl _) ?_
      intro j hJ
      refine tk_seq <| s_r <| q_m rfl rfl <| s_q rfl (y_lss rfl rfl) <| s_n <| tk_condP rfl (fun h16 => ?_) (fun h16 => ?_)
      · refine tk_skip <| tk_then <| tk_seqI (X := Unit) (fun _ => True) (fun _ => [(0, Str b), (3, PT b10), (4, II (refW b i).2), (5, I (i : Int)), (6, I (j : Int))]) (fun _ => [cel b10 ((.slice (some ⟨bb, 0, none⟩) 256 256) :: (inW b i (j + 1)).map II) 343, cel bb (fwd.map II) 3]) ?_ ?_
        · refine tk_block <| tk_seq <| s_r <| q_m rfl rfl <| s_q rfl (y_lss rfl rfl) <| s_n <| tk_condP rfl (fun h20 => ?_) (fun h20 => ?_)
          · exact tk_seq <| tk_drawS [14] kR <| s_x 0 rfl (y_move rfl) <| s_x 1 rfl (y_move rfl) <| s_x 2 rfl (y_move rfl) <| s_x 3 rfl (y_move rfl) <| s_x 4 rfl (y_move rfl) <| s_x 5 rfl ((y_mulI rfl rfl oM).cast (v := _) (u := I ((i * 4 : Nat) : Int)) (by congr 1; omega)) <| s_x 6 rfl (y_move rfl) <| s_x 7 rfl ((y_addI rfl rfl oM).cast (v := _) (u := I ((i * 4 + j : Nat) : Int)) (by congr 1)) <| s_x 8 rfl (y_ixT (i := i * 4 + j) rfl rfl rfl ⟨rfl, by omega⟩) <| s_x 9 rfl (y_conv8i rfl rfl rfl) <| s_x 10 rfl (y_nilCheck rfl) <| s_x 11 rfl (y_fldN 1 rfl kR) <| s_x 12 rfl (y_ixAN 60 4 rfl rfl kR oM) <| s_x 13 rfl (y_ixAN1 4 rfl rfl kR oM) <| tx_x 14 rfl kR rfl rfl <| a_store1 (H1 := []) rfl rfl kR rfl rfl (by simp [inW_len hb (show j ≤ 4 by omega)] <;> omega) <| tx_done kR <| tk_then <| tk_exit <| tk_then_exit <| tk_in_hit <| tk_to () trivial sB (by rw [inW_lo_succ hb oM oM, kset (o := 0 + 1 + i * 4 + j) (m := i * 4 + j) oM]; exact List.Sublist.refl _)
          · obtain ⟨n, rfl⟩ : ∃ n, i = n + 8 := ⟨i - 8, by omega⟩
            rw [refW_hi (b := b) (n := n)]
            refine tk_skip <| tk_then <| s_r <| q_m rfl rfl <| q_m rfl rfl <| tk_qe (I ((n + 7 : Nat) : Int)) rfl rfl rfl (y_subI rfl rfl oM) (by congr 1; omega) <| q_m rfl rfl <| s_q rfl (y_nilCheck rfl) <| s_q rfl (y_fldN 1 rfl kR) <| s_q rfl (y_ixAN 60 4 rfl rfl kR oM) <| s_q rfl (y_ixAN1 4 rfl rfl kR oM) <| s_q rfl (y_load rfl rfl (hc (.head _) (kcell (m := (n + 7) * 4 + j) oM (by rw [inW_len hb oM]; omega)))) <| q_a rfl rfl <| s_n <| tk_seqI (X := Unit) (fun _ => True) (fun _ => [(0, Str b), (3, PT b10), (4, II (expW b n).2), (5, I ((n + 8 : Nat) : Int)), (6, I (j : Int)), (7, II ((tv (expW b n).1 n (expW b n).2).getD j 0))]) (fun _ => [cel b10 ((.slice (some ⟨bb, 0, none⟩) 256 256) :: (inW b (n + 8) j).map II) 343, cel bb (fwd.map II) 3]) ?_ ?_
            · refine s_r <| q_m rfl rfl <| s_q rfl (y_remN (b := 8) rfl rfl oM) <| s_q rfl (y_eql rfl rfl) <| s_n <| tk_condP rfl (fun h46 => ?_) (fun h46 => ?_)
              · refine tk_seq <| tk_drawS [] kR <| s_x 0 rfl (y_move rfl) <| s_x 1 rfl (y_nilCheck rfl) <| s_x 2 rfl (y_fld0 rfl kR) <| s_l 3 rfl (fun _ h => h) (y_load rfl rfl (hc (.head _) rfl)) <| s_x 4 rfl (y_move rfl) <| s_x 5 rfl (y_move rfl) <| s_x 6 rfl ((y_subI rfl rfl oM).cast (v := _) (u := I ((n + 7 : Nat) : Int)) (by congr 1; omega)) <| s_x 7 rfl (y_move rfl) <| s_x 8 rfl ((y_addI rfl rfl oM).cast (v := _) (u := I ((j + 1 : Nat) : Int)) (by congr 1)) <| s_x 9 rfl (y_remN (b := 4) rfl rfl oM) <| s_x 10 rfl (y_nilCheck rfl) <| s_x 11 rfl (y_fldN 1 rfl kR) <| s_x 12 rfl (y_ixAN 60 4 rfl rfl kR oM) <| s_x 13 rfl (y_ixAN1 4 rfl rfl kR oM) <| s_l 14 rfl (fun _ h => h) (y_load rfl rfl (hc (.head _) (kcell (m := (n + 7) * 4 + (j + 1) % 4) oM (by rw [inW_len hb oM]; omega)))) <| s_x 15 rfl (y_ixS01 (i := UInt8.toNat _) rfl rfl kR (b_lt _)) <| s_l 16 rfl (fun _ h => h) (y_load rfl rfl (hc (mm 1 rfl) (fcell _))) <| s_x 17 rfl (y_assign rfl) <| tx_done kR <| tk_then <| s_r <| q_m rfl rfl ?_; refine s_q rfl (y_eql rfl rfl) <| s_n <| tk_condP rfl (fun h65 => ?_) (fun h65 => ?_)
                · exact tk_region <| q_m rfl rfl <| q_m rfl rfl <| s_q rfl (y_xorII rfl rfl) <| q_a rfl rfl <| tk_nil <| tk_to () trivial ⟨rfl, rfl, rfl, rfl, rfl, by rw [show j = 0 by omega, tv_at00 oM, ← inW_low (j := 0) oM]; rfl, trivial⟩ (List.Sublist.refl _)
                · exact tk_skip <| tk_to () trivial ⟨rfl, rfl, rfl, rfl, rfl, by rw [tv_at0 oM oM oM, ← inW_low (j := j) oM]; rfl, trivial⟩ (List.Sublist.refl _)
              · refine s_r <| q_m rfl rfl <| s_q rfl (y_remN (b := 8) rfl rfl oM) <| s_q rfl (y_eql rfl rfl) <| s_n <| tk_condP rfl (fun h71 => ?_) (fun h71 => ?_)
                · exact tk_region <| q_m rfl rfl <| s_q rfl (y_nilCheck rfl) <| s_q rfl (y_fld0 rfl kR) <| s_q rfl (y_load rfl rfl (hc (.head _) rfl)) <| q_m rfl rfl <| s_q rfl (y_ixS01 (i := UInt8.toNat _) rfl rfl kR (b_lt _)) <| s_q rfl (y_load rfl rfl (hc (mm 1 rfl) (fcell _))) <| q_a rfl rfl <| tk_nil <| tk_to () trivial ⟨rfl, rfl, rfl, rfl, rfl, by rw [tv_at4 oM oM oM oM (expW_len hb), ← inW_low (j := j) oM]; rfl, trivial⟩ (List.Sublist.refl _)
                · exact tk_skip <| tk_to () trivial ⟨rfl, rfl, rfl, rfl, rfl, by rw [tv_atx oM oM oM, ← inW_low (j := j) oM]; rfl, trivial⟩ (List.Sublist.refl _)
            · intro _ _
              exact tk_drawS [18] kR <| s_x 0 rfl (y_move rfl) <| s_x 1 rfl (y_move rfl) <| s_x 2 rfl (y_move rfl) <| s_x 3 rfl (y_move rfl) <| s_x 4 rfl (y_move rfl) <| s_x 5 rfl ((y_subI rfl rfl oM).cast (v := _) (u := IN n) (by congr 1; omega)) <| s_x 6 rfl (y_move rfl) <| s_x 7 rfl (y_nilCheck rfl) <| s_x 8 rfl (y_fldN 1 rfl kR) <| s_x 9 rfl (y_ixAN 60 4 rfl rfl kR oM) <| s_x 10 rfl (y_ixAN1 4 rfl rfl kR oM) <| s_l 11 rfl (fun _ h => h) (y_load rfl rfl (hc (.head _) (kcell (m := n * 4 + j) oM (by rw [inW_len hb oM]; omega)))) <| s_x 12 rfl (y_move rfl) <| s_x 13 rfl (y_xorII rfl rfl) <| s_x 14 rfl (y_nilCheck rfl) <| s_x 15 rfl (y_fldN 1 rfl kR) <| s_x 16 rfl (y_ixAN 60 4 rfl rfl kR oM) <| s_x 17 rfl (y_ixAN1 4 rfl rfl kR oM) <| tx_x 18 rfl kR rfl rfl <| a_store1 (H1 := []) rfl rfl kR rfl rfl (by simp [inW_len hb (show j ≤ 4 by omega)] <;> omega) <| tx_done kR <| tk_in_normal <| tk_to () trivial sB (by rw [inW_hi_succ, kset (o := 0 + 1 + (n + 8) * 4 + j) (m := (n + 8) * 4 + j) oM]; exact List.Sublist.refl _)
        · intro _ _
          exact tk_region <| q_m rfl rfl <| tk_qe (I ((j + 1 : Nat) : Int)) rfl rfl rfl (y_addI rfl rfl oM) (by congr 1) <| q_a rfl rfl <| tk_nil <| tk_again (j + 1) oM oM sB (List.Sublist.refl _)
      · obtain rfl : j = 4 := by omega
        refine tk_exit <| tk_then_exit <| tk_then_exit <| tk_in_hit <| tk_then <| s_r <| q_m rfl rfl <| tk_qs rfl rfl rfl (y_geq rfl rfl) (fun hs19_1 => ?_) (fun hs19_1 => ?_)
        · refine q_m rfl rfl <| s_g rfl (y_move rfl) <| s_g rfl (y_remN (b := 8) rfl rfl oM) <| tk_gqs rfl rfl rfl (y_eql rfl rfl) (fun hs19_5 => ?_) (fun hs19_5 => ?_)
          · refine s_q rfl (y_pick1 rfl rfl) <| s_n <| tk_cond1 rfl <| tk_region ?_
            obtain ⟨n, rfl⟩ : ∃ n, i = n + 8 := ⟨i - 8, by omega⟩
            rw [refW_hi (b := b) (n := n)]
            exact q_m rfl rfl <| tk_act rfl <| a_callv [] _ rfl kR rfl (fun w' hw' => times_spec (expW b n).2.toNat 2 w' (b_lt _) dC) rfl fun _ _ => q_a rfl rfl <| tk_nil <| tk_in_normal <| tk_to () trivial ⟨rfl, rfl, by rw [show n + 8 + 1 = (n + 1) + 8 by omega, refW_hi]; show some (I ((timesN (expW b n).2.toNat 2 : Nat) : Int)) = some (I (((expW b (n + 1)).2.toNat : Nat) : Int)); rw [con_twice oM oM], rfl, trivial⟩ (by rw [← inW_four]; exact List.Sublist.refl _)
          · exact s_q rfl (y_pick1 rfl rfl) <| s_n <| tk_cond0 rfl <| tk_skip <| tk_in_normal <| tk_to () trivial ⟨rfl, rfl, by rw [ref_same (b := b) oM]; rfl, rfl, trivial⟩ (by rw [← inW_four]; exact List.Sublist.refl _)
        · exact q_m rfl rfl <| tk_gno rfl rfl rfl <| tk_gno rfl rfl rfl <| tk_gno rfl rfl rfl <| s_q rfl (y_pick0 rfl rfl) <| s_n <| tk_cond0 rfl <| tk_skip <| tk_in_normal <| tk_to () trivial ⟨rfl, rfl, by rw [ref_same (b := b) oM]; rfl, rfl, trivial⟩ (by rw [← inW_four]; exact List.Sublist.refl _)
    · intro _ _
      exact tk_region <| q_m rfl rfl <| tk_qe (I ((i + 1 : Nat) : Int)) rfl rfl rfl (y_addI rfl rfl oM) (by congr 1) <| q_a rfl rfl <| tk_nil <| tk_again (i + 1) oM oM sB (List.Sublist.refl _)
  · obtain rfl : i = 60 := by omega
    exact tk_exit <| tk_then_exit <| tk_then_exit <| tk_in_hit <| tk_then <| s_r <| q_m rfl rfl <| q_a rfl rfl <| s_n <| tk_retc <| tk_ret (b10, bb) trivial (.inl rfl) (r1 rfl rfl) (by rw [ref60]; exact List.Sublist.refl _)
end Go.Proofs.YtnhpghhibcdklaaGreatDoor.Cip
set_option linter.unusedSimpArgs false
set_option linter.unusedVariables false
namespace Go.Proofs.YtnhpghhibcdklaaGreatDoor.Cip
open Go Go.RowKit
set_option maxRecDepth 100000
attribute [local irreducible] turn plus keyW hideL rfTo
/-- the reference's key, as it lies in memory -/
def RK (w : World) (kb bb : Nat) (K : List UInt8) : Prop := w.cell? ⟨kb, 0, none⟩ = some (.slice (some ⟨bb, 0, none⟩) 256 256) ∧ (∀ m, m < 240 → w.cell? ⟨kb, 1 + m, none⟩ = some (II (K.getD m 0))) ∧ ∀ u : UInt8, w.cell? ⟨bb, u.toNat, none⟩ = some (II (sbox u))
theorem rkK {w : World} {kb bb : Nat} {K : List UInt8} (h : RK w kb bb K) {o m : Nat} (ho : o = 1 + m) (hm : m < 240) : w.cell? ⟨kb, o, none⟩ = some (II (K.getD m 0)) := by subst ho; exact h.2.1 m hm
theorem icell {W : List UInt8} {o m : Nat} (ho : o = m) (hm : m < W.length) : (W.map II)[o]? = some (II (W.getD m 0)) := by
  subst ho
  rw [List.getElem?_map, List.getElem?_eq_getElem hm, List.getD_eq_getElem?_getD, List.getElem?_eq_getElem hm]; rfl
theorem iset {W : List UInt8} {o m : Nat} {u : UInt8} (ho : o = m) : (W.set m u).map II = (W.map II).set o (II u) := by subst ho; rw [List.map_set]
theorem oneI {l : List UInt8} : ∀ u ∈ l.map II, u.oneCell' = true := by
  intro u hu
  obtain ⟨a, _, rfl⟩ := List.mem_map.1 hu
  rfl
theorem mxb_at {U : List UInt8} {c r : Nat} (hr : r < 4) : mxb U (c * 4 + r) = twice8 (U.getD (c * 4 + r) 0) ^^^ (twice8 (U.getD (c * 4 + (r + 1) % 4) 0) ^^^ U.getD (c * 4 + (r + 1) % 4) 0) ^^^ U.getD (c * 4 + (r + 2) % 4) 0 ^^^ U.getD (c * 4 + (r + 3) % 4) 0 := by
  unfold mxb
  rw [show (c * 4 + r) / 4 = c by omega, show (c * 4 + r) % 4 = r by omega]
theorem own_tk {v : Value} {F : List UInt8} {i : Nat} {e : TypeId} (h : i < F.length) : ownB v (F.take (i + 1)) e = own v ((F.take i).length + 1) ((F.take i).map B ++ [B (F.getD i 0)]) e 1 := by
  have e1 : F.take (i + 1) = F.take i ++ [F.getD i 0] := by
    rw [List.take_add_one, List.getElem?_eq_getElem h, List.getD_eq_getElem?_getD, List.getElem?_eq_getElem h]; rfl
  simp only [ownB, e1, List.map_append, List.length_append]; rfl
theorem times2_spec (u : UInt8) (w : World) : Spec Tryz.prog 203 [II u, I 2] w [] (fun _ : Unit => True) (fun _ => II (twice8 u)) (fun _ => []) := by
  have h := times_spec u.toNat 2 w (b_lt u) dC
  rw [times2] at h; exact h
theorem times3_spec (u : UInt8) (w : World) : Spec Tryz.prog 203 [II u, I 3] w [] (fun _ : Unit => True) (fun _ => II (twice8 u ^^^ u)) (fun _ => []) := by
  have h := times_spec u.toNat 3 w (b_lt u) dC
  rw [times3] at h; exact h
set_option maxHeartbeats 2000000 in
theorem rturn_spec (kb bb : Nat) (K V : List UInt8) (w : World) (hV : V.length = 16) (hk : RK w kb bb K) : Spec Tryz.prog 204 [PT kb, Str V] w [] (fun _ : Unit => True) (fun _ => Str (turn K V)) (fun _ => []) := by
  refine spec_of (n := 165) Tryz.func204 rfl rfl trivial trivial rfl <| s_r <| q_a rfl rfl <| s_n <| s_r <| tk_act rfl <| a_allocL (cs := (List.replicate 16 0).map II) kR rfl fun b5 => s_n <| tk_seq <| s_r <| q_a rfl rfl <| s_n <| tk_block <| tk_loop (X := Nat) (fun i => i ≤ 16) (fun i => [(0, PT kb), (5, PT b5), (1, Str V), (6, I (i : Int))]) (fun i => [cel b5 ((adTo K 0 V (List.replicate 16 0) i).map II) 425]) (fun i => 16 - i) (0) oM sB (List.Sublist.refl _) ?_
  intro i hI
  refine tk_seq <| s_r <| q_m rfl rfl <| s_q rfl (y_lss rfl rfl) <| s_n <| tk_condP rfl (fun h19 => ?_) (fun h19 => ?_)
  · refine tk_skip <| tk_then <| tk_seq <| tk_block <| tk_drawS [21] kR <| s_x 0 rfl (y_move rfl) <| s_x 1 rfl (y_quoN (b := 4) rfl rfl oM) <| s_x 2 rfl (y_move rfl) <| s_x 3 rfl (y_remN (b := 4) rfl rfl oM) <| s_x 4 rfl (y_move rfl) <| s_x 5 rfl (y_move rfl) <| s_x 6 rfl (y_ixT (i := i) rfl rfl rfl ⟨rfl, by omega⟩) <| s_x 7 rfl (y_conv8i rfl rfl rfl) <| s_x 8 rfl (y_move rfl) <| s_x 9 rfl (y_move rfl) <| s_x 10 rfl (y_quoN (b := 4) rfl rfl oM) <| s_x 11 rfl (y_move rfl) <| s_x 12 rfl (y_remN (b := 4) rfl rfl oM) <| s_x 13 rfl (y_nilCheck rfl) <| s_x 14 rfl (y_fldN 1 rfl kR) <| s_x 15 rfl (y_ixAN 60 4 rfl rfl kR oM) <| s_x 16 rfl (y_ixAN1 4 rfl rfl kR oM) <| s_l 17 rfl (fun _ h => h) (y_load rfl rfl (hro (rkK hk (m := 16 * 0 + i) oM oM) (fun h => h))) <| s_x 18 rfl (y_xorII rfl rfl) ?_; exact s_x 19 rfl (y_ixAN 4 4 rfl rfl kR oM) <| s_x 20 rfl (y_ixAN1 4 rfl rfl kR oM) <| tx_x 21 rfl kR rfl rfl <| a_store1 (H1 := []) rfl rfl kR rfl rfl (by simp <;> omega) <| tx_done kR <| tk_in_normal <| tk_then <| tk_region <| q_m rfl rfl <| tk_qe (I ((i + 1 : Nat) : Int)) rfl rfl rfl (y_addI rfl rfl oM) (by congr 1) <| q_a rfl rfl <| tk_nil <| tk_again (i + 1) oM oM sB (by simp only [adTo]; rw [iset (o := 0 + i / 4 * 4 + i % 4) (m := i) oM]; exact List.Sublist.refl _)
  · obtain rfl : i = 16 := by omega
    refine tk_exit <| tk_then_exit <| tk_then_exit <| tk_in_hit <| tk_then <| tk_seq <| s_r <| q_a rfl rfl <| s_n <| tk_block <| tk_loop (X := Nat) (fun rd => rd ≤ 14) (fun rd => [(0, PT kb), (5, PT b5), (7, I ((rd + 1 : Nat) : Int))]) (fun rd => [cel b5 ((rfTo K V rd).map II) 425]) (fun rd => 14 - rd) (0) oM sB (by rw [ad_eq hV sI]; simp only [rfTo]; exact List.Sublist.refl _) ?_
    intro rd hI
    have hSl := rf_len (K := K) hV rd
    generalize hSd : rfTo K V rd = S at hSl ⊢
    refine tk_seq <| s_r <| q_m rfl rfl <| s_q rfl (y_lss rfl rfl) <| s_n <| tk_condP rfl (fun h44 => ?_) (fun h44 => ?_)
    · refine tk_skip <| tk_then <| tk_seq <| tk_block <| s_r <| tk_act rfl <| a_allocL (cs := (List.replicate 16 0).map II) kR rfl fun b8 => s_n <| tk_seq <| s_r <| q_a rfl rfl <| s_n <| tk_block <| tk_loop (X := Nat) (fun c => c ≤ 4) (fun c => [(0, PT kb), (5, PT b5), (7, I ((rd + 1 : Nat) : Int)), (8, PT b8), (9, I (c : Int))]) (fun c => [cel b8 ((shTo S (c * 4)).map II) 425, cel b5 (S.map II) 425]) (fun c => 4 - c) (0) oM sB (List.Sublist.refl _) ?_
      intro c hC
      refine tk_seq <| s_r <| q_m rfl rfl <| s_q rfl (y_lss rfl rfl) <| s_n <| tk_condP rfl (fun h48 => ?_) (fun h48 => ?_)
      · refine tk_skip <| tk_then <| tk_seq <| tk_block <| s_r <| q_a rfl rfl <| s_n <| tk_block <| tk_loop (X := Nat) (fun r => r ≤ 4) (fun r => [(0, PT kb), (5, PT b5), (7, I ((rd + 1 : Nat) : Int)), (8, PT b8), (9, I (c : Int)), (10, I (r : Int))]) (fun r => [cel b8 ((shTo S (c * 4 + r)).map II) 425, cel b5 (S.map II) 425]) (fun r => 4 - r) (0) oM sB (List.Sublist.refl _) ?_
        intro r hr4
        refine tk_seq <| s_r <| q_m rfl rfl <| s_q rfl (y_lss rfl rfl) <| s_n <| tk_condP rfl (fun h52 => ?_) (fun h52 => ?_)
        · refine tk_skip <| tk_then <| tk_seq <| tk_block <| tk_drawS [18] kR <| s_x 0 rfl (y_move rfl) <| s_x 1 rfl (y_move rfl) <| s_x 2 rfl (y_move rfl) <| s_x 3 rfl (y_nilCheck rfl) <| s_x 4 rfl (y_fld0 rfl kR) <| s_l 5 rfl (fun _ h => h) (y_load rfl rfl (hro hk.1 (fun h => h))) <| s_x 6 rfl (y_move rfl) <| s_x 7 rfl (y_move rfl) <| s_x 8 rfl (y_addN rfl rfl oM) <| s_x 9 rfl (y_remN (b := 4) rfl rfl oM) <| s_x 10 rfl (y_move rfl) <| s_x 11 rfl (y_ixAN 4 4 rfl rfl kR oM) <| s_x 12 rfl (y_ixAN1 4 rfl rfl kR oM) <| s_l 13 rfl (fun _ h => h) (y_load rfl rfl (hc (mm 1 rfl) (icell (m := (c * 4 + r + (c * 4 + r) % 4 * 4) % 16) oM (by simp [hSl] <;> omega)))) <| s_x 14 rfl (y_ixS01 (i := UInt8.toNat _) rfl rfl kR (b_lt _)) <| s_l 15 rfl (fun _ h => h) (y_load rfl rfl (hro (hk.2.2 _) (fun h => h))) <| s_x 16 rfl (y_ixAN 4 4 rfl rfl kR oM) <| s_x 17 rfl (y_ixAN1 4 rfl rfl kR oM) <| tx_x 18 rfl kR rfl rfl ?_; exact a_store1 (H1 := []) rfl rfl kR rfl rfl (by simp [hSl] <;> omega) <| tx_done kR <| tk_in_normal <| tk_then <| tk_region <| q_m rfl rfl <| tk_qe (I ((r + 1 : Nat) : Int)) rfl rfl rfl (y_addI rfl rfl oM) (by congr 1) <| q_a rfl rfl <| tk_nil <| tk_again (r + 1) oM oM sB (by rw [← Nat.add_assoc]; simp only [shTo_succ]; rw [iset (o := 0 + c * 4 + r) (m := c * 4 + r) oM]; exact List.Sublist.refl _)
        · obtain rfl : r = 4 := by omega
          exact tk_exit <| tk_then_exit <| tk_then_exit <| tk_in_hit <| tk_in_normal <| tk_then <| tk_region <| q_m rfl rfl <| tk_qe (I ((c + 1 : Nat) : Int)) rfl rfl rfl (y_addI rfl rfl oM) (by congr 1) <| q_a rfl rfl <| tk_nil <| tk_again (c + 1) oM oM sB (by rw [show (c + 1) * 4 = c * 4 + 4 by omega]; exact List.Sublist.refl _)
      · obtain rfl : c = 4 := by omega
        refine tk_exit <| tk_then_exit <| tk_then_exit <| tk_in_hit <| tk_then <| tk_seqI (X := Unit) (fun _ => True) (fun _ => [(0, PT kb), (5, PT b5), (7, I ((rd + 1 : Nat) : Int)), (8, PT b8)]) (fun _ => [cel b8 ((if rd + 1 < 14 then mxTo (shTo S 16) 16 else shTo S 16).map II) 425, cel b5 (S.map II) 425]) ?_ ?_
        · refine s_r <| q_m rfl rfl <| s_q rfl (y_lss rfl rfl) <| s_n <| tk_condP rfl (fun h74 => ?_) (fun h74 => ?_)
          · refine s_r <| s_q rfl (y_loadA 16 rfl kR (by simp [hSl]) (hcw (.head _))) <| tk_act rfl <| a_allocL (cs := (List.replicate 16 0).map II) kR rfl fun b11 => tk_act rfl <| a_storeW (H1 := []) 16 rfl rfl kR rfl ⟨by simp, by simp⟩ oneI <| s_n <| s_r <| q_a rfl rfl <| s_n <| tk_block <| tk_loop (X := Nat) (fun c => c ≤ 4) (fun c => [(0, PT kb), (5, PT b5), (7, I ((rd + 1 : Nat) : Int)), (8, PT b8), (11, PT b11), (12, I (c : Int))]) (fun c => [cel b11 ((shTo S 16).map II) 425, cel b8 ((mxTo (shTo S 16) (c * 4)).map II) 425, cel b5 (S.map II) 425]) (fun c => 4 - c) (0) oM sB (List.Sublist.refl _) ?_
            intro c hC
            refine tk_seq <| s_r <| q_m rfl rfl <| s_q rfl (y_lss rfl rfl) <| s_n <| tk_condP rfl (fun h77 => ?_) (fun h77 => ?_)
            · refine tk_skip <| tk_then <| tk_seq <| tk_block <| s_r <| q_a rfl rfl <| s_n <| tk_block <| tk_loop (X := Nat) (fun r => r ≤ 4) (fun r => [(0, PT kb), (5, PT b5), (7, I ((rd + 1 : Nat) : Int)), (8, PT b8), (11, PT b11), (12, I (c : Int)), (13, I (r : Int))]) (fun r => [cel b11 ((shTo S 16).map II) 425, cel b8 ((mxTo (shTo S 16) (c * 4 + r)).map II) 425, cel b5 (S.map II) 425]) (fun r => 4 - r) (0) oM sB (List.Sublist.refl _) ?_
              intro r hr4
              refine tk_seq <| s_r <| q_m rfl rfl <| s_q rfl (y_lss rfl rfl) <| s_n <| tk_condP rfl (fun h81 => ?_) (fun h81 => ?_)
              · refine tk_skip <| tk_then <| tk_seq <| tk_block <| tk_drawS [35] kR <| s_x 0 rfl (y_move rfl) <| s_x 1 rfl (y_move rfl) <| s_x 2 rfl (y_move rfl) <| s_x 3 rfl (y_move rfl) <| s_x 4 rfl (y_ixAN 4 4 rfl rfl kR oM) <| s_x 5 rfl (y_ixAN1 4 rfl rfl kR oM) <| s_l 6 rfl (fun _ h => h) (y_load rfl rfl (hc (.head _) (icell (m := c * 4 + r) oM (by simp [hSl] <;> omega)))) <| s_x 8 rfl (y_move rfl) <| s_x 9 rfl (y_move rfl) <| s_x 10 rfl (y_addN (b := 1) rfl rfl oM) <| s_x 11 rfl (y_remN (b := 4) rfl rfl oM) <| s_x 12 rfl (y_ixAN 4 4 rfl rfl kR oM) <| s_x 13 rfl (y_ixAN1 4 rfl rfl kR oM) <| s_l 14 rfl (fun _ h => h) (y_load rfl rfl (hc (.head _) (icell (m := c * 4 + (r + 1) % 4) oM (by simp [hSl] <;> omega)))) <| s_x 17 rfl (y_move rfl) <| s_x 18 rfl (y_move rfl) <| s_x 19 rfl (y_addN (b := 2) rfl rfl oM) <| s_x 20 rfl (y_remN (b := 4) rfl rfl oM) <| s_x 21 rfl (y_ixAN 4 4 rfl rfl kR oM) ?_; refine s_x 22 rfl (y_ixAN1 4 rfl rfl kR oM) <| s_l 23 rfl (fun _ h => h) (y_load rfl rfl (hc (.head _) (icell (m := c * 4 + (r + 2) % 4) oM (by simp [hSl] <;> omega)))) <| s_x 25 rfl (y_move rfl) <| s_x 26 rfl (y_move rfl) <| s_x 27 rfl (y_addN (b := 3) rfl rfl oM) <| s_x 28 rfl (y_remN (b := 4) rfl rfl oM) <| s_x 29 rfl (y_ixAN 4 4 rfl rfl kR oM) <| s_x 30 rfl (y_ixAN1 4 rfl rfl kR oM) <| s_l 31 rfl (fun _ h => h) (y_load rfl rfl (hc (.head _) (icell (m := c * 4 + (r + 3) % 4) oM (by simp [hSl] <;> omega)))) <| s_x 33 rfl (y_ixAN 4 4 rfl rfl kR oM) <| tx_a 7 rfl kR rfl <| a_callv [] _ rfl kR rfl (fun w' hw' => times2_spec _ w') rfl fun _ _ => tk_S (fun _ h => h) <| tx_a 15 rfl kR rfl <| a_callv [] _ rfl kR rfl (fun w' hw' => times3_spec _ w') rfl fun _ _ => tk_S (fun _ h => h) <| s_x 16 rfl (y_xorII rfl rfl) <| s_x 24 rfl (y_xorII rfl rfl) <| s_x 32 rfl (y_xorII rfl rfl) <| s_x 34 rfl (y_ixAN1 4 rfl rfl kR oM) <| tx_x 35 rfl kR rfl rfl <| a_store1 (H1 := [_]) rfl rfl kR rfl rfl (by simp [hSl] <;> omega) <| tx_done kR <| tk_in_normal ?_; exact tk_then <| tk_region <| q_m rfl rfl <| tk_qe (I ((r + 1 : Nat) : Int)) rfl rfl rfl (y_addI rfl rfl oM) (by congr 1) <| q_a rfl rfl <| tk_nil <| tk_again (r + 1) oM oM sB (by rw [← Nat.add_assoc]; simp only [mxTo]; rw [mxb_at oM, iset (o := 0 + c * 4 + r) (m := c * 4 + r) oM]; exact List.Sublist.refl _)
              · obtain rfl : r = 4 := by omega
                exact tk_exit <| tk_then_exit <| tk_then_exit <| tk_in_hit <| tk_in_normal <| tk_then <| tk_region <| q_m rfl rfl <| tk_qe (I ((c + 1 : Nat) : Int)) rfl rfl rfl (y_addI rfl rfl oM) (by congr 1) <| q_a rfl rfl <| tk_nil <| tk_again (c + 1) oM oM sB (by rw [show (c + 1) * 4 = c * 4 + 4 by omega]; exact List.Sublist.refl _)
            · obtain rfl : c = 4 := by omega
              exact tk_exit <| tk_then_exit <| tk_then_exit <| tk_in_hit <| tk_to () trivial sB (by rw [if_pos oM]; exact List.Sublist.cons _ (List.Sublist.refl _))
          · exact tk_skip <| tk_to () trivial sB (by rw [if_neg oM]; exact List.Sublist.refl _)
        · intro _ _
          have hT : (if rd + 1 < 14 then mxTo (shTo S 16) 16 else shTo S 16).length = 16 := by split <;> simp
          generalize hTd : (if rd + 1 < 14 then mxTo (shTo S 16) 16 else shTo S 16) = T at hT ⊢
          refine s_r <| q_a rfl rfl <| s_n <| tk_block <| tk_loop (X := Nat) (fun c => c ≤ 4) (fun c => [(0, PT kb), (5, PT b5), (7, I ((rd + 1 : Nat) : Int)), (8, PT b8), (14, I (c : Int))]) (fun c => [cel b8 (T.map II) 425, cel b5 ((adTo K (rd + 1) T S (c * 4)).map II) 425]) (fun c => 4 - c) (0) oM sB (List.Sublist.refl _) ?_
          intro c hC
          refine tk_seq <| s_r <| q_m rfl rfl <| s_q rfl (y_lss rfl rfl) <| s_n <| tk_condP rfl (fun h120 => ?_) (fun h120 => ?_)
          · refine tk_skip <| tk_then <| tk_seq <| tk_block <| s_r <| q_a rfl rfl <| s_n <| tk_block <| tk_loop (X := Nat) (fun r => r ≤ 4) (fun r => [(0, PT kb), (5, PT b5), (7, I ((rd + 1 : Nat) : Int)), (8, PT b8), (14, I (c : Int)), (15, I (r : Int))]) (fun r => [cel b8 (T.map II) 425, cel b5 ((adTo K (rd + 1) T S (c * 4 + r)).map II) 425]) (fun r => 4 - r) (0) oM sB (List.Sublist.refl _) ?_
            intro r hr4
            refine tk_seq <| s_r <| q_m rfl rfl <| s_q rfl (y_lss rfl rfl) <| s_n <| tk_condP rfl (fun h124 => ?_) (fun h124 => ?_)
            · refine tk_skip <| tk_then <| tk_seq <| tk_block <| tk_drawS [21] kR <| s_x 0 rfl (y_move rfl) <| s_x 1 rfl (y_move rfl) <| s_x 2 rfl (y_move rfl) <| s_x 3 rfl (y_move rfl) <| s_x 4 rfl (y_ixAN 4 4 rfl rfl kR oM) <| s_x 5 rfl (y_ixAN1 4 rfl rfl kR oM) <| s_l 6 rfl (fun _ h => h) (y_load rfl rfl (hc (.head _) (icell (m := c * 4 + r) oM oM))) <| s_x 7 rfl (y_move rfl) <| s_x 8 rfl (y_move rfl) <| s_x 9 rfl (y_mulN (a := 4) rfl rfl oM) <| s_x 10 rfl (y_move rfl) <| s_x 11 rfl (y_addN rfl rfl oM) <| s_x 12 rfl (y_move rfl) <| s_x 13 rfl (y_nilCheck rfl) <| s_x 14 rfl (y_fldN 1 rfl kR) <| s_x 15 rfl (y_ixAN 60 4 rfl rfl kR oM) <| s_x 16 rfl (y_ixAN1 4 rfl rfl kR oM) <| s_l 17 rfl (fun _ h => h) (y_load rfl rfl (hro (rkK hk (m := 16 * (rd + 1) + (c * 4 + r)) oM oM) (fun h => h))) <| s_x 18 rfl (y_xorII rfl rfl) ?_; exact s_x 19 rfl (y_ixAN 4 4 rfl rfl kR oM) <| s_x 20 rfl (y_ixAN1 4 rfl rfl kR oM) <| tx_x 21 rfl kR rfl rfl <| a_store1 (H1 := [_]) rfl rfl kR rfl rfl (by simp [hSl] <;> omega) <| tx_done kR <| tk_in_normal <| tk_then <| tk_region <| q_m rfl rfl <| tk_qe (I ((r + 1 : Nat) : Int)) rfl rfl rfl (y_addI rfl rfl oM) (by congr 1) <| q_a rfl rfl <| tk_nil <| tk_again (r + 1) oM oM sB (by rw [← Nat.add_assoc]; simp only [adTo]; rw [iset (o := 0 + c * 4 + r) (m := c * 4 + r) oM]; exact List.Sublist.refl _)
            · obtain rfl : r = 4 := by omega
              exact tk_exit <| tk_then_exit <| tk_then_exit <| tk_in_hit <| tk_in_normal <| tk_then <| tk_region <| q_m rfl rfl <| tk_qe (I ((c + 1 : Nat) : Int)) rfl rfl rfl (y_addI rfl rfl oM) (by congr 1) <| q_a rfl rfl <| tk_nil <| tk_again (c + 1) oM oM sB (by rw [show (c + 1) * 4 = c * 4 + 4 by omega]; exact List.Sublist.refl _)
          · obtain rfl : c = 4 := by omega
            exact tk_exit <| tk_then_exit <| tk_then_exit <| tk_in_hit <| tk_in_normal <| tk_then <| tk_region <| q_m rfl rfl <| tk_qe (I ((rd + 1 + 1 : Nat) : Int)) rfl rfl rfl (y_addI rfl rfl oM) (by congr 1) <| q_a rfl rfl <| tk_nil <| tk_again (rd + 1) oM oM sB (by simp only [rfTo]; rw [hSd, hTd]; exact List.Sublist.cons _ (List.Sublist.refl _))
    · obtain rfl : rd = 14 := by omega
      refine tk_exit <| tk_then_exit <| tk_then_exit <| tk_in_hit <| tk_then <| s_r ?_
      rw [← rf14 hV, hSd]
      refine tk_own0 5 <| q_a rfl rfl <| s_n <| tk_seq <| s_r <| q_a rfl rfl <| s_n <| tk_block <| tk_loop (X := Nat × Value) (fun x => x.1 ≤ 16) (fun x => [(5, PT b5), (16, x.2), (17, I (x.1 : Int))]) (fun x => [ownB x.2 (S.take x.1) 5, cel b5 (S.map II) 425]) (fun x => 16 - x.1) ((0, .slice none 0 0)) (Nat.zero_le _) sB (List.Sublist.refl _) ?_
      rintro ⟨i, vo⟩ hI
      dsimp only at hI ⊢
      refine tk_seq <| s_r <| q_m rfl rfl <| s_q rfl (y_lss rfl rfl) <| s_n <| tk_condP rfl (fun h149 => ?_) (fun h149 => ?_)
      · refine tk_skip <| tk_then <| tk_seq <| tk_block <| tk_region <| q_m rfl rfl <| q_m rfl rfl <| s_q rfl (y_quoN (b := 4) rfl rfl oM) <| q_m rfl rfl <| s_q rfl (y_remN (b := 4) rfl rfl oM) <| s_q rfl (y_ixAN 4 4 rfl rfl kR oM) <| s_q rfl (y_ixAN1 4 rfl rfl kR oM) <| s_q rfl (y_load rfl rfl (hc (mm 1 rfl) (icell (W := S) (m := i) oM oM))) <| tk_qe (B (S.getD i 0)) rfl rfl rfl (y_convi8 rfl rfl rfl) (by rw [UInt8.ofNat_toNat]) <| tk_act rfl <| a_slit1 rfl rfl el5 rfl fun b37 => tk_act rfl <| a_append (H1 := [_]) (news := [_]) rfl rfl el5 rfl rfl rfl (hcw (.head _)) (by simp [Value.oneCell']) (by simp [hSl] <;> omega) fun vo2 => q_a rfl rfl <| tk_nil <| tk_in_normal <| tk_then <| tk_region <| q_m rfl rfl ?_; exact tk_qe (I ((i + 1 : Nat) : Int)) rfl rfl rfl (y_addI rfl rfl oM) (by congr 1) <| q_a rfl rfl <| tk_nil <| tk_again (i + 1, vo2) (by show i + 1 ≤ 16; omega) (by show 16 - (i + 1) < 16 - i; omega) sB (by dsimp only; rw [own_tk (F := S) oM]; exact List.Sublist.cons _ (List.Sublist.refl _))
      · obtain rfl : i = 16 := by omega
        rw [List.take_of_length_le oM]
        exact tk_exit <| tk_then_exit <| tk_then_exit <| tk_in_hit <| tk_then <| s_r <| q_m rfl rfl <| s_q rfl (y_str (l := S) rfl rfl rfl rfl (fun w hw => own_rd (hw.mem (.head _)))) <| q_a rfl rfl <| s_n <| tk_retc <| tk_ret () trivial (.inl rfl) (r1 rfl rfl) (List.nil_sublist _)
end Go.Proofs.YtnhpghhibcdklaaGreatDoor.Cip
set_option linter.unusedSimpArgs false
set_option linter.unusedVariables false
namespace Go.Proofs.YtnhpghhibcdklaaGreatDoor.Cip
open Go Go.RowKit
set_option maxRecDepth 100000
attribute [local irreducible] turn plus keyW hideL
theorem RK.fo {w w' : World} {E : Nat → Prop} {kb bb : Nat} {K : List UInt8} (h : RK w kb bb K) (hf : Fo E w w') (h1 : ¬ E kb) (h2 : ¬ E bb) : RK w' kb bb K :=
  ⟨hf.cell h.1 h1, fun m hm => hf.cell (h.2.1 m hm) h1, fun u => hf.cell (h.2.2 u) h2⟩
theorem RK.of {w : World} {kb bb : Nat} {K : List UInt8} (h1 : (cel kb (.slice (some ⟨bb, 0, none⟩) 256 256 :: K.map II) 343).holds w) (h2 : (cel bb (fwd.map II) 3).holds w) (hK : K.length = 240) : RK w kb bb K :=
  ⟨cel_cell h1 rfl, fun m hm => cel_cell h1 (kcell (m := m) rfl oM), fun u => cel_cell h2 (fcell u)⟩
theorem take_len {l : List UInt8} {i : Nat} (h : i ≤ l.length) : (l.take i).length = i := by simp; omega
theorem getD_get {l : List UInt8} {i : Nat} (h : i < l.length) : l.getD i 0 = l[i] := by rw [List.getD_eq_getElem?_getD, List.getElem?_eq_getElem h]; rfl
set_option maxHeartbeats 1000000 in
theorem rhide_spec (kb bb a : Nat) (K N l : List UInt8) (w : World) (hN : N.length = 16) (hk : RK w kb bb K) (ha : a < 2 ^ 61) (hl : l.length < 2 ^ 46) :
    Spec Tryz.prog 117 [PT kb, Str N, I (a : Int), Str l] w [] (fun _ : Unit => True) (fun _ => Str (hideL K N a l)) (fun _ => []) := by
  refine spec_of (n := 48) Tryz.func117 rfl rfl trivial trivial rfl <| s_r <| q_a rfl rfl <| s_n <| s_r <| q_a rfl rfl <| s_n <| s_r <| q_a rfl rfl <| q_a rfl rfl <| s_n <| tk_seq <| s_r <| tk_own0 5 <| q_a rfl rfl <| s_n <| tk_block <| tk_loop (X := Nat × Value × Int × List UInt8) (fun x => x.1 ≤ l.length ∧ (x.2.2.1 = -1 ∨ ∃ q : Nat, x.2.2.1 = (q : Int) ∧ x.2.2.2 = turn K (plus N q))) (fun x => [(0, PT kb), (1, Str N), (2, I (a : Int)), (3, Str l), (9, x.2.1), (10, Str x.2.2.2), (11, I x.2.2.1), (12, I (x.1 : Int))]) (fun x => [ownB x.2.1 (hideL K N a (l.take x.1)) 5]) (fun x => l.length - x.1) ((0, .slice none 0 0, -1, [])) (⟨Nat.zero_le _, .inl rfl⟩) sB (by show List.Sublist [ownB (.slice none 0 0) (hideL K N a (l.take 0)) 5] _; rw [List.take_zero, hideL_nil]; exact List.Sublist.refl _) ?_
  rintro ⟨i, vo, hv, sb⟩ ⟨hi0, hq⟩
  dsimp only at hi0 hq ⊢
  refine tk_seq <| s_r <| q_m rfl rfl <| q_m rfl rfl <| s_q rfl (y_lenStr rfl rfl) <| s_q rfl (y_lss rfl rfl) <| s_n <| tk_condP rfl (fun h17 => ?_) (fun h17 => ?_)
  · have hi : i < l.length := by omega
    refine tk_skip <| tk_then <| tk_seq <| tk_block <| s_r <| q_m rfl rfl <| q_m rfl rfl <| s_q rfl (y_addN rfl rfl oM) <| s_q rfl (y_quoN (b := 16) rfl rfl oM) <| q_a rfl rfl <| s_n <| tk_seqI (X := Unit) (fun _ => True) (fun _ => [(0, PT kb), (1, Str N), (2, I (a : Int)), (3, Str l), (9, vo), (10, Str (turn K (plus N ((a + i) / 16)))), (11, I (((a + i) / 16 : Nat) : Int)), (12, I (i : Int))]) (fun _ => [ownB vo (hideL K N a (l.take i)) 5]) ?_ ?_
    · refine s_r <| q_m rfl rfl <| q_m rfl rfl <| s_q rfl (y_neq rfl rfl) <| s_n <| tk_condP rfl (fun h26 => ?_) (fun h26 => ?_)
      · exact tk_region <| q_m rfl rfl <| q_m rfl rfl <| q_m rfl rfl <| tk_act rfl <| a_callv [] _ rfl kR rfl (fun w' hw' => plus_spec N ((a + i) / 16) w' hN oM) rfl fun _ _ => tk_act rfl <| a_callv [] _ rfl kR rfl (fun w' hw' => rturn_spec kb bb K (plus N ((a + i) / 16)) w' (by simp [hN]) (hk.fo hw'.fr (fun h => h) (fun h => h))) rfl fun _ _ => q_m rfl rfl <| q_a rfl rfl <| q_a rfl rfl <| tk_nil <| tk_to () trivial sB (List.Sublist.refl _)
      · refine tk_skip ?_
        rcases hq with hq | ⟨q', hq, hq2⟩
        · exfalso; omega
        · have hq1 : q' = (a + i) / 16 := by omega
          exact tk_to () trivial ⟨rfl, rfl, rfl, rfl, rfl, by show some (Str sb) = _; rw [hq2, hq1], by show some (I hv) = _; rw [hq, hq1], rfl, trivial⟩ (List.Sublist.refl _)
    · intro _ _
      refine tk_draw (fun _ => True) [] kR <| s_x 0 rfl (y_move rfl) <| s_x 1 rfl (y_move rfl) <| s_x 2 rfl (y_move rfl) <| s_x 3 rfl (y_ixT (i := i) rfl rfl rfl ⟨rfl, by omega⟩) <| s_x 4 rfl (y_move rfl) <| s_x 5 rfl (y_move rfl) <| s_x 6 rfl (y_move rfl) <| s_x 7 rfl (y_addN rfl rfl oM) <| s_x 8 rfl (y_remN (b := 16) rfl rfl oM) <| s_x 9 rfl (y_ixT (i := (a + i) % 16) rfl rfl rfl ⟨rfl, by rw [turn_len (by simp [hN])]; omega⟩) <| s_x 10 rfl (y_xor8 rfl rfl) <| tx_a 11 rfl kR rfl <| a_slit1 rfl rfl el5 rfl fun b44 => tk_S (fun _ _ => trivial) <| tx_a 12 rfl kR rfl <| a_append (H1 := [_]) (news := [_]) rfl rfl el5 rfl rfl rfl (hcw (.head _)) (by simp [Value.oneCell']) (by simp only [hideL_len, List.length_take]; omega) fun vo2 => tk_S (fun _ _ => trivial) <| s_x 13 rfl (y_assign rfl) <| tx_done kR <| tk_in_normal <| tk_then <| tk_region <| q_m rfl rfl ?_; exact tk_qe (I ((i + 1 : Nat) : Int)) rfl rfl rfl (y_addI rfl rfl oM) (by congr 1) <| q_a rfl rfl <| tk_nil <| tk_again (i + 1, vo2, (((a + i) / 16 : Nat) : Int), (turn K (plus N ((a + i) / 16)))) ⟨by show i + 1 ≤ l.length; omega, .inr ⟨(a + i) / 16, rfl, rfl⟩⟩ (by show l.length - (i + 1) < l.length - i; omega) sB (by dsimp only; rw [take_snoc (List.getElem?_eq_getElem hi), own_snoc, take_len hi0, ← getD_get hi]; exact List.Sublist.cons _ (List.Sublist.refl _))
  · obtain rfl : i = l.length := by omega
    rw [List.take_length]
    exact tk_exit <| tk_then_exit <| tk_then_exit <| tk_in_hit <| tk_then <| s_r <| q_m rfl rfl <| s_q rfl (y_str (l := hideL K N a l) rfl rfl rfl rfl (fun w hw => own_rd (hw.mem (.head _)))) <| q_a rfl rfl <| s_n <| tk_retc <| tk_ret () trivial (.inl rfl) (r1 rfl rfl) (List.nil_sublist _)
end Go.Proofs.YtnhpghhibcdklaaGreatDoor.Cip
set_option linter.unusedSimpArgs false
set_option linter.unusedVariables false
namespace Go.Proofs.YtnhpghhibcdklaaGreatDoor
open Go Go.RowKit
set_option maxRecDepth 100000
attribute [local irreducible] hidL markL sealL sealF openF keyedL Cip.keyW Cip.hideL
theorem rmark_spec {hk mk name N h : List UInt8} {kind : UInt8} {w : World} (h2 : hk.length = 32 ∧ mk.length = 32) (hb : name.length < 4294967296 ∧ N.length < 4294967296 ∧ h.length < 4294967296) :
    Spec Tryz.prog 115 [.agg (hk.map B ++ (mk.map B)).toArray, B kind, Str name, Str N, Str h] w [] (fun _ : Unit => True) (fun _ => Str (markL mk kind name N h)) (fun _ => []) := by
  obtain ⟨hk32, mk32⟩ := h2
  refine spec_of (n := 27) Tryz.func115 rfl rfl trivial trivial rfl <| s_r <| tk_act rfl <| a_boxL (cs := hk.map B ++ (mk.map B)) rfl rfl fun b5 => q_a rfl rfl <| s_n <| tk_seq <| tk_drawH [cel b5 (hk.map B ++ (mk.map B)) 51] [] kR <| s_x 0 rfl (y_fldN (o := 0) 32 rfl kR) <| s_x 1 rfl (y_cutA (m := 32) (sz := 1) rfl kR) <| s_l 2 rfl (fun _ h => h) (y_str (l := mk) rfl rfl rfl rfl (fun w hw => cel_rdE (o := 32) (m := 32) (cp := 32) (vs := mk.map B) (hw.mem (.head _)) (dsA (k := 32) (i := 0) (by rw [List.length_map]; exact hk32) oM (dsW)) lQ lenP)) <| s_x 3 rfl (y_move rfl) <| s_x 4 rfl (y_move rfl) <| s_x 5 rfl (y_lenStr (l := name) rfl rfl) <| s_x 6 rfl (y_convi8 (m := name.length) rfl rfl rfl) <| s_x 9 rfl (y_move rfl) <| s_x 11 rfl (y_move rfl) <| s_x 13 rfl (y_move rfl) <| tx_a 7 rfl kR rfl <| a_slitN (vs := [B kind, B (UInt8.ofNat name.length)]) rfl (List.forall_mem_cons.2 ⟨rfl, (List.forall_mem_cons.2 ⟨rfl, (fun _ h => nomatch h)⟩)⟩) (EL64) rfl rfl dC fun b18 => tk_S (fun _ h => kD 1 rfl h) <| tx_more [cel b18 ([B kind, B (UInt8.ofNat name.length)]) 5, cel b5 (hk.map B ++ (mk.map B)) 51] (fun _ h => kD 1 rfl h) (fun _ h => h) <| s_l 8 rfl (fun _ h => h) (y_str (l := [kind, UInt8.ofNat name.length]) rfl rfl rfl rfl (fun w hw => cel_rdE (o := 0) (m := 2) (cp := 2) (vs := [kind, UInt8.ofNat name.length].map B) (hw.mem (.head _)) (rfl) lQ lenP)) <| s_x 10 rfl (y_catT (l := [kind, UInt8.ofNat name.length]) (m := name) rfl rfl lenP) ?_; exact s_x 12 rfl (y_catT (l := [kind, UInt8.ofNat name.length] ++ name) (m := N) rfl rfl lenP) <| s_x 14 rfl (y_catT (l := ([kind, UInt8.ofNat name.length] ++ name) ++ N) (m := h) rfl rfl lenP) <| tx_a 15 rfl kR rfl <| a_callv [] _ rfl kR rfl (fun w' hw' => rkeyed_spec (k := mk) (l := (([kind, UInt8.ofNat name.length] ++ name) ++ N) ++ h) lenP lenP) rfl fun _ _ => tk_S (fun _ h => h) <| s_x 16 rfl ((y_assign rfl).cast (v := _) (u := Str (markL mk kind name N h)) (by rw [markL_def])) <| tx_done kR <| tk_then <| tk_retc <| tk_ret (()) (trivial) (.inl rfl) (r1 rfl rfl) (List.nil_sublist _)
theorem dopen_spec {hk mk name b : List UInt8} {kind : UInt8} {w : World} (h2 : hk.length = 32 ∧ mk.length = 32) (hb : name.length < 4294967296 ∧ b.length < 4294967296) :
    Spec Tryz.prog 66 [.agg (hk.map B ++ (mk.map B)).toArray, B kind, Str name, Str b] w [] (fun _ : Unit => True) (fun _ => .tuple #[Str (openF hk mk kind name b).1, I (((openF hk mk kind name b).2 : Nat) : Int)]) (fun _ => []) := by
  refine spec_of (n := 52) Tryz.func66 rfl rfl trivial trivial rfl ?_
  obtain ⟨hk32, mk32⟩ := h2
  refine s_r <| tk_act rfl <| a_boxL (cs := hk.map B ++ (mk.map B)) rfl rfl fun b4 => q_a rfl rfl <| q_a rfl rfl <| s_n <| tk_seq <| s_r <| q_m rfl rfl <| s_q rfl (y_lenStr (l := name) rfl rfl) <| s_q rfl (y_gtr rfl rfl) <| s_n <| tk_condP rfl (fun ht15 => ?_) (fun ht15 => ?_)
  · exact s_r <| q_a rfl rfl <| q_a rfl rfl <| s_n <| tk_retc <| tk_then_ret <| tk_re 8 (Str []) (Str ((openF hk mk kind name b).1)) rfl (by rw [openF_name oM]) <| tk_re 9 (I 5) (I (((openF hk mk kind name b).2 : Nat) : Int)) rfl (by rw [openF_name oM]; rfl) <| tk_ret (()) (trivial) (.inl rfl) (r2 rfl rfl rfl) (List.nil_sublist _)
  · refine tk_skip <| tk_then <| tk_seq <| s_r <| q_m rfl rfl <| s_q rfl (y_lenStr (l := b) rfl rfl) <| tk_qs rfl rfl rfl (y_lss rfl rfl) (fun hs3_2 => ?_) (fun hs3_2 => ?_)
    · exact q_m rfl rfl <| tk_gno rfl rfl rfl <| tk_gno rfl rfl rfl <| tk_gno rfl rfl rfl <| tk_gno rfl rfl rfl <| s_q rfl (y_pick1 rfl rfl) <| s_n <| tk_cond1 rfl <| s_r <| q_a rfl rfl <| q_a rfl rfl <| s_n <| tk_retc <| tk_then_ret <| tk_re 8 (Str []) (Str ((openF hk mk kind name b).1)) rfl (by rw [openF_len oM oM]) <| tk_re 9 (I 10) (I (((openF hk mk kind name b).2 : Nat) : Int)) rfl (by rw [openF_len oM oM]; rfl) <| tk_ret (()) (trivial) (.inl rfl) (r2 rfl rfl rfl) (List.nil_sublist _)
    · refine q_m rfl rfl <| s_g rfl (y_move rfl) <| s_g rfl (y_lenStr (l := b) rfl rfl) <| s_g rfl (y_subN (a := b.length) (b := 48) rfl rfl oM) <| s_g rfl (y_gtr rfl rfl) <| s_q rfl (y_pick0 rfl rfl) <| s_n <| tk_condP rfl (fun ht24 => ?_) (fun ht24 => ?_)
      · exact s_r <| q_a rfl rfl <| q_a rfl rfl <| s_n <| tk_retc <| tk_then_ret <| tk_re 8 (Str []) (Str ((openF hk mk kind name b).1)) rfl (by rw [openF_len oM oM]) <| tk_re 9 (I 10) (I (((openF hk mk kind name b).2 : Nat) : Int)) rfl (by rw [openF_len oM oM]; rfl) <| tk_ret (()) (trivial) (.inl rfl) (r2 rfl rfl rfl) (List.nil_sublist _)
      · refine tk_skip <| tk_then <| tk_seq <| tk_drawH [cel b4 (hk.map B ++ (mk.map B)) 51] [] kR <| s_x 0 rfl (y_move rfl) <| s_x 1 rfl (y_cutTh (l := b) (hi := 16) rfl rfl rfl oM) <| s_x 2 rfl (y_move rfl) <| s_x 3 rfl (y_move rfl) <| s_x 4 rfl (y_lenStr (l := b) rfl rfl) <| s_x 5 rfl (y_subN (a := b.length) (b := 32) rfl rfl oM) <| s_x 6 rfl (y_cutTlh (l := b) (lo := 16) (hi := b.length - 32) rfl rfl rfl rfl oM) <| s_x 7 rfl (y_move rfl) <| s_x 8 rfl (y_move rfl) <| s_x 9 rfl (y_lenStr (l := b) rfl rfl) <| s_x 10 rfl (y_subN (a := b.length) (b := 32) rfl rfl oM) <| s_x 11 rfl (y_cutTl (l := b) (lo := b.length - 32) rfl rfl rfl oM) <| s_x 12 rfl (y_assign rfl) <| s_x 13 rfl (y_assign rfl) <| s_x 14 rfl (y_assign rfl) <| tx_done kR <| tk_then <| tk_seq <| s_r <| s_q rfl (y_loadA 64 rfl kR lenP (hcw (.head _))) ?_; refine q_m rfl rfl <| q_m rfl rfl <| q_m rfl rfl <| q_m rfl rfl <| tk_act rfl <| a_callv [] _ rfl kR rfl (fun w' hw' => rmark_spec (hk := hk) (mk := mk) (kind := kind) (name := name) (N := b.take 16) (h := (b.drop 16).take ((b.length - 32) - 16)) ⟨lenP, lenP⟩ ⟨lenP, lenP, lenP⟩) rfl fun _ _ => q_m rfl rfl <| s_q rfl (y_strNe (l := markL mk kind name (b.take 16) ((b.drop 16).take ((b.length - 32) - 16))) (m := b.drop (b.length - 32)) rfl rfl) <| s_n <| tk_condP rfl (fun ht44 => ?_) (fun ht44 => ?_)
        · exact s_r <| q_a rfl rfl <| q_a rfl rfl <| s_n <| tk_retc <| tk_then_ret <| tk_re 8 (Str []) (Str ((openF hk mk kind name b).1)) rfl (by rw [openF_no oM oM ht44]) <| tk_re 9 (I 10) (I (((openF hk mk kind name b).2 : Nat) : Int)) rfl (by rw [openF_no oM oM ht44]; rfl) <| tk_ret (()) (trivial) (.inl rfl) (r2 rfl rfl rfl) (List.nil_sublist _)
        · exact tk_skip <| tk_then <| s_r <| s_q rfl (y_fld0 (o := 0) rfl kR) <| s_q rfl (y_cutA (m := 32) (sz := 1) rfl kR) <| s_q rfl (y_str (l := hk) rfl rfl rfl rfl (fun w hw => cel_rdE (o := 0) (m := 32) (cp := 32) (vs := hk.map B) (hw.mem (.head _)) (dsW1) lQ lenP)) <| tk_act rfl <| a_callv [] _ rfl kR rfl (fun w' hw' => Cip.rmake_spec hk w' lenP) rfl fun ⟨r48, q48⟩ _ => q_m rfl rfl <| q_m rfl rfl <| tk_act rfl <| a_callv [] _ rfl kR rfl (fun w' hw' => Cip.rhide_spec r48 q48 0 (Cip.keyW hk) (b.take 16) ((b.drop 16).take ((b.length - 32) - 16)) w' lenP (Cip.RK.of (hw'.mem (.head _)) (hw'.mem (mm 1 rfl)) (Cip.keyW_len lenP)) dC lenP) rfl fun _ _ => tk_re 51 (Str (Cip.hideL (Cip.keyW hk) (b.take 16) 0 ((b.drop 16).take (b.length - 32 - 16)))) (Str (hidL hk (b.take 16) ((b.drop 16).take (b.length - 32 - 16)))) rfl (by rw [hidL_def]) <| q_a rfl rfl <| q_a rfl rfl <| s_n <| tk_retc <| tk_re 8 (Str (hidL hk (b.take 16) ((b.drop 16).take (b.length - 32 - 16)))) (Str ((openF hk mk kind name b).1)) rfl (by rw [openF_ok oM oM (Decidable.of_not_not ht44)]) <| tk_re 9 (I 0) (I (((openF hk mk kind name b).2 : Nat) : Int)) rfl (by rw [openF_ok oM oM (Decidable.of_not_not ht44)]; rfl) <| tk_ret (()) (trivial) (.inl rfl) (r2 rfl rfl rfl) (List.nil_sublist _)
end Go.Proofs.YtnhpghhibcdklaaGreatDoor
set_option linter.unusedSimpArgs false
set_option linter.unusedVariables false
namespace Go.Proofs.YtnhpghhibcdklaaGreatDoor
open Go Go.RowKit
set_option maxRecDepth 100000
attribute [local irreducible] sumL keyedL hexL
def rg (n k : UInt8) : List UInt8 := [n, k, 0, 0, 0, 0, 0, 0, 0, 0, 0, 0, 0, 0, 0, 0, 0, 0, 0, 0, 0, 0, 0, 0, 0, 0, 0, 0, 0, 0, 0, 0]
@[simp] theorem rg_len {n k : UInt8} : (rg n k).length = 32 := rfl
theorem r6text_spec {l : List UInt8} {w : World} (hl : l.length < 1099511627776) : Spec Tryz.prog 121 [Str l] w [] (fun _ : Unit => True) (fun _ => Str (textL l)) (fun _ => []) := by
  refine spec_of (n := 8) Tryz.func121 rfl rfl trivial trivial rfl ?_
  have hn9 := numL_len 8 (n := l.length) oM
  exact s_r <| q_a rfl rfl <| s_n <| s_r <| q_m rfl rfl <| s_q rfl (y_lenStr (l := l) rfl rfl) <| tk_act rfl <| a_callv [] _ rfl kR rfl (fun w' hw' => rnum_spec (n := l.length) lenP) rfl fun _ _ => q_m rfl rfl <| s_q rfl (y_catT (l := numL l.length) (m := l) rfl rfl lenP) <| q_a rfl rfl <| s_n <| tk_retc <| tk_ret (()) (trivial) (.inl rfl) (r1 rfl rfl) (List.Sublist.refl _)
end Go.Proofs.YtnhpghhibcdklaaGreatDoor
set_option linter.unusedSimpArgs false
set_option linter.unusedVariables false
namespace Go.Proofs.YtnhpghhibcdklaaGreatDoor
open Go Go.RowKit
set_option maxRecDepth 100000
attribute [local irreducible] sumL keyedL hexL
theorem texts_succ {l : List (List UInt8)} {i : Nat} (h : i < l.length) : (l.take (i + 1)).flatMap textL = (l.take i).flatMap textL ++ textL (l.getD i []) := by
  rw [← take_snoc (d := []) h, List.flatMap_append]; simp
theorem texts_pre {l : List (List UInt8)} (i : Nat) : ((l.take i).flatMap textL).length ≤ (l.flatMap textL).length := by
  have h : l.flatMap textL = (l.take i).flatMap textL ++ (l.drop i).flatMap textL := by rw [← List.flatMap_append, List.take_append_drop]
  rw [h, List.length_append]; omega
theorem gtext_spec {ob : Nat} {sv v : Value} {b : List UInt8} {l : List (List UInt8)} {w : World} (hn : Ro (Fs [cel ob [v, I 0] 320, ownB v b 5]) w (rd sv (l.map Str))) (h17 : ∀ s ∈ l, s.length ≤ 131072) (hnl : l.length < 1000000) (hb : b.length + (l.flatMap textL).length < 109951162777) (hh : Pre w [cel ob [v, I 0] 320, ownB v b 5]) :
    Spec Tryz.prog 101 [PT ob, sv] w [cel ob [v, I 0] 320, ownB v b 5] (fun _ : Value => True) (fun _ => PT ob) (fun x => [cel ob [x, I 0] 320, ownB x (b ++ l.flatMap textL) 5]) := by
  refine spec_of (n := 44) Tryz.func101 rfl rfl hh.1 hh.2 rfl <| tk_own1 (mm 1 rfl) fun hfv => s_r <| q_a rfl rfl <| s_n <| tk_seq <| s_r <| q_m rfl rfl <| s_q rfl (y_lenRN (n' := l.length) rfl hn.1 rfl (by first | rfl | (rw [List.length_map]; omega) | simp)) <| q_m rfl rfl <| s_n <| tk_block <| tk_R (H1 := [_]) rfl (show ownB v b 5 = ownB v (b ++ (l.take 0).flatMap textL) 5 from ownM_cast sI) <| tk_loop (X := Nat × Value) (fun (i, va) => i ≤ l.length) (fun (i, va) => [(0, PT ob), (4, .pointer none), (7, sv), (8, IN l.length), (9, IN i)]) (fun (i, va) => [cel ob ([va, I 0]) 320, ownB va (b ++ (l.take i).flatMap textL) 5]) (fun (i, va) => l.length - i) ((0, v)) (Nat.zero_le _) sB ((List.Sublist.refl _)) ?_
  rintro ⟨i, va⟩ hI
  try dsimp only at hI ⊢
  have hfl := texts_pre (l := l) i
  refine tk_own1 (mm 1 rfl) fun hfa => s_r <| s_q rfl (y_lss rfl rfl) <| s_n <| tk_seq <| tk_condP rfl (fun ht10 => ?_) (fun ht10 => ?_)
  · have hsl := h17 _ (getD_mem (d := []) (l := l) (i := i) oM)
    have hn9 := numL_len 8 (n := (l.getD i []).length) oM
    have hfl2 := texts_pre (l := l) (i + 1)
    have hfl3 : ((l.take i).flatMap textL).length + ((numL (l.getD i []).length).length + (l.getD i []).length) = ((l.take (i + 1)).flatMap textL).length := by rw [texts_succ oM]; simp only [List.length_append, textL]
    refine tk_skip <| tk_then <| tk_seq <| tk_block <| s_r <| s_q rfl (y_ixR (j := i) rfl rfl hn.1 lenP kR) <| s_q rfl (y_load rfl rfl (fun w hw => ((fun w hw => Ro.rd hn hw) w hw).cell (gM (d := []) lenP))) <| q_a rfl rfl <| s_n <| tk_block <| s_r <| q_m rfl rfl <| s_q rfl (y_pnil rfl rfl rfl) <| q_m rfl rfl <| s_g rfl (y_move rfl) <| s_g rfl (y_nilCheck rfl) <| s_g rfl (y_fldN (o := 0) 1 rfl kR) <| s_g rfl (y_load rfl rfl (hc (o := 1) (.head _) (rfl))) <| s_g rfl ((y_neq rfl rfl).cast (bool_f dC)) <| s_q rfl (y_pick0 rfl rfl) <| q_a rfl rfl <| s_n <| tk_cond0 rfl <| s_r ?_; refine q_m rfl rfl <| s_q rfl (y_lenStr (l := l.getD i []) rfl rfl) <| tk_qe (.bool false) rfl rfl rfl (y_gtr rfl rfl) (bool_f oM) <| q_a rfl rfl <| s_n <| tk_cond0 rfl <| s_r <| q_m rfl rfl <| q_m rfl rfl <| s_q rfl (y_lenStr (l := l.getD i []) rfl rfl) <| tk_act rfl <| a_callv [] _ rfl kR rfl (fun w' hw' => gnum1_spec (ob := ob) (v := va) (b := b ++ (l.take i).flatMap textL) (n := (l.getD i []).length) lenP lenP (St.pre hw')) rfl fun v16 _ => s_n <| tk_region <| q_m rfl rfl <| q_m rfl rfl <| s_q rfl (y_nilCheck rfl) <| s_q rfl (y_fld0 (o := 0) rfl kR) <| s_q rfl (y_load rfl rfl (hc (o := 0) (.head _) (rfl))) <| q_m rfl rfl <| tk_act rfl <| a_appStr (H1 := [_]) (l := (b ++ (l.take i).flatMap textL) ++ numL ((l.getD i []).length)) (m := l.getD i []) rfl rfl EL64 Tryz.underlying9 rfl rfl ⟨lenP, lenP⟩ fun v23 => tk_own1 (mm 1 rfl) fun hfv23 => s_q rfl (y_nilCheck rfl) ?_; exact s_q rfl (y_fld0 (o := 0) rfl kR) <| tk_act rfl <| a_storeE (H1 := []) (o := 0) (v := v23) (cs' := [v23, I 0]) rfl rfl kR (RdS.one hfv23.choose_spec) rfl sW (rfl) <| tk_nil <| tk_in_normal <| tk_in_normal <| tk_then <| tk_region <| s_q rfl (y_addN (a := i) (b := 1) rfl rfl oM) <| q_m rfl rfl <| tk_nil <| tk_R (H1 := [_]) rfl (show ownB v23 (((b ++ (l.take i).flatMap textL) ++ numL ((l.getD i []).length)) ++ (l.getD i [])) 5 = ownB v23 (b ++ (l.take (i + 1)).flatMap textL) 5 from ownM_cast (by rw [texts_succ oM]; simp [textL])) <| tk_again ((i + 1, v23)) (by dsimp only; omega) (by dsimp only; omega) sB (List.Sublist.refl _)
  · exact tk_exit <| tk_then_exit <| tk_then_exit <| tk_in_hit <| tk_then <| s_r <| q_m rfl rfl <| q_a rfl rfl <| s_n <| tk_retc <| tk_R (H1 := [_]) rfl (show ownB va (b ++ (l.take i).flatMap textL) 5 = ownB va (b ++ l.flatMap textL) 5 from ownM_cast (by rw [show i = l.length by omega, List.take_length])) <| tk_ret (va) (trivial) (.inl rfl) (r1 rfl rfl) (List.Sublist.refl _)
end Go.Proofs.YtnhpghhibcdklaaGreatDoor
