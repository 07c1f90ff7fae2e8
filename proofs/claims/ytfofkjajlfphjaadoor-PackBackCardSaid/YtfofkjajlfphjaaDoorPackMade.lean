/- pack: what made puts in. Plain lemmas. Own work. -/
import Derived.Test.YtfofkjajlfphjaaDoorPackInv
set_option linter.unusedSimpArgs false
set_option linter.unusedVariables false
namespace Go.Proofs.YtfofkjajlfphjaaDoor
open Go
def firstL : List UInt8 := [102, 105, 114, 115, 116]
def FV (b : Nat) : Value := .slice (some ⟨b, 0, none⟩) 5 5
def kndN (z : Int) : Nat := ((IntKind.u64.wrap z).tmod 2).toNat
def lumF (u : Lum) : Lum := ⟨((1 + kndN u.k : Nat) : Int), cutR u.v 0 (min u.l.length 150), u.l.take (min u.l.length 150)⟩
def stepN (n : UInt8) (q : WSt × List Lum) (u : Lum) : WSt × List Lum := ((addQ n q.1 u.k u.l).2, if (addQ n q.1 u.k u.l).1.2.1 = true then q.2 ++ [u] else q.2)
def madeN (n : UInt8) (rows : List Lum) (fv : Value) : Nat → WSt × List Lum
  | 0 => ((addQ n ⟨[], [], 0⟩ 2 firstL).2, [⟨2, fv, firstL⟩])
  | i + 1 => stepN n (madeN n rows fv i) (lumF (rows.getD i dLum))
def packQ (n : UInt8) (s : WSt) : List UInt8 := packL ⟨rg n 1, rg n 2, rg n 3⟩ [n] s
theorem closeQ_is {n : UInt8} {s : WSt} (h : ¬ s.l = []) : closeQ n s = ((nameL (packQ n s), packQ n s, s.l, 0), ⟨[], [], s.p + 16⟩) := closeF_ok h
theorem packQ_len {n : UInt8} {s : WSt} : (packQ n s).length = s.b.length + (headL s.l).length + 52 := packL_len
def offS (l : List Ent) (j : Nat) : Nat := ((l.take j).map Ent.len).sum
theorem offS_succ {l : List Ent} {j : Nat} (h : j < l.length) : offS l (j + 1) = offS l j + (l.getD j dEnt).len := by
  have e : l.getD j dEnt = l[j] := by rw [List.getD_eq_getElem?_getD, List.getElem?_eq_getElem h]; rfl
  rw [e, offS, offS, List.take_add_one, List.getElem?_eq_getElem h]
  simp only [List.map_append, List.sum_append, Option.toList, List.map_cons, List.map_nil, List.sum_cons, List.sum_nil, Nat.add_zero]
theorem offS_app {l m : List Ent} {j : Nat} (h : j ≤ l.length) : offS (l ++ m) j = offS l j := by rw [offS, offS, List.take_append_of_le_length h]
theorem getD_left {α : Type} {l m : List α} {d : α} {j : Nat} (h : j < l.length) : (l ++ m).getD j d = l.getD j d := by
  rw [List.getD_eq_getElem?_getD, List.getElem?_append_left h, ← List.getD_eq_getElem?_getD]
theorem getD_last {α : Type} {l : List α} {a d : α} : (l ++ [a]).getD l.length d = a := by
  rw [List.getD_eq_getElem?_getD, List.getElem?_append_right (Nat.le_refl _)]; simp
structure Pair (n : UInt8) (b : List UInt8) (e : Ent) (u : Lum) : Prop where
  len : e.len = u.l.length + 48
  kind : (e.kind : Int) = u.k
  k12 : e.kind = 1 ∨ e.kind = 2
  id : e.id = idF (rg n 3) (UInt8.ofNat e.kind) u.l
  small : u.l.length ≤ 150
  sld : ∃ N : List UInt8, N.length = 16 ∧ (b.drop e.off).take e.len = sealL (rg n 1) (rg n 2) (UInt8.ofNat e.kind) (hexL e.id) N u.l
structure MInv (n : UInt8) (s : WSt) (h : List Lum) : Prop where
  len : s.l.length = h.length
  off : ∀ j, j < s.l.length → (s.l.getD j dEnt).off = offS s.l j
  tot : s.b.length = offS s.l s.l.length
  each : ∀ j, j < s.l.length → Pair n s.b (s.l.getD j dEnt) (h.getD j dLum)
  nodup : ∀ i j, i < j → j < s.l.length → (s.l.getD i dEnt).id ≠ (s.l.getD j dEnt).id
theorem offS_le {l : List Ent} {i j : Nat} (h : i ≤ j) : offS l i ≤ offS l j := by
  induction j with
  | zero => rw [show i = 0 by omega]; exact Nat.le_refl _
  | succ j ih =>
    by_cases e : i = j + 1
    · rw [e]; exact Nat.le_refl _
    · have h1 := ih (by omega)
      by_cases hj : j < l.length
      · rw [offS_succ hj]; omega
      · have e1 : l.take (j + 1) = l := List.take_of_length_le (by omega)
        have e2 : l.take j = l := List.take_of_length_le (by omega)
        have e3 : offS l (j + 1) = offS l j := by rw [offS, offS, e1, e2]
        rw [e3]; exact h1
theorem hasE_false {l : List Ent} {il : List UInt8} (h : hasE l il = false) (j : Nat) (hj : j < l.length) : (l.getD j dEnt).id ≠ il := by
  intro e
  have := has_at hj e
  rw [h] at this; cases this
/-- one blob more -/
theorem addQ_yes {n : UInt8} {s : WSt} {h : List Lum} {u : Lum} {k : Nat} (hk : u.k = (k : Int)) (hk12 : k = 1 ∨ k = 2) (hu : u.l.length ≤ 150) (hi : MInv n s h) (hl : s.l.length ≤ 500) (hb : s.b.length ≤ 100000) :
    (addQ n s u.k u.l).1.2.2 = 0 ∧ (addQ n s u.k u.l).2.l.length ≤ s.l.length + 1 ∧ (addQ n s u.k u.l).2.b.length ≤ s.b.length + 198 ∧ s.l.length ≤ (addQ n s u.k u.l).2.l.length ∧ MInv n (addQ n s u.k u.l).2 (if (addQ n s u.k u.l).1.2.1 = true then h ++ [u] else h) := by
  have hkk : u.k = 1 ∨ u.k = 2 := by omega
  have h1 : ¬ 131072 < u.l.length := by omega
  cases h2 : hasE s.l (idF (rg n 3) (UInt8.ofNat u.k.toNat) u.l) with
  | true =>
    have e : addQ n s u.k u.l = ((idF (rg n 3) (UInt8.ofNat u.k.toNat) u.l, false, 0), s) := addF_has hkk h1 h2
    rw [e]
    exact ⟨rfl, by dsimp only; omega, by dsimp only; omega, Nat.le_refl _, by simpa using hi⟩
  | false =>
    have e : addQ n s u.k u.l = _ := addF_ok (r := ⟨rg n 1, rg n 2, rg n 3⟩) (bg := [n]) hkk h1 h2 (by omega)
    rw [e]
    have ekk : UInt8.ofNat u.k.toNat = UInt8.ofNat k := by rw [hk]; rfl
    have eln : u.k.toNat = k := by rw [hk]; rfl
    have hsl : (sealL (rg n 1) (rg n 2) (UInt8.ofNat k) (hexL (idF (rg n 3) (UInt8.ofNat k) u.l)) (tapeN [n] s.p 16) u.l).length = u.l.length + 48 := sealL_len tapeN_len
    refine ⟨rfl, by simp, ?_, by simp, ?_⟩
    · rw [ekk]; dsimp only; rw [List.length_append, hsl]; omega
    rw [if_pos rfl]
    simp only [ekk, eln]
    refine ⟨by simp [hi.len], fun j hj => ?_, ?_, fun j hj => ?_, fun i j hij hj => ?_⟩
    · rw [List.length_append, List.length_singleton] at hj
      by_cases hjl : j < s.l.length
      · rw [getD_left hjl, offS_app (by omega)]; exact hi.off j hjl
      · rw [show j = s.l.length by omega, getD_last, offS_app (Nat.le_refl _)]; exact hi.tot
    · rw [List.length_append, List.length_append, List.length_singleton, offS_succ (by simp), getD_last, offS_app (Nat.le_refl _), hsl, hi.tot]
    · rw [List.length_append, List.length_singleton] at hj
      by_cases hjl : j < s.l.length
      · rw [getD_left hjl, getD_left (by have := hi.len; omega)]
        obtain ⟨p1, p2, p3, p4, p5, N, p6, p7⟩ := hi.each j hjl
        refine ⟨p1, p2, p3, p4, p5, N, p6, ?_⟩
        have ho := hi.off j hjl
        have h3 := offS_succ hjl
        have h4 := offS_le (l := s.l) (i := j + 1) (j := s.l.length) (by omega)
        have ht := hi.tot
        rw [List.drop_append_of_le_length (by omega), List.take_append_of_le_length (by rw [List.length_drop]; omega)]
        exact p7
      · rw [show j = s.l.length by omega, getD_last, hi.len, getD_last]
        refine ⟨rfl, hk.symm, hk12, rfl, hu, tapeN [n] s.p 16, tapeN_len, ?_⟩
        dsimp only
        rw [List.drop_left, List.take_of_length_le (by omega)]
    · rw [List.length_append, List.length_singleton] at hj
      by_cases hjl : j < s.l.length
      · rw [getD_left hjl, getD_left (by omega)]; exact hi.nodup i j hij hjl
      · rw [show j = s.l.length by omega, getD_last, getD_left (by omega)]
        rw [ekk] at h2
        exact hasE_false h2 i (by omega)
theorem minv0 {n : UInt8} : MInv n ⟨[], [], 0⟩ [] := ⟨rfl, fun j hj => absurd hj (by simp), rfl, fun j hj => absurd hj (by simp), fun i j _ hj => absurd hj (by simp)⟩
theorem cntP (n : Int) (q : Nat) (hq : 0 < q) : ∃ m : Nat, m < q ∧ (IntKind.u64.wrap n).tmod (q : Int) = (m : Int) := by
  have h0 : 0 ≤ IntKind.u64.wrap n := by rw [IntKind.wrap_u64]; omega
  have h1 : (IntKind.u64.wrap n).tmod (q : Int) = (IntKind.u64.wrap n) % (q : Int) := Int.tmod_eq_emod_of_nonneg h0
  have h2 : 0 ≤ (IntKind.u64.wrap n) % (q : Int) := Int.emod_nonneg _ (by omega)
  have h3 : (IntKind.u64.wrap n) % (q : Int) < q := Int.emod_lt_of_pos _ (by omega)
  exact ⟨((IntKind.u64.wrap n) % (q : Int)).toNat, by omega, by rw [h1]; omega⟩
theorem knd_le {z : Int} {m : Nat} (hm : m < 2) (h : (IntKind.u64.wrap z).tmod 2 = (m : Int)) : kndN z = m := by rw [kndN, h]; rfl
theorem first_ok {n : UInt8} : (addQ n ⟨[], [], 0⟩ 2 firstL).1.2.2 = 0 ∧ (addQ n ⟨[], [], 0⟩ 2 firstL).1.2.1 = true ∧ (addQ n ⟨[], [], 0⟩ 2 firstL).2.l.length = 1 ∧ (addQ n ⟨[], [], 0⟩ 2 firstL).2.b.length ≤ 198 ∧ (addQ n ⟨[], [], 0⟩ 2 firstL).2.p = 16 ∧ ∀ fv, MInv n (addQ n ⟨[], [], 0⟩ 2 firstL).2 [⟨2, fv, firstL⟩] := by
  have e : addQ n ⟨[], [], 0⟩ 2 firstL = _ := addF_ok (r := ⟨rg n 1, rg n 2, rg n 3⟩) (bg := [n]) (.inr rfl) (by decide) rfl (by decide)
  have h1 := addQ_yes (n := n) (s := ⟨[], [], 0⟩) (h := []) (u := ⟨2, .slice none 0 0, firstL⟩) (k := 2) rfl (.inr rfl) (show firstL.length ≤ 150 by decide) minv0 (by simp) (by simp)
  have h2 : (addQ n ⟨[], [], 0⟩ 2 firstL).1.2.1 = true := by rw [e]
  refine ⟨h1.1, h2, ?_, by simpa using h1.2.2.1, by rw [e], fun fv => ?_⟩
  · rw [e]; rfl
  · have h3 := addQ_yes (n := n) (s := ⟨[], [], 0⟩) (h := []) (u := ⟨2, fv, firstL⟩) (k := 2) rfl (.inr rfl) (show firstL.length ≤ 150 by decide) minv0 (by simp) (by simp)
    have h4 := h3.2.2.2.2
    dsimp only at h4
    rw [if_pos h2] at h4
    exact h4
structure NOk (n : UInt8) (i : Nat) (q : WSt × List Lum) : Prop where
  l : q.1.l.length ≤ i + 1
  l1 : 1 ≤ q.1.l.length
  b : q.1.b.length ≤ 198 * (i + 1)
  p : q.1.p ≤ 16 * (i + 1)
  w : WOk2 q.1
  m : MInv n q.1 q.2
theorem nok0 {n : UInt8} {rows : List Lum} {fv : Value} : NOk n 0 (madeN n rows fv 0) := by
  obtain ⟨h1, h2, h3, h4, h5, h6⟩ := first_ok (n := n)
  exact ⟨Nat.le_of_eq h3, Nat.le_of_eq h3.symm, h4, Nat.le_of_eq h5, (addQ_ok wok0).1, h6 fv⟩
theorem lumF_len {u : Lum} : (lumF u).l.length ≤ 150 := by simp [lumF]; omega
theorem nok_succ {n : UInt8} {rows : List Lum} {fv : Value} {i : Nat} (hi : i < 100) (hm : kndN (rows.getD i dLum).k < 2) (h : NOk n i (madeN n rows fv i)) :
    NOk n (i + 1) (madeN n rows fv (i + 1)) ∧ (addQ n (madeN n rows fv i).1 (lumF (rows.getD i dLum)).k (lumF (rows.getD i dLum)).l).1.2.2 = 0 := by
  have hl := h.l; have hb := h.b; have hl1 := h.l1; have hp := h.p
  obtain ⟨h1, h2, h3, h4, h5⟩ := addQ_yes (n := n) (u := lumF (rows.getD i dLum)) (k := 1 + kndN (rows.getD i dLum).k) rfl (by omega) lumF_len h.m (by omega) (by omega)
  have h6 := addQ_ok (n := n) (k := (lumF (rows.getD i dLum)).k) (x := (lumF (rows.getD i dLum)).l) h.w
  refine ⟨⟨?_, ?_, ?_, ?_, h6.1, h5⟩, h1⟩
  all_goals (simp only [madeN, stepN]; omega)
theorem madeN_s {n : UInt8} {rows : List Lum} {fv fv' : Value} : ∀ i, (madeN n rows fv i).1 = (madeN n rows fv' i).1
  | 0 => rfl
  | i + 1 => by simp only [madeN, stepN, madeN_s (fv := fv) (fv' := fv') i]
theorem madeN_mem {n : UInt8} {rows : List Lum} {fv : Value} : ∀ i, i ≤ rows.length → ∀ u ∈ (madeN n rows fv i).2, u = ⟨2, fv, firstL⟩ ∨ ∃ r ∈ rows, u = lumF r
  | 0, _, u, hu => .inl (by simpa [madeN] using hu)
  | i + 1, hi, u, hu => by
    simp only [madeN, stepN] at hu
    split at hu
    · rcases List.mem_append.1 hu with hu | hu
      · exact madeN_mem i (by omega) u hu
      · exact .inr ⟨_, getD_mem (by omega), List.mem_singleton.1 hu⟩
    · exact madeN_mem i (by omega) u hu
/-- the head's bytes -/
theorem headL_bounds {l : List Ent} (hn : l.length < 128) (h : ∀ e ∈ l, e.kind < 128 ∧ e.len < 16384) : 4 + 34 * l.length ≤ (headL l).length ∧ (headL l).length ≤ 4 + 35 * l.length := by
  have h2 : ∀ (m : List Ent), (∀ e ∈ m, e.kind < 128 ∧ e.len < 16384) → 34 * m.length ≤ (m.flatMap entL).length ∧ (m.flatMap entL).length ≤ 35 * m.length := fun m => by
    induction m with
    | nil => intro _; simp
    | cons e m ih =>
      intro hm
      have h3 := ih (fun x hx => hm x (List.mem_cons_of_mem _ hx))
      obtain ⟨h4, h5⟩ := hm e (List.mem_cons_self ..)
      have h6 : (numL e.kind).length = 1 := by rw [numL_lt h4]; rfl
      have h7 := numL_len 1 (n := e.len) (by omega)
      have h8 := numL_pos (n := e.len)
      simp only [List.flatMap_cons, List.length_append, List.length_cons, entL, e.h]; omega
  have h3 := h2 l h
  have h4 : (numL l.length).length = 1 := by rw [numL_lt hn]; rfl
  simp only [headL, List.length_append, List.length_cons, List.length_nil]; omega
end Go.Proofs.YtfofkjajlfphjaaDoor
