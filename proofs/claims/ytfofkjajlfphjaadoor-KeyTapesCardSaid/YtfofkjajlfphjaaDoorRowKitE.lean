/- The opening of arguments for the key rows: slices of slices of bytes, lines. Own work for this project. -/
import Derived.Test.YtfofkjajlfphjaaDoorRowKitD
import Derived.Test.YtfofkjajlfphjaaDoorEngTwo
import Derived.Deep.Slices
namespace Go.Proofs.YtfofkjajlfphjaaDoor
open Go Go.ChangeShapes Go.WideShapes Go.ChangeAt Go.RowKit
set_option maxRecDepth 100000
set_option linter.unusedVariables false
set_option linter.unusedSimpArgs false
section
variable {H : Type} {P : Program} {enc : TypeId × Value → H} {W : World} {base : Nat} {sp : Nat → Bool} {held : Bool} {fuel : Nat} {t : TypeId} {cs : List Value} {x : DataW H × List MemPlace}
/-- a slice of slices of bytes -/
theorem op_parts {e u : TypeId} (ht : P.underlying t = some (.slice e)) (he : P.underlying e = some (.slice u)) (hu : P.underlying u = some (.int .u8)) (c1 : P.cellsOf u = 1) (ce : P.cellsOf e = 1)
    (h : DataW.trod enc P W base sp held fuel t cs = some x) : ∃ v ps, cs = [v] ∧ RdS W v ((ps : List Sb).map Prod.fst) ∧ (∀ p ∈ ps, RdB W p.1 p.2) ∧ ps.length ≤ maxLen ∧ (∀ p ∈ ps, p.2.length ≤ maxLen) := by
  rcases Deep.open_slice1 ht ce h with ⟨rfl, _⟩ | ⟨a, len, cap, m, n, V, D, Pl, rfl, hb, hl, hm, hmm, _, hx⟩
  · exact ⟨_, [], rfl, .inl ⟨rfl, rfl⟩, (fun _ h => nomatch h), by simp, (fun _ h => nomatch h)⟩
  have hlm : len ≤ m := by rw [hmm]; split <;> omega
  obtain ⟨L, hL⟩ := Deep.choose_lt (p := fun i l => RdB W (V i) l ∧ l.length ≤ maxLen) (n := len) (fun i hi => by
    obtain ⟨v, l, e1, r, h1, h2⟩ := op_bytes he hu c1 (hx i (by omega)).2
    simp only [List.cons.injEq, and_true] at e1
    subst e1
    exact ⟨l, r, by omega⟩)
  refine ⟨_, (List.range len).map fun i => (V i, L i), rfl, .inr ⟨a, cap, by simp, by simp; omega, fun j u hj => ?_⟩, fun p hp => ?_, by simp; omega, fun p hp => ?_⟩
  · simp only [List.map_map, List.getElem?_map, Option.map_eq_some_iff] at hj
    obtain ⟨k, hk, rfl⟩ := hj
    have hk1 : j < len := by have := (List.getElem?_eq_some_iff.1 hk).1; simpa using this
    rw [List.getElem?_range hk1] at hk
    cases hk
    exact (hx _ (by omega)).1
  · obtain ⟨i, hi, rfl⟩ := List.mem_map.1 hp
    exact (hL i (List.mem_range.1 hi)).1
  · obtain ⟨i, hi, rfl⟩ := List.mem_map.1 hp
    exact (hL i (List.mem_range.1 hi)).2
end
theorem open_line {H : Type} {enc : TypeId × Value → H} {W : World} {r : Reach} {b0 : Nat} {v : Value} {d : DataW H} {qs : List MemPlace} (hval : Value.okWide Tryd.prog W r b0 47 v) (hd : DataW.Trod enc Tryd.prog W 0 (fun _ => true) true 47 v d qs) :
    ∃ (wl bl nm : List UInt8) (ps : List Sb) (z : Int) (kind : UInt8) (wv bv pv : Value), v = .agg [wv, I z, bv, pv, B kind, Str nm].toArray ∧ RdB W wv wl ∧ RdB W bv bl ∧ RdS W pv (ps.map Prod.fst) ∧ (∀ p ∈ ps, RdB W p.1 p.2) ∧ nm.length < 9223372036854775808 ∧ ps.length < 9223372036854775808 ∧ (∀ p ∈ ps, p.2.length < 9223372036854775808) := by
  obtain ⟨cs, rfl, hsz⟩ := okWide_struct Tryd.underlying47 hval
  obtain ⟨fuel, hf⟩ := hd
  have hl := op_len Tryd.underlying47 hf
  have hl' : cs.toList.length = 6 := by rw [show (Value.agg cs).cells.toList = cs.toList from rfl] at hl; rw [hl]; kernel_rfl
  obtain ⟨n0, y0, h0⟩ := op_fldO Tryd.underlying47 hf 0 26 0 1 rfl (by kernel_rfl)
  obtain ⟨n1, y1, h1⟩ := op_fldO Tryd.underlying47 hf 1 3 1 1 rfl (by kernel_rfl)
  obtain ⟨n2, y2, h2⟩ := op_fldO Tryd.underlying47 hf 2 26 2 1 rfl (by kernel_rfl)
  obtain ⟨n3, y3, h3⟩ := op_fldO Tryd.underlying47 hf 3 45 3 1 rfl (by kernel_rfl)
  obtain ⟨n4, y4, h4⟩ := op_fldO Tryd.underlying47 hf 4 5 4 1 rfl (by kernel_rfl)
  obtain ⟨n5, y5, h5⟩ := op_fldO Tryd.underlying47 hf 5 9 5 1 rfl (by kernel_rfl)
  obtain ⟨wv, wl, e0, hr0, hc0, hm0⟩ := op_bytes Tryd.underlying26 Tryd.underlying5 (by kernel_rfl) h0
  obtain ⟨z, e1, _⟩ := op_i64 Tryd.underlying3 h1
  obtain ⟨bv, bl, e2, hr2, hc2, hm2⟩ := op_bytes Tryd.underlying26 Tryd.underlying5 (by kernel_rfl) h2
  obtain ⟨pv, ps, e3, hr3, hp3, hn3, hm3⟩ := op_parts Tryd.underlying45 Tryd.underlying26 Tryd.underlying5 (by kernel_rfl) (by kernel_rfl) h3
  obtain ⟨kind, e4⟩ := op_u8 Tryd.underlying5 h4
  obtain ⟨nm, e5, hnl⟩ := op_str Tryd.underlying9 h5
  simp only [Value.cells] at e0 e1 e2 e3 e4 e5
  refine ⟨wl, bl, nm, ps, z, kind, wv, bv, pv, ?_, hr0, hr2, hr3, hp3, by simp only [maxLen] at hnl; omega, by simp only [maxLen] at hn3; omega, fun p hp => by have := hm3 p hp; simp only [maxLen] at this; omega⟩
  congr 1
  rw [← Array.toArray_toList (xs := cs)]
  congr 1
  match hcs : cs.toList, hl' with
  | [c0, c1, c2, c3, c4, c5], _ =>
    rw [hcs] at e0 e1 e2 e3 e4 e5
    simp at e0 e1 e2 e3 e4 e5
    simp [e0, e1, e2, e3, e4, e5]
end Go.Proofs.YtfofkjajlfphjaaDoor
