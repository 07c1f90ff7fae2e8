/- The opening of arguments for the pack rows: lumps. Own work for this project. -/
import Derived.Test.YtfofkjajlfphjaaDoorRowKitD
import Derived.Test.YtfofkjajlfphjaaDoorPackInv
import Derived.Deep.SlicePairs
namespace Go.Proofs.YtfofkjajlfphjaaDoor
open Go Go.ChangeShapes Go.WideShapes Go.ChangeAt Go.RowKit
set_option maxRecDepth 100000
set_option linter.unusedVariables false
set_option linter.unusedSimpArgs false
instance : Inhabited Lum := ⟨dLum⟩
theorem open_lumps {H : Type} {enc : TypeId × Value → H} {W : World} {r : Reach} {b0 : Nat} {v : Value} {d : DataW H} {qs : List MemPlace} (hval : Value.okWide Tryd.prog W r b0 64 v) (hd : DataW.Trod enc Tryd.prog W 0 (fun _ => true) true 64 v d qs) :
    ∃ rows : List Lum, RdC W v rows.length (rows.flatMap lumC) ∧ (∀ u ∈ rows, RdB W u.v u.l) ∧ rows.length < 9223372036854775808 := by
  obtain ⟨fuel, hf⟩ := hd
  obtain ⟨a0, n0, c0, rfl⟩ := okWide_slice Tryd.underlying64 hval
  rcases Deep.open_slice_pairs Tryd.underlying64 Tryd.underlying78 (by kernel_rfl) rfl rfl (by kernel_rfl) (by kernel_rfl) hf with ⟨e, _⟩ | ⟨a, len, cap, m, n, V0, V1, D0, D1, P0, P1, e, _, hl, hm, hmm, _, hx⟩
  · simp only [Value.cells] at e
    refine ⟨[], ?_, (fun _ h => nomatch h), by simp⟩
    have e2 : Value.slice a0 n0 c0 = .slice none 0 0 := by simpa using e
    rw [e2]; exact .inl ⟨rfl, rfl, rfl⟩
  have e2 : Value.slice a0 n0 c0 = .slice (some a) len cap := by simpa [Value.cells] using e
  rw [e2]
  have hlm : len ≤ m := by rw [hmm]; split <;> omega
  obtain ⟨R, hR⟩ := Deep.choose_lt (α := Lum) (p := fun i u => V0 i = I u.k ∧ V1 i = u.v ∧ RdB W u.v u.l) (n := len) (fun i hi => by
    obtain ⟨_, _, h0, h1⟩ := hx i (by omega)
    obtain ⟨z, e0, _⟩ := op_i64 Tryd.underlying3 h0
    obtain ⟨u, l, e1, hr, _, _⟩ := op_bytes Tryd.underlying26 Tryd.underlying5 (by kernel_rfl) h1
    simp only [List.cons.injEq, and_true] at e0 e1
    exact ⟨⟨z, u, l⟩, e0, e1, hr⟩)
  refine ⟨(List.range len).map R, .inr ⟨a, cap, by simp, by simpa using hl, fun j u hj => ?_⟩, fun u hu => ?_, by simp only [maxLen] at hm; simp; omega⟩
  · have hj2 : j < len * 2 := by
      have := (List.getElem?_eq_some_iff.1 hj).1
      rw [flat_len lumC_len] at this; simpa using this
    have hi : j / 2 < len := by omega
    have hjj : j = j / 2 * 2 + j % 2 := by omega
    rw [hjj, flat_get (d0 := dLum) lumC_len (by simpa using hi) (by omega)] at hj
    have e3 : ((List.range len).map R).getD (j / 2) dLum = R (j / 2) := by simp [List.getD_eq_getElem?_getD, hi]
    rw [e3] at hj
    obtain ⟨k0, k1, _⟩ := hR _ hi
    obtain ⟨c1, c2, _, _⟩ := hx (j / 2) (by omega)
    rcases Nat.mod_two_eq_zero_or_one j with h2 | h2
    · rw [h2] at hj
      have : u = I (R (j / 2)).k := by simpa [lumC] using hj.symm
      rw [hjj, h2, Nat.add_zero, c1, k0, this]
    · rw [h2] at hj
      have : u = (R (j / 2)).v := by simpa [lumC] using hj.symm
      rw [hjj, h2, c2, k1, this]
  · obtain ⟨i, hi, rfl⟩ := List.mem_map.1 hu
    exact (hR i (List.mem_range.1 hi)).2.2
end Go.Proofs.YtfofkjajlfphjaaDoor
