/- Facts that every row of the seat needs: the laid words, the opening of arguments. Own work for this project. -/
import Derived.Test.YtfofkjajlfphjaaDoorTie
import Derived.Test.YtfofkjajlfphjaaDoorCards
import Derived.Test.YtfofkjajlfphjaaDoorSumD
import Derived.Test.YtfofkjajlfphjaaDoorEngOne
import Derived.LaidMore
import Derived.Lay
import Derived.MakeChecks
import Derived.SevenTiedAt
import Derived.Stop.Joined
set_option linter.unusedSimpArgs false
set_option linter.unusedVariables false
namespace Go.Proofs.YtfofkjajlfphjaaDoor
open Go Go.ChangeShapes Go.WideShapes Go.ChangeAt Go.RowKit
set_option maxRecDepth 100000
theorem Tryd.own : ownKnob Tryd.prog.godebug = none := by kernel_rfl
theorem Tryd.laidOut : laidOutB Tryd.prog = true := by kernel_rfl
abbrev laidL : List (String × DataW Unit) := [("hypogeum/sum.begin", Rows.laid_hypogeum_sum_begin), ("hypogeum/sum.steps", Rows.laid_hypogeum_sum_steps)]
/-- a laid row of words -/
theorem words_cell {W : World} {nm : String} {g t e n fuel : Nat} {cs : Array Value} {p : List MemPlace} {l : List UInt32} {d : DataW Unit} (hg : Tryd.prog.globalNamed nm = some g) (hv : W.var? Tryd.prog nm = some cs)
    (hd : DataW.trod (fun _ => ()) Tryd.prog W 0 (fun _ => true) false fuel t cs.toList = some (d, p)) (ht : Tryd.prog.underlying t = some (.array n e)) (he : Tryd.prog.underlying e = some (.int .u32)) (c5 : Tryd.prog.cellsOf e = 1)
    (hl : d = .agg (l.map fun x => .lit (.int .u32 (x.toNat : Int)))) (hn : l.length = n) : ∀ (j : Nat) (v : Value), (l.map W4)[j]? = some v → W.cell? ⟨g, j, none⟩ = some v := by
  intro j v hj
  have hjl : j < l.length := by have := (List.getElem?_eq_some_iff.1 hj).1; simpa using this
  subst hl
  obtain ⟨xs, m, _, ex, _, hx, hel⟩ := DataW.trod_array ht hd
  have hE := hel j (by omega)
  rw [c5, Nat.mul_one, List.getElem?_eq_getElem (by omega)] at hE
  obtain ⟨z, e1, e2, _⟩ := DataW.trod_int he hE
  have e3 : (xs.map (·.1)) = l.map fun x => .lit (.int .u32 (x.toNat : Int)) := (DataW.agg.inj (Prod.mk.inj ex).1).symm
  have e4 : (xs.map (·.1))[j]? = (l.map fun x => (DataW.lit (.int .u32 (x.toNat : Int)) : DataW Unit))[j]? := by rw [e3]
  rw [List.getElem?_map, List.getElem?_map, List.getElem?_eq_getElem (by omega : j < xs.length), List.getElem?_eq_getElem hjl, e2] at e4
  have hz : z = ((l[j]).toNat : Int) := by
    simp only [Option.map_some, Option.some.injEq, DataW.lit.injEq, Lit.int.injEq, true_and] at e4
    exact e4
  have e5 : v = .int .u32 z := by
    rw [List.getElem?_map, List.getElem?_eq_getElem hjl] at hj
    simp only [Option.map_some, Option.some.injEq] at hj
    rw [← hj, hz]
  rw [World.var?_cell hg hv j, e5]
  have h0 : ((cs.toList.drop j).take 1)[0]? = some (.int .u32 z) := by rw [e1]; rfl
  simpa using h0
theorem glob_of_laid {W : World} (h : laidMetH Tryd.prog laidL W) : glob.holds W := by
  rw [MakeChecks.laidMetH_plain _ _ _ (by kernel_rfl)] at h
  obtain ⟨ps, ⟨g, t, cs, fuel, p, q, hg, ht, hv, hd, ⟨g1, t1, cs1, fuel1, p1, q1, hg1, ht1, hv1, hd1, _, _⟩, _⟩, _, _⟩ := h
  obtain rfl := Option.some.inj ((show Tryd.prog.globalNamed "hypogeum/sum.begin" = some 0 by kernel_rfl).symm.trans hg)
  obtain rfl := Option.some.inj ((show (Tryd.prog.globals[0]?).map (·.type) = some 170 by kernel_rfl).symm.trans ht)
  obtain rfl := Option.some.inj ((show Tryd.prog.globalNamed "hypogeum/sum.steps" = some 1 by kernel_rfl).symm.trans hg1)
  obtain rfl := Option.some.inj ((show (Tryd.prog.globals[1]?).map (·.type) = some 193 by kernel_rfl).symm.trans ht1)
  exact ⟨words_cell hg hv hd Tryd.underlying170 Tryd.underlying161 (by kernel_rfl) rfl rfl, words_cell hg1 hv1 hd1 Tryd.underlying193 Tryd.underlying161 (by kernel_rfl) rfl rfl⟩
theorem laid_met (os : Os) (args : Array Value) : laidMetH Tryd.prog laidL ((World.laidAll Tryd.prog os laidL).forCall (fun _ _ => 0) ⟨#[], args, []⟩).memory := by
  rw [MakeChecks.laidMetH_plain _ _ _ (by kernel_rfl)]; exact laidMet_laidAll _ (by kernel_rfl) (by kernel_rfl)
theorem laid_shaped (os : Os) : True := trivial
section
variable {H : Type} {enc : TypeId × Value → H} {W : World} {b0 : Nat} {sp : Nat → Bool} {held : Bool} {fuel : Nat} {cs : List Value} {x : DataW H × List MemPlace}
/-- two keys of 32 bytes -/
theorem op_keys (h : DataW.trod enc Tryd.prog W b0 sp held fuel 24 cs = some x) : ∃ hk mk : List UInt8, hk.length = 32 ∧ mk.length = 32 ∧ cs = hk.map B ++ mk.map B := by
  have hl : cs.length = 64 := (op_len Tryd.underlying24 h).trans (by kernel_rfl)
  obtain ⟨n0, y0, h0⟩ := op_fldO Tryd.underlying24 h 0 22 0 32 rfl (by kernel_rfl)
  obtain ⟨n1, y1, h1⟩ := op_fldO Tryd.underlying24 h 1 22 32 32 rfl (by kernel_rfl)
  obtain ⟨hk, hk32, e0⟩ := op_arr8 Tryd.underlying22 Tryd.underlying5 (by kernel_rfl) (by kernel_rfl) h0
  obtain ⟨mk, mk32, e1⟩ := op_arr8 Tryd.underlying22 Tryd.underlying5 (by kernel_rfl) (by kernel_rfl) h1
  refine ⟨hk, mk, hk32, mk32, ?_⟩
  rw [← e0, ← e1, List.drop_zero, List.take_of_length_le (l := cs.drop 32) (by simp; omega), List.take_append_drop]
end
/-- cells one behind the other -/
theorem cut_cat {cs : List Value} {o k n : Nat} (h : o + k = n) : (cs.drop o).take k ++ cs.drop n = cs.drop o := by
  subst h; have := List.take_append_drop k (cs.drop o); rwa [List.drop_drop] at this
theorem cut_end {cs : List Value} {o k : Nat} (h : cs.length = o + k) : cs.drop o = (cs.drop o).take k := (List.take_of_length_le (by simp; omega)).symm
theorem open_letter {H : Type} {enc : TypeId × Value → H} {W : World} {r : Reach} {b0 : Nat} {v : Value} {d : DataW H} {ps : List MemPlace} (hval : Value.okWide Tryd.prog W r b0 28 v) (hd : DataW.Trod enc Tryd.prog W 0 (fun _ => true) true 28 v d ps) :
    ∃ (hk mk name N bs : List UInt8) (kind : UInt8) (bv : Value), v = .agg (hk.map B ++ (mk.map B ++ ([B kind, Str name] ++ (N.map B ++ [bv])))).toArray ∧ hk.length = 32 ∧ mk.length = 32 ∧ N.length = 16 ∧ RdB W bv bs ∧ name.length < 9223372036854775808 ∧ bs.length < 9223372036854775808 := by
  obtain ⟨cs, rfl, hsz⟩ := okWide_struct Tryd.underlying28 hval
  obtain ⟨fuel, hf⟩ := hd
  have hl := op_len Tryd.underlying28 hf
  have hl' : cs.toList.length = 83 := by rw [show (Value.agg cs).cells.toList = cs.toList from rfl] at hl; rw [hl]; kernel_rfl
  obtain ⟨n0, y0, h0⟩ := op_fldO Tryd.underlying28 hf 0 24 0 64 rfl (by kernel_rfl)
  obtain ⟨n1, y1, h1⟩ := op_fldO Tryd.underlying28 hf 1 5 64 1 rfl (by kernel_rfl)
  obtain ⟨n2, y2, h2⟩ := op_fldO Tryd.underlying28 hf 2 9 65 1 rfl (by kernel_rfl)
  obtain ⟨n3, y3, h3⟩ := op_fldO Tryd.underlying28 hf 3 25 66 16 rfl (by kernel_rfl)
  obtain ⟨n4, y4, h4⟩ := op_fldO Tryd.underlying28 hf 4 26 82 1 rfl (by kernel_rfl)
  obtain ⟨hk, mk, hk32, mk32, e0⟩ := op_keys h0
  obtain ⟨kind, e1⟩ := op_u8 Tryd.underlying5 h1
  obtain ⟨name, e2, hnl⟩ := op_str Tryd.underlying9 h2
  obtain ⟨N, hN, e3⟩ := op_arr8 Tryd.underlying25 Tryd.underlying5 (by kernel_rfl) (by kernel_rfl) h3
  obtain ⟨bv, bs, e4, hr, hc, hm⟩ := op_bytes Tryd.underlying26 Tryd.underlying5 (by kernel_rfl) h4
  simp only [Value.cells] at e0 e1 e2 e3 e4
  refine ⟨hk, mk, name, N, bs, kind, bv, ?_, hk32, mk32, hN, hr, by simp only [maxLen] at hnl; omega, by simp only [maxLen] at hm; omega⟩
  have e : cs.toList = (cs.toList.drop 0).take 64 ++ ((cs.toList.drop 64).take 1 ++ ((cs.toList.drop 65).take 1 ++ ((cs.toList.drop 66).take 16 ++ (cs.toList.drop 82).take 1))) := by
    generalize cs.toList = l at hl'
    have a1 : (l.drop 82).take 1 = l.drop 82 := List.take_of_length_le (by simp; omega)
    rw [a1, cut_cat (o := 66) (k := 16) rfl, cut_cat (o := 65) (k := 1) rfl, cut_cat (o := 64) (k := 1) rfl, cut_cat (o := 0) (k := 64) rfl, List.drop_zero]
  rw [e0, e1, e2, e3, e4] at e
  congr 1
  rw [← Array.toArray_toList (xs := cs), e]; simp
end Go.Proofs.YtfofkjajlfphjaaDoor
