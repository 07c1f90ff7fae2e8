/- Opening of the argument Pour of the cipher laws; facts on the program that every row needs. -/
import Derived.Test.YtfofkjajlfphjaaRows
import Derived.Test.YtfofkjajlfphjaaEngJ
namespace Go.Proofs.Ytfofkjajlfphjaa
open Go.ChangeShapes Go.WideShapes Go.ChangeAt Go.RowKit
theorem Try.own : ownKnob Try.prog.godebug = none := by kernel_rfl
theorem Try.laidOut : laidOutB Try.prog = true := by kernel_rfl
theorem open_pour {H : Type} {enc : TypeId × Value → H} {W : World} {r : Reach} {b0 : Nat} {v : Value} {d : DataW H} {ps : List MemPlace} (hval : Value.okWide Try.prog W r b0 42 v) (hd : DataW.Trod enc Try.prog W 0 (fun _ => true) true 42 v d ps) :
    ∃ (Kb N : List UInt8) (at_ : Int) (vb : Value) (bs : List UInt8), v = .agg (Kb.map B ++ (N.map B ++ [I at_, vb])).toArray ∧ Kb.length = 32 ∧ N.length = 16 ∧ (-9223372036854775808 ≤ at_ ∧ at_ ≤ 9223372036854775807) ∧ RdB W vb bs ∧ bs.length ≤ cpOf vb ∧ cpOf vb ≤ maxLen := by
  obtain ⟨cs, rfl, hsz⟩ := okWide_struct Try.underlying42 hval
  obtain ⟨fuel, hf⟩ := hd
  have hl := op_len Try.underlying42 hf
  have hl' : cs.toList.length = 50 := by rw [show (Value.agg cs).cells.toList = cs.toList from rfl] at hl; rw [hl]; kernel_rfl
  obtain ⟨n0, y0, h0⟩ := op_fldO Try.underlying42 hf 0 22 0 32 rfl (by kernel_rfl)
  obtain ⟨n1, y1, h1⟩ := op_fldO Try.underlying42 hf 1 23 32 16 rfl (by kernel_rfl)
  obtain ⟨n2, y2, h2⟩ := op_fldO Try.underlying42 hf 2 3 48 1 rfl (by kernel_rfl)
  obtain ⟨n3, y3, h3⟩ := op_fldO Try.underlying42 hf 3 28 49 1 rfl (by kernel_rfl)
  obtain ⟨Kb, hK, e0⟩ := op_arr8 Try.underlying22 Try.underlying5 (by kernel_rfl) (by kernel_rfl) h0
  obtain ⟨N, hN, e1⟩ := op_arr8 Try.underlying23 Try.underlying5 (by kernel_rfl) (by kernel_rfl) h1
  obtain ⟨at_, e2, hat⟩ := op_i64 Try.underlying3 h2
  obtain ⟨vb, bs, e3, hr, hc, hm⟩ := op_bytes Try.underlying28 Try.underlying5 (by kernel_rfl) h3
  refine ⟨Kb, N, at_, vb, bs, ?_, hK, hN, hat, hr, hc, hm⟩
  simp only [Value.cells] at e0 e1 e2 e3
  have e : cs.toList = (cs.toList.drop 0).take 32 ++ ((cs.toList.drop 32).take 16 ++ ((cs.toList.drop 48).take 1 ++ (cs.toList.drop 49).take 1)) := by
    generalize cs.toList = l at hl'
    have a1 : (l.drop 49).take 1 = l.drop 49 := List.take_of_length_le (by simp; omega)
    have a2 : (l.drop 48).take 1 ++ l.drop 49 = l.drop 48 := by have := List.take_append_drop 1 (l.drop 48); rwa [List.drop_drop] at this
    have a3 : (l.drop 32).take 16 ++ l.drop 48 = l.drop 32 := by have := List.take_append_drop 16 (l.drop 32); rwa [List.drop_drop] at this
    rw [a1, a2, a3, List.drop_zero, List.take_append_drop]
  rw [e0, e1, e2, e3] at e
  congr 1
  rw [← Array.toArray_toList (xs := cs), e]; simp
end Go.Proofs.Ytfofkjajlfphjaa
