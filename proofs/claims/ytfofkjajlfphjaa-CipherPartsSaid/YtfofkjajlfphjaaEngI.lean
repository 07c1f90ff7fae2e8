/- Comparisons of bools, strings and arrays of bytes; make. Own work for this project; no program in sight. -/
import Derived.Test.YtfofkjajlfphjaaEngH
namespace Go.Proofs.Ytfofkjajlfphjaa
open Go Go.RowKit
section
variable {P : Program} {n : Nat} {S : World → Prop} {L : Sl} {dst : Option Tmp} {rty : TypeId} {pos : String} {af : Array Edge} {gd : Option (Nat × Bool)}
  {t t' : TypeId} {x y z : Operand} {v u : Value}

theorem run_equalIn_bool {w : World} {d : Nat} {a b : Bool} (ht : P.underlying t = some .bool) : (Op.equalIn (d + 1) t (.bool a) (.bool b)).run P w = .ok (a == b) w := by
  rw [Op.equalIn, Sem.run_bind, run_underlying ht]; rfl
theorem y_eqB {a b : Bool} (hx : ev L x = some (.bool a)) (hy : ev L y = some (.bool b)) (ht : P.underlying t = some .bool) : Y P n S L ⟨dst, .binOp .eql t x y t', rty, pos, af, gd⟩ (.bool (a == b)) := fun q w ha _ => by
  have h1 := ha.ev hx; have h2 := ha.ev hy
  have e1 : (binOp .eql t (.bool a) (.bool b)) = (do pure (Value.bool (← Op.equal t (.bool a) (.bool b)))) := rfl
  have e2 : (Op.equal t (.bool a) (.bool b)).run P w = .ok (a == b) w := run_equalIn_bool (d := 9999) ht
  simp only [execOp, h1, h2, eqGuard_at_bool, e1]
  rw [Sem.run_bind, Sem.run_bind, Sem.run_pure, Result.andThen, Sem.run_bind, e2]; rfl
theorem list_beq {l m : List UInt8} : (l == m) = decide (l = m) := by rw [Bool.eq_iff_iff]; simp
theorem y_strEq {l m : List UInt8} (hx : ev L x = some (Str l)) (hy : ev L y = some (Str m)) : Y P n S L ⟨dst, .binOp .eql t x y t', rty, pos, af, gd⟩ (.bool (decide (l = m))) := fun q w ha _ => by
  have h1 := ha.ev hx; have h2 := ha.ev hy
  simp [execOp, h1, h2, eqGuard_at_string, binOp, Op.stringOp, list_beq]
theorem y_strNe {l m : List UInt8} (hx : ev L x = some (Str l)) (hy : ev L y = some (Str m)) : Y P n S L ⟨dst, .binOp .neq t x y t', rty, pos, af, gd⟩ (.bool (decide (¬ l = m))) := fun q w ha _ => by
  have h1 := ha.ev hx; have h2 := ha.ev hy
  simp [execOp, h1, h2, eqGuard_at_string, binOp, Op.stringOp, list_beq]

/-! ### arrays of bytes -/
theorem run_part_byte {w : World} {l : List UInt8} {e : TypeId} (he : scB P e = true) {i : Nat} (hi : i < l.length) : (part e (l.map B).toArray i).run P w = .ok (B (l.getD i 0)) w := by
  simp [part, scB_run he, List.getD_eq_getElem?_getD, hi]
theorem run_eq_byte {w : World} {d : Nat} {e : TypeId} {k : IntKind} (he : P.underlying e = some (.int k)) (a b : UInt8) : (Op.equalIn (d + 1) e (B a) (B b)).run P w = .ok (decide (a = b)) w := by
  rw [Op.equalIn, Sem.run_bind, run_underlying he]
  simp only [Result.andThen, if_true, Sem.run_pure]
  congr 1
  by_cases h : a = b
  · simp [h]
  · have : ¬ (a.toNat : Int) = b.toNat := fun e => h (UInt8.toNat.inj (by omega))
    simp [h, this]
theorem run_forIn_false {w : World} (G : Nat → Option Bool × Unit → Sem (ForInStep (Option Bool × Unit))) (g : Nat → Bool) : ∀ (is : List Nat),
    (∀ i ∈ is, ∀ s, (G i s).run P w = .ok (if g i then .yield (none, ()) else .done (some false, ())) w) →
    (forIn is ((none, ()) : Option Bool × Unit) G).run P w = .ok (if is.all g then (none, ()) else (some false, ())) w
  | [], _ => by simp
  | i :: is, h => by
    have h1 := h i (by simp) (none, ())
    have h2 := run_forIn_false G g is (fun j hj => h j (by simp [hj]))
    rw [List.forIn_cons, Sem.run_bind, h1]
    simp only [Result.andThen]
    cases hg : g i with
    | true => simp [hg] at h2 ⊢; exact h2
    | false => simp [hg]
theorem run_eq_bytes {w : World} {d : Nat} {e : TypeId} {k : IntKind} {len : Nat} {l m : List UInt8} (ht : P.underlying t = some (.array len e)) (he : P.underlying e = some (.int k)) (hz : szB P e 1 = true) (hl : l.length = len) (hm : m.length = len) :
    (Op.equalIn (d + 2) t (.agg (l.map B).toArray) (.agg (m.map B).toArray)).run P w = .ok (decide (l = m)) w := by
  have hsc : scB P e = true := by simp [scB, he]
  rw [Op.equalIn, Sem.run_bind, run_underlying ht]
  simp only [Result.andThen, Sem.run_bind, szB_run hz, Std.Legacy.Range.forIn_eq_forIn_range', Std.Legacy.Range.size]
  rw [show (len - 0 + 1 - 1) / 1 = len by simp]
  rw [run_forIn_false (P := P) (w := w) _ (fun i => decide (l.getD i 0 = m.getD i 0)) (List.range' 0 len) (fun i hi s => by
    have hi' : i < len := by have := List.mem_range'_1.1 hi; omega
    simp only [Nat.mul_one, Sem.run_bind, run_part_byte hsc (show i < l.length by omega), run_part_byte hsc (show i < m.length by omega), Result.andThen, run_eq_byte he]
    by_cases hc : l.getD i 0 = m.getD i 0
    · simp only [hc, decide_true, Bool.not_true, Bool.false_eq_true, if_false, if_true, Sem.run_pure]
    · simp only [hc, decide_false, Bool.not_false, Bool.false_eq_true, if_false, if_true, Sem.run_pure])]
  by_cases hlm : l = m
  · subst hlm
    simp
  · have : ¬ ((List.range' 0 len).all fun i => decide (l.getD i 0 = m.getD i 0)) = true := fun h => hlm (by
      apply List.ext_getElem (by omega)
      intro j h1 h2
      have := List.all_eq_true.1 h j (List.mem_range'_1.2 ⟨by omega, by omega⟩)
      simpa [List.getD_eq_getElem?_getD, h1, h2] using this)
    simp only [if_neg this, hlm, decide_false, Sem.run_pure]
theorem y_agEq {e : TypeId} {k : IntKind} {len : Nat} {l m : List UInt8} (hx : ev L x = some (Ag l)) (hy : ev L y = some (Ag m)) (ht : P.underlying t = some (.array len e)) (he : P.underlying e = some (.int k)) (hz : szB P e 1 = true) (hg : P.eqGuardType P.depth t = false) (hl : l.length = len ∧ m.length = len) :
    Y P n S L ⟨dst, .binOp .eql t x y t', rty, pos, af, gd⟩ (.bool (decide (l = m))) := fun q w ha _ => by
  have h1 := ha.ev hx; have h2 := ha.ev hy
  have e1 : (binOp .eql t (Ag l) (Ag m)) = (do pure (Value.bool (← Op.equal t (Ag l) (Ag m)))) := rfl
  have e2 : (Op.equal t (Ag l) (Ag m)).run P w = .ok (decide (l = m)) w := run_eq_bytes (d := 9998) ht he hz hl.1 hl.2
  have e3 : (eqGuard .eql t x y (Ag l) (Ag m)).run P w = .ok () w := by simp [eqGuard, Ag, hg]
  simp only [execOp, h1, h2, e1]
  rw [Sem.run_bind, Sem.run_bind, e3, Result.andThen, Sem.run_bind, e2]; rfl
theorem y_agNe {e : TypeId} {k : IntKind} {len : Nat} {l m : List UInt8} (hx : ev L x = some (Ag l)) (hy : ev L y = some (Ag m)) (ht : P.underlying t = some (.array len e)) (he : P.underlying e = some (.int k)) (hz : szB P e 1 = true) (hg : P.eqGuardType P.depth t = false) (hl : l.length = len ∧ m.length = len) :
    Y P n S L ⟨dst, .binOp .neq t x y t', rty, pos, af, gd⟩ (.bool (decide (¬ l = m))) := fun q w ha _ => by
  have h1 := ha.ev hx; have h2 := ha.ev hy
  have e1 : (binOp .neq t (Ag l) (Ag m)) = (do pure (Value.bool (!(← Op.equal t (Ag l) (Ag m))))) := rfl
  have e2 : (Op.equal t (Ag l) (Ag m)).run P w = .ok (decide (l = m)) w := run_eq_bytes (d := 9998) ht he hz hl.1 hl.2
  have e3 : (eqGuard .neq t x y (Ag l) (Ag m)).run P w = .ok () w := by simp [eqGuard, Ag, hg]
  simp only [execOp, h1, h2, e1]
  rw [Sem.run_bind, Sem.run_bind, e3, Result.andThen, Sem.run_bind, e2, decide_not]; rfl
end

/-! ### make, of bytes -/
section
variable {c : Cx} {L : Sl} {H : List Res} {P : Program} {Q : Exit → Act → World → Prop} {K : Act → World → Prop} {d : Nat} {rty : TypeId} {pos : String} {af : Array Edge} {gd : Option (Nat × Bool)} {t : TypeId} {x y : Operand} {v : Value}
theorem a_make {e : TypeId} {m bytes : Nat} {z : Value} (hx : ev L x = some (I (m : Int))) (hy : ev L y = some (I (m : Int))) (ht : P.underlying t = some (.slice e)) (hz : ∃ i, P.info? e = some i ∧ i.zero = some z ∧ i.size = 1 ∧ i.bytes = bytes) (hone : z.oneCell' = true) (hn : Nat.blt d c.n = true)
    (hb : m ≤ 281474976710656 ∧ bytes * m ≤ 281474976710656) (h : ∀ b, TK c K ((d, .slice (some ⟨b, 0, none⟩) m m) :: L) (cel b (List.replicate m z) e :: H)) :
    TK c (fun a w => (⟨some d, .makeSlice t x y, rty, pos, af, gd⟩ : Oper).wp P a w K Q) L H := fun a w ha hw => by
  have h1 := ha.ev hx; have h2 := ha.ev hy
  obtain ⟨i, hi, hz1, hs, rfl⟩ := hz
  have hv : z.cells = #[z] := by cases z <;> first | rfl | simp [Value.oneCell'] at hone
  have hw64 : IntKind.i64.wrap (m : Int) = (m : Int) := wrap_in (by omega) (by omega)
  have hle : ¬ (281474976710656 < (i.bytes : Int) * (m : Int)) := by
    have : (i.bytes : Int) * (m : Int) = ((i.bytes * m : Nat) : Int) := by simp
    rw [this]; have := hb.2; omega
  have hcs : (Array.range m).map (fun j => z.cells[j % z.cells.size]!) = (List.replicate m z).toArray := by
    apply Array.ext (by simp)
    intro j h1 h2
    simp [hv, Nat.mod_one]
  have e : (execOp a.eval (⟨some d, .makeSlice t x y, rty, pos, af, gd⟩ : Oper)).run P w = .ok (.value (.slice (some ⟨w.heap.size, 0, none⟩) m m)) { w with heap := w.heap.push (.cells (List.replicate m z).toArray e) } := by
    have hm0 : ¬ ((m : Int) < 0) := by omega
    simp only [execOp, h1, h2, Instr.makeSlice]
    simp [underlying, ht, asInt, asIntOf, typeInfo, hi, hw64, hle, Go.sizeOf, hs, zeroValue, hz1]
    rcases Nat.eq_zero_or_pos m with rfl | hm
    · have e0 : Array.range 0 = #[] := rfl
      simp [newRow, e0]
    · have : ¬ m = 0 := by omega
      simp [this, hcs, newRow]
      intro hneg; exact absurd hneg (by omega)
  change Oper.upon P _ a K Q ((execOp a.eval _).run P w)
  rw [e, Oper.upon_value]
  exact h w.heap.size _ _ (ha.put hn _) (hw.alloc (List.replicate m z).toArray _)
end
end Go.Proofs.Ytfofkjajlfphjaa
