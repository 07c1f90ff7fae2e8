/- The engine: walks over code with pieces of memory. Own work. -/
import Derived.Test.YtfofkjajlfphjaaDoorEngThree
set_option linter.unusedSimpArgs false
set_option linter.unusedVariables false
/- Maps of one's own, keyed by arrays of bytes, all true. Own work for this project; no program in sight. -/
namespace Go.Proofs.YtfofkjajlfphjaaDoor
open Go Go.RowKit
/-- block b is a map whose keys are these, each with true -/
def mapR (b : Nat) (ids : List (List UInt8)) : Res where
  fp k := k = b
  holds w := ∃ es clock, w.heap[b]? = some (.map es clock) ∧ es.toList.map (fun e => (e.key, e.val)) = ids.map (fun l => (Ag l, Value.bool true))
  loc w w' h := by
    rintro ⟨es, clock, h1, h2⟩
    exact ⟨es, clock, (h b rfl).trans h1, h2⟩
  bnd w := by
    rintro ⟨es, clock, h1, h2⟩ k rfl
    exact (Array.getElem?_eq_some_iff.1 h1).1
section
variable {P : Program} {w : World} {kt e : TypeId} {ki : IntKind} {n : Nat}
theorem run_forUnit {w : World} (G : Nat → PUnit → Sem (ForInStep PUnit)) : ∀ (is : List Nat), (∀ i ∈ is, ∀ s, (G i s).run P w = .ok (.yield PUnit.unit) w) → (forIn is PUnit.unit G).run P w = .ok PUnit.unit w
  | [], _ => by simp
  | i :: is, h => by
    have h1 := h i (by simp) PUnit.unit
    have h2 := run_forUnit G is (fun j hj => h j (by simp [hj]))
    rw [List.forIn_cons, Sem.run_bind, h1]
    simp only [Result.andThen]
    exact h2
theorem run_checkKey (d : Nat) (em : Bool) {l : List UInt8} (ht : P.underlying kt = some (.array n e)) (he : P.underlying e = some (.int ki)) (hz : szB P e 1 = true) (hl : l.length = n) : (Instr.checkKey em (d + 2) kt (Ag l)).run P w = .ok () w := by
  have hsc : scB P e = true := by simp [scB, he]
  rw [Instr.checkKey, Sem.run_bind, run_underlying ht]
  simp only [Result.andThen, Ag]
  simp only [Std.Legacy.Range.forIn_eq_forIn_range', Std.Legacy.Range.size]
  rw [Sem.run_bind]
  rw [run_forUnit (P := P) (w := w) _ _ (fun i hi s => ?_)]
  · rfl
  have hi' : i < n := by have := (List.mem_range'_1.1 hi).2; omega
  simp only [Sem.run_bind, szB_run hz, Result.andThen, Nat.mul_one, run_part_byte hsc (show i < l.length by omega)]
  have h1 : (Instr.checkKey em (d + 1) e (B (l.getD i 0))).run P w = .ok () w := by
    rw [Instr.checkKey, Sem.run_bind, run_underlying he]; rfl
  rw [h1]; rfl
theorem run_findAsking {il : List UInt8} (ht : P.underlying kt = some (.array n e)) (he : P.underlying e = some (.int ki)) (hz : szB P e 1 = true) (hl : il.length = n) : ∀ (es : List MapEntry) (ids : List (List UInt8)) (i : Nat), (∀ l ∈ ids, l.length = n) → es.map (fun e => (e.key, e.val)) = ids.map (fun l => (Ag l, Value.bool true)) →
    (il ∉ ids → (Instr.findAsking kt (Ag il) es i).run P w = .ok none w) ∧ (il ∈ ids → ∃ j, (Instr.findAsking kt (Ag il) es i).run P w = .ok (some (j, .bool true)) w)
  | [], [], _, _, _ => ⟨fun _ => by simp [Instr.findAsking], fun h => by cases h⟩
  | x :: es, l :: ids, i, hn, h => by
    simp only [List.map_cons, List.cons.injEq, Prod.mk.injEq] at h
    obtain ⟨⟨h1, h2⟩, h3⟩ := h
    have ih := run_findAsking ht he hz hl es ids (i + 1) (fun l hl => hn l (List.mem_cons_of_mem _ hl)) h3
    have e1 : (Op.equal kt (Ag il) x.key).run P w = .ok (decide (il = l)) w := by rw [h1]; exact run_eq_bytes (d := 9998) ht he hz hl (hn l (List.mem_cons_self ..))
    by_cases hc : il = l
    · refine ⟨fun h => absurd (hc ▸ List.mem_cons_self ..) h, fun _ => ⟨i, ?_⟩⟩
      simp only [Instr.findAsking, Sem.run_bind, e1, Result.andThen, decide_eq_true hc, if_true, Sem.run_pure, h2]
    · have e2 : (Instr.findAsking kt (Ag il) (x :: es) i).run P w = (Instr.findAsking kt (Ag il) es (i + 1)).run P w := by
        simp only [Instr.findAsking, Sem.run_bind, e1, Result.andThen, decide_eq_false hc, Bool.false_eq_true, if_false]
      rw [e2]
      exact ⟨fun h => ih.1 (fun h' => h (List.mem_cons_of_mem _ h')), fun h => ih.2 ((List.mem_cons.1 h).resolve_left hc)⟩
  | [], l :: ids, _, _, h => by cases h
  | x :: es, [], _, _, h => by cases h
theorem run_findKey {il : List UInt8} (ht : P.underlying kt = some (.array n e)) (he : P.underlying e = some (.int ki)) (hz : szB P e 1 = true) (hl : il.length = n) (es : List MapEntry) (ids : List (List UInt8)) (hn : ∀ l ∈ ids, l.length = n) (h : es.map (fun e => (e.key, e.val)) = ids.map (fun l => (Ag l, Value.bool true))) :
    (il ∉ ids → (Instr.findKey kt (Ag il) es).run P w = .ok none w) ∧ (il ∈ ids → ∃ j, (Instr.findKey kt (Ag il) es).run P w = .ok (some (j, .bool true)) w) := by
  cases es with
  | nil =>
    cases ids with
    | nil => exact ⟨fun _ => by simp [Instr.findKey, run_underlying ht, Instr.findNow], fun h => by cases h⟩
    | cons l ids => cases h
  | cons x es =>
    have h0 : ∀ d, Instr.sameNow (.array n e) (Ag il) d = none := fun d => rfl
    have e1 : (Instr.findKey kt (Ag il) (x :: es)).run P w = (Instr.findAsking kt (Ag il) (x :: es)).run P w := by
      simp [Instr.findKey, run_underlying ht, Instr.findNow, h0]
    rw [e1]
    exact run_findAsking ht he hz hl _ _ 0 hn h
end
section
variable {P : Program} {n : Nat} {S : World → Prop} {L : Sl} {dst : Option Tmp} {rty : TypeId} {pos : String} {af : Array Edge} {gd : Option (Nat × Bool)}
  {t t' : TypeId} {x y z : Operand}
theorem y_look {b k : Nat} {kt vt e : TypeId} {ki : IntKind} {ids : List (List UInt8)} {il : List UInt8} (hx : ev L x = some (.map (some b))) (hy : ev L y = some (Ag il)) (hm : P.underlying t = some (.map kt vt)) (ht : P.underlying kt = some (.array k e)) (he : P.underlying e = some (.int ki)) (hz : szB P e 1 = true)
    (hv : ∀ w, (zeroValue vt).run P w = .ok (.bool false) w) (hl : il.length = k) (hn : ∀ l ∈ ids, l.length = k) (hS : ∀ w, S w → (mapR b ids).holds w) :
    Y P n S L ⟨dst, .lookup t x y false, rty, pos, af, gd⟩ (.bool (decide (il ∈ ids))) := fun a w ha hw => by
  have h1 := ha.ev hx; have h2 := ha.ev hy
  obtain ⟨es, clock, hb, hes⟩ := hS w hw
  have hf := run_findKey (P := P) (w := w) ht he hz hl es.toList ids hn hes
  have hck := run_checkKey (P := P) (w := w) 9998 es.isEmpty ht he hz hl
  have hgo : (getObj b).run P w = .ok (.map es clock) w := by simp [getObj, Sem.run, hb]
  by_cases hc : il ∈ ids
  · obtain ⟨j, hj⟩ := hf.2 hc
    simp [execOp, h1, h2, Instr.lookup, run_underlying hm, hgo, hck, hj, hc]
  · have hj := hf.1 hc
    simp [execOp, h1, h2, Instr.lookup, run_underlying hm, hgo, hck, hj, hv w, hc]
end
section
variable {c : Cx} {L : Sl} {H : List Res} {P : Program} {Q : Exit → Act → World → Prop} {K : Act → World → Prop} {d : Nat} {rty : TypeId} {pos : String} {af : Array Edge} {gd : Option (Nat × Bool)} {t t' : TypeId} {x y z : Operand}
theorem a_makeMap (hn : Nat.blt d c.n = true) (h : ∀ b, TK c K ((d, .map (some b)) :: L) (mapR b [] :: H)) :
    TK c (fun a w => (⟨some d, .makeMap t none, rty, pos, af, gd⟩ : Oper).wp P a w K Q) L H := fun a w ha hw => by
  have e : (execOp a.eval (⟨some d, .makeMap t none, rty, pos, af, gd⟩ : Oper)).run P w = .ok (.value (.map (some w.heap.size))) { w with heap := w.heap.push (.map #[] 0) } := by
    simp [execOp, Instr.makeMap, newObj]
    rfl
  change Oper.upon P _ a K Q ((execOp a.eval _).run P w)
  rw [e, Oper.upon_value]
  refine h w.heap.size _ _ (ha.put hn _) (St.new (w' := { w with heap := w.heap.push (.map #[] 0) }) (N := [mapR w.heap.size []]) hw ⟨rfl, rfl, rfl, by simp, fun k hk _ => by simp [Array.getElem?_push, Nat.ne_of_lt hk]⟩ ⟨⟨#[], 0, by simp, rfl⟩, trivial⟩ ⟨fun _ _ h => h, trivial⟩ (fun k hk => ?_))
  rcases hk with hk | hk
  · have : k = w.heap.size := hk
    omega
  · exact hk.elim
theorem a_mapNew {H1 H2 : List Res} {b k : Nat} {kt vt e : TypeId} {ki : IntKind} {ids : List (List UInt8)} {il : List UInt8} (hx : ev L x = some (.map (some b))) (hy : ev L y = some (Ag il)) (hv : ev L z = some (.bool true)) (hm : P.underlying t = some (.map kt vt)) (ht : P.underlying kt = some (.array k e)) (he : P.underlying e = some (.int ki)) (hz : szB P e 1 = true)
    (hl : il.length = k) (hn : ∀ l ∈ ids, l.length = k) (hno : il ∉ ids) (hH : H = H1 ++ mapR b ids :: H2) (h : TK c K L (H1 ++ mapR b (ids ++ [il]) :: H2)) :
    TK c (fun a w => (⟨none, .mapUpdate t x y z, rty, pos, af, gd⟩ : Oper).wp P a w K Q) L H := fun a w ha hw => by
  subst hH
  have h1 := ha.ev hx; have h2 := ha.ev hy; have h3 := ha.ev hv
  obtain ⟨es, clock, hb, hes⟩ := hw.mem (r := mapR b ids) (by simp)
  have hf := (run_findKey (P := P) (w := w) ht he hz hl es.toList ids hn hes).1 hno
  have hck := run_checkKey (P := P) (w := w) 9998 false ht he hz hl
  have hlt := (Array.getElem?_eq_some_iff.1 hb).1
  have hgo : (getObj b).run P w = .ok (.map es clock) w := by simp [getObj, Sem.run, hb]
  have e1 : (execOp a.eval (⟨none, .mapUpdate t x y z, rty, pos, af, gd⟩ : Oper)).run P w = .ok .skip { w with heap := w.heap.setIfInBounds b (.map (es.push { key := Ag il, val := .bool true, born := clock }) (clock + 1)) } := by
    have hso : ∀ o : Obj, (setObj b o).run P w = .ok () { w with heap := w.heap.setIfInBounds b o } := fun o => by simp [setObj, Sem.run, hb]
    simp [execOp, h1, h2, h3, Instr.mapUpdate, run_underlying hm, hgo, hck, hf, hso]
  change Oper.upon P _ a K Q ((execOp a.eval _).run P w)
  rw [e1, Oper.upon_skip]
  refine h _ _ (ha.putNone _) (St.perm (St.turn (w' := { w with heap := w.heap.setIfInBounds b (.map (es.push { key := Ag il, val := .bool true, born := clock }) (clock + 1)) }) (N := [mapR b (ids ++ [il])]) hw ⟨rfl, rfl, rfl, by simp, fun k hk hne => ?_⟩ ⟨⟨es.push { key := Ag il, val := .bool true, born := clock }, clock + 1, by simp [hlt], by simp [hes]⟩, trivial⟩ ⟨fun _ _ h => h, trivial⟩ ?_) perm_mid)
  · have hne' : ¬ b = k := fun e => hne e.symm
    simp [Array.getElem?_setIfInBounds, hne']
  · intro k hk
    rcases hk with hk | hk
    · exact .inl hk
    · exact hk.elim
end
section
variable {P : Program} {n : Nat} {S : World → Prop} {L : Sl} {dst : Option Tmp} {rty : TypeId} {pos : String} {af : Array Edge} {gd : Option (Nat × Bool)}
  {t t' : TypeId} {x y z : Operand}
theorem i64_or_nat (a b : Nat) (ha : a < 4611686018427387904) (hb : b < 4611686018427387904) : bits .or .i64 (a : Int) (b : Int) = ((a ||| b : Nat) : Int) := by
  have hx : a ||| b < 2 ^ 62 := Nat.or_lt_two_pow (by omega) (by omega)
  show IntKind.i64.wrap ((BitVec.ofInt 64 (a : Int) ||| BitVec.ofInt 64 (b : Int)).toNat : Int) = _
  rw [BitVec.toNat_or, ofInt_64 a (by omega), ofInt_64 b (by omega), wrap_in (by omega) (by omega)]
theorem y_shlK {k' : IntKind} {a m : Nat} (hx : ev L x = some (I (a : Int))) (hy : ev L y = some (.int k' (m : Int))) (hm : m ≤ 64) (h : a * 2 ^ m < 9223372036854775808) : Y P n S L ⟨dst, .binOp .shl t x y t', rty, pos, af, gd⟩ (I ((a * 2 ^ m : Nat) : Int)) :=
  (y_shl hx hy (by omega)).cast (by
    have e : min ((m : Int)).toNat IntKind.i64.bits = m := by simp [IntKind.bits]; omega
    have e2 : (a : Int) * 2 ^ m = ((a * 2 ^ m : Nat) : Int) := by simp
    rw [e, e2, wrap_in (by omega) (by omega)])
theorem y_orN {a b : Nat} (hx : ev L x = some (I (a : Int))) (hy : ev L y = some (I (b : Int))) (h : a < 4611686018427387904 ∧ b < 4611686018427387904) : Y P n S L ⟨dst, .binOp .or t x y t', rty, pos, af, gd⟩ (I ((a ||| b : Nat) : Int)) :=
  (y_bits hx hy (by simp)).cast (by rw [i64_or_nat _ _ h.1 h.2])
end
theorem fillP3 {zs a cs : List Value} {x y z : Value} {n : Nat} (ha : a.length = n) (hz : zs = a ++ [I 0, I 0, I 0]) (e : a ++ [x, y, z] = cs) : fillL [(0, n), (n, 1), (n + 1, 1), (n + 2, 1)] zs [(1, [x]), (2, [y]), (3, [z])] = some cs := by
  subst ha; subst e; subst hz
  simp only [fillL, List.getElem?_cons_zero, List.getElem?_cons_succ]
  have h3 : ∀ (u1 u2 u3 : Value), (a ++ [u1, u2, u3]).take a.length ++ [x] ++ (a ++ [u1, u2, u3]).drop (a.length + 1) = a ++ [x, u2, u3] := fun u1 u2 u3 => by rw [List.take_left, List.drop_length_add_append]; simp
  have h4 : ∀ (u1 u2 u3 : Value), (a ++ [u1, u2, u3]).take (a.length + 1) ++ [y] ++ (a ++ [u1, u2, u3]).drop (a.length + 1 + 1) = a ++ [u1, y, u3] := fun u1 u2 u3 => by rw [List.take_length_add_append, Nat.add_assoc, List.drop_length_add_append]; simp
  have h5 : ∀ (u1 u2 u3 : Value), (a ++ [u1, u2, u3]).take (a.length + 2) ++ [z] ++ (a ++ [u1, u2, u3]).drop (a.length + 2 + 1) = a ++ [u1, u2, z] := fun u1 u2 u3 => by rw [List.take_length_add_append, Nat.add_assoc, List.drop_length_add_append]; simp
  rw [if_pos ⟨rfl, by simp⟩, h3, if_pos ⟨rfl, by simp⟩, h4, if_pos ⟨rfl, by simp⟩, h5]
end Go.Proofs.YtfofkjajlfphjaaDoor

