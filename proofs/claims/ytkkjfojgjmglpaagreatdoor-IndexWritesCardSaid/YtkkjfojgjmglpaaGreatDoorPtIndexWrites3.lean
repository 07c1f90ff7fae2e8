/- Texts of the claim IndexWrites, part 3 of 5: EngFour, IndexPure, RowKitG, KeyA, KeyB, KeyC, KeyD, KeyE, KeyF, CipA, CipB, CipC, CipD, CipE, WaxA, KeyG, KeyH, PackA, PackB, IndexA. Own work. -/
import Derived.Deep.SlicePairs
import Derived.MapKept
import Derived.Test.YtkkjfojgjmglpaaGreatDoorPtIndexWrites2
set_option linter.unusedSimpArgs false
set_option linter.unusedVariables false
/- Maps of one's own, keyed by arrays of bytes, all true. Own work for this project; no program in sight. -/
namespace Go.Proofs.YtkkjfojgjmglpaaGreatDoor
open Go Go.RowKit
/-- block b is a map whose keys are these, each with true -/
def mapR (b : Nat) (ids : List (List UInt8)) : Res where
  fp k := k = b
  holds w := ∃ es clock, w.heap[b]? = some (.map es clock) ∧ es.toList.map (fun e => (e.key, e.val)) = ids.map (fun l => (Ag l, Value.bool true))
  loc w w' h := by
    rintro ⟨es, clock, h1, h2⟩
    exact ⟨es, clock, (h b rfl).trans h1, h2⟩
  bnd w := by
    rintro ⟨es, clock, h1, h2⟩ k rfl
    exact (Array.getElem?_eq_some_iff.1 h1).1
section
variable {P : Program} {w : World} {kt e : TypeId} {ki : IntKind} {n : Nat}
theorem run_forUnit {w : World} (G : Nat → PUnit → Sem (ForInStep PUnit)) : ∀ (is : List Nat), (∀ i ∈ is, ∀ s, (G i s).run P w = .ok (.yield PUnit.unit) w) → (forIn is PUnit.unit G).run P w = .ok PUnit.unit w
  | [], _ => by simp
  | i :: is, h => by
    have h1 := h i (by simp) PUnit.unit
    have h2 := run_forUnit G is (fun j hj => h j (by simp [hj]))
    rw [List.forIn_cons, Sem.run_bind, h1]
    simp only [Result.andThen]
    exact h2
theorem run_checkKey (d : Nat) (em : Bool) {l : List UInt8} (ht : P.underlying kt = some (.array n e)) (he : P.underlying e = some (.int ki)) (hz : szB P e 1 = true) (hl : l.length = n) : (Instr.checkKey em (d + 2) kt (Ag l)).run P w = .ok () w := by
  have hsc : scB P e = true := by simp [scB, he]
  rw [Instr.checkKey, Sem.run_bind, run_underlying ht]
  simp only [Result.andThen, Ag]
  simp only [Std.Legacy.Range.forIn_eq_forIn_range', Std.Legacy.Range.size]
  rw [Sem.run_bind]
  rw [run_forUnit (P := P) (w := w) _ _ (fun i hi s => ?_)]
  · rfl
  have hi' : i < n := by have := (List.mem_range'_1.1 hi).2; omega
  simp only [Sem.run_bind, szB_run hz, Result.andThen, Nat.mul_one, run_part_byte hsc (show i < l.length by omega)]
  have h1 : (Instr.checkKey em (d + 1) e (B (l.getD i 0))).run P w = .ok () w := by
    rw [Instr.checkKey, Sem.run_bind, run_underlying he]; rfl
  rw [h1]; rfl
theorem run_findAsking {il : List UInt8} (ht : P.underlying kt = some (.array n e)) (he : P.underlying e = some (.int ki)) (hz : szB P e 1 = true) (hl : il.length = n) : ∀ (es : List MapEntry) (ids : List (List UInt8)) (i : Nat), (∀ l ∈ ids, l.length = n) → es.map (fun e => (e.key, e.val)) = ids.map (fun l => (Ag l, Value.bool true)) →
    (il ∉ ids → (Instr.findAsking kt (Ag il) es i).run P w = .ok none w) ∧ (il ∈ ids → ∃ j, (Instr.findAsking kt (Ag il) es i).run P w = .ok (some (j, .bool true)) w)
  | [], [], _, _, _ => ⟨fun _ => by simp [Instr.findAsking], fun h => by cases h⟩
  | x :: es, l :: ids, i, hn, h => by
    simp only [List.map_cons, List.cons.injEq, Prod.mk.injEq] at h
    obtain ⟨⟨h1, h2⟩, h3⟩ := h
    have ih := run_findAsking ht he hz hl es ids (i + 1) (fun l hl => hn l (List.mem_cons_of_mem _ hl)) h3
    have e1 : (Op.equal kt (Ag il) x.key).run P w = .ok (decide (il = l)) w := by rw [h1]; exact run_eq_bytes (d := 9998) ht he hz hl (hn l (List.mem_cons_self ..))
    by_cases hc : il = l
    · refine ⟨fun h => absurd (hc ▸ List.mem_cons_self ..) h, fun _ => ⟨i, ?_⟩⟩
      simp only [Instr.findAsking, Sem.run_bind, e1, Result.andThen, decide_eq_true hc, if_true, Sem.run_pure, h2]
    · have e2 : (Instr.findAsking kt (Ag il) (x :: es) i).run P w = (Instr.findAsking kt (Ag il) es (i + 1)).run P w := by
        simp only [Instr.findAsking, Sem.run_bind, e1, Result.andThen, decide_eq_false hc, Bool.false_eq_true, if_false]
      rw [e2]
      exact ⟨fun h => ih.1 (fun h' => h (List.mem_cons_of_mem _ h')), fun h => ih.2 ((List.mem_cons.1 h).resolve_left hc)⟩
  | [], l :: ids, _, _, h => by cases h
  | x :: es, [], _, _, h => by cases h
theorem run_findKey {il : List UInt8} (ht : P.underlying kt = some (.array n e)) (he : P.underlying e = some (.int ki)) (hz : szB P e 1 = true) (hl : il.length = n) (es : List MapEntry) (ids : List (List UInt8)) (hn : ∀ l ∈ ids, l.length = n) (h : es.map (fun e => (e.key, e.val)) = ids.map (fun l => (Ag l, Value.bool true))) :
    (il ∉ ids → (Instr.findKey kt (Ag il) es).run P w = .ok none w) ∧ (il ∈ ids → ∃ j, (Instr.findKey kt (Ag il) es).run P w = .ok (some (j, .bool true)) w) := by
  cases es with
  | nil =>
    cases ids with
    | nil => exact ⟨fun _ => by simp [Instr.findKey, run_underlying ht, Instr.findNow], fun h => by cases h⟩
    | cons l ids => cases h
  | cons x es =>
    have h0 : ∀ d, Instr.sameNow (.array n e) (Ag il) d = none := fun d => rfl
    have e1 : (Instr.findKey kt (Ag il) (x :: es)).run P w = (Instr.findAsking kt (Ag il) (x :: es)).run P w := by
      simp [Instr.findKey, run_underlying ht, Instr.findNow, h0]
    rw [e1]
    exact run_findAsking ht he hz hl _ _ 0 hn h
end
section
variable {P : Program} {n : Nat} {S : World → Prop} {L : Sl} {dst : Option Tmp} {rty : TypeId} {pos : String} {af : Array Edge} {gd : Option (Nat × Bool)}
  {t t' : TypeId} {x y z : Operand}
theorem y_look {b k : Nat} {kt vt e : TypeId} {ki : IntKind} {ids : List (List UInt8)} {il : List UInt8} (hx : ev L x = some (.map (some b))) (hy : ev L y = some (Ag il)) (hm : P.underlying t = some (.map kt vt)) (ht : P.underlying kt = some (.array k e)) (he : P.underlying e = some (.int ki)) (hz : szB P e 1 = true)
    (hv : ∀ w, (zeroValue vt).run P w = .ok (.bool false) w) (hl : il.length = k) (hn : ∀ l ∈ ids, l.length = k) (hS : ∀ w, S w → (mapR b ids).holds w) :
    Y P n S L ⟨dst, .lookup t x y false, rty, pos, af, gd⟩ (.bool (decide (il ∈ ids))) := fun a w ha hw => by
  have h1 := ha.ev hx; have h2 := ha.ev hy
  obtain ⟨es, clock, hb, hes⟩ := hS w hw
  have hf := run_findKey (P := P) (w := w) ht he hz hl es.toList ids hn hes
  have hck := run_checkKey (P := P) (w := w) 9998 es.isEmpty ht he hz hl
  have hgo : (getObj b).run P w = .ok (.map es clock) w := by simp [getObj, Sem.run, hb]
  by_cases hc : il ∈ ids
  · obtain ⟨j, hj⟩ := hf.2 hc
    simp [execOp, h1, h2, Instr.lookup, run_underlying hm, hgo, hck, hj, hc]
  · have hj := hf.1 hc
    simp [execOp, h1, h2, Instr.lookup, run_underlying hm, hgo, hck, hj, hv w, hc]
end
section
variable {c : Cx} {L : Sl} {H : List Res} {P : Program} {Q : Exit → Act → World → Prop} {K : Act → World → Prop} {d : Nat} {rty : TypeId} {pos : String} {af : Array Edge} {gd : Option (Nat × Bool)} {t t' : TypeId} {x y z : Operand}
theorem a_makeMap (hn : Nat.blt d c.n = true) (h : ∀ b, TK c K ((d, .map (some b)) :: L) (mapR b [] :: H)) :
    TK c (fun a w => (⟨some d, .makeMap t none, rty, pos, af, gd⟩ : Oper).wp P a w K Q) L H := fun a w ha hw => by
  have e : (execOp a.eval (⟨some d, .makeMap t none, rty, pos, af, gd⟩ : Oper)).run P w = .ok (.value (.map (some w.heap.size))) { w with heap := w.heap.push (.map #[] 0) } := by
    simp [execOp, Instr.makeMap, newObj]
    rfl
  change Oper.upon P _ a K Q ((execOp a.eval _).run P w)
  rw [e, Oper.upon_value]
  refine h w.heap.size _ _ (ha.put hn _) (St.new (w' := { w with heap := w.heap.push (.map #[] 0) }) (N := [mapR w.heap.size []]) hw ⟨rfl, rfl, rfl, by simp, fun k hk _ => by simp [Array.getElem?_push, Nat.ne_of_lt hk]⟩ ⟨⟨#[], 0, by simp, rfl⟩, trivial⟩ ⟨fun _ _ h => h, trivial⟩ (fun k hk => ?_))
  rcases hk with hk | hk
  · have : k = w.heap.size := hk
    omega
  · exact hk.elim
theorem a_mapNew {H1 H2 : List Res} {b k : Nat} {kt vt e : TypeId} {ki : IntKind} {ids : List (List UInt8)} {il : List UInt8} (hx : ev L x = some (.map (some b))) (hy : ev L y = some (Ag il)) (hv : ev L z = some (.bool true)) (hm : P.underlying t = some (.map kt vt)) (ht : P.underlying kt = some (.array k e)) (he : P.underlying e = some (.int ki)) (hz : szB P e 1 = true)
    (hl : il.length = k) (hn : ∀ l ∈ ids, l.length = k) (hno : il ∉ ids) (hH : H = H1 ++ mapR b ids :: H2) (h : TK c K L (H1 ++ mapR b (ids ++ [il]) :: H2)) :
    TK c (fun a w => (⟨none, .mapUpdate t x y z, rty, pos, af, gd⟩ : Oper).wp P a w K Q) L H := fun a w ha hw => by
  subst hH
  have h1 := ha.ev hx; have h2 := ha.ev hy; have h3 := ha.ev hv
  obtain ⟨es, clock, hb, hes⟩ := hw.mem (r := mapR b ids) (by simp)
  have hf := (run_findKey (P := P) (w := w) ht he hz hl es.toList ids hn hes).1 hno
  have hck := run_checkKey (P := P) (w := w) 9998 false ht he hz hl
  have hlt := (Array.getElem?_eq_some_iff.1 hb).1
  have hgo : (getObj b).run P w = .ok (.map es clock) w := by simp [getObj, Sem.run, hb]
  have e1 : (execOp a.eval (⟨none, .mapUpdate t x y z, rty, pos, af, gd⟩ : Oper)).run P w = .ok .skip { w with heap := w.heap.setIfInBounds b (.map (es.push { key := Ag il, val := .bool true, born := clock }) (clock + 1)) } := by
    have hso : ∀ o : Obj, (setObj b o).run P w = .ok () { w with heap := w.heap.setIfInBounds b o } := fun o => by simp [setObj, Sem.run, hb]
    simp [execOp, h1, h2, h3, Instr.mapUpdate, run_underlying hm, hgo, hck, hf, hso]
  change Oper.upon P _ a K Q ((execOp a.eval _).run P w)
  rw [e1, Oper.upon_skip]
  refine h _ _ (ha.putNone _) (St.perm (St.turn (w' := { w with heap := w.heap.setIfInBounds b (.map (es.push { key := Ag il, val := .bool true, born := clock }) (clock + 1)) }) (N := [mapR b (ids ++ [il])]) hw ⟨rfl, rfl, rfl, by simp, fun k hk hne => ?_⟩ ⟨⟨es.push { key := Ag il, val := .bool true, born := clock }, clock + 1, by simp [hlt], by simp [hes]⟩, trivial⟩ ⟨fun _ _ h => h, trivial⟩ ?_) perm_mid)
  · have hne' : ¬ b = k := fun e => hne e.symm
    simp [Array.getElem?_setIfInBounds, hne']
  · intro k hk
    rcases hk with hk | hk
    · exact .inl hk
    · exact hk.elim
end
section
variable {P : Program} {n : Nat} {S : World → Prop} {L : Sl} {dst : Option Tmp} {rty : TypeId} {pos : String} {af : Array Edge} {gd : Option (Nat × Bool)}
  {t t' : TypeId} {x y z : Operand}
end
end Go.Proofs.YtkkjfojgjmglpaaGreatDoor

/- Many pieces as one; strings in order. Own work for this project; no program in sight. -/
namespace Go.Proofs.YtkkjfojgjmglpaaGreatDoor
open Go Go.RowKit
/-- many pieces as one -/
def bag (ps : List Res) : Res where
  fp := Fs ps
  holds w := Hs w ps
  loc _ _ h hr := Hs.loc h hr
  bnd _ hr k hk := Fs.bnd hr k hk
theorem Ro.outB {c : Cx} {p q : Res} {ps : List Res} {w : World} {H0 Hr : List Res} (hw : St c w (H0 ++ Hr)) (hb : bag ps ∈ Hr) (hq : q ∈ ps) (h : q.holds w → p.holds w) (hf : ∀ k, p.fp k → q.fp k) : Ro (Fs H0) w p :=
  Ro.out hw hb (fun hb => h (Hs.mem hb q hq)) (fun k hk => Fs.of_mem hq (hf k hk))
section
variable {c : Cx} {L : Sl} {H : List Res} {K : Act → World → Prop} {r : Res} {ps : List Res}
theorem tk_bag0 (h : TK c K L (bag [] :: H)) : TK c K L H := fun a w ha hw => h a w ha ⟨hw.fr, ⟨trivial, hw.hs⟩, ⟨fun _ h => h.elim, hw.dj⟩, fun k hk => hw.own k (hk.resolve_left (fun h => h.elim))⟩
theorem tk_bag (h : TK c K L (bag (ps ++ [r]) :: H)) : TK c K L (r :: bag ps :: H) := fun a w ha hw => by
  have e : ∀ k, Fs (ps ++ [r]) k ↔ (Fs ps k ∨ r.fp k) := fun k => by rw [Fs_append]; simp [Fs]
  refine h a w ha ⟨hw.fr, ⟨?_, hw.hs.2.2⟩, ⟨fun k hk hf => ?_, hw.dj.2.2⟩, fun k hk => hw.own k ?_⟩
  · exact Hs_append.2 ⟨hw.hs.2.1, hw.hs.1, trivial⟩
  · rcases (e k).1 hk with h1 | h1
    · exact hw.dj.2.1 k h1 hf
    · exact hw.dj.1 k h1 (.inr hf)
  · rcases hk with hk | hk
    · rcases (e k).1 hk with h1 | h1
      · exact .inr (.inl h1)
      · exact .inl h1
    · exact .inr (.inr hk)
end
theorem cutR_0 {ad : Option Addr} {n cap m : Nat} : cutR (.slice ad n cap) 0 m = .slice ad m cap := by
  simp only [cutR, cutAd, Nat.sub_zero, Nat.zero_mul]
  split
  · rfl
  · cases ad <;> simp [Addr.add]
theorem RdC.take {w : World} {v : Value} {n m : Nat} {xs : List Value} (h : RdC w v n xs) (k : Nat) (hm : m ≤ n) : RdC w (cutR v 0 m) m (xs.take (m * k)) := by
  rcases h with ⟨rfl, rfl, rfl⟩ | ⟨ad, cap, rfl, hc, hr⟩
  · obtain rfl : m = 0 := by omega
    exact .inl ⟨cutR_0, rfl, by simp⟩
  · refine .inr ⟨ad, cap, cutR_0, by omega, fun j u hj => hr j u ?_⟩
    rw [List.getElem?_take] at hj
    split at hj
    · exact hj
    · cases hj
theorem flat_take {α : Type} {f : α → List Value} {k : Nat} (hf : ∀ a, (f a).length = k) : ∀ {l : List α} {m : Nat}, m ≤ l.length → (l.flatMap f).take (m * k) = (l.take m).flatMap f
  | [], m, h => by simp
  | a :: l, 0, h => by simp
  | a :: l, m + 1, h => by
    rw [List.take_succ_cons, List.flatMap_cons, List.flatMap_cons, Nat.add_mul, Nat.one_mul, Nat.add_comm (m * k) k]
    have e : (f a).length = k := hf a
    rw [← e, List.take_length_add_append, e, flat_take hf (by simpa using h)]
theorem ro_takeE {α : Type} {f : α → List Value} {k m : Nat} {E : Nat → Prop} {w : World} {v : Value} {l : List α} (h : Ro E w (rdC v l.length (l.flatMap f))) (hf : ∀ a, (f a).length = k) (hm : m ≤ l.length) : Ro E w (rdC (cutR v 0 m) (l.take m).length ((l.take m).flatMap f)) := by
  have h1 := RdC.take h.1 k hm
  rw [flat_take hf hm] at h1
  have e : (l.take m).length = m := by rw [List.length_take]; omega
  refine ⟨by rw [e]; exact h1, fun b hb => ?_⟩
  obtain ⟨hne, rfl⟩ := hb
  rcases h.1 with ⟨rfl, h2, h3⟩ | ⟨ad, cap, rfl, _, _⟩
  · have : l = [] := List.eq_nil_of_length_eq_zero h2
    subst this; simp at hne
  · rw [cutR_0]
    refine h.2 _ ⟨fun e0 => hne ?_, rfl⟩
    rw [← flat_take hf hm, e0]; simp
theorem fill_sv {a0 b0 x v : Value} (hx : x.cells = #[x]) (h : v.cells = #[v]) : fillL [(0, 1), (1, 1)] [a0, b0] [(0, x.cells.toList), (1, v.cells.toList)] = some [x, v] := by rw [h, hx]; rfl
theorem notdec (p : Prop) [Decidable p] : Value.bool (!decide p) = Value.bool (decide (¬ p)) := by simp
theorem oneBo {l : List Bool} : ∀ u ∈ l.map bo, u.oneCell' = true := by
  intro u hu
  obtain ⟨a, _, rfl⟩ := List.mem_map.1 hu
  rfl
def strLe (l m : List UInt8) : Bool := Op.bytesLess l m || decide (l = m)
section
variable {P : Program} {n : Nat} {S : World → Prop} {L : Sl} {dst : Option Tmp} {rty : TypeId} {pos : String} {af : Array Edge} {gd : Option (Nat × Bool)}
  {t t' : TypeId} {x y z : Operand}
theorem y_strLe {l m : List UInt8} (hx : ev L x = some (Str l)) (hy : ev L y = some (Str m)) : Y P n S L ⟨dst, .binOp .leq t x y t', rty, pos, af, gd⟩ (.bool (strLe l m)) := fun q w ha _ => by
  have h1 := ha.ev hx; have h2 := ha.ev hy
  have hg : (eqGuard .leq t x y (Str l) (Str m)).run P w = .ok () w := rfl
  simp [execOp, h1, h2, hg, binOp, Op.stringOp, list_beq, strLe]
theorem y_cutE {k' : IntKind} {ih : Int} {xh : Operand} {w0 : World} {v : Value} {N sz : Nat} {xs : List Value} (m : Nat) (hx : ev L x = some v) (hh : ev L xh = some (.int k' ih)) (hv : RdC w0 v N xs) (ht : sliB P t sz = true) (hm : m ≤ N) (e2 : ih = (m : Int) := by rfl) :
    Y P n S L ⟨dst, .slice t x none (some xh) none, rty, pos, af, gd⟩ (cutR v 0 m) := by
  obtain ⟨ad, hf, h2⟩ := hv.form
  have hc : N ≤ cpOf v := by
    rcases hv with ⟨rfl, rfl, _⟩ | ⟨ad, cap, rfl, h, _⟩
    · exact Nat.zero_le _
    · exact h
  have hx' := hx
  rw [hf] at hx'
  subst e2
  refine (y_cutSh hx' hh ht (by omega)).cast ?_
  rw [Int.toNat_natCast]
  exact (cutR_0.symm.trans (by rw [← hf]))
end
end Go.Proofs.YtkkjfojgjmglpaaGreatDoor

/- Maps of one's own, keyed by strings, of whatever values. Own work for this project; no program in sight. -/
namespace Go.Proofs.YtkkjfojgjmglpaaGreatDoor
open Go Go.RowKit Go.MapKept
abbrev KV := List (List UInt8 × Value)
def getS (kv : KV) (k : List UInt8) : Option Value := (kv.find? (fun p => decide (p.1 = k))).map Prod.snd
def putS (kv : KV) (k : List UInt8) (v : Value) : KV := kv.map (fun p => if p.1 = k then (k, v) else p)
def setS (kv : KV) (k : List UInt8) (v : Value) : KV := if (getS kv k).isSome then putS kv k v else kv ++ [(k, v)]
def ents (es : List MapEntry) : List (Value × Value) := es.map (fun e => (e.key, e.val))
def kvV (kv : KV) : List (Value × Value) := kv.map (fun p => (Str p.1, p.2))
theorem str_inj {k l : List UInt8} (h : Str k = Str l) : k = l := by simpa [Str] using h
theorem getS_none {kv : KV} {k : List UInt8} (h : getS kv k = none) : ∀ p ∈ kv, p.1 ≠ k := fun p hp e => by
  unfold getS at h
  rw [Option.map_eq_none_iff, List.find?_eq_none] at h
  exact h p hp (by simp [e])
theorem putS_id {kv : KV} {k : List UInt8} {v : Value} (h : ∀ p ∈ kv, p.1 ≠ k) : putS kv k v = kv := by
  unfold putS
  induction kv with
  | nil => rfl
  | cons p kv ih => rw [List.map_cons, if_neg (h p (by simp)), ih (fun q hq => h q (by simp [hq]))]
theorem ba_beq (k l : List UInt8) : ((⟨k.toArray⟩ : ByteArray) == ⟨l.toArray⟩) = decide (k = l) := by
  show ((⟨k.toArray⟩ : ByteArray).data == (⟨l.toArray⟩ : ByteArray).data) = _
  rw [Bool.eq_iff_iff, beq_iff_eq]; simp
theorem same_str {k l : List UInt8} : Instr.sameNow .string (Str k) (Str l) = some (decide (k = l)) := by
  exact congrArg some (ba_beq k l)
theorem findNow_none {k : List UInt8} : ∀ (es : List MapEntry) (kv : KV) (i : Nat), ents es = kvV kv → getS kv k = none → Instr.findNow .string (Str k) es i = some none
  | [], [], _, _, _ => rfl
  | x :: es, p :: kv, i, h, hg => by
    simp only [ents, kvV, List.map_cons, List.cons.injEq, Prod.mk.injEq] at h
    have hp := getS_none hg
    have h1 : Instr.sameNow .string (Str k) x.key = some false := by rw [h.1.1, same_str, decide_eq_false (fun e => hp p (by simp) e.symm)]
    simp only [Instr.findNow, h1]
    refine findNow_none es kv (i + 1) h.2 ?_
    unfold getS; rw [Option.map_eq_none_iff, List.find?_eq_none]
    intro q hq; simp [hp q (by simp [hq])]
  | [], _ :: _, _, h, _ => by cases h
  | _ :: _, [], _, h, _ => by cases h
theorem findNow_some {k : List UInt8} {v v' : Value} : ∀ (es : List MapEntry) (kv : KV) (i : Nat), ents es = kvV kv → getS kv k = some v → ∃ j, Instr.findNow .string (Str k) es i = some (some (i + j, v)) ∧ (es[j]?).map (·.key) = some (Str k) ∧
    ((es.map (·.key)).Nodup → ∀ f : MapEntry → MapEntry, (∀ e, e.key = Str k → (f e).key = Str k ∧ (f e).val = v') → ents (es.modify j f) = kvV (putS kv k v'))
  | [], [], _, _, h => by cases h
  | x :: es, p :: kv, i, h, hg => by
    simp only [ents, kvV, List.map_cons, List.cons.injEq, Prod.mk.injEq] at h
    by_cases hk : p.1 = k
    · have h1 : Instr.sameNow .string (Str k) x.key = some true := by rw [h.1.1, same_str, decide_eq_true hk.symm]
      have h2 : v = p.2 := by simpa [getS, hk] using hg.symm
      refine ⟨0, by simp only [Instr.findNow, h1]; rw [h.1.2, h2]; rfl, by rw [List.getElem?_cons_zero]; simp [h.1.1, hk], fun hnd f hf => ?_⟩
      have h3 : ∀ q ∈ kv, q.1 ≠ k := fun q hq e => by
        have : Str q.1 ∈ es.map (·.key) := by
          have h4 : (Str q.1, q.2) ∈ kvV kv := List.mem_map.2 ⟨q, hq, rfl⟩
          rw [show kvV kv = ents es from h.2.symm] at h4
          obtain ⟨y, hy, e2⟩ := List.mem_map.1 h4
          exact List.mem_map.2 ⟨y, hy, congrArg Prod.fst e2⟩
        rw [List.map_cons, List.nodup_cons] at hnd
        exact hnd.1 (by rw [h.1.1, hk, ← e]; exact this)
      have hx : x.key = Str k := by rw [h.1.1, hk]
      rw [List.modify_zero_cons]
      have e4 : ents es = kvV kv := h.2
      unfold putS
      rw [List.map_cons, if_pos hk]
      show ((f x).key, (f x).val) :: ents es = (Str k, v') :: kvV (putS kv k v')
      rw [putS_id h3, e4, (hf x hx).1, (hf x hx).2]
    · have h1 : Instr.sameNow .string (Str k) x.key = some false := by rw [h.1.1, same_str, decide_eq_false (fun e => hk e.symm)]
      have hg' : getS kv k = some v := by simpa [getS, hk] using hg
      obtain ⟨j, h3, h4, h5⟩ := findNow_some (v' := v') es kv (i + 1) h.2 hg'
      refine ⟨j + 1, by simp only [Instr.findNow, h1]; rw [h3]; congr 3; omega, by rw [List.getElem?_cons_succ]; exact h4, fun hnd f hf => ?_⟩
      rw [List.map_cons, List.nodup_cons] at hnd
      rw [List.modify_succ_cons]
      have h6 := h5 hnd.2 f hf
      unfold putS
      rw [List.map_cons, if_neg hk]
      show (x.key, x.val) :: ents (es.modify j f) = (Str p.1, p.2) :: kvV (putS kv k v')
      rw [h6, h.1.1, h.1.2]
  | [], _ :: _, _, h, _ => by cases h
  | _ :: _, [], _, h, _ => by cases h
/-- block b is a map that holds this -/
def mapS (b : Nat) (kv : KV) : Res where
  fp k := k = b
  holds w := ∃ es clock, w.heap[b]? = some (.map es clock) ∧ ents es.toList = kvV kv ∧ Stamped es clock
  loc w w' h := by
    rintro ⟨es, clock, h1, h2⟩
    exact ⟨es, clock, (h b rfl).trans h1, h2⟩
  bnd w := by
    rintro ⟨es, clock, h1, h2⟩ k rfl
    exact (Array.getElem?_eq_some_iff.1 h1).1
theorem mapS_cast {b : Nat} {kv kv' : KV} (h : kv = kv') : mapS b kv = mapS b kv' := by rw [h]
section
variable {P : Program} {n : Nat} {S : World → Prop} {L : Sl} {dst : Option Tmp} {rty : TypeId} {pos : String} {af : Array Edge} {gd : Option (Nat × Bool)}
  {t t' : TypeId} {x y z : Operand}
theorem run_checkStr {w : World} {kt : TypeId} {em : Bool} {k : List UInt8} (ht : P.underlying kt = some .string) : (Instr.checkKey em 10000 kt (Str k)).run P w = .ok () w := by
  rw [Instr.checkKey, Sem.run_bind, run_underlying ht]; rfl
theorem run_findStr {w : World} {kt : TypeId} {k : List UInt8} {es : List MapEntry} {r : Option (Nat × Value)} (ht : P.underlying kt = some .string) (h : Instr.findNow .string (Str k) es 0 = some r) : (Instr.findKey kt (Str k) es).run P w = .ok r w := by
  simp [Instr.findKey, run_underlying ht, h]
/-- m[k], and whether it is there -/
theorem y_getS {b : Nat} {kt vt : TypeId} {kv : KV} {k : List UInt8} {zv : Value} (hx : ev L x = some (.map (some b))) (hy : ev L y = some (Str k)) (hm : P.underlying t = some (.map kt vt)) (ht : P.underlying kt = some .string)
    (hz : ∀ w, (zeroValue vt).run P w = .ok zv w) (hS : ∀ w, S w → (mapS b kv).holds w) : Y P n S L ⟨dst, .lookup t x y false, rty, pos, af, gd⟩ ((getS kv k).getD zv) := fun a w ha hw => by
  have h1 := ha.ev hx; have h2 := ha.ev hy
  obtain ⟨es, clock, hb, hes, _⟩ := hS w hw
  have hgo : (getObj b).run P w = .ok (.map es clock) w := by simp [getObj, Sem.run, hb]
  have hck := run_checkStr (P := P) (w := w) (em := es.isEmpty) (k := k) ht
  cases hc : getS kv k with
  | none =>
    have hj := run_findStr (P := P) (w := w) ht (findNow_none es.toList kv 0 hes hc)
    simp [execOp, h1, h2, Instr.lookup, run_underlying hm, hgo, hck, hj, hz w]
  | some v =>
    obtain ⟨j, hj, _⟩ := findNow_some (v' := v) es.toList kv 0 hes hc
    have hj := run_findStr (P := P) (w := w) ht hj
    simp [execOp, h1, h2, Instr.lookup, run_underlying hm, hgo, hck, hj]
theorem y_getSok {b : Nat} {kt vt : TypeId} {kv : KV} {k : List UInt8} {zv : Value} (hx : ev L x = some (.map (some b))) (hy : ev L y = some (Str k)) (hm : P.underlying t = some (.map kt vt)) (ht : P.underlying kt = some .string)
    (hz : ∀ w, (zeroValue vt).run P w = .ok zv w) (hS : ∀ w, S w → (mapS b kv).holds w) : Y P n S L ⟨dst, .lookup t x y true, rty, pos, af, gd⟩ (.tuple #[(getS kv k).getD zv, .bool (getS kv k).isSome]) := fun a w ha hw => by
  have h1 := ha.ev hx; have h2 := ha.ev hy
  obtain ⟨es, clock, hb, hes, _⟩ := hS w hw
  have hgo : (getObj b).run P w = .ok (.map es clock) w := by simp [getObj, Sem.run, hb]
  have hck := run_checkStr (P := P) (w := w) (em := es.isEmpty) (k := k) ht
  cases hc : getS kv k with
  | none =>
    have hj := run_findStr (P := P) (w := w) ht (findNow_none es.toList kv 0 hes hc)
    simp [execOp, h1, h2, Instr.lookup, run_underlying hm, hgo, hck, hj, hz w]
  | some v =>
    obtain ⟨j, hj, _⟩ := findNow_some (v' := v) es.toList kv 0 hes hc
    have hj := run_findStr (P := P) (w := w) ht hj
    simp [execOp, h1, h2, Instr.lookup, run_underlying hm, hgo, hck, hj]
end
section
variable {c : Cx} {L : Sl} {H : List Res} {P : Program} {Q : Exit → Act → World → Prop} {K : Act → World → Prop} {d : Nat} {rty : TypeId} {pos : String} {af : Array Edge} {gd : Option (Nat × Bool)} {t t' : TypeId} {x y z : Operand}
theorem a_makeMapS (hn : Nat.blt d c.n = true) (h : ∀ b, TK c K ((d, .map (some b)) :: L) (mapS b [] :: H)) :
    TK c (fun a w => (⟨some d, .makeMap t none, rty, pos, af, gd⟩ : Oper).wp P a w K Q) L H := fun a w ha hw => by
  have e : (execOp a.eval (⟨some d, .makeMap t none, rty, pos, af, gd⟩ : Oper)).run P w = .ok (.value (.map (some w.heap.size))) { w with heap := w.heap.push (.map #[] 0) } := by
    simp [execOp, Instr.makeMap, newObj]
    rfl
  change Oper.upon P _ a K Q ((execOp a.eval _).run P w)
  rw [e, Oper.upon_value]
  refine h w.heap.size _ _ (ha.put hn _) (St.new (w' := { w with heap := w.heap.push (.map #[] 0) }) (N := [mapS w.heap.size []]) hw ⟨rfl, rfl, rfl, by simp, fun k hk _ => by simp [Array.getElem?_push, Nat.ne_of_lt hk]⟩ ⟨⟨#[], 0, by simp, rfl, stamped_empty 0⟩, trivial⟩ ⟨fun _ _ h => h, trivial⟩ (fun k hk => ?_))
  rcases hk with hk | hk
  · have : k = w.heap.size := hk
    omega
  · exact hk.elim
theorem a_setS {H1 H2 : List Res} {b : Nat} {kt vt : TypeId} {kv : KV} {k : List UInt8} {v : Value} (hx : ev L x = some (.map (some b))) (hy : ev L y = some (Str k)) (hv : ev L z = some v) (hm : P.underlying t = some (.map kt vt)) (ht : P.underlying kt = some .string)
    (hH : H = H1 ++ mapS b kv :: H2) (h : TK c K L (H1 ++ mapS b (setS kv k v) :: H2)) :
    TK c (fun a w => (⟨none, .mapUpdate t x y z, rty, pos, af, gd⟩ : Oper).wp P a w K Q) L H := fun a w ha hw => by
  subst hH
  have h1 := ha.ev hx; have h2 := ha.ev hy; have h3 := ha.ev hv
  obtain ⟨es, clock, hb, hes, hst⟩ := hw.mem (r := mapS b kv) (by simp)
  have hck := run_checkStr (P := P) (w := w) (em := false) (k := k) ht
  have hlt := (Array.getElem?_eq_some_iff.1 hb).1
  have hgo : (getObj b).run P w = .ok (.map es clock) w := by simp [getObj, Sem.run, hb]
  have hso : ∀ o : Obj, (setObj b o).run P w = .ok () { w with heap := w.heap.setIfInBounds b o } := fun o => by simp [setObj, Sem.run, hb]
  have key : ∃ es' clock', (execOp a.eval (⟨none, .mapUpdate t x y z, rty, pos, af, gd⟩ : Oper)).run P w = .ok .skip { w with heap := w.heap.setIfInBounds b (.map es' clock') } ∧ ents es'.toList = kvV (setS kv k v) ∧ Stamped es' clock' := by
    cases hc : getS kv k with
    | none =>
      have hj := run_findStr (P := P) (w := w) ht (findNow_none es.toList kv 0 hes hc)
      refine ⟨es.push { key := Str k, val := v, born := clock }, clock + 1, ?_, ?_, stamped_push hst (fun e he heq => ?_)⟩
      · simp [execOp, h1, h2, h3, Instr.mapUpdate, run_underlying hm, hgo, hck, hj, hso]
      · simp only [setS, hc, Option.isSome_none, Bool.false_eq_true, if_false, Array.toList_push, ents, kvV, List.map_append, List.map_cons, List.map_nil] at hes ⊢
        rw [hes]
      · have : (e.key, e.val) ∈ ents es.toList := List.mem_map.2 ⟨e, he, rfl⟩
        rw [hes] at this
        obtain ⟨p, hp, e2⟩ := List.mem_map.1 this
        have e3 : Str p.1 = e.key := congrArg Prod.fst e2
        exact getS_none hc p hp (str_inj (by rw [e3, heq]))
    | some u =>
      obtain ⟨j, hj, hkey, hmod⟩ := findNow_some (v' := v) es.toList kv 0 hes hc
      have hj := run_findStr (P := P) (w := w) ht hj
      rw [Nat.zero_add] at hj
      have hkey2 : (es[j]?).map (·.key) = some (Str k) := by rw [← Array.getElem?_toList]; exact hkey
      have hstay : (Instr.keyThatStays (Str k) (Str k)).run P w = .ok (Str k) w := by
        have : Instr.sameBits 10000 (Str k) (Str k) = true := by simp only [Instr.sameBits]; rw [ba_beq]; simp
        simp [Instr.keyThatStays, this]
      refine ⟨es.modify j fun e => { e with key := Str k, val := v }, clock, ?_, ?_, stamped_modify hst j _ (fun e _ => rfl) ?_⟩
      · simp [execOp, h1, h2, h3, Instr.mapUpdate, run_underlying hm, hgo, hck, hj, hso, hkey2, hstay]
      · simp only [setS, hc, Option.isSome_some, if_true]
        rw [Array.toList_modify]
        exact hmod hst.2.2 _ (fun e _ => ⟨rfl, rfl⟩)
      · intro e _ he
        rw [he] at hkey2
        simpa using hkey2.symm
  obtain ⟨es', clock', e1, he2, hst2⟩ := key
  change Oper.upon P _ a K Q ((execOp a.eval _).run P w)
  rw [e1, Oper.upon_skip]
  refine h _ _ (ha.putNone _) (St.perm (St.turn (w' := { w with heap := w.heap.setIfInBounds b (.map es' clock') }) (N := [mapS b (setS kv k v)]) hw ⟨rfl, rfl, rfl, by simp, fun k hk hne => ?_⟩ ⟨⟨es', clock', by simp [hlt], he2, hst2⟩, trivial⟩ ⟨fun _ _ h => h, trivial⟩ ?_) perm_mid)
  · have hne' : ¬ b = k := fun e => hne e.symm
    simp [Array.getElem?_setIfInBounds, hne']
  · intro k hk
    rcases hk with hk | hk
    · exact .inl hk
    · exact hk.elim
/-- one part of a literal -/
theorem fill_one {place : Nat → Option (Nat × Nat)} {i off size : Nat} {cs : List Value} {cells : Array Value} {rest : List (Nat × Value)} (hp : place i = some (off, size)) (hs : cs.length = size) (hb : off + size ≤ cells.size) :
    Instr.fill place cells ((i, .agg cs.toArray) :: rest) = Instr.fill place (cells.toList.take off ++ cs ++ cells.toList.drop (off + size)).toArray rest := by
  have hv : (Value.agg cs.toArray).cells = cs.toArray := rfl
  simp only [Instr.fill, hp, hv]
  rw [if_neg (by simp; omega)]
  congr 1
  rw [← Array.foldl_toList, Array.toList_zipIdx]
  refine (foldl_set off cs 0 cells (by simp; omega)).trans ?_
  rw [Nat.add_zero, hs]
theorem run_slitE2 {w : World} {e : TypeId} {bytes k : Nat} {c1 c2 : List Value} (he : elB P t e k bytes) (h1 : c1.length = k) (h2 : c2.length = k) (hs : 2 * k ≤ 16777216) :
    (Instr.buildSlice t 2 #[(0, .agg c1.toArray), (1, .agg c2.toArray)]).run P w = .ok (.slice (some ⟨w.heap.size, 0, none⟩) 2 2) { w with heap := w.heap.push (.cells (c1 ++ c2).toArray e) } := by
  obtain ⟨ht, i, z, hi, hz, hzs, rfl, _, h0⟩ := he
  have h3 : ¬ (2 ^ 24 < 2 * i.size) := by omega
  have h4 : ¬ (i.size = 0) := by omega
  have h6 : Instr.fill (fun j => some (j * i.size, i.size)) ((Array.range (2 * i.size)).map (z.cells[· % z.cells.size]!)) [(0, .agg c1.toArray), (1, .agg c2.toArray)] = some (c1 ++ c2).toArray := by
    rw [fill_one (off := 0) (size := i.size) (by simp) h1 (by simp; omega)]
    rw [fill_one (off := i.size) (size := i.size) (by simp) h2 (by simp; omega)]
    simp only [Instr.fill, Option.some.injEq]
    congr 1
    rw [List.take_zero, List.nil_append, Nat.zero_add, List.take_left' h1, List.drop_of_length_le (by simp; omega), List.append_nil]
  simp only [Instr.buildSlice, Sem.run_bind, run_underlying ht, Result.andThen_ok, Go.sizeOf, typeInfo]
  simp [hi, zeroValue, typeInfo, hz, newRow, h4]
  rw [if_neg (show ¬ 16777216 < 2 * i.size by omega), if_neg (show ¬ 2 * i.size = 0 by omega), h6]; rfl
theorem a_slitE2 {o1 o2 : Operand} {e : TypeId} {bytes k : Nat} {c1 c2 : List Value} (hx : ev L o1 = some (.agg c1.toArray)) (hy : ev L o2 = some (.agg c2.toArray)) (he : elB P t e k bytes) (h1 : c1.length = k) (h2 : c2.length = k) (hs : 2 * k ≤ 16777216) (hn : Nat.blt d c.n = true)
    (h : ∀ b, TK c K ((d, .slice (some ⟨b, 0, none⟩) 2 2) :: L) (cel b (c1 ++ c2) e :: H)) :
    TK c (fun a w => (⟨some d, .buildSlice t 2 #[(0, o1), (1, o2)], rty, pos, af, gd⟩ : Oper).wp P a w K Q) L H :=
  a_slit (xs := [(0, o1), (1, o2)]) (vs := [(0, .agg c1.toArray), (1, .agg c2.toArray)]) (by simp [evp, hx, hy]) hn (fun _ => run_slitE2 he h1 h2 hs) h
end
end Go.Proofs.YtkkjfojgjmglpaaGreatDoor

set_option linter.unusedSimpArgs false
set_option linter.unusedVariables false
namespace Go.Proofs.YtkkjfojgjmglpaaGreatDoor
open Go
/-- an entry as it may be handed in -/
structure Eni where
  id : List UInt8
  kind : Int
  off : Int
  len : Int
  h : id.length = 32
deriving DecidableEq
def dEni : Eni := ⟨List.replicate 32 0, 0, 0, 0, rfl⟩
def eniC (e : Eni) : List Value := e.id.map B ++ [I e.kind, I e.off, I e.len]
theorem eniC_len (e : Eni) : (eniC e).length = 35 := by simp [eniC, e.h]
theorem eni_all (e : Eni) : ((eniC e).drop 0).take 35 = e.id.map B ++ [I e.kind, I e.off, I e.len] := by
  rw [List.drop_zero, List.take_of_length_le (Nat.le_of_eq (eniC_len e))]; rfl
theorem eni_id (e : Eni) : ((eniC e).drop 0).take 32 = e.id.map B := by rw [List.drop_zero]; exact List.take_left' (by simp [e.h])
theorem eniC_inj {a b : Eni} : a.id.map B ++ [I a.kind, I a.off, I a.len] = b.id.map B ++ [I b.kind, I b.off, I b.len] ↔ a = b := by
  refine ⟨fun h => ?_, fun h => by rw [h]⟩
  have h2 := List.append_inj h (by simp [a.h, b.h])
  obtain ⟨ia, ka, oa, la, ha⟩ := a; obtain ⟨ib, kb, ob, lb, hb⟩ := b
  have h3 := mapB_inj h2.1
  have h4 := h2.2
  simp [I] at h3 h4
  obtain ⟨h5, h6, h7⟩ := h4
  subst h3; subst h5; subst h6; subst h7; rfl
/-- a pack as it lies in memory: its name, its entries' slice, what that holds -/
structure Pk where
  name : List UInt8
  v : Value
  es : List Eni
def dPk : Pk := ⟨[], .slice none 0 0, []⟩
def pkC (p : Pk) : List Value := [Str p.name, p.v]
theorem pkC_len (p : Pk) : (pkC p).length = 2 := rfl
/-- what a pack says -/
def Pk.dat (p : Pk) : List UInt8 × List Eni := (p.name, p.es)
theorem dat_get {l m : List Pk} (h : l.map Pk.dat = m.map Pk.dat) (i : Nat) : (l.getD i dPk).name = (m.getD i dPk).name ∧ (l.getD i dPk).es = (m.getD i dPk).es := by
  have e : ∀ l : List Pk, (l.getD i dPk).dat = (l.map Pk.dat).getD i dPk.dat := fun l => by
    rw [List.getD_eq_getElem?_getD, List.getD_eq_getElem?_getD, List.getElem?_map]
    cases l[i]? <;> rfl
  have h1 : (l.getD i dPk).dat = (m.getD i dPk).dat := by rw [e, e, h]
  exact ⟨congrArg Prod.fst h1, congrArg Prod.snd h1⟩
theorem dat_len {l m : List Pk} (h : l.map Pk.dat = m.map Pk.dat) : l.length = m.length := by simpa using congrArg List.length h
/-! ### names -/
def signB (c : UInt8) : Bool := decide (97 ≤ c.toNat ∧ c.toNat ≤ 122) || decide (48 ≤ c.toNat ∧ c.toNat ≤ 57) || decide (c.toNat = 45) || decide (c.toNat = 47)
theorem sign_iff {c : UInt8} : signB c = true ↔ (97 ≤ c.toNat ∧ c.toNat ≤ 122) ∨ (48 ≤ c.toNat ∧ c.toNat ≤ 57) ∨ c.toNat = 45 ∨ c.toNat = 47 := by
  simp [signB, or_assoc]
def isNm (s : List UInt8) : Prop := s.all signB = true ∧ 1 ≤ s.length ∧ s.length ≤ 64
instance (s : List UInt8) : Decidable (isNm s) := by unfold isNm; infer_instance
def riseAt (l : List (List UInt8)) (i : Nat) : Prop := isNm (l.getD i []) ∧ (i = 0 ∨ strLe (l.getD i []) (l.getD (i - 1) []) = false)
instance (l : List (List UInt8)) (i : Nat) : Decidable (riseAt l i) := by unfold riseAt; infer_instance
def rises (l : List (List UInt8)) : Prop := ∀ i, i < l.length → riseAt l i
instance (l : List (List UInt8)) : Decidable (rises l) := by unfold rises; infer_instance
/-! ### a pack in form -/
def finE (es : List Eni) (i : Nat) : Int := if i = 0 then 0 else (es.getD (i - 1) dEni).off + (es.getD (i - 1) dEni).len
def idsE (es : List Eni) (i : Nat) : List (List UInt8) := (es.take i).map Eni.id
def goodE (es : List Eni) (i : Nat) : Prop := ((es.getD i dEni).kind = 1 ∨ (es.getD i dEni).kind = 2) ∧ finE es i ≤ (es.getD i dEni).off ∧ (es.getD i dEni).off ≤ 1048576 ∧ 48 ≤ (es.getD i dEni).len ∧ (es.getD i dEni).len ≤ 1048576 - (es.getD i dEni).off ∧ (es.getD i dEni).id ∉ idsE es i
instance (es : List Eni) (i : Nat) : Decidable (goodE es i) := by unfold goodE; infer_instance
def headN (n : List UInt8) (es : List Eni) : Prop := (2 ≤ n.length ∧ n.take 2 = [112, 47]) ∧ isNm n ∧ 1 ≤ es.length ∧ es.length ≤ 1000
instance (n : List UInt8) (es : List Eni) : Decidable (headN n es) := by unfold headN; infer_instance
def rightP (n : List UInt8) (es : List Eni) : Prop := headN n es ∧ ∀ i, i < es.length → goodE es i
instance (n : List UInt8) (es : List Eni) : Decidable (rightP n es) := by unfold rightP; infer_instance
def rightF (l : List Pk) (old : List (List UInt8)) : Prop := (l.length ≤ 1000 ∧ old.length ≤ 1000) ∧ (∀ i, i < l.length → rightP (l.getD i dPk).name (l.getD i dPk).es) ∧ rises (l.map Pk.name) ∧ rises old
instance (l : List Pk) (old : List (List UInt8)) : Decidable (rightF l old) := by unfold rightF; infer_instance
theorem map_dat_name {l : List Pk} : l.map Pk.name = (l.map Pk.dat).map Prod.fst := by rw [List.map_map]; rfl
theorem rightF_dat {l m : List Pk} {old : List (List UInt8)} (h : l.map Pk.dat = m.map Pk.dat) : rightF l old ↔ rightF m old := by
  have e := dat_len h
  unfold rightF
  rw [e, map_dat_name, map_dat_name, h]
  refine and_congr_right fun _ => and_congr_left fun _ => ⟨fun hh i hi => ?_, fun hh i hi => ?_⟩
  · have := hh i hi; rw [(dat_get h i).1, (dat_get h i).2] at this; exact this
  · have := hh i hi; rw [← (dat_get h i).1, ← (dat_get h i).2] at this; exact this
theorem fin_step {es : List Eni} {i : Nat} : finE es (i + 1) = (es.getD i dEni).off + (es.getD i dEni).len := by simp [finE]
theorem fin_bnd {es : List Eni} : ∀ {i : Nat}, (∀ j, j < i → goodE es j) → 0 ≤ finE es i ∧ finE es i ≤ 1048576
  | 0, _ => by simp [finE]
  | i + 1, h => by
    have ih := fin_bnd (es := es) (i := i) (fun j hj => h j (by omega))
    have h1 := h i (by omega)
    unfold goodE at h1
    rw [fin_step]; omega
theorem ids_step {es : List Eni} {i : Nat} (h : i < es.length) : idsE es i ++ [(es.getD i dEni).id] = idsE es (i + 1) := by
  unfold idsE
  rw [List.take_add_one, List.getElem?_eq_getElem h, List.map_append, List.getD_eq_getElem?_getD, List.getElem?_eq_getElem h]; rfl
theorem ids_len {es : List Eni} {i : Nat} : ∀ l ∈ idsE es i, l.length = 32 := fun l hl => by
  unfold idsE at hl
  obtain ⟨e, _, rfl⟩ := List.mem_map.1 hl
  exact e.h
theorem ids_mem {es : List Eni} {i : Nat} {x : List UInt8} (h : i ≤ es.length) : x ∈ idsE es i ↔ ∃ k, k < i ∧ (es.getD k dEni).id = x := by
  unfold idsE
  constructor
  · intro hx
    obtain ⟨e, he, rfl⟩ := List.mem_map.1 hx
    obtain ⟨k, hk, rfl⟩ := List.mem_iff_getElem.1 he
    have hk2 : k < i := by rw [List.length_take] at hk; omega
    refine ⟨k, hk2, ?_⟩
    rw [List.getElem_take, List.getD_eq_getElem?_getD, List.getElem?_eq_getElem (by omega)]; rfl
  · rintro ⟨k, hk, rfl⟩
    refine List.mem_map.2 ⟨es.getD k dEni, ?_, rfl⟩
    rw [List.getD_eq_getElem?_getD, List.getElem?_eq_getElem (show k < es.length by omega)]
    exact List.mem_iff_getElem.2 ⟨k, by rw [List.length_take]; omega, by rw [List.getElem_take]; rfl⟩
/-! ### a file's bytes -/
def textL (s : List UInt8) : List UInt8 := numL s.length ++ s
def entL2 (e : Eni) : List UInt8 := e.id ++ numL e.kind.toNat ++ numL e.off.toNat ++ numL e.len.toNat
def pkL (n : List UInt8) (es : List Eni) : List UInt8 := textL n ++ numL es.length ++ es.flatMap entL2
def bareL (l : List Pk) (old : List (List UInt8)) : List UInt8 := [72, 89, 120] ++ numL l.length ++ (l.map Pk.dat).flatMap (fun p => pkL p.1 p.2) ++ numL old.length ++ old.flatMap textL
theorem bareL_dat {l m : List Pk} {old : List (List UInt8)} (h : l.map Pk.dat = m.map Pk.dat) : bareL l old = bareL m old := by
  unfold bareL; rw [dat_len h, h]
/-! ### few -/
def fewP (p : Pk) : Pk := ⟨p.name.take (min p.name.length 300), cutR p.v 0 (min p.es.length 12), p.es.take (min p.es.length 12)⟩
def fewO (s : List UInt8) : List UInt8 := s.take (min s.length 300)
end Go.Proofs.YtkkjfojgjmglpaaGreatDoor
namespace Go.Proofs.YtkkjfojgjmglpaaGreatDoor
open Go Go.ChangeShapes Go.WideShapes Go.ChangeAt Go.RowKit
set_option maxRecDepth 100000
set_option linter.unusedVariables false
set_option linter.unusedSimpArgs false
instance : Inhabited Eni := ⟨dEni⟩
instance : Inhabited Pk := ⟨dPk⟩
section
variable {H : Type} {enc : TypeId × Value → H} {P : Program} {W : World} {b0 : Nat} {sp : Nat → Bool} {held : Bool} {fuel : Nat} {cs : List Value} {x : DataW H × List MemPlace} {t : TypeId}
theorem op_wide {α : Type} [Inhabited α] {f : α → List Value} {k : Nat} {p : α → Prop} {e : TypeId} (ht : P.underlying t = some (.slice e)) (hk : P.cellsOf e = k) (hfk : ∀ a, (f a).length = k) (hk0 : 0 < k)
    (each : ∀ n cs' y, DataW.trod enc P W b0 sp held n e cs' = some y → ∃ a, cs' = f a ∧ p a) (h : DataW.trod enc P W b0 sp held fuel t cs = some x) :
    ∃ (v : Value) (l : List α), cs = [v] ∧ RdC W v l.length (l.flatMap f) ∧ (∀ a ∈ l, p a) ∧ l.length ≤ maxLen := by
  rcases Deep.open_slice ht h with ⟨rfl, _⟩ | ⟨a, len, cap, m, n, D, Pl, rfl, _, hl, hm, hmm, _, hx⟩
  · exact ⟨_, [], rfl, .inl ⟨rfl, rfl, rfl⟩, (fun _ h => nomatch h), Nat.zero_le _⟩
  have hlm : len ≤ m := by rw [hmm]; split <;> omega
  obtain ⟨R, hR⟩ := Deep.choose_lt (α := α) (p := fun i u => (∀ j, j < k → W.cell? ((a.add (i * k)).add j) = (f u)[j]?) ∧ p u) (n := len) (fun i hi => by
    obtain ⟨cs', h1, h2⟩ := hx i (by omega)
    rw [hk] at h1
    obtain ⟨_, _, hc⟩ := World.cells?_some h1
    obtain ⟨u, rfl, hp⟩ := each _ _ _ h2
    exact ⟨u, hc, hp⟩)
  refine ⟨_, (List.range len).map R, rfl, .inr ⟨a, cap, by simp, by simpa using hl, fun j u hj => ?_⟩, fun u hu => ?_, by simp; omega⟩
  · have hj2 : j < len * k := by
      have := (List.getElem?_eq_some_iff.1 hj).1
      rw [flat_len hfk] at this; simpa using this
    have hi : j / k < len := Nat.div_lt_of_lt_mul (by rw [Nat.mul_comm]; exact hj2)
    have hr : j % k < k := Nat.mod_lt _ hk0
    have hjj : j = j / k * k + j % k := by rw [Nat.mul_comm]; exact (Nat.div_add_mod j k).symm
    rw [hjj, flat_get (d0 := default) hfk (by simpa using hi) hr] at hj
    have e3 : ((List.range len).map R).getD (j / k) default = R (j / k) := by simp [List.getD_eq_getElem?_getD, hi]
    rw [e3, ← (hR _ hi).1 _ hr, Deep.add_add] at hj
    rw [hjj]; exact hj
  · obtain ⟨i, hi, rfl⟩ := List.mem_map.1 hu
    exact (hR i (List.mem_range.1 hi)).2
end
section
variable {H : Type} {enc : TypeId × Value → H} {W : World} {b0 : Nat} {sp : Nat → Bool} {held : Bool} {fuel : Nat} {cs : List Value} {x : DataW H × List MemPlace}
theorem op_eni (h : DataW.trod enc Tryz.prog W b0 sp held fuel 157 cs = some x) : ∃ e : Eni, cs = eniC e ∧ True := by
  have hl : cs.length = 35 := (op_len Tryz.underlying157 h).trans (by kernel_rfl)
  obtain ⟨n0, y0, h0⟩ := op_fldO Tryz.underlying157 h 0 59 0 32 rfl (by kernel_rfl)
  obtain ⟨n1, y1, h1⟩ := op_fldO Tryz.underlying157 h 1 3 32 1 rfl (by kernel_rfl)
  obtain ⟨n2, y2, h2⟩ := op_fldO Tryz.underlying157 h 2 3 33 1 rfl (by kernel_rfl)
  obtain ⟨n3, y3, h3⟩ := op_fldO Tryz.underlying157 h 3 3 34 1 rfl (by kernel_rfl)
  obtain ⟨id, id32, e0⟩ := op_arr8 Tryz.underlying59 Tryz.underlying5 (by kernel_rfl) (by kernel_rfl) h0
  obtain ⟨k, e1, _⟩ := op_i64 Tryz.underlying3 h1
  obtain ⟨o, e2, _⟩ := op_i64 Tryz.underlying3 h2
  obtain ⟨l, e3, _⟩ := op_i64 Tryz.underlying3 h3
  refine ⟨⟨id, k, o, l, id32⟩, ?_, trivial⟩
  have c3 : cs.drop 34 = [I l] := (cut_end hl).trans e3
  have c2 : cs.drop 33 = [I o, I l] := by rw [← cut_cat (show 33 + 1 = 34 from rfl), e2, c3]; rfl
  have c1 : cs.drop 32 = [I k, I o, I l] := by rw [← cut_cat (show 32 + 1 = 33 from rfl), e1, c2]; rfl
  have c0 := cut_cat (cs := cs) (show 0 + 32 = 32 from rfl)
  rw [e0, c1, List.drop_zero] at c0
  exact c0.symm
theorem op_enis (h : DataW.trod enc Tryz.prog W b0 sp held fuel 123 cs = some x) : ∃ (v : Value) (l : List Eni), cs = [v] ∧ RdC W v l.length (l.flatMap eniC) ∧ l.length ≤ maxLen := by
  obtain ⟨v, l, h1, h2, _, h3⟩ := op_wide (f := eniC) (p := fun _ => True) Tryz.underlying123 (by kernel_rfl) eniC_len (by decide) (fun n cs' y hy => op_eni hy) h
  exact ⟨v, l, h1, h2, h3⟩
/-- what is asked of a pack that is handed in -/
def PkOk (W : World) (p : Pk) : Prop := RdC W p.v p.es.length (p.es.flatMap eniC) ∧ p.es.length < 9223372036854775808 ∧ p.name.length < 9223372036854775808
theorem op_pk (h : DataW.trod enc Tryz.prog W b0 sp held fuel 125 cs = some x) : ∃ p : Pk, cs = pkC p ∧ PkOk W p := by
  have hl : cs.length = 2 := (op_len Tryz.underlying125 h).trans (by kernel_rfl)
  obtain ⟨n0, y0, h0⟩ := op_fldO Tryz.underlying125 h 0 9 0 1 rfl (by kernel_rfl)
  obtain ⟨n1, y1, h1⟩ := op_fldO Tryz.underlying125 h 1 123 1 1 rfl (by kernel_rfl)
  obtain ⟨nm, e0, hn⟩ := op_str Tryz.underlying9 h0
  obtain ⟨v, es, e1, hr, hm⟩ := op_enis h1
  simp only [maxLen] at hn hm
  refine ⟨⟨nm, v, es⟩, ?_, hr, by dsimp only; omega, by dsimp only; omega⟩
  have c1 : cs.drop 1 = [v] := (cut_end hl).trans e1
  have c0 := cut_cat (cs := cs) (show 0 + 1 = 1 from rfl)
  rw [e0, c1, List.drop_zero] at c0
  exact c0.symm
theorem op_strs (h : DataW.trod enc Tryz.prog W b0 sp held fuel 23 cs = some x) : ∃ (v : Value) (l : List (List UInt8)), cs = [v] ∧ RdS W v (l.map Str) ∧ l.length < 9223372036854775808 ∧ ∀ s ∈ l, s.length < 9223372036854775808 := by
  obtain ⟨v, l, h1, h2, h4, h3⟩ := op_wide (f := fun s : List UInt8 => [Str s]) (k := 1) (p := fun s => s.length ≤ maxLen) Tryz.underlying23 (by kernel_rfl) (fun _ => rfl) (by decide) (fun n cs' y hy => op_str Tryz.underlying9 hy) h
  simp only [maxLen] at h3 h4
  refine ⟨v, l, h1, ?_, by omega, fun s hs => by have := h4 s hs; omega⟩
  have e : ∀ l : List (List UInt8), l.flatMap (fun s => [Str s]) = l.map Str := fun l => by
    induction l with
    | nil => rfl
    | cons a l ih => rw [List.flatMap_cons, List.map_cons, ih]; rfl
  rw [e] at h2
  rcases h2 with ⟨rfl, h5, h6⟩ | ⟨ad, cap, rfl, hc, hr⟩
  · exact .inl ⟨rfl, h6⟩
  · exact .inr ⟨ad, cap, by simp, by simpa using hc, hr⟩
end
theorem open_file {H : Type} {enc : TypeId × Value → H} {W : World} {r : Reach} {b0 : Nat} {v : Value} {d : DataW H} {qs : List MemPlace} (hval : Value.okWide Tryz.prog W r b0 25 v) (hd : DataW.Trod enc Tryz.prog W 0 (fun _ => true) true 25 v d qs) :
    ∃ (pv ov : Value) (ps : List Pk) (os : List (List UInt8)), v = .agg [pv, ov].toArray ∧ RdC W pv ps.length (ps.flatMap pkC) ∧ (∀ p ∈ ps, PkOk W p) ∧ RdS W ov (os.map Str) ∧ ps.length < 9223372036854775808 ∧ os.length < 9223372036854775808 ∧ ∀ s ∈ os, s.length < 9223372036854775808 := by
  obtain ⟨cs, rfl, hsz⟩ := okWide_struct Tryz.underlying25 hval
  obtain ⟨fuel, hf⟩ := hd
  have hl := op_len Tryz.underlying25 hf
  have hl' : cs.toList.length = 2 := by rw [show (Value.agg cs).cells.toList = cs.toList from rfl] at hl; rw [hl]; kernel_rfl
  obtain ⟨n0, y0, h0⟩ := op_fldO Tryz.underlying25 hf 0 22 0 1 rfl (by kernel_rfl)
  obtain ⟨n1, y1, h1⟩ := op_fldO Tryz.underlying25 hf 1 23 1 1 rfl (by kernel_rfl)
  obtain ⟨pv, ps, e0, hr0, hp0, hm0⟩ := op_wide (f := pkC) (p := PkOk W) Tryz.underlying22 (by kernel_rfl) pkC_len (by decide) (fun n cs' y hy => op_pk hy) h0
  obtain ⟨ov, os, e1, hr1, hm1, hs1⟩ := op_strs h1
  simp only [Value.cells] at e0 e1
  simp only [maxLen] at hm0
  refine ⟨pv, ov, ps, os, ?_, hr0, hp0, hr1, by omega, hm1, hs1⟩
  congr 1
  rw [← Array.toArray_toList (xs := cs)]
  congr 1
  match hcs : cs.toList, hl' with
  | [c0, c1], _ =>
    rw [hcs] at e0 e1
    simp at e0 e1
    rw [e0, e1]
end Go.Proofs.YtkkjfojgjmglpaaGreatDoor
set_option linter.unusedSimpArgs false
set_option linter.unusedVariables false
namespace Go.Proofs.YtkkjfojgjmglpaaGreatDoor
open Go Go.RowKit
set_option maxRecDepth 100000
attribute [local irreducible] strL xz keyedL sumL
theorem clonen_spec {w : World} : Spec Tryz.prog 100 [.slice none 0 0] w [] (fun _ : Value => True) (fun vo => vo) (fun vo => [ownB vo [] 5]) := by
  refine spec_of (n := 8) Tryz.func100 rfl rfl trivial trivial rfl ?_; refine s_r ?_; refine s_q rfl (y_assign rfl) ?_; refine s_n ?_; refine tk_seq ?_; refine s_r ?_; refine s_q rfl (y_move rfl) ?_; refine s_q rfl (y_eqSn Tryz.underlying42 rfl rfl) ?_; refine s_n ?_; refine tk_cond1 rfl ?_; refine s_r ?_; refine s_q rfl (y_assign rfl) ?_; refine s_n ?_; refine tk_retc ?_; refine tk_then_ret ?_; refine tk_ownM0 (f := B) 5 ?_
  exact tk_ret (.slice none 0 0) (trivial) (.inl rfl) (r1 rfl rfl) (List.Sublist.refl _)
theorem clones_spec {l : List UInt8} {ad : Addr} {m cp : Nat} {w : World} (hv : Ro (Fs []) w (rdB (.slice (some ad) m cp) l)) (hb : l.length < 70368744177664) :
    Spec Tryz.prog 100 [.slice (some ad) m cp] w [] (fun _ : Value => True) (fun vo => vo) (fun vo => [ownB vo l 5]) := by
  refine spec_of (n := 8) Tryz.func100 rfl rfl trivial trivial rfl ?_; refine s_r ?_; refine s_q rfl (y_assign rfl) ?_; refine s_n ?_; refine tk_seq ?_; refine s_r ?_; refine s_q rfl (y_move rfl) ?_; refine s_q rfl (y_eqSs Tryz.underlying42 rfl rfl) ?_; refine s_n ?_; refine tk_cond0 rfl ?_; refine tk_skip ?_; refine tk_then ?_; refine s_r ?_; refine tk_act rfl ?_; refine a_slit0 EL42 rfl fun v5 => ?_
  refine s_q rfl (y_move rfl) ?_; refine tk_act rfl ?_; refine a_appM (H1 := []) (f := B) (l := []) (m := l) rfl rfl EL42 rfl rfl (fun w hw => Ro.rd hv hw) (fun _ => rfl) ⟨lenP, lenP⟩ fun v7 => ?_; refine tk_own1 (.head _) fun hfv7 => ?_; refine s_q rfl (y_assign rfl) ?_; refine s_n ?_; refine tk_retc ?_
  exact tk_ret (v7) (trivial) (.inl rfl) (r1 rfl rfl) (List.Sublist.refl _)
theorem clone_spec {l : List UInt8} {v : Value} {w : World} (hv : Ro (Fs []) w (rdB v l)) (hb : l.length < 70368744177664) :
    Spec Tryz.prog 100 [v] w [] (fun _ : Value => True) (fun vo => vo) (fun vo => [ownB vo l 5]) := by
  rcases hv.1 with ⟨rfl, h0⟩ | ⟨ad, cp, rfl, hc, hr⟩
  · obtain rfl : l = [] := List.map_eq_nil_iff.1 h0
    exact clonen_spec
  · exact clones_spec hv hb
end Go.Proofs.YtkkjfojgjmglpaaGreatDoor
set_option linter.unusedSimpArgs false
set_option linter.unusedVariables false
namespace Go.Proofs.YtkkjfojgjmglpaaGreatDoor
open Go Go.RowKit
set_option maxRecDepth 100000
attribute [local irreducible] sumL tapeL bej be8
theorem more_spec {tb c : Nat} {vb vl : Value} {b l : List UInt8} {w : World} (hlb : b.length < 1099511627776 ∧ l.length < 1099511627776) (hcn : c < 9223372036854775808) (hg : Ro (Fs [cel tb [vb, .int .u64 (c : Int), vl] 201, ownB vb b 5, ownB vl l 5]) w glob)
    (hh : Pre w [cel tb [vb, .int .u64 (c : Int), vl] 201, ownB vb b 5, ownB vl l 5]) :
    Spec Tryz.prog 187 [.pointer (some ⟨tb, 0, none⟩)] w [cel tb [vb, .int .u64 (c : Int), vl] 201, ownB vb b 5, ownB vl l 5] (fun _ : Value => True) (fun _ => .tuple #[])
      (fun vo => [cel tb [vb, .int .u64 ((c + 1 : Nat) : Int), vo] 201, ownB vb b 5, ownB vo (l ++ sumL (b ++ be8 c)) 5]) := by
  refine spec_of (n := 42) Tryz.func187 rfl rfl hh.1 hh.2 rfl ?_
  have hb8 : (be8 c).length = 8 := be8_len
  refine tk_own1 (.tail _ (.head _)) fun hfb => ?_; refine tk_own1 (.tail _ (.tail _ (.head _))) fun hfl => ?_; refine s_r ?_; refine s_q rfl (y_assign rfl) ?_; refine s_n ?_; refine tk_seq ?_; refine s_r ?_; refine s_q rfl (y_assign rfl) ?_; refine s_n ?_; refine tk_block ?_; refine tk_ownM0 (f := B) 5 ?_; refine tk_H [own (.slice none 0 0) ((bej c 0).length) ((bej c 0).map B) 5 1, cel tb ([vb, .int .u64 ((c : Nat) : Int), vl]) 201, own vb b.length (b.map B) 5 1, own vl l.length (l.map B) 5 1] (congrArg (fun z_ => [z_, cel tb ([vb, .int .u64 ((c : Nat) : Int), vl]) 201, own vb b.length (b.map B) 5 1, own vl l.length (l.map B) 5 1]) (show own (.slice none 0 0) (([] : List UInt8).length) (([] : List UInt8).map B) 5 1 = own (.slice none 0 0) ((bej c 0).length) ((bej c 0).map B) 5 1 from ownM_cast bej_0.symm)) ?_
  refine tk_loop (X := Nat × Value) (fun (j, vo) => j ≤ 8) (fun (j, vo) => [(0, .pointer (some ⟨tb, 0, none⟩)), (2, vo), (3, I (56 - 8 * (j : Int)))]) (fun (j, vo) => [own vo ((bej c j).length) ((bej c j).map B) 5 1, cel tb ([vb, .int .u64 ((c : Nat) : Int), vl]) 201, own vb b.length (b.map B) 5 1, own vl l.length (l.map B) 5 1]) (fun (j, vo) => 8 - j) ((0, .slice none 0 0)) (Nat.zero_le _) (by repeat (first | exact trivial | refine ⟨rfl, ?_⟩)) ((List.Sublist.refl _)) ?_
  rintro ⟨j, vo⟩ hI
  try dsimp only at hI ⊢
  have hlen : (bej c j).length = j := bej_len
  refine tk_own1 (.head _) fun hfo => ?_; refine tk_seq ?_; refine s_r ?_; refine s_q rfl (y_move rfl) ?_; refine s_q rfl (y_geq rfl rfl) ?_; refine s_n ?_; refine tk_condP rfl (fun ht6 => ?_) (fun ht6 => ?_)
  · skip
    refine tk_skip ?_; refine tk_then ?_; refine tk_seq ?_; refine tk_block ?_; refine tk_region ?_; refine tk_re 3 (I (56 - 8 * (j : Int))) (I ((56 - 8 * j : Nat) : Int)) rfl (congrArg I (by omega)) ?_; refine s_q rfl (y_move rfl) ?_; refine s_q rfl (y_move rfl) ?_; refine s_q rfl (y_nilCheck rfl) ?_; refine s_q rfl (y_fldN (o := 0) 1 rfl (by kernel_rfl)) ?_; refine s_q rfl (y_load rfl rfl (hc (o := 1) (.tail _ (.head _)) (rfl))) ?_
    refine s_q rfl (y_move rfl) ?_; refine s_q rfl (y_shrN (a := c) (m := 56 - 8 * j) rfl rfl (by simp [IntKind.bits]; omega)) ?_; refine s_q rfl (y_convi8 (m := c / 2 ^ (56 - 8 * j)) rfl rfl rfl) ?_; refine tk_act rfl ?_; refine a_slitN (vs := [B (UInt8.ofNat (c / 2 ^ (56 - 8 * j)))]) rfl (List.forall_mem_cons.2 ⟨rfl, (fun _ h => nomatch h)⟩) (EL42) rfl rfl (by decide) fun b17 => ?_; refine tk_act rfl ?_; refine a_appM (H1 := [_]) (f := B) (l := bej c j) (m := [UInt8.ofNat (c / 2 ^ (56 - 8 * j))]) rfl rfl EL42 rfl rfl (fun w hw => cel_rdE (o := 0) (m := 1) (cp := 1) (vs := [UInt8.ofNat (c / 2 ^ (56 - 8 * j))].map B) (hw.mem (.head _)) (rfl) (by first | rfl | exact lenP | (simp; omega)) lenP) (fun _ => rfl) ⟨lenP, lenP⟩ fun v18 => ?_
    refine tk_own1 (.tail _ (.head _)) fun hfv18 => ?_; refine s_q rfl (y_assign rfl) ?_; refine tk_nil ?_; refine tk_in_normal ?_; refine tk_then ?_; refine tk_region ?_; refine tk_re 3 (I ((56 - 8 * j : Nat) : Int)) (I (56 - 8 * (j : Int))) rfl (congrArg I (by omega)) ?_; refine s_q rfl (y_move rfl) ?_; refine s_q rfl (y_subI rfl rfl (by omega)) ?_; refine s_q rfl (y_assign rfl) ?_; refine tk_nil ?_
    refine tk_re 3 (I ((56 - 8 * (j : Int)) - (8 : Int))) (I (56 - 8 * ((j + 1 : Nat) : Int))) rfl (congrArg I (by omega)) ?_; refine tk_H [cel b17 ([B (UInt8.ofNat (c / 2 ^ (56 - 8 * j)))]) 5, own v18 ((bej c (j + 1)).length) ((bej c (j + 1)).map B) 5 1, cel tb ([vb, .int .u64 ((c : Nat) : Int), vl]) 201, own vb b.length (b.map B) 5 1, own vl l.length (l.map B) 5 1] (congrArg (fun z_ => [cel b17 ([B (UInt8.ofNat (c / 2 ^ (56 - 8 * j)))]) 5, z_, cel tb ([vb, .int .u64 ((c : Nat) : Int), vl]) 201, own vb b.length (b.map B) 5 1, own vl l.length (l.map B) 5 1]) (show own v18 (((bej c j) ++ [UInt8.ofNat (c / 2 ^ (56 - 8 * j))]).length) (((bej c j) ++ [UInt8.ofNat (c / 2 ^ (56 - 8 * j))]).map B) 5 1 = own v18 ((bej c (j + 1)).length) ((bej c (j + 1)).map B) 5 1 from ownM_cast bej_snoc)) ?_
    exact tk_again ((j + 1, v18)) (by dsimp only; omega) (by dsimp only; omega) (by repeat (first | exact trivial | refine ⟨rfl, ?_⟩)) (.cons _ (List.Sublist.refl _))
  · skip
    refine tk_H [own vo ((be8 c).length) ((be8 c).map B) 5 1, cel tb ([vb, .int .u64 ((c : Nat) : Int), vl]) 201, own vb b.length (b.map B) 5 1, own vl l.length (l.map B) 5 1] (congrArg (fun z_ => [z_, cel tb ([vb, .int .u64 ((c : Nat) : Int), vl]) 201, own vb b.length (b.map B) 5 1, own vl l.length (l.map B) 5 1]) (show own vo ((bej c j).length) ((bej c j).map B) 5 1 = own vo ((be8 c).length) ((be8 c).map B) 5 1 from ownM_cast (by rw [show j = 8 by omega, be8_def]))) ?_
    refine tk_own1 (.head _) fun hfo => ?_; refine tk_exit ?_; refine tk_then_exit ?_; refine tk_then_exit ?_; refine tk_in_hit ?_; refine tk_then ?_; refine s_r ?_; refine s_q rfl (y_move rfl) ?_; refine s_q rfl (y_nilCheck rfl) ?_; refine s_q rfl (y_fld0 (o := 0) rfl (by kernel_rfl)) ?_; refine s_q rfl (y_load rfl rfl (hc (o := 0) (.tail _ (.head _)) (rfl))) ?_; refine s_q rfl (y_move rfl) ?_; refine tk_act rfl ?_; refine a_slitN (vs := [vb, vo]) rfl (List.forall_mem_cons.2 ⟨(RdS.one hfb.choose_spec), (List.forall_mem_cons.2 ⟨(RdS.one hfo.choose_spec), (fun _ h => nomatch h)⟩)⟩) (EL206) rfl rfl (by decide) fun b24 => ?_
    refine tk_act rfl ?_; refine a_callv [] _ rfl (by kernel_rfl) rfl (fun w' hw' => of_spec (ps := [(vb, b), (vo, be8 c)]) (L := b ++ (be8 c)) (Ro.cel (vs := [vb, vo]) hw' (.head _) (by first | rfl | simp) rfl (by decide)) (List.forall_mem_cons.2 ⟨(Ro.own (H0 := []) hw' (.tail _ (.tail _ (.tail _ (.head _))))), (List.forall_mem_cons.2 ⟨(Ro.own (H0 := []) hw' (.tail _ (.head _))), (fun _ h => nomatch h)⟩)⟩) (by simp) lenP lenP (hg.call hw')) rfl fun _ _ => ?_
    refine tk_act rfl ?_; refine a_allocL (cs := (List.replicate 32 0).map B) (by kernel_rfl) rfl fun b4 => ?_; refine tk_act rfl ?_; refine a_storeW (H1 := []) (vs := (sumL (b ++ (be8 c))).map B) 32 rfl rfl (by kernel_rfl) rfl ⟨lenP, lenP⟩ oneB ?_; refine s_n ?_; refine tk_seq ?_; refine tk_drawH [cel b4 ((sumL (b ++ (be8 c))).map B) 27, cel b24 ([vb, vo]) 42, own vo ((be8 c).length) ((be8 c).map B) 5 1, cel tb ([vb, .int .u64 ((c : Nat) : Int), vl]) 201, own vb b.length (b.map B) 5 1] [9] (by kernel_rfl) ?_
    refine s_x 0 rfl (y_move rfl) ?_; refine s_x 1 rfl (y_move rfl) ?_; refine s_x 2 rfl (y_nilCheck rfl) ?_; refine s_x 3 rfl (y_fldN (o := 0) 2 rfl (by kernel_rfl)) ?_; refine s_l 4 rfl (fun _ h => h.sub (.cons_cons _ (.cons_cons _ (.cons_cons _ (.cons_cons _ (.cons_cons _ (List.nil_sublist _))))))) (y_load rfl rfl (hc (o := 2) (.tail _ (.tail _ (.tail _ (.head _)))) (rfl))) ?_; refine s_x 5 rfl (y_cutA (m := 32) (sz := 1) rfl (by kernel_rfl)) ?_
    refine tx_a 6 rfl (by kernel_rfl) rfl ?_; refine a_appM (H1 := [_, _, _, _, _]) (f := B) (l := l) (m := sumL (b ++ (be8 c))) rfl rfl EL42 rfl rfl (fun w hw => cel_rdE (o := 0) (m := 32) (cp := 32) (vs := (sumL (b ++ (be8 c))).map B) (hw.mem (.head _)) (dsW) (by first | rfl | exact lenP | (simp; omega)) lenP) (fun _ => rfl) ⟨lenP, lenP⟩ fun v32 => ?_; refine tk_own1 (.tail _ (.tail _ (.tail _ (.tail _ (.tail _ (.head _)))))) fun hfv32 => ?_
    refine tk_S (fun _ h => h.sub (.cons_cons _ (.cons_cons _ (.cons_cons _ (.cons_cons _ (.cons_cons _ (List.nil_sublist _))))))) ?_; refine tk_own1 (.tail _ (.tail _ (.tail _ (.tail _ (.tail _ (.head _)))))) fun hf32 => ?_; refine s_x 7 rfl (y_nilCheck rfl) ?_; refine s_x 8 rfl (y_fldN (o := 0) 2 rfl (by kernel_rfl)) ?_; refine tx_x 9 rfl (by kernel_rfl) rfl rfl ?_; refine a_storeE (H1 := [_, _, _]) (o := 2) (v := v32) (cs' := [vb, .int .u64 ((c : Nat) : Int), v32]) rfl rfl (by kernel_rfl) (RdS.one hf32.choose_spec) rfl (by first | (simp; done) | (simp; omega)) (rfl) ?_
    refine tx_done (by kernel_rfl) ?_; refine tk_then ?_; refine tk_region ?_; refine s_q rfl (y_move rfl) ?_; refine s_q rfl (y_nilCheck rfl) ?_; refine s_q rfl (y_fldN (o := 0) 1 rfl (by kernel_rfl)) ?_; refine s_q rfl (y_load rfl rfl (hc (o := 1) (.tail _ (.tail _ (.tail _ (.head _)))) (rfl))) ?_; refine s_q rfl (y_addU (a := c) (b := 1) rfl rfl (by omega)) ?_; refine s_q rfl (y_nilCheck rfl) ?_
    refine s_q rfl (y_fldN (o := 0) 1 rfl (by kernel_rfl)) ?_; refine tk_act rfl ?_; refine a_storeE (H1 := [_, _, _]) (o := 1) (v := .int .u64 ((c + 1 : Nat) : Int)) (cs' := [vb, .int .u64 ((c + 1 : Nat) : Int), v32]) rfl rfl (by kernel_rfl) rfl rfl (by first | (simp; done) | (simp; omega)) (rfl) ?_; refine tk_nil ?_
    exact tk_ret (v32) (trivial) (.inr rfl) (r0 rfl) (.cons _ (.cons _ (.cons _ (List.Sublist.refl _))))
end Go.Proofs.YtkkjfojgjmglpaaGreatDoor
set_option linter.unusedSimpArgs false
set_option linter.unusedVariables false
namespace Go.Proofs.YtkkjfojgjmglpaaGreatDoor
open Go Go.RowKit
set_option maxRecDepth 100000
attribute [local irreducible] sumL tapeL bej be8
theorem next_spec {tb c p n : Nat} {vb vl : Value} {b : List UInt8} {w : World} (hI0 : p ≤ 32 * c ∧ 32 * c < p + 32) (hn : 1 ≤ n ∧ n ≤ 1048576) (hp : p < 1000000000000) (hlb : b.length < 1099511627776) (hg : Ro (Fs [cel tb [vb, .int .u64 (c : Int), vl] 201, ownB vb b 5, ownB vl ((tapeL b c).drop p) 5]) w glob)
    (hh : Pre w [cel tb [vb, .int .u64 (c : Int), vl] 201, ownB vb b 5, ownB vl ((tapeL b c).drop p) 5]) :
    Spec Tryz.prog 153 [.pointer (some ⟨tb, 0, none⟩), I (n : Int)] w [cel tb [vb, .int .u64 (c : Int), vl] 201, ownB vb b 5, ownB vl ((tapeL b c).drop p) 5] (fun x : Nat × Value × Value => p + n ≤ 32 * x.1 ∧ 32 * x.1 < p + n + 32) (fun x => x.2.1)
      (fun x => [cel tb [vb, .int .u64 (x.1 : Int), x.2.2] 201, ownB vb b 5, ownB x.2.2 ((tapeL b x.1).drop (p + n)) 5, ownB x.2.1 (tapeN b p n) 5]) := by
  refine spec_of (n := 40) Tryz.func153 rfl rfl hh.1 hh.2 rfl ?_; refine tk_own1 (.tail _ (.head _)) fun hfb => ?_; refine tk_own1 (.tail _ (.tail _ (.head _))) fun hfl => ?_; refine s_r ?_; refine s_q rfl (y_assign rfl) ?_; refine s_n ?_; refine s_r ?_; refine s_q rfl (y_move rfl) ?_; refine tk_qe (I ((n : Nat) : Int)) rfl rfl rfl (y_minN (a := n) (b := 1048576) rfl rfl) (by congr 2; omega) ?_; refine s_q rfl (y_assign rfl) ?_
  refine s_n ?_; refine tk_seq ?_; refine s_r ?_; refine s_q rfl (y_move rfl) ?_; refine s_q rfl (y_pnil rfl rfl rfl) ?_; refine s_q rfl (y_move rfl) ?_; refine s_g rfl (y_move rfl) ?_; refine tk_gqe (.bool false) rfl rfl rfl (y_lss rfl rfl) (bool_f (by omega)) ?_; refine s_q rfl (y_pick0 rfl rfl) ?_; refine s_n ?_; refine tk_cond0 rfl ?_; refine tk_skip ?_; refine tk_then ?_; refine tk_seq ?_; refine tk_block ?_
  refine tk_loop (X := Nat × Value) (fun (c2, vl2) => p ≤ 32 * c2 ∧ 32 * c2 < p + n + 32) (fun (c2, vl2) => [(0, .pointer (some ⟨tb, 0, none⟩)), (1, I ((n : Nat) : Int)), (4, .slice none 0 0)]) (fun (c2, vl2) => [cel tb ([vb, .int .u64 ((c2 : Nat) : Int), vl2]) 201, own vb b.length (b.map B) 5 1, own vl2 (((tapeL b c2).drop p).length) (((tapeL b c2).drop p).map B) 5 1]) (fun (c2, vl2) => p + n + 32 - 32 * c2) ((c, vl)) (⟨by omega, by omega⟩) (by repeat (first | exact trivial | refine ⟨rfl, ?_⟩)) ((List.Sublist.refl _)) ?_
  rintro ⟨c2, vl2⟩ hI
  try dsimp only at hI ⊢
  have hlen : ((tapeL b c2).drop p).length = 32 * c2 - p := by simp
  refine tk_own1 (.tail _ (.tail _ (.head _))) fun hfl2 => ?_; refine tk_seq ?_; refine s_r ?_; refine s_q rfl (y_move rfl) ?_; refine s_q rfl (y_nilCheck rfl) ?_; refine s_q rfl (y_fldN (o := 0) 2 rfl (by kernel_rfl)) ?_; refine s_q rfl (y_load rfl rfl (hc (o := 2) (.head _) (rfl))) ?_; refine s_q rfl (y_lenRN (n' := ((tapeL b c2).drop p).length) rfl hfl2.choose_spec rfl (by first | rfl | (rw [List.length_map]; omega) | simp)) ?_
  refine s_q rfl (y_move rfl) ?_; refine s_q rfl (y_lss rfl rfl) ?_; refine s_n ?_; refine tk_condP rfl (fun ht20 => ?_) (fun ht20 => ?_)
  · skip
    refine tk_skip ?_; refine tk_then ?_; refine tk_block ?_; refine tk_region ?_; refine s_q rfl (y_move rfl) ?_; refine tk_act rfl ?_; refine a_callv [] _ rfl (by kernel_rfl) rfl (fun w' hw' => more_spec (tb := tb) (c := c2) (vb := vb) (vl := vl2) (b := b) (l := (tapeL b c2).drop p) ⟨lenP, lenP⟩ lenP (hg.call hw') (St.pre hw')) rfl fun v22 _ => ?_; refine tk_nil ?_; refine tk_in_normal ?_; refine tk_H [cel tb ([vb, .int .u64 ((c2 + 1 : Nat) : Int), v22]) 201, own vb b.length (b.map B) 5 1, own v22 (((tapeL b (c2 + 1)).drop p).length) (((tapeL b (c2 + 1)).drop p).map B) 5 1] (congrArg (fun z_ => [cel tb ([vb, .int .u64 ((c2 + 1 : Nat) : Int), v22]) 201, own vb b.length (b.map B) 5 1, z_]) (show own v22 ((((tapeL b c2).drop p) ++ sumL (b ++ be8 c2)).length) ((((tapeL b c2).drop p) ++ sumL (b ++ be8 c2)).map B) 5 1 = own v22 (((tapeL b (c2 + 1)).drop p).length) (((tapeL b (c2 + 1)).drop p).map B) 5 1 from ownM_cast (tape_more (by omega)))) ?_
    exact tk_again ((c2 + 1, v22)) (⟨by dsimp only; omega, by dsimp only; omega⟩) (by dsimp only; omega) (by repeat (first | exact trivial | refine ⟨rfl, ?_⟩)) (List.Sublist.refl _)
  · skip
    refine tk_exit ?_; refine tk_then_exit ?_; refine tk_then_exit ?_; refine tk_in_hit ?_; refine tk_then ?_; refine s_r ?_; refine s_q rfl (y_move rfl) ?_; refine s_q rfl (y_nilCheck rfl) ?_; refine s_q rfl (y_fldN (o := 0) 2 rfl (by kernel_rfl)) ?_; refine s_q rfl (y_load rfl rfl (hc (o := 2) (.head _) (rfl))) ?_; refine s_q rfl (y_move rfl) ?_; refine s_q rfl (y_cutRBh (l := (tapeL b c2).drop p) n rfl rfl hfl2.choose_spec (by kernel_rfl) lenP rfl) ?_
    refine tk_act rfl ?_; refine a_callv [] _ rfl (by kernel_rfl) rfl (fun w' hw' => clone_spec (l := ((tapeL b c2).drop p).take n) (Ro.cutBh (Ro.own (H0 := []) hw' (.tail _ (.tail _ (.head _)))) (hi := n) lenP) lenP) rfl fun v29 _ => ?_; refine s_q rfl (y_assign rfl) ?_; refine s_n ?_; refine s_r ?_; refine s_q rfl (y_move rfl) ?_; refine s_q rfl (y_move rfl) ?_; refine s_q rfl (y_nilCheck rfl) ?_
    refine s_q rfl (y_fldN (o := 0) 2 rfl (by kernel_rfl)) ?_; refine s_q rfl (y_load rfl rfl (hc (o := 2) (.tail _ (.head _)) (rfl))) ?_; refine s_q rfl (y_move rfl) ?_; refine s_q rfl (y_cutRBl (l := (tapeL b c2).drop p) n rfl rfl hfl2.choose_spec (by kernel_rfl) lenP rfl) ?_; refine s_q rfl (y_nilCheck rfl) ?_; refine s_q rfl (y_fldN (o := 0) 2 rfl (by kernel_rfl)) ?_; refine tk_act rfl ?_; refine a_storeE (H1 := [_]) (o := 2) (v := cutR vl2 n (((tapeL b c2).drop p).length)) (cs' := [vb, .int .u64 ((c2 : Nat) : Int), cutR vl2 n (((tapeL b c2).drop p).length)]) rfl rfl (by kernel_rfl) (RdS.one (RdS.cutBl hfl2.choose_spec (lo := n) lenP)) rfl (by first | (simp; done) | (simp; omega)) (rfl) ?_
    refine s_n ?_; refine s_r ?_; refine s_q rfl (y_move rfl) ?_; refine s_q rfl (y_assign rfl) ?_; refine s_n ?_; refine tk_retc ?_; refine tk_ownCut (H1 := [_, _, _]) n rfl (by simp; omega) ?_; refine tk_H [own v29 ((tapeN b p n).length) ((tapeN b p n).map B) 5 1, cel tb ([vb, .int .u64 ((c2 : Nat) : Int), cutR vl2 n (((tapeL b c2).drop p).length)]) 201, own vb b.length (b.map B) 5 1, own (cutR vl2 n (((tapeL b c2).drop p).length)) ((((tapeL b c2).drop p).drop n).length) ((((tapeL b c2).drop p).drop n).map B) 5 1] (congrArg (fun z_ => [z_, cel tb ([vb, .int .u64 ((c2 : Nat) : Int), cutR vl2 n (((tapeL b c2).drop p).length)]) 201, own vb b.length (b.map B) 5 1, own (cutR vl2 n (((tapeL b c2).drop p).length)) ((((tapeL b c2).drop p).drop n).length) ((((tapeL b c2).drop p).drop n).map B) 5 1]) (show own v29 ((((tapeL b c2).drop p).take n).length) ((((tapeL b c2).drop p).take n).map B) 5 1 = own v29 ((tapeN b p n).length) ((tapeN b p n).map B) 5 1 from ownM_cast (tapeN_eq (by omega)))) ?_
    refine tk_H [own v29 ((tapeN b p n).length) ((tapeN b p n).map B) 5 1, cel tb ([vb, .int .u64 ((c2 : Nat) : Int), cutR vl2 n (((tapeL b c2).drop p).length)]) 201, own vb b.length (b.map B) 5 1, own ((cutR vl2 n ((tapeL b c2).drop p).length)) (((tapeL b c2).drop (p + n)).length) (((tapeL b c2).drop (p + n)).map B) 5 1] (congrArg (fun z_ => [own v29 ((tapeN b p n).length) ((tapeN b p n).map B) 5 1, cel tb ([vb, .int .u64 ((c2 : Nat) : Int), cutR vl2 n (((tapeL b c2).drop p).length)]) 201, own vb b.length (b.map B) 5 1, z_]) (show own (cutR vl2 n (((tapeL b c2).drop p).length)) ((((tapeL b c2).drop p).drop n).length) ((((tapeL b c2).drop p).drop n).map B) 5 1 = own ((cutR vl2 n ((tapeL b c2).drop p).length)) (((tapeL b c2).drop (p + n)).length) (((tapeL b c2).drop (p + n)).map B) 5 1 from ownM_cast (List.drop_drop ..))) ?_
    refine tk_perm _ mv3 ?_; refine tk_perm _ mv3 ?_; refine tk_perm _ mv3 ?_
    exact tk_ret ((c2, v29, cutR vl2 n ((tapeL b c2).drop p).length)) (⟨by omega, by omega⟩) (.inl rfl) (r1 rfl rfl) (List.Sublist.refl _)
end Go.Proofs.YtkkjfojgjmglpaaGreatDoor
set_option linter.unusedSimpArgs false
set_option linter.unusedVariables false
namespace Go.Proofs.YtkkjfojgjmglpaaGreatDoor
open Go Go.RowKit
set_option maxRecDepth 100000
attribute [local irreducible] sumL tapeL bej be8 tapeN
theorem nonce_spec {tb c p : Nat} {vb vl : Value} {b : List UInt8} {w : World} (hI0 : p ≤ 32 * c ∧ 32 * c < p + 32) (hp : p < 1000000000000) (hlb : b.length < 1099511627776) (hg : Ro (Fs [cel tb [vb, .int .u64 (c : Int), vl] 201, ownB vb b 5, ownB vl ((tapeL b c).drop p) 5]) w glob)
    (hh : Pre w [cel tb [vb, .int .u64 (c : Int), vl] 201, ownB vb b 5, ownB vl ((tapeL b c).drop p) 5]) :
    Spec Tryz.prog 106 [.pointer (some ⟨tb, 0, none⟩)] w [cel tb [vb, .int .u64 (c : Int), vl] 201, ownB vb b 5, ownB vl ((tapeL b c).drop p) 5] (fun x : Nat × Value => p + 16 ≤ 32 * x.1 ∧ 32 * x.1 < p + 16 + 32) (fun _ => Ag (tapeN b p 16))
      (fun x => [cel tb [vb, .int .u64 (x.1 : Int), x.2] 201, ownB vb b 5, ownB x.2 ((tapeL b x.1).drop (p + 16)) 5]) := by
  refine spec_of (n := 10) Tryz.func106 rfl rfl hh.1 hh.2 rfl ?_; refine tk_own1 (.tail _ (.head _)) fun hfb => ?_; refine tk_own1 (.tail _ (.tail _ (.head _))) fun hfl => ?_; refine s_r ?_; refine tk_act rfl ?_; refine a_allocL (cs := (List.replicate 16 0).map B) (by kernel_rfl) rfl fun b2 => ?_; refine s_n ?_; refine tk_seq ?_; refine s_r ?_; refine s_q rfl (y_move rfl) ?_; refine s_q rfl (y_pnil rfl rfl rfl) ?_
  refine s_n ?_; refine tk_cond0 rfl ?_; refine tk_skip ?_; refine tk_then ?_; refine s_r ?_; refine s_q rfl (y_move rfl) ?_; refine tk_act rfl ?_; refine tk_perm _ mv3 ?_; refine tk_perm _ mv3 ?_; refine tk_perm _ mv3 ?_; refine a_callv [] _ rfl (by kernel_rfl) rfl (fun w' hw' => next_spec (tb := tb) (c := c) (p := p) (n := 16) (vb := vb) (vl := vl) (b := b) ⟨lenP, lenP⟩ ⟨lenP, lenP⟩ lenP lenP (hg.call hw') (St.pre hw')) rfl fun ⟨c7, v7, vl7⟩ hx7 => ?_
  refine tk_own1 (.tail _ (.tail _ (.tail _ (.head _)))) fun hf7 => ?_; refine s_q rfl (y_s2aR (l := tapeN b p 16) rfl rfl hf7.choose_spec lenP) ?_; refine s_q rfl (y_loadA 16 rfl (by kernel_rfl) lenP (fun w hw => rd_take (l := tapeN b p 16) (m := 16) ((fun w hw => own_rdS (hw.mem (.tail _ (.tail _ (.tail _ (.head _)))))) w hw) lenP)) ?_; refine tk_re 9 (.agg (((tapeN b p 16).take 16).map B).toArray) (.agg ((tapeN b p 16).map B).toArray) rfl (by rw [List.take_of_length_le (by simp)]) ?_
  refine tk_act rfl ?_; refine a_storeW (H1 := [_, _, _, _]) (vs := (tapeN b p 16).map B) 16 rfl rfl (by kernel_rfl) rfl ⟨lenP, lenP⟩ oneB ?_; refine s_n ?_; refine tk_retc ?_
  exact tk_ret ((c7, vl7)) (hx7) (.inl rfl) (rc (vs := (tapeN b p 16).map B) rfl rfl (by simp; kernel_rfl) (hcw (.tail _ (.tail _ (.tail _ (.tail _ (.head _))))))) (.cons_cons _ (.cons_cons _ (.cons_cons _ (List.nil_sublist _))))
theorem wind_spec {v : Value} {b : List UInt8} {w : World} (hv : Ro (Fs []) w (rdB v b)) (hb : b.length < 1099511627776) :
    Spec Tryz.prog 49 [v] w [] (fun _ : Nat × Value => True) (fun x => .pointer (some ⟨x.1, 0, none⟩))
      (fun x => [cel x.1 [x.2, .int .u64 ((0 : Nat) : Int), .slice none 0 0] 201, ownB x.2 b 5]) := by
  refine spec_of (n := 7) Tryz.func49 rfl rfl trivial trivial rfl ?_; refine s_r ?_; refine s_q rfl (y_assign rfl) ?_; refine s_n ?_; refine s_r ?_; refine s_q rfl (y_move rfl) ?_; refine tk_act rfl ?_; refine a_callv [] _ rfl (by kernel_rfl) rfl (fun w' hw' => clone_spec (l := b) (Ro.call (H0 := []) hv hw') lenP) rfl fun v4 _ => ?_; refine tk_own1 (.head _) fun hf4 => ?_
  have hc4 := hf4.choose_spec.cells
  simp only [Value.cells] at hc4
  refine s_q rfl (y_build (v := .agg ([v4, .int .u64 0, .slice none 0 0]).toArray) (vs := [(0, v4)]) rfl (run_build (zs := [Value.slice none 0 0, .int .u64 0, .slice none 0 0]) (pl := [(0, 1), (1, 1), (2, 1)]) Tryz.underlying201 (fun _ => by kernel_rfl) (fun _ => by kernel_rfl) (by simp [fillL, Value.cells, hc4]))) ?_; refine tk_act rfl ?_; refine a_boxL (cs := [v4, .int .u64 0, .slice none 0 0]) rfl rfl fun b6 => ?_
  refine s_q rfl (y_assign rfl) ?_; refine s_n ?_; refine tk_retc ?_
  exact tk_ret ((b6, v4)) (trivial) (.inl rfl) (r1 rfl rfl) (List.Sublist.refl _)
end Go.Proofs.YtkkjfojgjmglpaaGreatDoor
set_option linter.unusedSimpArgs false
set_option linter.unusedVariables false
namespace Go.Proofs.YtkkjfojgjmglpaaGreatDoor
open Go Go.RowKit
set_option maxRecDepth 100000
attribute [local irreducible] sumL keyedL strL
end Go.Proofs.YtkkjfojgjmglpaaGreatDoor
set_option linter.unusedSimpArgs false
set_option linter.unusedVariables false
namespace Go.Proofs.YtkkjfojgjmglpaaGreatDoor
open Go Go.RowKit
set_option maxRecDepth 100000
attribute [local irreducible] sumL keyedL strL
end Go.Proofs.YtkkjfojgjmglpaaGreatDoor
set_option linter.unusedSimpArgs false
set_option linter.unusedVariables false
namespace Go.Proofs.YtkkjfojgjmglpaaGreatDoor.Cip
open Go Go.RowKit
set_option maxRecDepth 100000
theorem twice_spec (x : UInt8) (w : World) : Spec Tryz.prog 246 [B x] w [] (fun _ : Unit => True) (fun _ => B (twice8 x)) (fun _ => []) := by
  refine spec_of (n := 10) Tryz.func246 rfl rfl trivial trivial rfl ?_; refine s_r ?_; refine s_q rfl (y_assign rfl) ?_; refine s_n ?_; refine s_r ?_; refine s_q rfl (y_move rfl) ?_; refine s_q rfl (y_shl8 (m := 1) rfl rfl (by decide)) ?_; refine s_q rfl (y_move rfl) ?_; refine s_q rfl (y_shr8 (m := 7) rfl rfl (by decide)) ?_; refine s_q rfl (y_neg8 rfl) ?_; refine s_q rfl (y_and8 (b := 27) rfl rfl) ?_
  refine s_q rfl (y_xor8 rfl rfl) ?_; refine s_q rfl (y_assign rfl) ?_; refine s_n ?_; refine tk_retc ?_
  exact tk_ret () trivial (.inl rfl) (r1 rfl rfl) (List.Sublist.refl _)
theorem add_spec (kb sb r : Nat) (K V : List UInt8) (T : TypeId) (w : World) (hr : r ≤ 14) (hV : V.length = 16) (hne : kb ≠ sb) (hk : ∀ j, j < 240 → w.cell? ⟨kb, j, none⟩ = some (B (K.getD j 0))) (hs : (cel sb (V.map B) T).holds w) :
    Spec Tryz.prog 230 [.pointer (some ⟨kb, 0, none⟩), .pointer (some ⟨sb, 0, none⟩), I r] w [cel sb (V.map B) T] (fun _ : Unit => True) (fun _ => .tuple #[]) (fun _ => [cel sb ((addTo K r V 16).map B) T]) := by
  refine spec_of (n := 32) Tryz.func230 rfl rfl ⟨hs, trivial⟩ ⟨fun _ _ h => h, trivial⟩ rfl ?_; refine s_r ?_; refine s_q rfl (y_move rfl) ?_; refine s_n ?_; refine tk_block ?_; refine tk_loop (X := Nat) (fun k => k ≤ 16) (fun k => [(0, .pointer (some ⟨kb, 0, none⟩)), (1, .pointer (some ⟨sb, 0, none⟩)), (2, I r), (7, I (k : Int))]) (fun k => [cel sb ((addTo K r V k).map B) T]) (fun k => 16 - k) (0) (by omega) (by repeat (first | exact trivial | refine ⟨rfl, ?_⟩)) (List.Sublist.refl _) ?_
  intro k hI
  refine s_r ?_; refine s_q rfl (y_lss rfl rfl) ?_; refine s_n ?_; refine tk_seq ?_; refine tk_condP rfl (fun h8 => ?_) (fun h8 => ?_)
  · skip
    refine tk_skip ?_; refine tk_then ?_; refine tk_seq ?_; refine tk_block ?_; refine s_r ?_; refine s_q rfl (y_move rfl) ?_; refine s_q rfl (y_assign rfl) ?_; refine s_n ?_; refine tk_drawS [21] (by kernel_rfl) ?_; refine s_x 0 rfl (y_move rfl) ?_; refine s_x 1 rfl (y_move rfl) ?_; refine s_x 2 rfl (y_nilCheck rfl) ?_
    (first | refine s_x 3 rfl (y_ixA01 16 rfl rfl (by kernel_rfl) (by omega)) ?_ | refine s_x 3 rfl (y_ixAN1 16 rfl rfl (by kernel_rfl) (by omega)) ?_)
    refine s_l 4 rfl (fun _ h => h) (y_load rfl rfl (hc (.head _) (getB (by rw [addTo_len, hV]; omega)))) ?_; refine s_x 5 rfl (y_move rfl) ?_; refine s_x 6 rfl (y_move rfl) ?_; refine s_x 7 rfl (y_mulI rfl rfl (by omega)) ?_; refine s_x 8 rfl (y_move rfl) ?_; refine s_x 9 rfl (y_quoI rfl rfl (by omega)) ?_; refine s_x 10 rfl (y_addI rfl rfl (by omega)) ?_; refine s_x 11 rfl (y_move rfl) ?_; refine s_x 12 rfl (y_remI rfl rfl (by omega)) ?_
    refine s_x 13 rfl (y_nilCheck rfl) ?_; refine s_x 14 rfl (y_fld0 rfl (by kernel_rfl)) ?_; refine s_x 15 rfl (y_ixAI 60 4 (4 * r + k / 4) rfl rfl (by kernel_rfl) (by omega)) ?_; refine s_x 16 rfl ((y_ixAI 4 1 (k % 4) rfl rfl (by kernel_rfl) (by omega)).cast (v := _) (u := .pointer (some ⟨kb, 16 * r + k, none⟩)) (by congr 3; omega)) ?_; refine s_l 17 rfl (fun _ h => h) (y_load rfl rfl (hro (hk _ (by omega)) (by simp [Fs, cel]; exact hne))) ?_
    refine s_x 18 rfl (y_xor8 rfl rfl) ?_; refine s_x 19 rfl (y_nilCheck rfl) ?_
    (first | refine s_x 20 rfl (y_ixA01 16 rfl rfl (by kernel_rfl) (by omega)) ?_ | refine s_x 20 rfl (y_ixAN1 16 rfl rfl (by kernel_rfl) (by omega)) ?_)
    refine tx_x 21 rfl (by kernel_rfl) rfl rfl ?_; refine a_store1B (H1 := []) rfl rfl (by kernel_rfl) rfl (by rw [addTo_len, hV]; omega) ?_; refine tx_done (by kernel_rfl) ?_; refine tk_in_normal ?_; refine tk_then ?_; refine tk_region ?_; refine s_q rfl (y_addI rfl rfl (by omega)) ?_; refine s_q rfl (y_move rfl) ?_; refine tk_nil ?_
    exact tk_again (k + 1) (by omega) (by omega) (by repeat (first | exact trivial | refine ⟨rfl, ?_⟩)) (List.Sublist.refl _)
  · skip
    refine tk_exit ?_; refine tk_then_exit ?_; refine tk_then_exit ?_; refine tk_in_hit ?_
    obtain rfl : k = 16 := by omega
    exact tk_ret () trivial (.inr rfl) (r0 rfl) (List.Sublist.refl _)
theorem forward_spec (w : World) : Spec Tryz.prog 206 [] w [] (fun _ : Unit => True) (fun _ => Ag fwd) (fun _ => []) := by
  refine spec_of (n := 2) Tryz.func206 rfl rfl trivial trivial rfl ?_; refine s_r ?_; refine tk_act rfl ?_; refine a_allocL (cs := (List.replicate 256 0).map B) (by kernel_rfl) rfl fun b0 => ?_; refine s_n ?_; refine s_r ?_; refine s_q rfl (y_build (v := Ag fwd) (vs := fwd.zipIdx.map fun p => (p.2, B p.1)) (by kernel_rfl) (fun _ => by kernel_rfl)) ?_; refine tk_act rfl ?_; refine a_storeW (H1 := []) 256 rfl rfl (by kernel_rfl) rfl ⟨by rw [List.length_map]; exact fwd_len, by rw [List.length_map, List.length_replicate]⟩ oneB ?_
  refine s_n ?_; refine tk_retc ?_
  exact tk_ret () trivial (.inl rfl) (rc rfl rfl (by rw [List.length_map, fwd_len]; kernel_rfl) (hcw (.head _))) (List.nil_sublist _)
theorem getF {b : UInt8} : (fwd.map B).toArray[((b.toNat : Int)).toNat]? = some (B (sbox b)) := getBA (by rw [fwd_len]; exact b_lt b)
theorem shift_spec (V : List UInt8) (w : World) (hV : V.length = 16) : Spec Tryz.prog 231 [Ag V] w [] (fun _ : Unit => True) (fun _ => Ag (shTo V 16)) (fun _ => []) := by
  refine spec_of (n := 22) Tryz.func231 rfl rfl trivial trivial rfl ?_; refine s_r ?_; refine tk_act rfl ?_; refine a_boxL rfl rfl fun b1 => ?_; refine tk_act rfl ?_; refine a_allocL (cs := (List.replicate 16 0).map B) (by kernel_rfl) rfl fun b2 => ?_; refine s_n ?_; refine s_r ?_; refine tk_act rfl ?_; refine a_allocL (cs := (List.replicate 16 0).map B) (by kernel_rfl) rfl fun b3 => ?_; refine s_n ?_
  refine tk_seq ?_; refine s_r ?_; refine s_q rfl (y_move rfl) ?_; refine s_n ?_; refine tk_block ?_; refine tk_loop (X := Nat) (fun k => k ≤ 16) (fun k => [(1, .pointer (some ⟨b1, 0, none⟩)), (2, .pointer (some ⟨b2, 0, none⟩)), (3, .pointer (some ⟨b3, 0, none⟩)), (5, I (k : Int))]) (fun k => [cel b3 ((shTo V k).map B) 50, cel b2 ((List.replicate 16 0).map B) 50, cel b1 (V.map B) 50]) (fun k => 16 - k) (0) (by omega) (by repeat (first | exact trivial | refine ⟨rfl, ?_⟩)) (List.Sublist.refl _) ?_
  intro k hI
  refine s_r ?_; refine s_q rfl (y_lss rfl rfl) ?_; refine s_n ?_; refine tk_seq ?_; refine tk_condP rfl (fun h6 => ?_) (fun h6 => ?_)
  · skip
    refine tk_skip ?_; refine tk_then ?_; refine tk_seq ?_; refine tk_block ?_; refine s_r ?_; refine s_q rfl (y_move rfl) ?_; refine s_q rfl (y_assign rfl) ?_; refine s_n ?_; refine tk_drawS [12] (by kernel_rfl) ?_; refine s_x 0 rfl (y_move rfl) ?_; refine s_x 2 rfl (y_move rfl) ?_; refine s_x 3 rfl (y_move rfl) ?_; refine s_x 4 rfl (y_remI rfl rfl (by omega)) ?_; refine s_x 5 rfl (y_mulI rfl rfl (by omega)) ?_
    refine s_x 6 rfl (y_addI rfl rfl (by omega)) ?_; refine s_x 7 rfl (y_remI rfl rfl (by omega)) ?_; refine s_x 8 rfl (y_ixA0I 16 ((k + k % 4 * 4) % 16) rfl rfl (by kernel_rfl) (by omega)) ?_; refine s_l 9 rfl (fun _ h => h) (y_load rfl rfl (hc (.tail _ (.tail _ (.head _))) (getB (by omega)))) ?_; refine tx_a 1 rfl (by kernel_rfl) rfl ?_; refine a_callv [] _ rfl (by kernel_rfl) rfl (fun w' hw' => forward_spec w') rfl fun _ _ => ?_
    refine tk_S (fun _ h => h) ?_; refine s_x 10 rfl (y_ixV rfl rfl rfl rfl (fun _ => by kernel_rfl) (ixb _) getF) ?_
    (first | refine s_x 11 rfl (y_ixA01 16 rfl rfl (by kernel_rfl) (by omega)) ?_ | refine s_x 11 rfl (y_ixAN1 16 rfl rfl (by kernel_rfl) (by omega)) ?_)
    refine tx_x 12 rfl (by kernel_rfl) rfl rfl ?_; (first | refine a_store1B (H1 := []) rfl rfl (by kernel_rfl) rfl (by simp; omega) ?_ | refine a_store1B (H1 := [_]) rfl rfl (by kernel_rfl) rfl (by simp; omega) ?_ | refine a_store1B (H1 := [_, _]) rfl rfl (by kernel_rfl) rfl (by simp; omega) ?_)
    refine tx_done (by kernel_rfl) ?_; refine tk_in_normal ?_; refine tk_then ?_; refine tk_region ?_; refine s_q rfl (y_addI rfl rfl (by omega)) ?_; refine s_q rfl (y_move rfl) ?_; refine tk_nil ?_
    exact tk_again (k + 1) (by omega) (by omega) (by repeat (first | exact trivial | refine ⟨rfl, ?_⟩)) (List.Sublist.refl _)
  · skip
    refine tk_exit ?_; refine tk_then_exit ?_; refine tk_then_exit ?_; refine tk_in_hit ?_; refine tk_then ?_; refine s_r ?_
    obtain rfl : k = 16 := by omega
    (first | refine s_q rfl (y_loadA 16 rfl (by kernel_rfl) (by simp) (hcw (.head _))) ?_ | refine s_q rfl (y_loadA 16 rfl (by kernel_rfl) (by simp) (hcw (.tail _ (.head _)))) ?_ | refine s_q rfl (y_loadA 16 rfl (by kernel_rfl) (by simp) (hcw (.tail _ (.tail _ (.head _))))) ?_)
    refine tk_act rfl ?_; (first | refine a_storeW (H1 := []) 16 rfl rfl (by kernel_rfl) rfl ⟨by simp, by simp⟩ oneB ?_ | refine a_storeW (H1 := [_]) 16 rfl rfl (by kernel_rfl) rfl ⟨by simp, by simp⟩ oneB ?_ | refine a_storeW (H1 := [_, _]) 16 rfl rfl (by kernel_rfl) rfl ⟨by simp, by simp⟩ oneB ?_)
    refine s_n ?_; refine tk_retc ?_
    exact tk_ret () trivial (.inl rfl) (rc rfl rfl (by simp; kernel_rfl) (hcw (.tail _ (.head _)))) (List.nil_sublist _)
theorem mix_spec (sb : Nat) (V : List UInt8) (T : TypeId) (w : World) (hV : V.length = 16) (hs : (cel sb (V.map B) T).holds w) :
    Spec Tryz.prog 232 [.pointer (some ⟨sb, 0, none⟩)] w [cel sb (V.map B) T] (fun _ : Unit => True) (fun _ => .tuple #[]) (fun _ => [cel sb ((mixTo V 4).map B) T]) := by
  refine spec_of (n := 82) Tryz.func232 rfl rfl ⟨hs, trivial⟩ ⟨fun _ _ h => h, trivial⟩ rfl ?_; refine s_r ?_; refine s_q rfl (y_assign rfl) ?_; refine s_n ?_; refine tk_block ?_; refine tk_loop (X := Nat) (fun k => k ≤ 4) (fun k => [(0, .pointer (some ⟨sb, 0, none⟩)), (2, I (4 * (k : Int)))]) (fun k => [cel sb ((mixTo V k).map B) T]) (fun k => 4 - k) (0) (by omega) (by repeat (first | exact trivial | refine ⟨rfl, ?_⟩)) (List.Sublist.refl _) ?_
  intro k hI
  refine tk_seq ?_; refine s_r ?_; refine s_q rfl (y_move rfl) ?_; refine s_q rfl (y_lss rfl rfl) ?_; refine s_n ?_; refine tk_condP rfl (fun h10 => ?_) (fun h10 => ?_)
  · skip
    refine tk_skip ?_; refine tk_then ?_; refine tk_seq ?_; refine tk_block ?_; refine s_r ?_; refine s_q rfl (y_move rfl) ?_; refine s_q rfl (y_nilCheck rfl) ?_; refine s_q rfl (y_move rfl) ?_; refine s_q rfl (y_move rfl) ?_; refine s_q rfl (y_addI rfl rfl (by omega)) ?_; refine tk_qe (.slice (some ⟨sb, 4 * k, none⟩) 4 (16 - 4 * k)) rfl rfl rfl (y_cutAN 16 1 (4 * k) (4 * k + 4) rfl rfl rfl (by kernel_rfl) (by omega)) (by simp) ?_
    refine s_q rfl (y_assign rfl) ?_; refine s_n ?_; refine tk_seq ?_; refine tk_drawS [] (by kernel_rfl) ?_; refine s_x 0 rfl (y_move rfl) ?_
    (first | refine s_x 1 rfl (y_ixS01 (i := 0) rfl rfl (by kernel_rfl) (by omega)) ?_ | refine s_x 1 rfl (y_ixSN1 (i := 0) rfl rfl (by kernel_rfl) (by omega)) ?_)
    refine s_l 2 rfl (fun _ h => h) (y_load rfl rfl (hc (.head _) (getB (by simp [hV]; omega)))) ?_; refine s_x 3 rfl (y_move rfl) ?_
    (first | refine s_x 4 rfl (y_ixS01 (i := 1) rfl rfl (by kernel_rfl) (by omega)) ?_ | refine s_x 4 rfl (y_ixSN1 (i := 1) rfl rfl (by kernel_rfl) (by omega)) ?_)
    refine s_l 5 rfl (fun _ h => h) (y_load rfl rfl (hc (.head _) (getB (by simp [hV]; omega)))) ?_; refine s_x 6 rfl (y_move rfl) ?_
    (first | refine s_x 7 rfl (y_ixS01 (i := 2) rfl rfl (by kernel_rfl) (by omega)) ?_ | refine s_x 7 rfl (y_ixSN1 (i := 2) rfl rfl (by kernel_rfl) (by omega)) ?_)
    refine s_l 8 rfl (fun _ h => h) (y_load rfl rfl (hc (.head _) (getB (by simp [hV]; omega)))) ?_; refine s_x 9 rfl (y_move rfl) ?_
    (first | refine s_x 10 rfl (y_ixS01 (i := 3) rfl rfl (by kernel_rfl) (by omega)) ?_ | refine s_x 10 rfl (y_ixSN1 (i := 3) rfl rfl (by kernel_rfl) (by omega)) ?_)
    refine s_l 11 rfl (fun _ h => h) (y_load rfl rfl (hc (.head _) (getB (by simp [hV]; omega)))) ?_; refine s_x 12 rfl (y_assign rfl) ?_; refine s_x 13 rfl (y_assign rfl) ?_; refine s_x 14 rfl (y_assign rfl) ?_; refine s_x 15 rfl (y_assign rfl) ?_; refine tx_done (by kernel_rfl) ?_; refine tk_then ?_; refine s_r ?_; refine s_q rfl (y_move rfl) ?_; refine s_q rfl (y_move rfl) ?_; refine s_q rfl (y_xor8 rfl rfl) ?_
    refine s_q rfl (y_move rfl) ?_; refine s_q rfl (y_xor8 rfl rfl) ?_; refine s_q rfl (y_move rfl) ?_; refine s_q rfl (y_xor8 rfl rfl) ?_; refine s_q rfl (y_assign rfl) ?_; refine s_n ?_; refine tk_seq ?_; refine tk_drawS [11] (by kernel_rfl) ?_; refine s_x 0 rfl (y_move rfl) ?_
    (first | refine s_x 1 rfl (y_ixS01 (i := 0) rfl rfl (by kernel_rfl) (by omega)) ?_ | refine s_x 1 rfl (y_ixSN1 (i := 0) rfl rfl (by kernel_rfl) (by omega)) ?_)
    refine s_l 2 rfl (fun _ h => h) (y_load rfl rfl (hc (.head _) (getB (by simp [hV]; omega)))) ?_; refine s_x 3 rfl (y_move rfl) ?_; refine s_x 4 rfl (y_move rfl) ?_; refine s_x 5 rfl (y_move rfl) ?_; refine s_x 6 rfl (y_xor8 rfl rfl) ?_; refine tx_a 7 rfl (by kernel_rfl) rfl ?_; refine a_callv [] _ rfl (by kernel_rfl) rfl (fun w' hw' => twice_spec _ w') rfl fun _ _ => ?_; refine tk_S (fun _ h => h) ?_
    refine s_x 8 rfl (y_xor8 rfl rfl) ?_; refine s_x 9 rfl (y_xor8 rfl rfl) ?_
    (first | refine s_x 10 rfl (y_ixS01 (i := 0) rfl rfl (by kernel_rfl) (by omega)) ?_ | refine s_x 10 rfl (y_ixSN1 (i := 0) rfl rfl (by kernel_rfl) (by omega)) ?_)
    refine tx_x 11 rfl (by kernel_rfl) rfl rfl ?_; refine a_store1B (H1 := []) rfl rfl (by kernel_rfl) rfl (by simp [hV]; omega) ?_; refine tx_done (by kernel_rfl) ?_; refine tk_then ?_; refine tk_seq ?_; refine tk_drawS [11] (by kernel_rfl) ?_; refine s_x 0 rfl (y_move rfl) ?_
    (first | refine s_x 1 rfl (y_ixS01 (i := 1) rfl rfl (by kernel_rfl) (by omega)) ?_ | refine s_x 1 rfl (y_ixSN1 (i := 1) rfl rfl (by kernel_rfl) (by omega)) ?_)
    refine s_l 2 rfl (fun _ h => h) (y_load rfl rfl (hc (.head _) (getB (by simp [hV]; omega)))) ?_; refine s_x 3 rfl (y_move rfl) ?_; refine s_x 4 rfl (y_move rfl) ?_; refine s_x 5 rfl (y_move rfl) ?_; refine s_x 6 rfl (y_xor8 rfl rfl) ?_; refine tx_a 7 rfl (by kernel_rfl) rfl ?_; refine a_callv [] _ rfl (by kernel_rfl) rfl (fun w' hw' => twice_spec _ w') rfl fun _ _ => ?_; refine tk_S (fun _ h => h) ?_
    refine s_x 8 rfl (y_xor8 rfl rfl) ?_; refine s_x 9 rfl (y_xor8 rfl rfl) ?_
    (first | refine s_x 10 rfl (y_ixS01 (i := 1) rfl rfl (by kernel_rfl) (by omega)) ?_ | refine s_x 10 rfl (y_ixSN1 (i := 1) rfl rfl (by kernel_rfl) (by omega)) ?_)
    refine tx_x 11 rfl (by kernel_rfl) rfl rfl ?_; refine a_store1B (H1 := []) rfl rfl (by kernel_rfl) rfl (by simp [hV]; omega) ?_; refine tx_done (by kernel_rfl) ?_; refine tk_then ?_; refine tk_seq ?_; refine tk_drawS [11] (by kernel_rfl) ?_; refine s_x 0 rfl (y_move rfl) ?_
    (first | refine s_x 1 rfl (y_ixS01 (i := 2) rfl rfl (by kernel_rfl) (by omega)) ?_ | refine s_x 1 rfl (y_ixSN1 (i := 2) rfl rfl (by kernel_rfl) (by omega)) ?_)
    refine s_l 2 rfl (fun _ h => h) (y_load rfl rfl (hc (.head _) (getB (by simp [hV]; omega)))) ?_; refine s_x 3 rfl (y_move rfl) ?_; refine s_x 4 rfl (y_move rfl) ?_; refine s_x 5 rfl (y_move rfl) ?_; refine s_x 6 rfl (y_xor8 rfl rfl) ?_; refine tx_a 7 rfl (by kernel_rfl) rfl ?_; refine a_callv [] _ rfl (by kernel_rfl) rfl (fun w' hw' => twice_spec _ w') rfl fun _ _ => ?_; refine tk_S (fun _ h => h) ?_
    refine s_x 8 rfl (y_xor8 rfl rfl) ?_; refine s_x 9 rfl (y_xor8 rfl rfl) ?_
    (first | refine s_x 10 rfl (y_ixS01 (i := 2) rfl rfl (by kernel_rfl) (by omega)) ?_ | refine s_x 10 rfl (y_ixSN1 (i := 2) rfl rfl (by kernel_rfl) (by omega)) ?_)
    refine tx_x 11 rfl (by kernel_rfl) rfl rfl ?_; refine a_store1B (H1 := []) rfl rfl (by kernel_rfl) rfl (by simp [hV]; omega) ?_; refine tx_done (by kernel_rfl) ?_; refine tk_then ?_; refine tk_drawS [11] (by kernel_rfl) ?_; refine s_x 0 rfl (y_move rfl) ?_
    (first | refine s_x 1 rfl (y_ixS01 (i := 3) rfl rfl (by kernel_rfl) (by omega)) ?_ | refine s_x 1 rfl (y_ixSN1 (i := 3) rfl rfl (by kernel_rfl) (by omega)) ?_)
    refine s_l 2 rfl (fun _ h => h) (y_load rfl rfl (hc (.head _) (getB (by simp [hV]; omega)))) ?_; refine s_x 3 rfl (y_move rfl) ?_; refine s_x 4 rfl (y_move rfl) ?_; refine s_x 5 rfl (y_move rfl) ?_; refine s_x 6 rfl (y_xor8 rfl rfl) ?_; refine tx_a 7 rfl (by kernel_rfl) rfl ?_; refine a_callv [] _ rfl (by kernel_rfl) rfl (fun w' hw' => twice_spec _ w') rfl fun _ _ => ?_; refine tk_S (fun _ h => h) ?_
    refine s_x 8 rfl (y_xor8 rfl rfl) ?_; refine s_x 9 rfl (y_xor8 rfl rfl) ?_
    (first | refine s_x 10 rfl (y_ixS01 (i := 3) rfl rfl (by kernel_rfl) (by omega)) ?_ | refine s_x 10 rfl (y_ixSN1 (i := 3) rfl rfl (by kernel_rfl) (by omega)) ?_)
    refine tx_x 11 rfl (by kernel_rfl) rfl rfl ?_; refine a_store1B (H1 := []) rfl rfl (by kernel_rfl) rfl (by simp [hV]; omega) ?_; refine tx_done (by kernel_rfl) ?_; refine tk_in_normal ?_; refine tk_then ?_; refine tk_region ?_; refine s_q rfl (y_move rfl) ?_; refine s_q rfl (y_addI rfl rfl (by omega)) ?_; refine s_q rfl (y_assign rfl) ?_; refine tk_nil ?_
    exact tk_again (k + 1) (by omega) (by omega) (by exact ⟨rfl, by simp [lk]; omega, trivial⟩) (List.Sublist.refl _)
  · skip
    refine tk_exit ?_; refine tk_then_exit ?_; refine tk_then_exit ?_; refine tk_in_hit ?_
    obtain rfl : k = 4 := by omega
    exact tk_ret () trivial (.inr rfl) (r0 rfl) (List.Sublist.refl _)
theorem turn_spec (kb : Nat) (K V : List UInt8) (w : World) (hV : V.length = 16) (hk : ∀ j, j < 240 → w.cell? ⟨kb, j, none⟩ = some (B (K.getD j 0))) :
    Spec Tryz.prog 207 [.pointer (some ⟨kb, 0, none⟩), Ag V] w [] (fun _ : Unit => True) (fun _ => Ag (turn K V)) (fun _ => []) := by
  refine spec_of (n := 24) Tryz.func207 rfl rfl trivial trivial rfl ?_; refine s_r ?_; refine tk_act rfl ?_; refine a_boxL rfl rfl fun b3 => ?_; refine tk_act rfl ?_; refine a_allocL (cs := (List.replicate 16 0).map B) (by kernel_rfl) rfl fun b4 => ?_; refine s_n ?_; refine tk_seq ?_; refine s_r ?_; refine s_q rfl (y_move rfl) ?_; refine tk_qe (.bool false) rfl rfl rfl (y_pnil rfl rfl rfl) (rfl) ?_
  refine s_n ?_; refine tk_cond0 rfl ?_; refine tk_skip ?_; refine tk_then ?_; refine s_r ?_; refine s_q rfl (y_move rfl) ?_; refine tk_act rfl ?_; refine a_callv [_] _ rfl (by kernel_rfl) rfl (fun w' hw' => add_spec kb b3 0 K V 50 w' (by omega) hV (hw'.ne (hk 0 (by omega)) (fun h => h) (.tail _ (.head _))) (fun j hj => hw'.fr.cell (hk j hj) (fun h => h)) (hw'.mem (.tail _ (.head _)))) rfl fun _ _ => ?_
  refine s_n ?_; refine tk_seq ?_; refine s_r ?_; refine s_q rfl (y_assign rfl) ?_; refine s_n ?_; refine tk_block ?_; refine tk_loop (X := Nat) (fun r => r ≤ 14) (fun r => [(0, .pointer (some ⟨kb, 0, none⟩)), (3, .pointer (some ⟨b3, 0, none⟩)), (4, .pointer (some ⟨b4, 0, none⟩)), (5, I ((r + 1 : Nat) : Int))]) (fun r => [cel b4 ((List.replicate 16 0).map B) 50, cel b3 ((turnTo K V r).map B) 50]) (fun r => 14 - r) (0) (by omega) (by repeat (first | exact trivial | refine ⟨rfl, ?_⟩)) (List.Sublist.refl _) ?_
  intro r hI
  refine tk_seq ?_; refine s_r ?_; refine s_q rfl (y_move rfl) ?_; refine s_q rfl (y_leq rfl rfl) ?_; refine s_n ?_; refine tk_condP rfl (fun h12 => ?_) (fun h12 => ?_)
  · skip
    refine tk_skip ?_; refine tk_then ?_; refine tk_seq ?_; refine tk_block ?_; refine s_r ?_
    have hT := turnTo_len (K := K) (r := r) hV
    (first | refine s_q rfl (y_loadA 16 rfl (by kernel_rfl) (by simp [hV]) (hcw (.head _))) ?_ | refine s_q rfl (y_loadA 16 rfl (by kernel_rfl) (by simp [hV]) (hcw (.tail _ (.head _)))) ?_)
    refine tk_act rfl ?_; refine a_callv [] _ rfl (by kernel_rfl) rfl (fun w' hw' => shift_spec _ w' (by simp [hV])) rfl fun _ _ => ?_; refine tk_act rfl ?_; refine a_storeW (H1 := [_]) 16 rfl rfl (by kernel_rfl) rfl ⟨by simp, by simp [hT]⟩ oneB ?_; refine s_n ?_; refine tk_seq ?_; refine s_r ?_; refine s_q rfl (y_move rfl) ?_; refine s_q rfl (y_lss rfl rfl) ?_; refine s_n ?_; refine tk_condP rfl (fun h18 => ?_) (fun h18 => ?_)
    · skip
      refine tk_region ?_; refine tk_act rfl ?_; refine a_callv [_] _ rfl (by kernel_rfl) rfl (fun w' hw' => mix_spec b3 _ 50 w' (by simp) (hw'.mem (.tail _ (.head _)))) rfl fun _ _ => ?_; refine s_n ?_; refine tk_region ?_; refine s_q rfl (y_move rfl) ?_; refine s_q rfl (y_move rfl) ?_; refine tk_act rfl ?_; refine a_callv [_] _ rfl (by kernel_rfl) rfl (fun w' hw' => add_spec kb b3 (r + 1) K _ 50 w' (by omega) (by simp) (hw'.ne (hk 0 (by omega)) (fun h => h) (.tail _ (.head _))) (fun j hj => hw'.fr.cell (hk j hj) (fun h => h)) (hw'.mem (.tail _ (.head _)))) rfl fun _ _ => ?_
      refine tk_nil ?_; refine tk_in_normal ?_; refine tk_then ?_; refine tk_region ?_; refine s_q rfl (y_move rfl) ?_; refine tk_qe (I ((r + 1 + 1 : Nat) : Int)) rfl rfl rfl (y_addI rfl rfl (by omega)) (by simp) ?_; refine s_q rfl (y_assign rfl) ?_; refine tk_nil ?_
      exact tk_again (r + 1) (by omega) (by omega) (by repeat (first | exact trivial | refine ⟨rfl, ?_⟩)) (by simp only [turnTo]; (first | rw [if_pos (by omega)] | rw [if_neg (by omega)]); exact List.Sublist.refl _)
    · skip
      refine tk_skip ?_; refine tk_then ?_; refine tk_region ?_; refine s_q rfl (y_move rfl) ?_; refine s_q rfl (y_move rfl) ?_; refine tk_act rfl ?_; refine a_callv [_] _ rfl (by kernel_rfl) rfl (fun w' hw' => add_spec kb b3 (r + 1) K _ 50 w' (by omega) (by simp) (hw'.ne (hk 0 (by omega)) (fun h => h) (.tail _ (.head _))) (fun j hj => hw'.fr.cell (hk j hj) (fun h => h)) (hw'.mem (.tail _ (.head _)))) rfl fun _ _ => ?_
      refine tk_nil ?_; refine tk_in_normal ?_; refine tk_then ?_; refine tk_region ?_; refine s_q rfl (y_move rfl) ?_; refine tk_qe (I ((r + 1 + 1 : Nat) : Int)) rfl rfl rfl (y_addI rfl rfl (by omega)) (by simp) ?_; refine s_q rfl (y_assign rfl) ?_; refine tk_nil ?_
      exact tk_again (r + 1) (by omega) (by omega) (by repeat (first | exact trivial | refine ⟨rfl, ?_⟩)) (by simp only [turnTo]; (first | rw [if_pos (by omega)] | rw [if_neg (by omega)]); exact List.Sublist.refl _)
  · skip
    refine tk_exit ?_; refine tk_then_exit ?_; refine tk_then_exit ?_; refine tk_in_hit ?_; refine tk_then ?_; refine s_r ?_
    obtain rfl : r = 14 := by omega
    have hT := turnTo_len (K := K) (r := 14) hV
    (first | refine s_q rfl (y_loadA 16 rfl (by kernel_rfl) (by simp [hV]) (hcw (.head _))) ?_ | refine s_q rfl (y_loadA 16 rfl (by kernel_rfl) (by simp [hV]) (hcw (.tail _ (.head _)))) ?_)
    refine tk_act rfl ?_; refine a_storeW (H1 := []) 16 rfl rfl (by kernel_rfl) rfl ⟨by simp [hT], by simp⟩ oneB ?_; refine s_n ?_; refine tk_retc ?_
    exact tk_ret () trivial (.inl rfl) (rc rfl rfl (by simp [hT]; kernel_rfl) (hcw (.head _))) (List.nil_sublist _)
end Go.Proofs.YtkkjfojgjmglpaaGreatDoor.Cip
set_option linter.unusedSimpArgs false
set_option linter.unusedVariables false
namespace Go.Proofs.YtkkjfojgjmglpaaGreatDoor.Cip
open Go Go.RowKit
set_option maxRecDepth 100000
theorem tv_len {W : List UInt8} {n : Nat} {con : UInt8} (h : W.length = 240) (hn : n < 52) : (tv W n con).length = 4 := by
  simp only [tv]; split
  · rfl
  · split <;> simp [word_len h (show n + 7 < 60 by omega)]
set_option maxHeartbeats 1000000 in
theorem make_spec (ab ao cap : Nat) (b : List UInt8) (w : World) (hb : b.length = 32) (hcap : 32 ≤ cap) (hr : ∀ j, j < b.length → w.cell? ⟨ab, ao + j, none⟩ = some (B (b.getD j 0))) :
    Spec Tryz.prog 183 [.slice (some ⟨ab, ao, none⟩) 32 cap] w [] (fun _ : Nat => True) (fun kb => .tuple #[.pointer (some ⟨kb, 0, none⟩), I 0]) (fun kb => [cel kb ((keyW b).map B) 317]) := by
  refine spec_of (n := 110) Tryz.func183 rfl rfl trivial trivial rfl ?_; refine s_r ?_; refine s_q rfl (y_assign rfl) ?_; refine s_q rfl (y_assign rfl) ?_; refine s_n ?_; refine tk_seq ?_; refine s_r ?_; refine s_q rfl (y_move rfl) ?_; refine s_q rfl (y_lenS rfl rfl) ?_; refine tk_qe (.bool false) rfl rfl rfl (y_neq rfl rfl) (bool_f (by omega)) ?_; refine s_n ?_; refine tk_cond0 rfl ?_; refine tk_skip ?_
  refine tk_then ?_; refine s_r ?_; refine s_q rfl (y_build (v := Ag (List.replicate 240 0)) (vs := []) rfl (fun _ => by kernel_rfl)) ?_; refine tk_act rfl ?_; refine a_boxL (cs := (List.replicate 240 0).map B) rfl rfl fun b15 => ?_; refine s_q rfl (y_assign rfl) ?_; refine s_n ?_; refine tk_seq ?_; refine s_r ?_; refine s_q rfl (y_move rfl) ?_; refine s_q rfl (y_nilCheck rfl) ?_; refine s_q rfl (y_fld0 rfl (by kernel_rfl)) ?_
  refine s_q rfl (y_cutAh (m := 60) (sz := 4) rfl rfl (by kernel_rfl) (by omega)) ?_; refine s_q rfl (y_lenS rfl rfl) ?_; refine s_q rfl (y_move rfl) ?_; refine s_n ?_; refine tk_block ?_; refine tk_loop (X := Nat) (fun i => i ≤ 8) (fun i => [(0, .slice (some ⟨ab, ao, none⟩) 32 cap), (4, .pointer (some ⟨b15, 0, none⟩)), (20, I 8), (21, I (i : Int))]) (fun i => [cel b15 ((initTo b i).map B) 317]) (fun i => 8 - i) (0) (by omega) (by repeat (first | exact trivial | refine ⟨rfl, ?_⟩)) (List.Sublist.refl _) ?_
  intro i hI
  refine s_r ?_; refine s_q rfl (y_lss rfl rfl) ?_; refine s_n ?_; refine tk_seq ?_; refine tk_condP rfl (fun h22 => ?_) (fun h22 => ?_)
  · skip
    refine tk_skip ?_; refine tk_then ?_; refine tk_seq ?_; refine tk_block ?_; refine s_r ?_; refine s_q rfl (y_move rfl) ?_; refine s_q rfl (y_assign rfl) ?_; refine s_n ?_; refine tk_drawS [11] (by kernel_rfl) ?_; refine s_x 0 rfl (y_move rfl) ?_; refine s_x 1 rfl (y_move rfl) ?_; refine s_x 2 rfl (y_move rfl) ?_; refine s_x 3 rfl (y_move rfl) ?_; refine s_x 4 rfl (y_mulI rfl rfl (by omega)) ?_
    refine s_x 5 rfl ((y_cutSlN 1 (i * 4) rfl rfl (by kernel_rfl) (by omega)).cast (v := _) (u := .slice (some ⟨ab, ao + i * 4, none⟩) (32 - i * 4) (cap - i * 4)) (by simp)) ?_; refine s_x 6 rfl (y_s2a rfl rfl (by omega)) ?_; refine s_l 7 rfl (fun _ h => h) (y_loadA 4 rfl (by kernel_rfl) (by simp [hb] <;> omega) (hroB (m := 4) hr (fun h => h))) ?_; refine s_x 8 rfl (y_nilCheck rfl) ?_; refine s_x 9 rfl (y_fld0 rfl (by kernel_rfl)) ?_
    refine s_x 10 rfl ((y_ixAN 60 4 rfl rfl (by kernel_rfl) (by omega)).cast (v := _) (u := .pointer (some ⟨b15, i * 4, none⟩)) (by congr 3 <;> omega)) ?_; refine tx_x 11 rfl (by kernel_rfl) rfl rfl ?_; refine a_storeL (H1 := []) 4 rfl rfl (by kernel_rfl) rfl (by simp [hb] <;> omega) oneB (by rw [List.length_map, initTo_len hb hI] <;> omega) ?_; refine tx_done (by kernel_rfl) ?_; refine tk_in_normal ?_
    refine tk_then ?_; refine tk_region ?_; refine s_q rfl (y_addI rfl rfl (by omega)) ?_; refine s_q rfl (y_move rfl) ?_; refine tk_nil ?_
    exact tk_again (i + 1) (by omega) (by omega) (by repeat (first | exact trivial | refine ⟨rfl, ?_⟩)) (by rw [initTo_succ hb (by omega)]; simp only [List.map_append, List.map_take, List.map_drop]; exact List.Sublist.refl _)
  · skip
    refine tk_exit ?_; refine tk_then_exit ?_; refine tk_then_exit ?_; refine tk_in_hit ?_; refine tk_then ?_; refine s_r ?_; refine s_q rfl (y_assign rfl) ?_; refine s_n ?_; refine tk_seq ?_; refine s_r ?_; refine s_q rfl (y_assign rfl) ?_; refine s_n ?_; refine tk_block ?_; refine tk_loop (X := Nat) (fun n => n ≤ 52) (fun n => [(4, .pointer (some ⟨b15, 0, none⟩)), (6, B (expW b n).2), (7, I ((n + 8 : Nat) : Int))]) (fun n => [cel b15 ((expW b n).1.map B) 317]) (fun n => 52 - n) (0) (by omega) (by repeat (first | exact trivial | refine ⟨rfl, ?_⟩)) (by have e : i = 8 := (by omega); subst e; exact List.Sublist.refl _) ?_
    intro n hI
    refine tk_seq ?_; refine s_r ?_; refine s_q rfl (y_move rfl) ?_; refine s_q rfl (y_lss rfl rfl) ?_; refine s_n ?_; refine tk_condP rfl (fun h37 => ?_) (fun h37 => ?_)
    · skip
      refine tk_skip ?_; refine tk_then ?_; refine tk_seq ?_; refine tk_block ?_; refine s_r ?_; refine s_q rfl (y_move rfl) ?_; refine s_q rfl (y_move rfl) ?_; refine tk_qe (I ((n + 7 : Nat) : Int)) rfl rfl rfl (y_subI rfl rfl (by omega)) (by congr 1 <;> omega) ?_; refine s_q rfl (y_nilCheck rfl) ?_; refine s_q rfl (y_fld0 rfl (by kernel_rfl)) ?_; refine tk_qe (.pointer (some ⟨b15, (n + 7) * 4, none⟩)) rfl rfl rfl (y_ixAI 60 4 (n + 7) rfl rfl (by kernel_rfl) (by omega)) (by congr 3 <;> omega) ?_
      refine s_q rfl (y_loadA 4 rfl (by kernel_rfl) (by simp [hb] <;> omega) (hcsB (m := 4) (.head _))) ?_; refine tk_act rfl ?_; refine a_allocL (cs := (List.replicate 4 0).map B) (by kernel_rfl) rfl fun b8 => ?_; refine tk_act rfl ?_; refine a_storeW (H1 := []) 4 rfl rfl (by kernel_rfl) rfl ⟨by simp [hb] <;> omega, by simp⟩ oneB ?_; refine s_n ?_; refine tk_seqI (X := Unit) (fun _ => True) (fun _ => [(4, .pointer (some ⟨b15, 0, none⟩)), (6, B (conN (expW b n).2 n)), (7, I ((n + 8 : Nat) : Int)), (8, .pointer (some ⟨b8, 0, none⟩))]) (fun _ => [cel b8 ((tv (expW b n).1 n (expW b n).2).map B) 314, cel b15 ((expW b n).1.map B) 317]) ?_ ?_
      · skip
        refine s_r ?_; refine s_q rfl (y_move rfl) ?_; refine s_q rfl (y_remI rfl rfl (by omega)) ?_; refine s_n ?_; refine tk_block ?_; refine s_r ?_; refine s_q rfl (y_eql rfl rfl) ?_; refine s_q rfl (y_assign rfl) ?_; refine s_n ?_; refine tk_condP rfl (fun h49 => ?_) (fun h49 => ?_)
        · skip
          refine tk_seq ?_; refine tk_drawS [19] (by kernel_rfl) ?_
          (first | refine s_x 1 rfl (y_ixA01 4 (i := 1) rfl rfl (by kernel_rfl) (by omega)) ?_ | refine s_x 1 rfl (y_ixAN1 4 (i := 1) rfl rfl (by kernel_rfl) (by omega)) ?_)
          refine s_l 2 rfl (fun _ h => h) (y_load rfl rfl (hc (.head _) (getB (by simp [word, hb] <;> omega)))) ?_; refine s_x 4 rfl (y_move rfl) ?_
          (first | refine s_x 7 rfl (y_ixA01 4 (i := 2) rfl rfl (by kernel_rfl) (by omega)) ?_ | refine s_x 7 rfl (y_ixAN1 4 (i := 2) rfl rfl (by kernel_rfl) (by omega)) ?_)
          refine s_l 8 rfl (fun _ h => h) (y_load rfl rfl (hc (.head _) (getB (by simp [word, hb] <;> omega)))) ?_
          (first | refine s_x 11 rfl (y_ixA01 4 (i := 3) rfl rfl (by kernel_rfl) (by omega)) ?_ | refine s_x 11 rfl (y_ixAN1 4 (i := 3) rfl rfl (by kernel_rfl) (by omega)) ?_)
          refine s_l 12 rfl (fun _ h => h) (y_load rfl rfl (hc (.head _) (getB (by simp [word, hb] <;> omega)))) ?_
          (first | refine s_x 15 rfl (y_ixA01 4 (i := 0) rfl rfl (by kernel_rfl) (by omega)) ?_ | refine s_x 15 rfl (y_ixAN1 4 (i := 0) rfl rfl (by kernel_rfl) (by omega)) ?_)
          refine s_l 16 rfl (fun _ h => h) (y_load rfl rfl (hc (.head _) (getB (by simp [word, hb] <;> omega)))) ?_; refine tx_a 0 rfl (by kernel_rfl) rfl ?_; refine a_callv [] _ rfl (by kernel_rfl) rfl (fun w' hw' => forward_spec w') rfl fun _ _ => ?_; refine tk_S (fun _ h => h) ?_; refine s_x 3 rfl (y_ixV rfl rfl rfl rfl (fun _ => by kernel_rfl) (ixb _) getF) ?_; refine s_x 5 rfl (y_xor8 rfl rfl) ?_
          refine tx_a 6 rfl (by kernel_rfl) rfl ?_; refine a_callv [] _ rfl (by kernel_rfl) rfl (fun w' hw' => forward_spec w') rfl fun _ _ => ?_; refine tk_S (fun _ h => h) ?_; refine s_x 9 rfl (y_ixV rfl rfl rfl rfl (fun _ => by kernel_rfl) (ixb _) getF) ?_; refine tx_a 10 rfl (by kernel_rfl) rfl ?_; refine a_callv [] _ rfl (by kernel_rfl) rfl (fun w' hw' => forward_spec w') rfl fun _ _ => ?_; refine tk_S (fun _ h => h) ?_
          refine s_x 13 rfl (y_ixV rfl rfl rfl rfl (fun _ => by kernel_rfl) (ixb _) getF) ?_; refine tx_a 14 rfl (by kernel_rfl) rfl ?_; refine a_callv [] _ rfl (by kernel_rfl) rfl (fun w' hw' => forward_spec w') rfl fun _ _ => ?_; refine tk_S (fun _ h => h) ?_; refine s_x 17 rfl (y_ixV rfl rfl rfl rfl (fun _ => by kernel_rfl) (ixb _) getF) ?_; refine s_x 18 rfl (y_build (v := Ag (tvA (word (expW b n).1 (n + 7)) (expW b n).2)) rfl (fun _ => by kernel_rfl)) ?_
          refine tx_x 19 rfl (by kernel_rfl) rfl rfl ?_; refine a_storeW (H1 := []) 4 rfl rfl (by kernel_rfl) rfl ⟨by simp [tvA], by simp [word, hb] <;> omega⟩ oneB ?_; refine tx_done (by kernel_rfl) ?_; refine tk_then ?_; refine tk_region ?_; refine s_q rfl (y_move rfl) ?_; refine s_q rfl (y_shl8 (m := 1) rfl rfl (by decide)) ?_; refine tk_qe (B (conN (expW b n).2 n)) rfl rfl rfl (y_assign rfl) (by rw [conN, if_pos (by omega)]) ?_
          refine tk_nil ?_; refine tk_in_normal ?_; refine tk_to () trivial ⟨rfl, ?_, rfl, rfl, trivial⟩ ?_
          · (first | rfl | (simp only [conN]; rw [if_pos (by omega)]; rfl) | (simp only [conN]; rw [if_neg (by omega)]; rfl))
          · (simp only [tv]; first | (rw [if_neg (by omega), if_pos (by omega)]; have e : j = 4 := (by omega); subst e; exact List.Sublist.refl _) | (rw [if_pos (by omega)]; exact List.Sublist.refl _) | (rw [if_neg (by omega), if_pos (by omega)]; exact List.Sublist.refl _) | (rw [if_neg (by omega), if_neg (by omega)]; exact List.Sublist.refl _))
        · skip
          refine s_r ?_; refine s_q rfl (y_eql rfl rfl) ?_; refine s_q rfl (y_assign rfl) ?_; refine s_n ?_; refine tk_condP rfl (fun h72 => ?_) (fun h72 => ?_)
          · skip
            refine s_r ?_; refine s_q rfl (y_move rfl) ?_; refine s_n ?_; refine tk_block ?_; refine tk_loop (X := Nat) (fun j => j ≤ 4) (fun j => [(4, .pointer (some ⟨b15, 0, none⟩)), (6, B (expW b n).2), (7, I ((n + 8 : Nat) : Int)), (8, .pointer (some ⟨b8, 0, none⟩)), (74, I (j : Int))]) (fun j => [cel b8 ((subTo (word (expW b n).1 (n + 7)) j).map B) 314, cel b15 ((expW b n).1.map B) 317]) (fun j => 4 - j) (0) (by omega) (by repeat (first | exact trivial | refine ⟨rfl, ?_⟩)) (List.Sublist.refl _) ?_
            intro j hI2
            refine s_r ?_; refine s_q rfl (y_lss rfl rfl) ?_; refine s_n ?_; refine tk_seq ?_; refine tk_condP rfl (fun h75 => ?_) (fun h75 => ?_)
            · skip
              refine tk_skip ?_; refine tk_then ?_; refine tk_seq ?_; refine tk_block ?_; refine s_r ?_; refine s_q rfl (y_move rfl) ?_; refine s_q rfl (y_assign rfl) ?_; refine s_n ?_; refine tk_drawS [7] (by kernel_rfl) ?_; refine s_x 0 rfl (y_move rfl) ?_; refine s_x 2 rfl (y_move rfl) ?_
              (first | refine s_x 3 rfl (y_ixA01 4 rfl rfl (by kernel_rfl) (by omega)) ?_ | refine s_x 3 rfl (y_ixAN1 4 rfl rfl (by kernel_rfl) (by omega)) ?_)
              refine s_l 4 rfl (fun _ h => h) (y_load rfl rfl (hc (.head _) (getB (by simp [word, hb] <;> omega)))) ?_; refine tx_a 1 rfl (by kernel_rfl) rfl ?_; refine a_callv [] _ rfl (by kernel_rfl) rfl (fun w' hw' => forward_spec w') rfl fun _ _ => ?_; refine tk_S (fun _ h => h) ?_; refine s_x 5 rfl (y_ixV rfl rfl rfl rfl (fun _ => by kernel_rfl) (ixb _) getF) ?_
              (first | refine s_x 6 rfl (y_ixA01 4 rfl rfl (by kernel_rfl) (by omega)) ?_ | refine s_x 6 rfl (y_ixAN1 4 rfl rfl (by kernel_rfl) (by omega)) ?_)
              refine tx_x 7 rfl (by kernel_rfl) rfl rfl ?_; (first | refine a_store1B (H1 := []) rfl rfl (by kernel_rfl) rfl (by simp [word, hb] <;> omega) ?_ | refine a_store1B (H1 := [_]) rfl rfl (by kernel_rfl) rfl (by simp [word, hb] <;> omega) ?_)
              refine tx_done (by kernel_rfl) ?_; refine tk_in_normal ?_; refine tk_then ?_; refine tk_region ?_; refine s_q rfl (y_addI rfl rfl (by omega)) ?_; refine s_q rfl (y_move rfl) ?_; refine tk_nil ?_
              exact tk_again (j + 1) (by omega) (by omega) (by repeat (first | exact trivial | refine ⟨rfl, ?_⟩)) (List.Sublist.refl _)
            · skip
              refine tk_exit ?_; refine tk_then_exit ?_; refine tk_then_exit ?_; refine tk_in_hit ?_; refine tk_in_normal ?_; refine tk_to () trivial ⟨rfl, ?_, rfl, rfl, trivial⟩ ?_
              · (first | rfl | (simp only [conN]; rw [if_pos (by omega)]; rfl) | (simp only [conN]; rw [if_neg (by omega)]; rfl))
              · (simp only [tv]; first | (rw [if_neg (by omega), if_pos (by omega)]; have e : j = 4 := (by omega); subst e; exact List.Sublist.refl _) | (rw [if_pos (by omega)]; exact List.Sublist.refl _) | (rw [if_neg (by omega), if_pos (by omega)]; exact List.Sublist.refl _) | (rw [if_neg (by omega), if_neg (by omega)]; exact List.Sublist.refl _))
          · skip
            refine tk_skip ?_; refine tk_in_normal ?_; refine tk_to () trivial ⟨rfl, ?_, rfl, rfl, trivial⟩ ?_
            · (first | rfl | (simp only [conN]; rw [if_pos (by omega)]; rfl) | (simp only [conN]; rw [if_neg (by omega)]; rfl))
            · (simp only [tv]; first | (rw [if_neg (by omega), if_pos (by omega)]; have e : j = 4 := (by omega); subst e; exact List.Sublist.refl _) | (rw [if_pos (by omega)]; exact List.Sublist.refl _) | (rw [if_neg (by omega), if_pos (by omega)]; exact List.Sublist.refl _) | (rw [if_neg (by omega), if_neg (by omega)]; exact List.Sublist.refl _))
      · intro _ _
        refine s_r ?_; refine s_q rfl (y_move rfl) ?_; refine s_n ?_; refine tk_block ?_; refine tk_loop (X := Nat) (fun j => j ≤ 4) (fun j => [(4, .pointer (some ⟨b15, 0, none⟩)), (6, B (conN (expW b n).2 n)), (7, I ((n + 8 : Nat) : Int)), (8, .pointer (some ⟨b8, 0, none⟩)), (85, I (j : Int))]) (fun j => [cel b8 ((tv (expW b n).1 n (expW b n).2).map B) 314, cel b15 ((putTo (expW b n).1 n (tv (expW b n).1 n (expW b n).2) j).map B) 317]) (fun j => 4 - j) (0) (by omega) (by repeat (first | exact trivial | refine ⟨rfl, ?_⟩)) (List.Sublist.refl _) ?_
        intro j hI2
        refine s_r ?_; refine s_q rfl (y_lss rfl rfl) ?_; refine s_n ?_; refine tk_seq ?_; refine tk_condP rfl (fun h86 => ?_) (fun h86 => ?_)
        · skip
          refine tk_skip ?_; refine tk_then ?_; refine tk_seq ?_; refine tk_block ?_; refine s_r ?_; refine s_q rfl (y_move rfl) ?_; refine s_q rfl (y_assign rfl) ?_; refine s_n ?_; refine tk_drawS [20] (by kernel_rfl) ?_; refine s_x 0 rfl (y_move rfl) ?_; refine s_x 1 rfl (y_move rfl) ?_; refine s_x 2 rfl (y_move rfl) ?_; refine s_x 3 rfl (y_move rfl) ?_; refine s_x 4 rfl (y_move rfl) ?_; refine s_x 5 rfl (y_subI rfl rfl (by omega)) ?_
          refine s_x 6 rfl (y_move rfl) ?_; refine s_x 7 rfl (y_nilCheck rfl) ?_; refine s_x 8 rfl (y_fld0 rfl (by kernel_rfl)) ?_; refine s_x 9 rfl ((y_ixAI 60 4 n rfl rfl (by kernel_rfl) (by omega)).cast (v := _) (u := .pointer (some ⟨b15, n * 4, none⟩)) (by congr 3 <;> omega)) ?_
          (first | refine s_x 10 rfl (y_ixA01 4 rfl rfl (by kernel_rfl) (by omega)) ?_ | refine s_x 10 rfl (y_ixAN1 4 rfl rfl (by kernel_rfl) (by omega)) ?_)
          refine s_l 11 rfl (fun _ h => h) (y_load rfl rfl (hc (.tail _ (.head _)) (getB (by simp [hb] <;> omega)))) ?_; refine s_x 12 rfl (y_move rfl) ?_
          (first | refine s_x 13 rfl (y_ixA01 4 rfl rfl (by kernel_rfl) (by omega)) ?_ | refine s_x 13 rfl (y_ixAN1 4 rfl rfl (by kernel_rfl) (by omega)) ?_)
          refine s_l 14 rfl (fun _ h => h) (y_load rfl rfl (hc (.head _) (getB (by rw [tv_len (expW_len hb) (by omega)] <;> omega)))) ?_; refine s_x 15 rfl (y_xor8 rfl rfl) ?_; refine s_x 16 rfl (y_nilCheck rfl) ?_; refine s_x 17 rfl (y_fld0 rfl (by kernel_rfl)) ?_; refine s_x 18 rfl ((y_ixAN 60 4 rfl rfl (by kernel_rfl) (by omega)).cast (v := _) (u := .pointer (some ⟨b15, (n + 8) * 4, none⟩)) (by congr 3 <;> omega)) ?_
          (first | refine s_x 19 rfl (y_ixA01 4 rfl rfl (by kernel_rfl) (by omega)) ?_ | refine s_x 19 rfl (y_ixAN1 4 rfl rfl (by kernel_rfl) (by omega)) ?_)
          refine tx_x 20 rfl (by kernel_rfl) rfl rfl ?_; refine a_store1B (H1 := [_]) rfl rfl (by kernel_rfl) rfl (by simp [hb] <;> omega) ?_; refine tx_done (by kernel_rfl) ?_; refine tk_in_normal ?_; refine tk_then ?_; refine tk_region ?_; refine s_q rfl (y_addI rfl rfl (by omega)) ?_; refine s_q rfl (y_move rfl) ?_; refine tk_nil ?_
          exact tk_again (j + 1) (by omega) (by omega) (by repeat (first | exact trivial | refine ⟨rfl, ?_⟩)) (List.Sublist.refl _)
        · skip
          refine tk_exit ?_; refine tk_then_exit ?_; refine tk_then_exit ?_; refine tk_in_hit ?_; refine tk_in_normal ?_; refine tk_then ?_; refine tk_region ?_; refine s_q rfl (y_move rfl) ?_; refine tk_qe (I ((n + 1 + 8 : Nat) : Int)) rfl rfl rfl (y_addI rfl rfl (by omega)) (by congr 1 <;> omega) ?_; refine s_q rfl (y_assign rfl) ?_; refine tk_nil ?_
          exact tk_again (n + 1) (by omega) (by omega) (by repeat (first | exact trivial | refine ⟨rfl, ?_⟩)) (by have e : j = 4 := (by omega); subst e; exact List.Sublist.cons _ (List.Sublist.refl _))
    · skip
      refine tk_exit ?_; refine tk_then_exit ?_; refine tk_then_exit ?_; refine tk_in_hit ?_; refine tk_then ?_; refine s_r ?_
      obtain rfl : n = 52 := by omega
      refine s_q rfl (y_move rfl) ?_; refine s_q rfl (y_assign rfl) ?_; refine s_q rfl (y_assign rfl) ?_; refine s_n ?_; refine tk_retc ?_
      exact tk_ret b15 trivial (.inl rfl) (r2 rfl rfl rfl) (List.Sublist.refl _)
end Go.Proofs.YtkkjfojgjmglpaaGreatDoor.Cip
set_option linter.unusedSimpArgs false
set_option linter.unusedVariables false
namespace Go.Proofs.YtkkjfojgjmglpaaGreatDoor.Cip
open Go Go.RowKit
set_option maxRecDepth 100000
theorem list16 {l : List UInt8} (h : l.length = 16) : ∃ a0 a1 a2 a3 a4 a5 a6 a7 a8 a9 a10 a11 a12 a13 a14 a15, l = [a0, a1, a2, a3, a4, a5, a6, a7, a8, a9, a10, a11, a12, a13, a14, a15] := by
  match l, h with
  | [a0, a1, a2, a3, a4, a5, a6, a7, a8, a9, a10, a11, a12, a13, a14, a15], _ => exact ⟨a0, a1, a2, a3, a4, a5, a6, a7, a8, a9, a10, a11, a12, a13, a14, a15, rfl⟩
def flowCs (kb : Nat) (N : List UInt8) (a : Int) : List Value := .pointer (some ⟨kb, 0, none⟩) :: (N.map B ++ [I a])
theorem begin_spec (kb : Nat) (N : List UInt8) (w : World) (hN : N.length = 16) :
    Spec Tryz.prog 184 [.pointer (some ⟨kb, 0, none⟩), Ag N] w [] (fun _ : Nat => True) (fun fb => .tuple #[.pointer (some ⟨fb, 0, none⟩), I 0]) (fun fb => [cel fb (flowCs kb N 0) 290]) := by
  obtain ⟨a0, a1, a2, a3, a4, a5, a6, a7, a8, a9, a10, a11, a12, a13, a14, a15, rfl⟩ := list16 hN
  refine spec_of (n := 12) Tryz.func184 rfl rfl trivial trivial rfl ?_; refine s_r ?_; refine tk_act rfl ?_; refine a_boxL rfl rfl fun b3 => ?_; refine s_q rfl (y_assign rfl) ?_; refine s_q rfl (y_assign rfl) ?_; refine s_n ?_; refine tk_seq ?_; refine s_r ?_; refine s_q rfl (y_move rfl) ?_; refine tk_qe (.bool false) rfl rfl rfl (y_pnil rfl rfl rfl) (rfl) ?_; refine s_n ?_; refine tk_cond0 rfl ?_; refine tk_skip ?_
  refine tk_then ?_; refine s_r ?_; refine s_q rfl (y_move rfl) ?_; refine s_q rfl (y_loadA 16 rfl (by kernel_rfl) (by rfl) (hcw (.head _))) ?_; refine s_q rfl (y_build (v := .agg (flowCs kb [a0, a1, a2, a3, a4, a5, a6, a7, a8, a9, a10, a11, a12, a13, a14, a15] 0).toArray) rfl (fun _ => by kernel_rfl)) ?_; refine tk_act rfl ?_; refine a_boxL rfl rfl fun b11 => ?_; refine s_q rfl (y_assign rfl) ?_; refine s_q rfl (y_assign rfl) ?_
  refine s_n ?_; refine tk_retc ?_
  exact tk_ret b11 trivial (.inl rfl) (r2 rfl rfl rfl) (List.Sublist.cons_cons _ (List.nil_sublist _))
theorem hroA {c : Cx} {H : List Res} {b q : Nat} {l : List UInt8} (h0 : ∀ j, j < l.length → c.w0.cell? ⟨b, q + j, none⟩ = some (B (l.getD j 0))) (hE : ¬ c.E b) : ∀ w, St c w H → ∀ (j : Nat) (u : Value), (l.map B)[j]? = some u → w.cell? ((⟨b, q, none⟩ : Addr).add j) = some u := fun w hw j u hj => by
  rw [add_w]
  rw [List.getElem?_map] at hj
  cases hl : l[j]? with
  | none => rw [hl] at hj; cases hj
  | some a =>
    rw [hl] at hj; cases hj
    have := hw.fr.cell (h0 j (List.getElem?_eq_some_iff.1 hl).1) hE
    rw [List.getD_eq_getElem?_getD, hl] at this
    exact this
set_option maxHeartbeats 400000 in
theorem block_spec (fb kb n : Nat) (K N : List UInt8) (w : World) (hN : N.length = 16) (hn : n < 2 ^ 63) (hf0 : w.cell? ⟨fb, 0, none⟩ = some (.pointer (some ⟨kb, 0, none⟩))) (hfn : ∀ j, j < N.length → w.cell? ⟨fb, 1 + j, none⟩ = some (B (N.getD j 0)))
    (hk : ∀ j, j < 240 → w.cell? ⟨kb, j, none⟩ = some (B (K.getD j 0))) :
    Spec Tryz.prog 185 [.pointer (some ⟨fb, 0, none⟩), I (n : Int)] w [] (fun _ : Unit => True) (fun _ => Ag (turn K (plus N n))) (fun _ => []) := by
  refine spec_of (n := 40) Tryz.func185 rfl rfl trivial trivial rfl ?_; refine s_r ?_; refine tk_act rfl ?_; refine a_allocL (cs := (List.replicate 16 0).map B) (by kernel_rfl) rfl fun b4 => ?_; refine s_n ?_; refine s_r ?_; refine s_q rfl (y_move rfl) ?_; refine s_q rfl (y_nilCheck rfl) ?_; refine tk_qe (.pointer (some ⟨fb, 1, none⟩)) rfl rfl rfl (y_fldN 1 rfl (by kernel_rfl)) (rfl) ?_; refine s_q rfl (y_loadA 16 rfl (by kernel_rfl) (by simp [hN]) (hroA hfn (fun h => h))) ?_
  refine tk_act rfl ?_; refine a_allocL (cs := (List.replicate 16 0).map B) (by kernel_rfl) rfl fun b5 => ?_; refine tk_act rfl ?_; refine a_storeW (H1 := []) 16 rfl rfl (by kernel_rfl) rfl ⟨by simp [hN], by simp⟩ oneB ?_; refine s_n ?_; refine s_r ?_; refine s_q rfl (y_move rfl) ?_; refine s_q rfl (y_convi64 rfl rfl rfl (wrap_u64 (by omega))) ?_; refine s_q rfl (y_assign rfl) ?_; refine s_n ?_; refine tk_seqI (X := Unit) (fun _ => True) (fun _ => [(0, .pointer (some ⟨fb, 0, none⟩)), (4, .pointer (some ⟨b4, 0, none⟩)), (5, .pointer (some ⟨b5, 0, none⟩))]) (fun _ => [cel b5 ((plus N n).map B) 50, cel b4 ((List.replicate 16 0).map B) 50]) ?_ ?_
  · skip
    refine s_r ?_; refine s_q rfl (y_assign rfl) ?_; refine s_n ?_; refine tk_block ?_; refine tk_loop (X := Nat) (fun k => k ≤ 16) (fun k => [(0, .pointer (some ⟨fb, 0, none⟩)), (4, .pointer (some ⟨b4, 0, none⟩)), (5, .pointer (some ⟨b5, 0, none⟩)), (6, .int .u64 ((plusTo N n k).2 : Int)), (7, I (15 - (k : Int)))]) (fun k => [cel b5 ((plusTo N n k).1.map B) 50, cel b4 ((List.replicate 16 0).map B) 50]) (fun k => 16 - k) (0) (by omega) (by repeat (first | exact trivial | refine ⟨rfl, ?_⟩)) (List.Sublist.refl _) ?_
    intro k hI
    have hcr := plusTo_lt (N := N) (n := n) (k := k) hn
    have hb8 := b_lt ((plusTo N n k).1.getD (15 - k) 0)
    refine tk_seq ?_; refine s_r ?_; refine s_q rfl (y_move rfl) ?_; refine tk_qs rfl rfl rfl (y_geq rfl rfl) (fun hs4_1 => ?_) (fun hs4_1 => ?_)
    · skip
      refine s_q rfl (y_move rfl) ?_; refine s_g rfl (y_move rfl) ?_; refine tk_gqs rfl rfl rfl (y_gtr rfl rfl) (fun hs4_4 => ?_) (fun hs4_4 => ?_)
      · skip
        refine s_q rfl (y_pick1 rfl rfl) ?_; refine s_n ?_; refine tk_cond1 rfl ?_; refine tk_skip ?_; refine tk_then ?_; refine tk_seq ?_; refine tk_block ?_; refine s_r ?_; refine s_q rfl (y_move rfl) ?_; refine s_q rfl (y_move rfl) ?_; refine s_q rfl (y_ixA0I 16 (15 - k) rfl rfl (by kernel_rfl) (by omega)) ?_; refine s_q rfl (y_load rfl rfl (hc (.head _) (getB (by simp [hN] <;> omega)))) ?_; refine s_q rfl (y_convi64 rfl rfl rfl (wrap_u64 (by omega))) ?_
        refine s_q rfl (y_addU rfl rfl (by omega)) ?_; refine s_q rfl (y_assign rfl) ?_; refine s_n ?_; refine s_r ?_; refine s_q rfl (y_move rfl) ?_; refine s_q rfl (y_move rfl) ?_; refine s_q rfl (y_convi8 rfl rfl rfl) ?_; refine s_q rfl (y_ixA0I 16 (15 - k) rfl rfl (by kernel_rfl) (by omega)) ?_; refine tk_act rfl ?_; (first | refine a_store1B (H1 := []) rfl rfl (by kernel_rfl) rfl (by simp [hN] <;> omega) ?_ | refine a_store1B (H1 := [_]) rfl rfl (by kernel_rfl) rfl (by simp [hN] <;> omega) ?_)
        refine s_n ?_; refine tk_region ?_; refine s_q rfl (y_move rfl) ?_; refine s_q rfl (y_shrN (m := 8) rfl rfl (by decide)) ?_; refine s_q rfl (y_assign rfl) ?_; refine tk_nil ?_; refine tk_in_normal ?_; refine tk_then ?_; refine tk_region ?_; refine s_q rfl (y_move rfl) ?_; refine tk_qe (I (15 - ((k + 1 : Nat) : Int))) rfl rfl rfl (y_subI rfl rfl (by omega)) (by congr 1; omega) ?_; refine s_q rfl (y_assign rfl) ?_
        refine tk_nil ?_; refine tk_again (k + 1) (by omega) (by omega) ⟨rfl, rfl, rfl, ?_, rfl, trivial⟩ ?_
        · simp only [plusTo]; rw [if_neg (by omega)]; rfl
        · simp only [plusTo]; rw [if_neg (by omega)]; exact List.Sublist.refl _
      · skip
        refine s_q rfl (y_pick1 rfl rfl) ?_; refine s_n ?_; refine tk_cond0 rfl ?_; refine tk_exit ?_; refine tk_then_exit ?_; refine tk_then_exit ?_; refine tk_in_hit ?_; refine tk_to () trivial (by repeat (first | exact trivial | refine ⟨rfl, ?_⟩)) (by rw [plus_at (k := k) (by omega) (by omega)]; exact List.Sublist.refl _)
    · skip
      refine s_q rfl (y_move rfl) ?_; refine tk_gno rfl rfl rfl ?_; refine tk_gno rfl rfl rfl ?_; refine s_q rfl (y_pick0 rfl rfl) ?_; refine s_n ?_; refine tk_cond0 rfl ?_; refine tk_exit ?_; refine tk_then_exit ?_; refine tk_then_exit ?_; refine tk_in_hit ?_; refine tk_to () trivial (by repeat (first | exact trivial | refine ⟨rfl, ?_⟩)) (by rw [plus_at (k := k) (by omega) (by omega)]; exact List.Sublist.refl _)
  · intro _ _
    refine tk_seq ?_; refine tk_drawS [5, 6] (by kernel_rfl) ?_; refine s_x 0 rfl (y_move rfl) ?_; refine s_x 1 rfl (y_nilCheck rfl) ?_; refine s_x 2 rfl (y_fld0 rfl (by kernel_rfl)) ?_; refine s_l 3 rfl (fun _ h => h) (y_load rfl rfl (hro hf0 (fun h => h))) ?_
    (first | refine s_l 4 rfl (fun _ h => h) (y_loadA 16 rfl (by kernel_rfl) (by simp [hN]) (hcw (.head _))) ?_ | refine s_l 4 rfl (fun _ h => h) (y_loadA 16 rfl (by kernel_rfl) (by simp [hN]) (hcw (.tail _ (.head _)))) ?_)
    refine tx_x 5 rfl (by kernel_rfl) rfl rfl ?_; refine a_callv [] _ rfl (by kernel_rfl) rfl (fun w' hw' => turn_spec kb K _ w' (by simp [hN]) (fun j hj => hw'.fr.cell (hk j hj) (fun h => h))) rfl fun _ _ => ?_; refine tx_x 6 rfl (by kernel_rfl) rfl rfl ?_; refine a_storeW (H1 := [_]) 16 rfl rfl (by kernel_rfl) rfl ⟨by simp [hN], by simp⟩ oneB ?_; refine tx_done (by kernel_rfl) ?_; refine tk_then ?_
    refine tk_retc ?_
    exact tk_ret () trivial (.inl rfl) (rc rfl rfl (by simp [hN]; kernel_rfl) (hcw (.tail _ (.head _)))) (List.nil_sublist _)
end Go.Proofs.YtkkjfojgjmglpaaGreatDoor.Cip
set_option linter.unusedSimpArgs false
set_option linter.unusedVariables false
namespace Go.Proofs.YtkkjfojgjmglpaaGreatDoor.Cip
open Go Go.RowKit
set_option maxRecDepth 100000
attribute [local irreducible] turn plus keyW hideL
theorem el5 : elB Tryz.prog 42 5 1 1 := ⟨by kernel_rfl, _, .int .u8 0, rfl, by kernel_rfl, rfl, by kernel_rfl, by kernel_rfl, Nat.one_pos⟩
theorem fl17 {kb : Nat} {N : List UInt8} {a : Int} (h : N.length = 16) : (flowCs kb N a)[17]? = some (I a) := by
  simp [flowCs, List.getElem?_append_right, h]
theorem flN {kb : Nat} {N : List UInt8} {a : Int} {j : Nat} (hj : j < N.length) : (flowCs kb N a)[1 + j]? = some (B (N.getD j 0)) := by
  rw [Nat.add_comm]; simp [flowCs, List.getElem?_append_left, hj, List.getD_eq_getElem?_getD]
theorem fl_set {kb : Nat} {N : List UInt8} {a b : Int} (h : N.length = 16) : (flowCs kb N a).set 17 (I b) = flowCs kb N b := by
  simp [flowCs, List.set_append, h]
theorem take_snoc {l : List UInt8} {j : Nat} {x : UInt8} (h : l[j]? = some x) : l.take (j + 1) = l.take j ++ [x] := by rw [List.take_add_one, h]; rfl
theorem len_snoc {l : List UInt8} {x : UInt8} : (l ++ [x]).length = l.length + 1 := by simp
theorem own_snoc {v : Value} {K N : List UInt8} {a : Nat} {l : List UInt8} {x : UInt8} {e : TypeId} :
    ownB v (hideL K N a (l ++ [x])) e = own v ((hideL K N a l).length + 1) ((hideL K N a l).map B ++ [B (x ^^^ flowB K N (a + l.length))]) e 1 := by
  simp only [ownB, hideL_snoc, List.length_append, List.map_append]; rfl
set_option maxHeartbeats 1000000 in
theorem hide_spec (fb kb a : Nat) (K N : List UInt8) (v : Value) (Ps : List (Value × List UInt8)) (w : World) (hN : N.length = 16) (hfl : (cel fb (flowCs kb N a) 290).holds w) (hkb : kb ≠ fb)
    (hk : ∀ j, j < 240 → w.cell? ⟨kb, j, none⟩ = some (B (K.getD j 0))) (hps : RdS w v (Ps.map Prod.fst)) (hpe : Ps = [] ∨ (adOf v).block ≠ fb) (hpr : ∀ p ∈ Ps, RdB w p.1 p.2 ∧ (p.2 = [] ∨ (adOf p.1).block ≠ fb))
    (ha : a < 2 ^ 61) (hb : (Ps.flatMap Prod.snd).length < 2 ^ 46) (hpl : Ps.length < 2 ^ 61) :
    Spec Tryz.prog 151 [.pointer (some ⟨fb, 0, none⟩), v] w [cel fb (flowCs kb N a) 290] (fun _ : Value => True) (fun vo => vo)
      (fun vo => [ownB vo (hideL K N a (Ps.flatMap Prod.snd)) 5, cel fb (flowCs kb N ((a + (Ps.flatMap Prod.snd).length : Nat) : Int)) 290]) := by
  refine spec_of (n := 62) Tryz.func151 rfl rfl ⟨hfl, trivial⟩ ⟨fun _ _ h => h, trivial⟩ rfl ?_; refine s_r ?_; refine s_q rfl (y_assign rfl) ?_; refine s_n ?_; refine tk_seq ?_; refine s_r ?_; refine s_q rfl (y_move rfl) ?_; refine tk_qe (.bool false) rfl rfl rfl (y_pnil rfl rfl rfl) (rfl) ?_; refine s_n ?_; refine tk_cond0 rfl ?_; refine tk_skip ?_; refine tk_then ?_; refine s_r ?_; refine s_q rfl (y_assign rfl) ?_
  refine s_n ?_; refine s_r ?_; refine s_q rfl (y_build (v := Ag (List.replicate 16 0)) (vs := []) rfl (fun _ => by kernel_rfl)) ?_; refine tk_act rfl ?_; refine a_allocL (cs := (List.replicate 16 0).map B) (by kernel_rfl) rfl fun b6 => ?_; refine tk_act rfl ?_; refine a_storeW (H1 := []) 16 rfl rfl (by kernel_rfl) rfl ⟨by simp, by simp⟩ oneB ?_; refine s_q rfl (y_assign rfl) ?_; refine s_n ?_; refine tk_seq ?_
  refine s_r ?_; refine tk_own0 5 ?_; refine tk_perm (H' := [cel b6 ((List.replicate 16 0).map B) 50, own (.slice none 0 0) 0 [] 5 1, cel fb (flowCs kb N a) 290]) (List.Perm.swap _ _ _) ?_; refine s_q rfl (y_move rfl) ?_; refine tk_qe (I (Ps.length : Int)) rfl rfl rfl (y_lenR rfl hps rfl) (by rw [List.length_map]) ?_; refine s_q rfl (y_move rfl) ?_; refine s_n ?_; refine tk_block ?_; refine tk_loop (X := Nat × Value × Int × List UInt8) (fun x => x.1 ≤ Ps.length ∧ x.2.2.2.length = 16 ∧ (x.2.2.1 = -1 ∨ ∃ q : Nat, x.2.2.1 = (q : Int) ∧ x.2.2.2 = turn K (plus N q))) (fun x => [(0, .pointer (some ⟨fb, 0, none⟩)), (5, x.2.1), (6, .pointer (some ⟨b6, 0, none⟩)), (7, I x.2.2.1), (16, v), (17, I (Ps.length : Int)), (18, I (x.1 : Int))]) (fun x => [cel b6 ((x.2.2.2).map B) 50, ownB x.2.1 (hideL K N a ((Ps.take x.1).flatMap Prod.snd)) 5, cel fb (flowCs kb N ((a + ((Ps.take x.1).flatMap Prod.snd).length : Nat) : Int)) 290]) (fun x => Ps.length - x.1) ((0, .slice none 0 0, -1, List.replicate 16 0)) (⟨Nat.zero_le _, by simp, .inl rfl⟩) (by repeat (first | exact trivial | refine ⟨rfl, ?_⟩)) (by show List.Sublist [_, ownB (.slice none 0 0) (hideL K N a []) 5, _] _; rw [hideL_nil]; exact List.Sublist.refl _) ?_
  rintro ⟨i, vo, hv, sb⟩ ⟨hi, hsl, hq⟩
  dsimp only at hi hsl hq ⊢
  refine s_r ?_; refine s_q rfl (y_lss rfl rfl) ?_; refine s_n ?_; refine tk_seq ?_; refine tk_condP rfl (fun h19 => ?_) (fun h19 => ?_)
  · skip
    obtain ⟨p, hp⟩ : ∃ p, Ps[i]? = some p := ⟨_, List.getElem?_eq_getElem (by omega)⟩
    have hpm := hpr p (List.mem_of_getElem? hp)
    have hfl2 := flat_le hp
    refine tk_skip ?_; refine tk_then ?_; refine tk_seq ?_; refine tk_block ?_; refine s_r ?_; refine s_q rfl (y_ixR rfl rfl hps (by rw [List.length_map]; omega) (by kernel_rfl)) ?_; refine s_q rfl (y_load rfl rfl (hrd hps (u := p.1) (by rw [List.getElem?_map, hp]; rfl) (fun h => (hpe.resolve_left (fun e => by rw [e] at hp; cases hp)) (h.resolve_right id)))) ?_; refine s_q rfl (y_assign rfl) ?_; refine s_n ?_
    refine s_r ?_; refine s_q rfl (y_move rfl) ?_; refine tk_qe (I (p.2.length : Int)) rfl rfl rfl (y_lenR rfl hpm.1 rfl) (by rw [List.length_map]) ?_; refine s_q rfl (y_move rfl) ?_; refine s_n ?_; refine tk_block ?_; refine tk_loop (X := Nat × Value × Int × List UInt8) (fun x => x.1 ≤ p.2.length ∧ x.2.2.2.length = 16 ∧ (x.2.2.1 = -1 ∨ ∃ q : Nat, x.2.2.1 = (q : Int) ∧ x.2.2.2 = turn K (plus N q))) (fun x => [(0, .pointer (some ⟨fb, 0, none⟩)), (5, x.2.1), (6, .pointer (some ⟨b6, 0, none⟩)), (7, I x.2.2.1), (16, v), (17, I (Ps.length : Int)), (18, I (i : Int)), (22, p.1), (23, I (p.2.length : Int)), (24, I (x.1 : Int))]) (fun x => [cel b6 ((x.2.2.2).map B) 50, ownB x.2.1 (hideL K N a (((Ps.take i).flatMap Prod.snd) ++ p.2.take x.1)) 5, cel fb (flowCs kb N ((a + (((Ps.take i).flatMap Prod.snd) ++ p.2.take x.1).length : Nat) : Int)) 290]) (fun x => p.2.length - x.1) ((0, vo, hv, sb)) (⟨Nat.zero_le _, hsl, hq⟩) (by repeat (first | exact trivial | refine ⟨rfl, ?_⟩)) (by simp only [List.take_zero, List.append_nil]; exact List.Sublist.refl _) ?_
    clear hsl hq
    rintro ⟨j, vo, hv, sb⟩ ⟨hj, hsl, hq⟩
    dsimp only at hj hsl hq ⊢
    generalize hqq : a + (((Ps.take i).flatMap Prod.snd) ++ p.2.take j).length = q
    refine s_r ?_; refine s_q rfl (y_lss rfl rfl) ?_; refine s_n ?_; refine tk_seq ?_; refine tk_condP rfl (fun h25 => ?_) (fun h25 => ?_)
    · skip
      obtain ⟨x0, hx0⟩ : ∃ x0, p.2[j]? = some x0 := ⟨_, List.getElem?_eq_getElem (by omega)⟩
      have hql : (((Ps.take i).flatMap Prod.snd) ++ p.2.take j).length = ((Ps.take i).flatMap Prod.snd).length + j := by rw [List.length_append, List.length_take, Nat.min_eq_left (by omega)]
      refine tk_skip ?_; refine tk_then ?_; refine tk_seq ?_; refine tk_block ?_; refine s_r ?_; refine s_q rfl (y_ixR rfl rfl hpm.1 (by rw [List.length_map]; omega) (by kernel_rfl)) ?_; refine s_q rfl (y_load rfl rfl (hrd hpm.1 (u := B x0) (by rw [List.getElem?_map, hx0]; rfl) (fun h => (hpm.2.resolve_left (fun e => by rw [e] at hx0; cases hx0)) (h.resolve_right id)))) ?_; refine s_q rfl (y_assign rfl) ?_
      refine s_n ?_; refine tk_seqI (X := Unit) (fun _ => True) (fun _ => [(0, .pointer (some ⟨fb, 0, none⟩)), (5, vo), (6, .pointer (some ⟨b6, 0, none⟩)), (7, I ((q / 16 : Nat) : Int)), (16, v), (17, I (Ps.length : Int)), (18, I (i : Int)), (22, p.1), (23, I (p.2.length : Int)), (24, I (j : Int)), (11, B x0)]) (fun _ => [cel b6 ((turn K (plus N (q / 16))).map B) 50, ownB vo (hideL K N a (((Ps.take i).flatMap Prod.snd) ++ p.2.take j)) 5, cel fb (flowCs kb N (q : Int)) 290]) ?_ ?_
      · skip
        refine s_r ?_; refine s_q rfl (y_move rfl) ?_; refine s_q rfl (y_nilCheck rfl) ?_; refine s_q rfl (y_fldN 17 rfl (by kernel_rfl)) ?_; refine s_q rfl (y_load rfl rfl (hc (.tail _ (.tail _ (.head _))) (fl17 hN))) ?_; refine s_q rfl (y_quoN (b := 16) rfl rfl (by omega)) ?_; refine s_q rfl (y_assign rfl) ?_; refine s_n ?_; refine s_r ?_; refine s_q rfl (y_move rfl) ?_; refine s_q rfl (y_move rfl) ?_
        refine s_q rfl (y_neq rfl rfl) ?_; refine s_n ?_; refine tk_condP rfl (fun h35 => ?_) (fun h35 => ?_)
        · skip
          refine tk_region ?_; refine s_q rfl (y_move rfl) ?_; refine s_q rfl (y_move rfl) ?_; refine tk_act rfl ?_; refine a_callv [] _ rfl (by kernel_rfl) rfl (fun w' hw' => block_spec fb kb (q / 16) K N w' hN (by omega) (cel_cell (hw'.mem (.tail _ (.tail _ (.head _)))) rfl) (fun j hj => cel_cell (hw'.mem (.tail _ (.tail _ (.head _)))) (flN hj)) (fun j hj => hw'.fr.cell (hk j hj) (fun h => hkb (h.resolve_right id)))) rfl fun _ _ => ?_
          refine s_q rfl (y_move rfl) ?_; refine tk_act rfl ?_; refine a_storeW (H1 := []) 16 rfl rfl (by kernel_rfl) rfl ⟨by simp [hN], by simp [hsl]⟩ oneB ?_; refine s_q rfl (y_assign rfl) ?_; refine tk_nil ?_
          exact tk_to () trivial (by repeat (first | exact trivial | refine ⟨rfl, ?_⟩)) (List.Sublist.refl _)
        · skip
          refine tk_skip ?_
          rcases hq with hq | ⟨q', hq, hq2⟩
          · exfalso; omega
          · have hq1 : q' = q / 16 := by omega
            exact tk_to () trivial ⟨rfl, rfl, rfl, by show some (I hv) = _; rw [hq, hq1], rfl, rfl, rfl, rfl, rfl, rfl, rfl, trivial⟩ (by rw [hq2, hq1]; exact List.Sublist.refl _)
      · intro _ _
        refine s_r ?_; refine s_q rfl (y_move rfl) ?_; refine s_q rfl (y_move rfl) ?_; refine s_q rfl (y_move rfl) ?_; refine s_q rfl (y_nilCheck rfl) ?_; refine s_q rfl (y_fldN 17 rfl (by kernel_rfl)) ?_; refine s_q rfl (y_load rfl rfl (hc (.tail _ (.tail _ (.head _))) (fl17 hN))) ?_; refine s_q rfl (y_remN (b := 16) rfl rfl (by omega)) ?_
        (first | refine s_q rfl (y_ixA01 16 rfl rfl (by kernel_rfl) (by omega)) ?_ | refine s_q rfl (y_ixAN1 16 rfl rfl (by kernel_rfl) (by omega)) ?_)
        refine s_q rfl (y_load rfl rfl (hc (.head _) (getB (by simp [hN]; omega)))) ?_; refine s_q rfl (y_xor8 rfl rfl) ?_; refine tk_act rfl ?_; refine a_slit1 rfl rfl el5 rfl fun b50 => ?_; refine tk_act rfl ?_; refine a_append (H1 := [_, _]) (news := [_]) rfl rfl el5 rfl rfl rfl (hcw (.head _)) (by simp [Value.oneCell']) (by simp only [hideL_len]; omega) fun vo2 => ?_; refine s_q rfl (y_assign rfl) ?_
        refine s_n ?_; refine tk_region ?_; refine s_q rfl (y_move rfl) ?_; refine s_q rfl (y_nilCheck rfl) ?_; refine s_q rfl (y_fldN 17 rfl (by kernel_rfl)) ?_; refine s_q rfl (y_load rfl rfl (hc (.tail _ (.tail _ (.tail _ (.head _)))) (fl17 hN))) ?_; refine tk_qe (I ((q + 1 : Nat) : Int)) rfl rfl rfl (y_addI rfl rfl (by omega)) (by congr 1 <;> omega) ?_; refine s_q rfl (y_nilCheck rfl) ?_; refine s_q rfl (y_fldN 17 rfl (by kernel_rfl)) ?_
        refine tk_act rfl ?_; refine a_store1 (H1 := [_, _, _]) rfl rfl (by kernel_rfl) rfl rfl (by simp [flowCs, hN]) ?_; refine tk_nil ?_; refine tk_in_normal ?_; refine tk_then ?_; refine tk_region ?_; refine tk_qe (I ((j + 1 : Nat) : Int)) rfl rfl rfl (y_addI rfl rfl (by omega)) (by congr 1 <;> omega) ?_; refine s_q rfl (y_move rfl) ?_; refine tk_nil ?_
        exact tk_again (j + 1, vo2, ((q / 16 : Nat) : Int), turn K (plus N (q / 16))) ⟨by show j + 1 ≤ p.2.length; omega, turn_len (by rw [plus_len]; exact hN), .inr ⟨q / 16, rfl, rfl⟩⟩ (by show p.2.length - (j + 1) < p.2.length - j; omega) (by repeat (first | exact trivial | refine ⟨rfl, ?_⟩)) (by dsimp only; rw [take_snoc hx0, ← List.append_assoc, own_snoc, len_snoc, ← Nat.add_assoc, hqq, ← fl_set hN (a := (q : Int))]; exact List.Sublist.cons _ (List.Sublist.refl _))
    · skip
      obtain rfl : j = p.2.length := by omega
      subst hqq
      rw [List.take_length, ← flat_succ hp]
      refine tk_exit ?_; refine tk_then_exit ?_; refine tk_then_exit ?_; refine tk_in_hit ?_; refine tk_in_normal ?_; refine tk_then ?_; refine tk_region ?_; refine tk_qe (I ((i + 1 : Nat) : Int)) rfl rfl rfl (y_addI rfl rfl (by omega)) (by congr 1 <;> omega) ?_; refine s_q rfl (y_move rfl) ?_; refine tk_nil ?_
      exact tk_again (i + 1, vo, hv, sb) ⟨by show i + 1 ≤ Ps.length; omega, hsl, hq⟩ (by show Ps.length - (i + 1) < Ps.length - i; omega) (by repeat (first | exact trivial | refine ⟨rfl, ?_⟩)) (List.Sublist.refl _)
  · skip
    obtain rfl : i = Ps.length := by omega
    rw [List.take_length]
    refine tk_exit ?_; refine tk_then_exit ?_; refine tk_then_exit ?_; refine tk_in_hit ?_; refine tk_then ?_; refine s_r ?_; refine s_q rfl (y_move rfl) ?_; refine s_q rfl (y_assign rfl) ?_; refine s_n ?_; refine tk_retc ?_
    exact tk_ret vo trivial (.inl rfl) (r1 rfl rfl) (List.Sublist.cons _ (List.Sublist.refl _))
end Go.Proofs.YtkkjfojgjmglpaaGreatDoor.Cip
set_option linter.unusedSimpArgs false
set_option linter.unusedVariables false
namespace Go.Proofs.YtkkjfojgjmglpaaGreatDoor.Cip
open Go Go.RowKit
set_option maxRecDepth 100000
theorem makeR_spec (v : Value) (b : List UInt8) (w : World) (hb : b.length = 32) (hR : RdB w v b) :
    Spec Tryz.prog 183 [v] w [] (fun _ : Nat => True) (fun kb => .tuple #[.pointer (some ⟨kb, 0, none⟩), I 0]) (fun kb => [cel kb ((keyW b).map B) 317]) := by
  rcases hR with ⟨_, h0⟩ | ⟨ad, cap, rfl, hc, hr⟩
  · have := congrArg List.length h0; simp [hb] at this
  · rw [List.length_map] at hc ⊢
    rw [hb] at hc ⊢
    have hget : ∀ j, j < b.length → w.cell? (ad.add j) = some (B (b.getD j 0)) := fun j hj => hr j _ (getB hj)
    obtain ⟨ab, ao, sp⟩ := ad
    have hsp : sp = none := by
      have h0 := hget 0 (by omega)
      cases sp with
      | none => rfl
      | some q =>
        exfalso
        simp only [Addr.add, if_true, World.cell?, Option.isSome_some] at h0
        split at h0 <;> cases h0
    subst hsp
    exact make_spec ab ao cap b w hb hc (fun j hj => by have := hget j hj; rwa [add_w] at this)
def bb : Nat → List UInt8
  | 0 => List.replicate 16 0
  | k + 1 => (bb k).set (k % 16) (UInt8.ofNat (17 * (k % 16)))
attribute [local irreducible] turn plus keyW hideL
end Go.Proofs.YtkkjfojgjmglpaaGreatDoor.Cip
set_option linter.unusedSimpArgs false
set_option linter.unusedVariables false
namespace Go.Proofs.YtkkjfojgjmglpaaGreatDoor
open Go Go.RowKit
set_option maxRecDepth 100000
attribute [local irreducible] hidL markL sealL sealF keyedL Cip.keyW Cip.hideL
theorem hide_ro {fb kb : Nat} {hk N : List UInt8} {v : Value} {ps : List Sb} {L : List UInt8} {w : World} (hk32 : hk.length = 32) (hN : N.length = 16) (hv : Ro (Fs [cel fb (Cip.flowCs kb N (0 : Int)) 290, cel kb ((Cip.keyW hk).map B) 317]) w (rd v (ps.map Prod.fst)))
    (hp : ∀ p ∈ ps, Ro (Fs [cel fb (Cip.flowCs kb N (0 : Int)) 290, cel kb ((Cip.keyW hk).map B) 317]) w (rdB p.1 p.2)) (hL : ps.flatMap Prod.snd = L) (hb : L.length < 70368744177664) (hn : ps.length < 70368744177664)
    (hh : Pre w [cel fb (Cip.flowCs kb N (0 : Int)) 290, cel kb ((Cip.keyW hk).map B) 317]) :
    Spec Tryz.prog 151 [.pointer (some ⟨fb, 0, none⟩), v] w [cel fb (Cip.flowCs kb N (0 : Int)) 290, cel kb ((Cip.keyW hk).map B) 317] (fun _ : Value => True) (fun vo => vo) (fun vo => [ownB vo (hidL hk N L) 5]) := by
  subst hL
  have hne : kb ≠ fb := fun e => hh.2.1 fb rfl (.inl e.symm)
  have hs := Cip.hide_spec fb kb 0 (Cip.keyW hk) N v ps w hN hh.1.1 hne (fun j hj => cel_cell hh.1.2.1 (getB (by rw [Cip.keyW_len hk32]; exact hj))) hv.1 (by
    cases ps with
    | nil => exact .inl rfl
    | cons p ps => exact .inr fun e => hv.2 fb ⟨by simp, e⟩ (.inl rfl)) (fun p hp0 => ⟨(hp p hp0).1, by
      cases hl : p.2 with
      | nil => exact .inl rfl
      | cons a l => exact .inr fun e => (hp p hp0).2 fb ⟨by rw [hl]; simp, e⟩ (.inl rfl)⟩) (by decide) (by omega) (by omega)
  rw [hidL_def] at hs
  exact (Spec.frame (F := [cel kb ((Cip.keyW hk).map B) 317]) hs hh).less (fun vo => .cons_cons _ (List.nil_sublist _))
theorem flow_spec {hk mk N : List UInt8} {nv : Value} {w : World} (hn : Ro (Fs []) w (rdB nv N)) (hk32 : hk.length = 32) (hN : N.length = 16) :
    Spec Tryz.prog 150 [.agg (hk.map B ++ (mk.map B)).toArray, nv] w [] (fun _ : Nat × Nat => True) (fun x => .tuple #[.pointer (some ⟨x.1, 0, none⟩), I 0])
      (fun x => [cel x.1 (Cip.flowCs x.2 N (0 : Int)) 290, cel x.2 ((Cip.keyW hk).map B) 317]) := by
  refine spec_of (n := 24) Tryz.func150 rfl rfl trivial trivial rfl ?_; refine s_r ?_; refine tk_act rfl ?_; refine a_boxL (cs := hk.map B ++ (mk.map B)) rfl rfl fun b2 => ?_; refine s_q rfl (y_assign rfl) ?_; refine s_q rfl (y_assign rfl) ?_; refine s_n ?_; refine s_r ?_; refine s_q rfl (y_fld0 (o := 0) rfl (by kernel_rfl)) ?_; refine s_q rfl (y_cutA (m := 32) (sz := 1) rfl (by kernel_rfl)) ?_; refine tk_act rfl ?_; refine a_callv [] _ rfl (by kernel_rfl) rfl (fun w' hw' => Cip.makeR_spec _ hk w' lenP ((Ro.cel (H0 := []) (b := b2) (o := 0) (m := 32) (cp := 32) (vs := hk.map B) hw' (.head _) (dsW1) (by first | rfl | exact lenP | (simp; omega)) lenP)).1) rfl fun k11 _ => ?_
  refine s_q rfl (y_move rfl) ?_; refine s_q rfl (y_extract rfl rfl) ?_; refine s_q rfl (y_extract rfl rfl) ?_; refine s_q rfl (y_assign rfl) ?_; refine s_q rfl (y_assign rfl) ?_; refine s_n ?_; refine tk_seq ?_; refine s_r ?_; refine s_q rfl (y_move rfl) ?_; refine s_q rfl ((y_neq rfl rfl).cast (bool_f (by decide))) ?_; refine s_n ?_; refine tk_cond0 rfl ?_; refine tk_skip ?_; refine tk_then ?_; refine s_r ?_
  refine s_q rfl (y_move rfl) ?_; refine s_q rfl (y_move rfl) ?_; refine s_q rfl (y_s2aR (l := N) rfl rfl hn.1 lenP) ?_; refine s_q rfl (y_loadA 16 rfl (by kernel_rfl) lenP (fun w hw => rd_take (l := N) (m := 16) ((fun w hw => Ro.rd hn hw) w hw) lenP)) ?_; refine tk_re 20 (.agg ((N.take 16).map B).toArray) (.agg (N.map B).toArray) rfl (by rw [List.take_of_length_le (by omega)]) ?_; refine tk_act rfl ?_; refine a_callv [] _ rfl (by kernel_rfl) rfl (fun w' hw' => Cip.begin_spec k11 N w' lenP) rfl fun f21 _ => ?_
  refine s_q rfl (y_extract rfl rfl) ?_; refine s_q rfl (y_extract rfl rfl) ?_; refine s_q rfl (y_assign rfl) ?_; refine s_q rfl (y_assign rfl) ?_; refine s_n ?_; refine tk_retc ?_
  exact tk_ret ((f21, k11)) (trivial) (.inl rfl) (r2 rfl rfl rfl) (.cons_cons _ (.cons_cons _ (List.nil_sublist _)))
theorem mark_spec {hk mk name N h : List UInt8} {kind : UInt8} {nv hv : Value} {w : World} (hn : Ro (Fs []) w (rdB nv N)) (hh : Ro (Fs []) w (rdB hv h)) (h2 : hk.length = 32 ∧ mk.length = 32) (hg : Ro (Fs []) w glob) (hb : name.length < 4294967296 ∧ N.length < 4294967296 ∧ h.length < 4294967296) :
    Spec Tryz.prog 152 [.agg (hk.map B ++ (mk.map B)).toArray, B kind, Str name, nv, hv] w [] (fun _ : Unit => True) (fun _ => Ag (markL mk kind name N h)) (fun _ => []) := by
  obtain ⟨hk32, mk32⟩ := h2
  refine spec_of (n := 24) Tryz.func152 rfl rfl trivial trivial rfl ?_; refine s_r ?_; refine tk_act rfl ?_; refine a_boxL (cs := hk.map B ++ (mk.map B)) rfl rfl fun b5 => ?_; refine tk_act rfl ?_; refine a_allocL (cs := (List.replicate 32 0).map B) (by kernel_rfl) rfl fun b10 => ?_; refine s_n ?_; refine s_r ?_; refine s_q rfl (y_fldN (o := 0) 32 rfl (by kernel_rfl)) ?_; refine s_q rfl (y_cutA (m := 32) (sz := 1) rfl (by kernel_rfl)) ?_
  refine s_q rfl (y_move rfl) ?_; refine s_q rfl (y_move rfl) ?_; refine s_q rfl (y_lenStr (l := name) rfl rfl) ?_; refine s_q rfl (y_convi8 (m := name.length) rfl rfl rfl) ?_; refine tk_act rfl ?_; refine a_slitN (vs := [B kind, B (UInt8.ofNat name.length)]) rfl (List.forall_mem_cons.2 ⟨rfl, (List.forall_mem_cons.2 ⟨rfl, (fun _ h => nomatch h)⟩)⟩) (EL42) rfl rfl (by decide) fun b17 => ?_; refine s_q rfl (y_move rfl) ?_
  refine tk_act rfl ?_; refine a_s2bO (l := name) rfl rfl rfl rfl rfl (by simp only [maxLen]; first | omega | (simp; done) | (simp; omega)) fun v19 => ?_; refine tk_own1 (.head _) fun hfv19 => ?_; refine s_q rfl (y_move rfl) ?_; refine s_q rfl (y_move rfl) ?_; refine tk_act rfl ?_; refine a_slitN (vs := [.slice (some ⟨b17, 0, none⟩) 2 2, v19, nv, hv]) rfl (List.forall_mem_cons.2 ⟨rfl, (List.forall_mem_cons.2 ⟨(RdS.one hfv19.choose_spec), (List.forall_mem_cons.2 ⟨(RdS.one hn.1), (List.forall_mem_cons.2 ⟨(RdS.one hh.1), (fun _ h => nomatch h)⟩)⟩)⟩)⟩) (EL206) rfl rfl (by decide) fun b22 => ?_
  refine tk_act rfl ?_; refine a_callv [] _ rfl (by kernel_rfl) rfl (fun w' hw' => keyed_spec (k := mk) (ps := [(.slice (some ⟨b17, 0, none⟩) 2 2, [kind, UInt8.ofNat name.length]), (v19, name), (nv, N), (hv, h)]) (L := [kind, UInt8.ofNat name.length] ++ name ++ N ++ h) (Ro.cel (H0 := []) (b := b5) (o := 32) (m := 32) (cp := 32) (vs := mk.map B) hw' (.tail _ (.tail _ (.tail _ (.tail _ (.head _))))) (dsA (k := 32) (i := 0) (by rw [List.length_map]; exact hk32) (by omega) (dsW)) (by first | rfl | exact lenP | (simp; omega)) lenP) (Ro.cel (vs := [.slice (some ⟨b17, 0, none⟩) 2 2, v19, nv, hv]) hw' (.head _) (by first | rfl | simp) rfl (by decide)) (List.forall_mem_cons.2 ⟨(Ro.cel (H0 := []) (b := b17) (o := 0) (m := 2) (cp := 2) (vs := [kind, UInt8.ofNat name.length].map B) hw' (.tail _ (.tail _ (.head _))) (rfl) (by first | rfl | exact lenP | (simp; omega)) lenP), (List.forall_mem_cons.2 ⟨(Ro.own (H0 := []) hw' (.tail _ (.head _))), (List.forall_mem_cons.2 ⟨(Ro.call (H0 := []) hn hw'), (List.forall_mem_cons.2 ⟨(Ro.call (H0 := []) hh hw'), (fun _ h => nomatch h)⟩)⟩)⟩)⟩) (by simp) ⟨lenP, lenP, lenP⟩ (hg.call hw')) rfl fun _ _ => ?_
  refine tk_re 23 (.agg ((keyedL mk ([kind, UInt8.ofNat name.length] ++ name ++ N ++ h)).map B).toArray) (.agg ((markL mk kind name N h).map B).toArray) rfl (by rw [markL_def]) ?_; refine tk_act rfl ?_; refine a_storeW (H1 := [_, _, _]) (vs := (markL mk kind name N h).map B) 32 rfl rfl (by kernel_rfl) rfl ⟨lenP, lenP⟩ oneB ?_; refine s_n ?_; refine tk_retc ?_
  exact tk_ret (()) (trivial) (.inl rfl) (rc (vs := (markL mk kind name N h).map B) rfl rfl (by simp; kernel_rfl) (hcw (.tail _ (.tail _ (.tail _ (.head _)))))) (List.nil_sublist _)
theorem seal_spec {hk mk name N L : List UInt8} {kind : UInt8} {v : Value} {ps : List Sb} {w : World} (h3 : hk.length = 32 ∧ mk.length = 32 ∧ N.length = 16) (hv : Ro (Fs []) w (rd v (ps.map Prod.fst))) (hp : ∀ p ∈ ps, Ro (Fs []) w (rdB p.1 p.2)) (hL : ps.flatMap Prod.snd = L)
    (hb : name.length < 4294967296 ∧ L.length < 4294967296 ∧ ps.length < 4294967296) (hg : Ro (Fs []) w glob) :
    Spec Tryz.prog 105 [.agg (hk.map B ++ (mk.map B)).toArray, B kind, Str name, Ag N, v] w [] (fun _ : Value => True) (fun vo => .tuple #[vo, I (((sealF hk mk kind name N L).2 : Nat) : Int)]) (fun vo => [ownB vo (sealF hk mk kind name N L).1 5]) := by
  refine spec_of (n := 60) Tryz.func105 rfl rfl trivial trivial rfl ?_
  obtain ⟨hk32, mk32, hN⟩ := h3
  have hLl : (ps.flatMap Prod.snd).length = L.length := by rw [hL]
  refine s_r ?_; refine tk_act rfl ?_; refine a_boxL (cs := hk.map B ++ (mk.map B)) rfl rfl fun b5 => ?_; refine tk_act rfl ?_; refine a_boxL (cs := N.map B) rfl rfl fun b8 => ?_; refine s_q rfl (y_assign rfl) ?_; refine s_q rfl (y_assign rfl) ?_; refine s_n ?_; refine tk_seq ?_; refine s_r ?_; refine s_q rfl (y_move rfl) ?_; refine s_q rfl (y_lenStr (l := name) rfl rfl) ?_; refine s_q rfl (y_gtr rfl rfl) ?_
  refine s_n ?_; refine tk_condP rfl (fun ht21 => ?_) (fun ht21 => ?_)
  · skip
    refine s_r ?_; refine s_q rfl (y_assign rfl) ?_; refine s_q rfl (y_assign rfl) ?_; refine s_n ?_; refine tk_retc ?_; refine tk_then_ret ?_; refine tk_ownM0 (f := B) 5 ?_; refine tk_H [own (.slice none 0 0) (((sealF hk mk kind name N L).1).length) (((sealF hk mk kind name N L).1).map B) 5 1, cel b8 (N.map B) 50, cel b5 (hk.map B ++ (mk.map B)) 29] (congrArg (fun z_ => [z_, cel b8 (N.map B) 50, cel b5 (hk.map B ++ (mk.map B)) 29]) (show own (.slice none 0 0) ([].length) ([].map B) 5 1 = own (.slice none 0 0) (((sealF hk mk kind name N L).1).length) (((sealF hk mk kind name N L).1).map B) 5 1 from ownM_cast (by rw [sealF_name (by omega)]))) ?_
    refine tk_re 11 (I 5) (I (((sealF hk mk kind name N L).2 : Nat) : Int)) rfl (by rw [sealF_name (by omega)]; rfl) ?_
    exact tk_ret (.slice none 0 0) (trivial) (.inl rfl) (r2 rfl rfl rfl) (.cons_cons _ (List.nil_sublist _))
  · skip
    refine tk_skip ?_; refine tk_then ?_; refine s_r ?_; refine s_q rfl (y_assign rfl) ?_; refine s_n ?_; refine tk_seq ?_; refine s_r ?_; refine s_q rfl (y_move rfl) ?_; refine s_q rfl (y_lenRN (n' := ps.length) rfl hv.1 rfl (by first | rfl | (rw [List.length_map]; omega) | simp)) ?_; refine s_q rfl (y_move rfl) ?_; refine s_n ?_; refine tk_block ?_; refine tk_loop (X := Nat) (fun j => j ≤ ps.length ∧ ((ps.take j).flatMap Prod.snd).length ≤ 1048576) (fun j => [(1, B kind), (2, Str name), (4, v), (5, .pointer (some ⟨b5, 0, none⟩)), (8, .pointer (some ⟨b8, 0, none⟩)), (12, I ((1048576 - ((ps.take j).flatMap Prod.snd).length : Nat) : Int)), (22, v), (23, I ((ps.length : Nat) : Int)), (24, I ((j : Nat) : Int))]) (fun j => [cel b8 (N.map B) 50, cel b5 (hk.map B ++ (mk.map B)) 29]) (fun j => ps.length - j) (0) (⟨Nat.zero_le _, by simp⟩) (by repeat (first | exact trivial | refine ⟨rfl, ?_⟩)) ((List.Sublist.refl _)) ?_
    rintro j hI
    try dsimp only at hI ⊢
    refine s_r ?_; refine s_q rfl (y_lss rfl rfl) ?_; refine s_n ?_; refine tk_seq ?_; refine tk_condP rfl (fun ht25 => ?_) (fun ht25 => ?_)
    · skip
      refine tk_skip ?_; refine tk_then ?_; refine tk_seq ?_; refine tk_block ?_; refine s_r ?_; refine s_q rfl (y_ixR (j := j) rfl rfl hv.1 lenP (by kernel_rfl)) ?_; refine s_q rfl (y_load rfl rfl (fun w hw => ((fun w hw => Ro.rd hv hw) w hw).cell (gM (f := Prod.fst) (d := dP) lenP))) ?_; refine s_q rfl (y_assign rfl) ?_; refine s_n ?_; refine tk_seq ?_; refine s_r ?_
      have hfl := flat_le (ps := ps) (i := j) (by omega)
      refine s_q rfl (y_move rfl) ?_; refine s_q rfl (y_lenRN (n' := ((ps.getD j dP).2).length) rfl (hp _ (getD_mem lenP)).1 rfl (by first | rfl | (rw [List.length_map]; omega) | simp)) ?_; refine s_q rfl (y_move rfl) ?_; refine s_q rfl (y_gtr rfl rfl) ?_; refine s_n ?_; refine tk_condP rfl (fun ht31 => ?_) (fun ht31 => ?_)
      · skip
        refine s_r ?_; refine s_q rfl (y_assign rfl) ?_; refine s_q rfl (y_assign rfl) ?_; refine s_n ?_; refine tk_retc ?_; refine tk_then_ret ?_; refine tk_in_ret ?_; refine tk_then_ret ?_; refine tk_then_ret ?_; refine tk_in_ret ?_; refine tk_then_ret ?_; refine tk_ownM0 (f := B) 5 ?_; refine tk_H [own (.slice none 0 0) (((sealF hk mk kind name N L).1).length) (((sealF hk mk kind name N L).1).map B) 5 1, cel b8 (N.map B) 50, cel b5 (hk.map B ++ (mk.map B)) 29] (congrArg (fun z_ => [z_, cel b8 (N.map B) 50, cel b5 (hk.map B ++ (mk.map B)) 29]) (show own (.slice none 0 0) ([].length) ([].map B) 5 1 = own (.slice none 0 0) (((sealF hk mk kind name N L).1).length) (((sealF hk mk kind name N L).1).map B) 5 1 from ownM_cast (by rw [sealF_big (by omega) (by omega)]))) ?_
        refine tk_re 11 (I 4) (I (((sealF hk mk kind name N L).2 : Nat) : Int)) rfl (by rw [sealF_big (by omega) (by omega)]; rfl) ?_
        exact tk_ret (.slice none 0 0) (trivial) (.inl rfl) (r2 rfl rfl rfl) (.cons_cons _ (List.nil_sublist _))
      · skip
        refine tk_skip ?_; refine tk_then ?_; refine tk_region ?_; refine s_q rfl (y_move rfl) ?_; refine s_q rfl (y_move rfl) ?_; refine s_q rfl (y_lenRN (n' := ((ps.getD j dP).2).length) rfl (hp _ (getD_mem lenP)).1 rfl (by first | rfl | (rw [List.length_map]; omega) | simp)) ?_; refine s_q rfl (y_subN (a := 1048576 - ((ps.take j).flatMap Prod.snd).length) (b := ((ps.getD j dP).2).length) rfl rfl (by omega)) ?_
        refine s_q rfl (y_assign rfl) ?_; refine tk_nil ?_; refine tk_in_normal ?_; refine tk_then ?_; refine tk_region ?_; refine s_q rfl (y_addN (a := j) (b := 1) rfl rfl (by omega)) ?_; refine s_q rfl (y_move rfl) ?_; refine tk_nil ?_; refine tk_re 12 (I (((1048576 - ((ps.take j).flatMap Prod.snd).length) - (((ps.getD j dP).2).length) : Nat) : Int)) (I ((1048576 - ((ps.take (j + 1)).flatMap Prod.snd).length : Nat) : Int)) rfl (by rw [flat_snoc (d := dP) (by omega), List.length_append]; congr 2; omega) ?_
        exact tk_again (j + 1) (⟨by omega, by rw [flat_snoc (d := dP) (by omega), List.length_append]; omega⟩) (by omega) (by repeat (first | exact trivial | refine ⟨rfl, ?_⟩)) (List.Sublist.refl _)
    · skip
      have hok : ¬ 1048576 < L.length := by have h := hI.2; rw [List.take_of_length_le (by omega)] at h; omega
      refine tk_exit ?_; refine tk_then_exit ?_; refine tk_then_exit ?_; refine tk_in_hit ?_; refine tk_then ?_; refine tk_seq ?_; refine tk_drawH [cel b8 (N.map B) 50, cel b5 (hk.map B ++ (mk.map B)) 29] [] (by kernel_rfl) ?_; refine s_l 0 rfl (fun _ h => h.sub (List.Sublist.refl _)) (y_loadA 64 rfl (by kernel_rfl) lenP (hcw (.tail _ (.head _)))) ?_; refine s_x 1 rfl (y_cutA (m := 16) (sz := 1) rfl (by kernel_rfl)) ?_
      refine tx_a 2 rfl (by kernel_rfl) rfl ?_; refine a_callv [] _ rfl (by kernel_rfl) rfl (fun w' hw' => flow_spec (hk := hk) (mk := mk) (N := N) (Ro.cel (H0 := []) (b := b8) (o := 0) (m := 16) (cp := 16) (vs := N.map B) hw' (.head _) (dsW) (by first | rfl | exact lenP | (simp; omega)) lenP) lenP lenP) rfl fun ⟨f40, k40⟩ _ => ?_; refine tk_S (fun _ h => h.sub (.cons _ (.cons _ (List.Sublist.refl _)))) ?_
      refine s_x 3 rfl (y_move rfl) ?_; refine s_x 4 rfl (y_extract rfl rfl) ?_; refine s_x 5 rfl (y_extract rfl rfl) ?_; refine s_x 6 rfl (y_assign rfl) ?_; refine s_x 7 rfl (y_assign rfl) ?_; refine tx_done (by kernel_rfl) ?_; refine tk_then ?_; refine tk_seq ?_; refine s_r ?_; refine s_q rfl (y_move rfl) ?_; refine s_q rfl ((y_neq rfl rfl).cast (bool_f (by decide))) ?_; refine s_n ?_; refine tk_cond0 rfl ?_
      refine tk_skip ?_; refine tk_then ?_; refine s_r ?_; refine s_q rfl (y_move rfl) ?_; refine s_q rfl (y_move rfl) ?_; refine tk_act rfl ?_; refine a_callv [] _ rfl (by kernel_rfl) rfl (fun w' hw' => hide_ro (hk := hk) (N := N) (ps := ps) (L := L) hk32 hN (Ro.call hv hw') (fun p hp0 => (hp p hp0).call hw') hL lenP lenP (St.pre hw')) rfl fun v48 _ => ?_; refine s_q rfl (y_assign rfl) ?_; refine s_n ?_
      refine tk_seq ?_; refine tk_drawH [own v48 ((hidL hk N L).length) ((hidL hk N L).map B) 5 1, cel b8 (N.map B) 50, cel b5 (hk.map B ++ (mk.map B)) 29] [] (by kernel_rfl) ?_; refine s_l 0 rfl (fun _ h => h.sub (List.Sublist.refl _)) (y_loadA 64 rfl (by kernel_rfl) lenP (hcw (.tail _ (.tail _ (.head _))))) ?_; refine s_x 1 rfl (y_move rfl) ?_; refine s_x 2 rfl (y_move rfl) ?_; refine s_x 3 rfl (y_cutA (m := 16) (sz := 1) rfl (by kernel_rfl)) ?_
      refine s_x 4 rfl (y_move rfl) ?_; refine tx_all (is := [5, 6]) (by kernel_rfl) rfl ⟨⟨_, rfl, rfl, ?_⟩, ⟨_, rfl, rfl, ?_⟩, trivial⟩
      · skip
        skip; refine a_callv [] _ rfl (by kernel_rfl) rfl (fun w' hw' => mark_spec (hk := hk) (mk := mk) (kind := kind) (name := name) (N := N) (h := hidL hk N L) (Ro.cel (H0 := []) (b := b8) (o := 0) (m := 16) (cp := 16) (vs := N.map B) hw' (.tail _ (.head _)) (dsW) (by first | rfl | exact lenP | (simp; omega)) lenP) (Ro.own (H0 := []) hw' (.head _)) ⟨lenP, lenP⟩ (hg.call hw') ⟨lenP, lenP, lenP⟩) rfl fun _ _ => ?_
        refine tk_S (fun _ h => h.sub (List.Sublist.refl _)) ?_; refine tx_a 6 rfl (by kernel_rfl) rfl ?_; refine a_allocL (cs := (List.replicate 32 0).map B) (by kernel_rfl) rfl fun b18 => ?_; refine tk_S (fun _ h => h.sub (.cons _ (List.Sublist.refl _))) ?_; refine tx_a 7 rfl (by kernel_rfl) rfl ?_; refine a_storeW (H1 := []) (vs := (markL mk kind name N (hidL hk N L)).map B) 32 rfl rfl (by kernel_rfl) rfl ⟨lenP, lenP⟩ oneB ?_
        refine tk_S (fun _ h => h.sub (.cons _ (List.Sublist.refl _))) ?_; refine tx_done (by kernel_rfl) ?_; refine tk_then ?_; refine tk_seq ?_; refine tk_drawH [cel b18 ((markL mk kind name N (hidL hk N L)).map B) 27, own v48 ((hidL hk N L).length) ((hidL hk N L).map B) 5 1, cel b5 (hk.map B ++ (mk.map B)) 29] [] (by kernel_rfl) ?_; refine s_x 0 rfl (y_cutA (m := 16) (sz := 1) rfl (by kernel_rfl)) ?_
        refine s_x 1 rfl (y_move rfl) ?_; refine s_x 3 rfl (y_cutA (m := 32) (sz := 1) rfl (by kernel_rfl)) ?_; refine tk_celM (H1 := [_, _]) (f := B) (l := N) (T := 5) rfl hN (by decide) ?_; refine tx_a 2 rfl (by kernel_rfl) rfl ?_; refine a_appM (H1 := [_, _]) (f := B) (l := N) (m := hidL hk N L) rfl rfl EL42 rfl rfl (fun w hw => own_rdS (hw.mem (.tail _ (.head _)))) (fun _ => rfl) ⟨lenP, lenP⟩ fun v57 => ?_
        refine tk_own1 (.tail _ (.tail _ (.head _))) fun hfv57 => ?_; refine tk_S (fun _ h => h.sub (.cons_cons _ (.cons_cons _ (.cons _ (List.Sublist.refl _))))) ?_; refine tx_a 4 rfl (by kernel_rfl) rfl ?_; refine a_appM (H1 := [_, _]) (f := B) (l := N ++ (hidL hk N L)) (m := markL mk kind name N (hidL hk N L)) rfl rfl EL42 rfl rfl (fun w hw => cel_rdE (o := 0) (m := 32) (cp := 32) (vs := (markL mk kind name N (hidL hk N L)).map B) (hw.mem (.head _)) (dsW) (by first | rfl | exact lenP | (simp; omega)) lenP) (fun _ => rfl) ⟨lenP, lenP⟩ fun v59 => ?_
        refine tk_own1 (.tail _ (.tail _ (.head _))) fun hfv59 => ?_; refine tk_S (fun _ h => h.sub (.cons_cons _ (.cons_cons _ (.cons _ (List.Sublist.refl _))))) ?_; refine s_x 5 rfl (y_assign rfl) ?_; refine s_x 6 rfl (y_assign rfl) ?_; refine tx_done (by kernel_rfl) ?_; refine tk_then ?_; refine tk_retc ?_; refine tk_H [cel b18 ((markL mk kind name N (hidL hk N L)).map B) 27, own v48 ((hidL hk N L).length) ((hidL hk N L).map B) 5 1, own v59 (((sealF hk mk kind name N L).1).length) (((sealF hk mk kind name N L).1).map B) 5 1, cel b5 (hk.map B ++ (mk.map B)) 29] (congrArg (fun z_ => [cel b18 ((markL mk kind name N (hidL hk N L)).map B) 27, own v48 ((hidL hk N L).length) ((hidL hk N L).map B) 5 1, z_, cel b5 (hk.map B ++ (mk.map B)) 29]) (show own v59 (((N ++ (hidL hk N L)) ++ (markL mk kind name N (hidL hk N L))).length) (((N ++ (hidL hk N L)) ++ (markL mk kind name N (hidL hk N L))).map B) 5 1 = own v59 (((sealF hk mk kind name N L).1).length) (((sealF hk mk kind name N L).1).map B) 5 1 from ownM_cast (by rw [sealF_ok (by omega) hok]; exact sealL_def))) ?_
        refine tk_re 11 (I 0) (I (((sealF hk mk kind name N L).2 : Nat) : Int)) rfl (by rw [sealF_ok (by omega) hok]; rfl) ?_
        exact tk_ret (v59) (trivial) (.inl rfl) (r2 rfl rfl rfl) (.cons _ (.cons _ (.cons_cons _ (List.nil_sublist _))))
      · skip
        skip; refine a_allocL (cs := (List.replicate 32 0).map B) (by kernel_rfl) rfl fun b18 => ?_
        refine tk_S (fun _ h => h.sub (.cons _ (List.Sublist.refl _))) ?_; refine tx_a 5 rfl (by kernel_rfl) rfl ?_; refine a_callv [] _ rfl (by kernel_rfl) rfl (fun w' hw' => mark_spec (hk := hk) (mk := mk) (kind := kind) (name := name) (N := N) (h := hidL hk N L) (Ro.cel (H0 := []) (b := b8) (o := 0) (m := 16) (cp := 16) (vs := N.map B) hw' (.tail _ (.tail _ (.head _))) (dsW) (by first | rfl | exact lenP | (simp; omega)) lenP) (Ro.own (H0 := []) hw' (.tail _ (.head _))) ⟨lenP, lenP⟩ (hg.call hw') ⟨lenP, lenP, lenP⟩) rfl fun _ _ => ?_
        refine tk_S (fun _ h => h.sub (.cons _ (List.Sublist.refl _))) ?_; refine tx_a 7 rfl (by kernel_rfl) rfl ?_; refine a_storeW (H1 := []) (vs := (markL mk kind name N (hidL hk N L)).map B) 32 rfl rfl (by kernel_rfl) rfl ⟨lenP, lenP⟩ oneB ?_; refine tk_S (fun _ h => h.sub (.cons _ (List.Sublist.refl _))) ?_; refine tx_done (by kernel_rfl) ?_; refine tk_then ?_; refine tk_seq ?_; refine tk_drawH [cel b18 ((markL mk kind name N (hidL hk N L)).map B) 27, own v48 ((hidL hk N L).length) ((hidL hk N L).map B) 5 1, cel b5 (hk.map B ++ (mk.map B)) 29] [] (by kernel_rfl) ?_
        refine s_x 0 rfl (y_cutA (m := 16) (sz := 1) rfl (by kernel_rfl)) ?_; refine s_x 1 rfl (y_move rfl) ?_; refine s_x 3 rfl (y_cutA (m := 32) (sz := 1) rfl (by kernel_rfl)) ?_; refine tk_celM (H1 := [_, _]) (f := B) (l := N) (T := 5) rfl hN (by decide) ?_; refine tx_a 2 rfl (by kernel_rfl) rfl ?_; refine a_appM (H1 := [_, _]) (f := B) (l := N) (m := hidL hk N L) rfl rfl EL42 rfl rfl (fun w hw => own_rdS (hw.mem (.tail _ (.head _)))) (fun _ => rfl) ⟨lenP, lenP⟩ fun v57 => ?_
        refine tk_own1 (.tail _ (.tail _ (.head _))) fun hfv57 => ?_; refine tk_S (fun _ h => h.sub (.cons_cons _ (.cons_cons _ (.cons _ (List.Sublist.refl _))))) ?_; refine tx_a 4 rfl (by kernel_rfl) rfl ?_; refine a_appM (H1 := [_, _]) (f := B) (l := N ++ (hidL hk N L)) (m := markL mk kind name N (hidL hk N L)) rfl rfl EL42 rfl rfl (fun w hw => cel_rdE (o := 0) (m := 32) (cp := 32) (vs := (markL mk kind name N (hidL hk N L)).map B) (hw.mem (.head _)) (dsW) (by first | rfl | exact lenP | (simp; omega)) lenP) (fun _ => rfl) ⟨lenP, lenP⟩ fun v59 => ?_
        refine tk_own1 (.tail _ (.tail _ (.head _))) fun hfv59 => ?_; refine tk_S (fun _ h => h.sub (.cons_cons _ (.cons_cons _ (.cons _ (List.Sublist.refl _))))) ?_; refine s_x 5 rfl (y_assign rfl) ?_; refine s_x 6 rfl (y_assign rfl) ?_; refine tx_done (by kernel_rfl) ?_; refine tk_then ?_; refine tk_retc ?_; refine tk_H [cel b18 ((markL mk kind name N (hidL hk N L)).map B) 27, own v48 ((hidL hk N L).length) ((hidL hk N L).map B) 5 1, own v59 (((sealF hk mk kind name N L).1).length) (((sealF hk mk kind name N L).1).map B) 5 1, cel b5 (hk.map B ++ (mk.map B)) 29] (congrArg (fun z_ => [cel b18 ((markL mk kind name N (hidL hk N L)).map B) 27, own v48 ((hidL hk N L).length) ((hidL hk N L).map B) 5 1, z_, cel b5 (hk.map B ++ (mk.map B)) 29]) (show own v59 (((N ++ (hidL hk N L)) ++ (markL mk kind name N (hidL hk N L))).length) (((N ++ (hidL hk N L)) ++ (markL mk kind name N (hidL hk N L))).map B) 5 1 = own v59 (((sealF hk mk kind name N L).1).length) (((sealF hk mk kind name N L).1).map B) 5 1 from ownM_cast (by rw [sealF_ok (by omega) hok]; exact sealL_def))) ?_
        refine tk_re 11 (I 0) (I (((sealF hk mk kind name N L).2 : Nat) : Int)) rfl (by rw [sealF_ok (by omega) hok]; rfl) ?_
        exact tk_ret (v59) (trivial) (.inl rfl) (r2 rfl rfl rfl) (.cons _ (.cons _ (.cons_cons _ (List.nil_sublist _))))
end Go.Proofs.YtkkjfojgjmglpaaGreatDoor
set_option linter.unusedSimpArgs false
set_option linter.unusedVariables false
namespace Go.Proofs.YtkkjfojgjmglpaaGreatDoor
open Go Go.RowKit
set_option maxRecDepth 100000
attribute [local irreducible] sumL keyedL strL sealF tapeL tapeN
theorem write_spec {hk mk nk name L : List UInt8} {kind : UInt8} {v : Value} {ps : List Sb} {tb c p : Nat} {vb vl : Value} {b : List UInt8} {w : World} (h3 : hk.length = 32 ∧ mk.length = 32 ∧ nk.length = 32) (hI0 : p ≤ 32 * c ∧ 32 * c < p + 32) (hp0 : p < 1000000000000) (hlb : b.length < 1099511627776)
    (hv : Ro (Fs [cel tb [vb, .int .u64 (c : Int), vl] 201, ownB vb b 5, ownB vl ((tapeL b c).drop p) 5]) w (rd v (ps.map Prod.fst))) (hp : ∀ q ∈ ps, Ro (Fs [cel tb [vb, .int .u64 (c : Int), vl] 201, ownB vb b 5, ownB vl ((tapeL b c).drop p) 5]) w (rdB q.1 q.2)) (hL : ps.flatMap Prod.snd = L)
    (hb : name.length < 4294967296 ∧ L.length < 4294967296 ∧ ps.length < 4294967296) (hg : Ro (Fs [cel tb [vb, .int .u64 (c : Int), vl] 201, ownB vb b 5, ownB vl ((tapeL b c).drop p) 5]) w glob) (hh : Pre w [cel tb [vb, .int .u64 (c : Int), vl] 201, ownB vb b 5, ownB vl ((tapeL b c).drop p) 5]) :
    Spec Tryz.prog 57 [.agg (hk.map B ++ (mk.map B ++ (nk.map B ++ [Value.pointer (some ⟨tb, 0, none⟩)]))).toArray, B kind, Str name, v] w [cel tb [vb, .int .u64 (c : Int), vl] 201, ownB vb b 5, ownB vl ((tapeL b c).drop p) 5] (fun x : Nat × Value × Value => p + 16 ≤ 32 * x.1 ∧ 32 * x.1 < p + 16 + 32) (fun x => .tuple #[x.2.2, I (((sealF hk mk kind name (tapeN b p 16) L).2 : Nat) : Int)])
      (fun x => [ownB x.2.2 (sealF hk mk kind name (tapeN b p 16) L).1 5, cel tb [vb, .int .u64 (x.1 : Int), x.2.1] 201, ownB vb b 5, ownB x.2.1 ((tapeL b x.1).drop (p + 16)) 5]) := by
  refine spec_of (n := 22) Tryz.func57 rfl rfl hh.1 hh.2 rfl ?_
  subst hL
  obtain ⟨hk32, mk32, nk32⟩ := h3
  refine tk_own1 (.tail _ (.head _)) fun hfb => ?_; refine tk_own1 (.tail _ (.tail _ (.head _))) fun hfl => ?_; refine s_r ?_; refine tk_act rfl ?_; refine a_boxL (cs := hk.map B ++ (mk.map B ++ (nk.map B ++ ([Value.pointer (some ⟨tb, 0, none⟩)])))) rfl rfl fun b4 => ?_; refine s_q rfl (y_assign rfl) ?_; refine s_q rfl (y_assign rfl) ?_; refine s_n ?_; refine tk_seq ?_; refine tk_drawH [cel b4 (hk.map B ++ (mk.map B ++ (nk.map B ++ ([Value.pointer (some ⟨tb, 0, none⟩)])))) 34] [] (by kernel_rfl) ?_
  refine s_x 0 rfl (y_fld0 (o := 0) rfl (by kernel_rfl)) ?_; refine s_x 1 rfl (y_fld0 (o := 0) rfl (by kernel_rfl)) ?_; refine s_l 2 rfl (fun _ h => h.sub (.cons_cons _ (List.nil_sublist _))) (y_loadA (vs := hk.map B ++ (mk.map B)) 64 rfl (by kernel_rfl) lenP (hseg (pre := ([] : List Value)) (post := nk.map B ++ ([Value.pointer (some ⟨tb, 0, none⟩)])) (.head _) lenP (by simp))) ?_; refine s_x 3 rfl (y_move rfl) ?_
  refine s_x 4 rfl (y_move rfl) ?_; refine s_x 5 rfl (y_fldN (o := 0) 96 rfl (by kernel_rfl)) ?_; refine s_l 6 rfl (fun _ h => h.sub (.cons_cons _ (List.nil_sublist _))) (y_load rfl rfl (hc (o := 96) (.head _) (gA (k := 32) (i := 64) (by rw [List.length_map]; exact hk32) (by omega) (gA (k := 32) (i := 32) (by rw [List.length_map]; exact mk32) (by omega) (gA (k := 32) (i := 0) (by rw [List.length_map]; exact nk32) (by omega) (rfl)))))) ?_
  refine s_x 8 rfl (y_move rfl) ?_; refine tx_a 7 rfl (by kernel_rfl) rfl ?_; refine tk_perm _ mv3 ?_; refine tk_perm _ mv3 ?_; refine tk_perm _ mv3 ?_; refine a_callv [] _ rfl (by kernel_rfl) rfl (fun w' hw' => nonce_spec (tb := tb) (c := c) (p := p) (vb := vb) (vl := vl) (b := b) ⟨lenP, lenP⟩ lenP lenP (hg.call hw') (St.pre hw')) rfl fun ⟨c17, vl17⟩ hx17 => ?_; refine tk_S (fun _ h => h.sub (.cons _ (.cons _ (.cons _ (List.Sublist.refl _))))) ?_
  refine tx_a 9 rfl (by kernel_rfl) rfl ?_; refine a_callv [] _ rfl (by kernel_rfl) rfl (fun w' hw' => seal_spec (hk := hk) (mk := mk) (kind := kind) (name := name) (N := tapeN b p 16) (ps := ps) (L := ps.flatMap Prod.snd) ⟨lenP, lenP, lenP⟩ (Ro.call hv hw') (fun p hp0 => (hp p hp0).call hw') (by simp) ⟨lenP, lenP, lenP⟩ (hg.call hw')) rfl fun v19 _ => ?_; refine tk_S (fun _ h => h.sub (.cons _ (.cons _ (.cons _ (.cons _ (List.Sublist.refl _)))))) ?_
  refine s_x 10 rfl (y_extract rfl rfl) ?_; refine s_x 11 rfl (y_extract rfl rfl) ?_; refine s_x 12 rfl (y_assign rfl) ?_; refine s_x 13 rfl (y_assign rfl) ?_; refine tx_done (by kernel_rfl) ?_; refine tk_then ?_; refine tk_retc ?_
  exact tk_ret ((c17, vl17, v19)) (hx17) (.inl rfl) (r2 rfl rfl rfl) (.cons_cons _ (.cons_cons _ (.cons_cons _ (.cons_cons _ (List.nil_sublist _)))))
end Go.Proofs.YtkkjfojgjmglpaaGreatDoor
set_option linter.unusedSimpArgs false
set_option linter.unusedVariables false
namespace Go.Proofs.YtkkjfojgjmglpaaGreatDoor
open Go Go.RowKit
set_option maxRecDepth 100000
theorem tape_cut {b : List UInt8} {c p n : Nat} (h : p / 32 ≤ c ∧ p % 32 + n ≤ 32 * (c - p / 32)) : (((tapeL b c).drop (32 * (p / 32))).drop (p % 32)).take (p % 32 + n - p % 32) = tapeN b p n := by
  rw [List.drop_drop, show 32 * (p / 32) + p % 32 = p by omega, show p % 32 + n - p % 32 = n by omega]
  exact tapeN_eq (by omega)
attribute [local irreducible] sumL tapeL bej be8 tapeN
theorem rtape_spec {b : List UInt8} {p n : Nat} {w : World} (hlb : b.length < 1099511627776) (hpn : p < 1000000000000 ∧ n < 1000000000000) :
    Spec Tryz.prog 18 [Str b, I (p : Int), I (n : Int)] w [] (fun _ : Unit => True) (fun _ => Str (tapeN b p n)) (fun _ => []) := by
  refine spec_of (n := 49) Tryz.func18 rfl rfl trivial trivial rfl ?_; refine s_r ?_; refine s_q rfl (y_assign rfl) ?_; refine s_n ?_; refine s_r ?_; refine s_q rfl (y_assign rfl) ?_; refine s_n ?_; refine tk_seq ?_; refine s_r ?_; refine s_q rfl (y_move rfl) ?_; refine s_q rfl (y_quoN (a := p) (b := 32) rfl rfl (by omega)) ?_; refine s_q rfl (y_assign rfl) ?_; refine s_n ?_; refine tk_block ?_; refine tk_ownM0 (f := B) 5 ?_
  refine tk_H [own (.slice none 0 0) (((tapeL b (p / 32)).drop (32 * (p / 32))).length) (((tapeL b (p / 32)).drop (32 * (p / 32))).map B) 5 1] (congrArg (fun z_ => [z_]) (show own (.slice none 0 0) (([] : List UInt8).length) (([] : List UInt8).map B) 5 1 = own (.slice none 0 0) (((tapeL b (p / 32)).drop (32 * (p / 32))).length) (((tapeL b (p / 32)).drop (32 * (p / 32))).map B) 5 1 from ownM_cast (List.drop_of_length_le (by simp)).symm)) ?_
  refine tk_loop (X := Nat × Value) (fun (c, vo) => p / 32 ≤ c ∧ 32 * (c - p / 32) < p % 32 + n + 32) (fun (c, vo) => [(0, Str b), (1, I ((p : Nat) : Int)), (2, I ((n : Nat) : Int)), (6, Str []), (7, vo), (8, I ((c : Nat) : Int))]) (fun (c, vo) => [own vo (((tapeL b c).drop (32 * (p / 32))).length) (((tapeL b c).drop (32 * (p / 32))).map B) 5 1]) (fun (c, vo) => p % 32 + n + 32 - 32 * (c - p / 32)) ((p / 32, .slice none 0 0)) (⟨Nat.le_refl _, by omega⟩) (by repeat (first | exact trivial | refine ⟨rfl, ?_⟩)) ((List.Sublist.refl _)) ?_
  rintro ⟨c, vo⟩ hI
  try dsimp only at hI ⊢
  have hlen : ((tapeL b c).drop (32 * (p / 32))).length = 32 * (c - p / 32) := by simp; omega
  refine tk_own1 (.head _) fun hfo => ?_; refine tk_seq ?_; refine s_r ?_; refine s_q rfl (y_move rfl) ?_; refine s_q rfl (y_lenRN (n' := ((tapeL b c).drop (32 * (p / 32))).length) rfl hfo.choose_spec rfl (by first | rfl | (rw [List.length_map]; omega) | simp)) ?_; refine s_q rfl (y_move rfl) ?_; refine s_q rfl (y_remN (a := p) (b := 32) rfl rfl (by omega)) ?_; refine s_q rfl (y_move rfl) ?_; refine s_q rfl (y_addN (a := p % 32) (b := n) rfl rfl (by omega)) ?_
  refine s_q rfl (y_lss rfl rfl) ?_; refine s_n ?_; refine tk_condP rfl (fun ht19 => ?_) (fun ht19 => ?_)
  · skip
    refine tk_skip ?_; refine tk_then ?_; refine tk_seq ?_; refine tk_block ?_; refine s_r ?_; refine s_q rfl (y_assign rfl) ?_; refine s_n ?_; refine tk_seq ?_; refine s_r ?_; refine s_q rfl (y_assign rfl) ?_; refine s_n ?_; refine tk_block ?_; refine tk_ownM0 (f := B) 5 ?_; refine tk_H [own (.slice none 0 0) ((bej c 0).length) ((bej c 0).map B) 5 1, own vo (((tapeL b c).drop (32 * (p / 32))).length) (((tapeL b c).drop (32 * (p / 32))).map B) 5 1] (congrArg (fun z_ => [z_, own vo (((tapeL b c).drop (32 * (p / 32))).length) (((tapeL b c).drop (32 * (p / 32))).map B) 5 1]) (show own (.slice none 0 0) (([] : List UInt8).length) (([] : List UInt8).map B) 5 1 = own (.slice none 0 0) ((bej c 0).length) ((bej c 0).map B) 5 1 from ownM_cast bej_0.symm)) ?_
    refine tk_loop (X := Nat × Value) (fun (j, vn) => j ≤ 8) (fun (j, vn) => [(0, Str b), (1, I ((p : Nat) : Int)), (2, I ((n : Nat) : Int)), (6, Str []), (7, vo), (8, I ((c : Nat) : Int)), (9, vn), (10, I (56 - 8 * (j : Int)))]) (fun (j, vn) => [own vn ((bej c j).length) ((bej c j).map B) 5 1, own vo (((tapeL b c).drop (32 * (p / 32))).length) (((tapeL b c).drop (32 * (p / 32))).map B) 5 1]) (fun (j, vn) => 8 - j) ((0, .slice none 0 0)) (Nat.zero_le _) (by repeat (first | exact trivial | refine ⟨rfl, ?_⟩)) ((List.Sublist.refl _)) ?_
    rintro ⟨j, vn⟩ hI
    try dsimp only at hI ⊢
    have hln : (bej c j).length = j := bej_len
    refine tk_own1 (.head _) fun hfn => ?_; refine tk_seq ?_; refine s_r ?_; refine s_q rfl (y_move rfl) ?_; refine s_q rfl (y_geq rfl rfl) ?_; refine s_n ?_; refine tk_condP rfl (fun ht23 => ?_) (fun ht23 => ?_)
    · skip
      refine tk_skip ?_; refine tk_then ?_; refine tk_seq ?_; refine tk_block ?_; refine tk_region ?_; refine tk_re 10 (I (56 - 8 * (j : Int))) (I ((56 - 8 * j : Nat) : Int)) rfl (congrArg I (by omega)) ?_; refine s_q rfl (y_move rfl) ?_; refine s_q rfl (y_move rfl) ?_; refine s_q rfl (y_move rfl) ?_; refine s_q rfl (y_shrN (a := c) (m := 56 - 8 * j) rfl rfl (by simp [IntKind.bits]; omega)) ?_; refine s_q rfl (y_convi8 (m := c / 2 ^ (56 - 8 * j)) rfl rfl rfl) ?_
      refine tk_act rfl ?_; refine a_slitN (vs := [B (UInt8.ofNat (c / 2 ^ (56 - 8 * j)))]) rfl (List.forall_mem_cons.2 ⟨rfl, (fun _ h => nomatch h)⟩) (EL42) rfl rfl (by decide) fun b31 => ?_; refine tk_act rfl ?_; refine a_appM (H1 := [_]) (f := B) (l := bej c j) (m := [UInt8.ofNat (c / 2 ^ (56 - 8 * j))]) rfl rfl EL42 rfl rfl (fun w hw => cel_rdE (o := 0) (m := 1) (cp := 1) (vs := [UInt8.ofNat (c / 2 ^ (56 - 8 * j))].map B) (hw.mem (.head _)) (rfl) (by first | rfl | exact lenP | (simp; omega)) lenP) (fun _ => rfl) ⟨lenP, lenP⟩ fun v32 => ?_
      refine tk_own1 (.tail _ (.head _)) fun hfv32 => ?_; refine s_q rfl (y_assign rfl) ?_; refine tk_nil ?_; refine tk_in_normal ?_; refine tk_then ?_; refine tk_region ?_; refine tk_re 10 (I ((56 - 8 * j : Nat) : Int)) (I (56 - 8 * (j : Int))) rfl (congrArg I (by omega)) ?_; refine s_q rfl (y_move rfl) ?_; refine s_q rfl (y_subI rfl rfl (by omega)) ?_; refine s_q rfl (y_assign rfl) ?_; refine tk_nil ?_
      refine tk_re 10 (I ((56 - 8 * (j : Int)) - (8 : Int))) (I (56 - 8 * ((j + 1 : Nat) : Int))) rfl (congrArg I (by omega)) ?_; refine tk_H [cel b31 ([B (UInt8.ofNat (c / 2 ^ (56 - 8 * j)))]) 5, own v32 ((bej c (j + 1)).length) ((bej c (j + 1)).map B) 5 1, own vo (((tapeL b c).drop (32 * (p / 32))).length) (((tapeL b c).drop (32 * (p / 32))).map B) 5 1] (congrArg (fun z_ => [cel b31 ([B (UInt8.ofNat (c / 2 ^ (56 - 8 * j)))]) 5, z_, own vo (((tapeL b c).drop (32 * (p / 32))).length) (((tapeL b c).drop (32 * (p / 32))).map B) 5 1]) (show own v32 (((bej c j) ++ [UInt8.ofNat (c / 2 ^ (56 - 8 * j))]).length) (((bej c j) ++ [UInt8.ofNat (c / 2 ^ (56 - 8 * j))]).map B) 5 1 = own v32 ((bej c (j + 1)).length) ((bej c (j + 1)).map B) 5 1 from ownM_cast bej_snoc)) ?_
      exact tk_again ((j + 1, v32)) (by dsimp only; omega) (by dsimp only; omega) (by repeat (first | exact trivial | refine ⟨rfl, ?_⟩)) (.cons _ (List.Sublist.refl _))
    · skip
      refine tk_H [own vn ((be8 c).length) ((be8 c).map B) 5 1, own vo (((tapeL b c).drop (32 * (p / 32))).length) (((tapeL b c).drop (32 * (p / 32))).map B) 5 1] (congrArg (fun z_ => [z_, own vo (((tapeL b c).drop (32 * (p / 32))).length) (((tapeL b c).drop (32 * (p / 32))).map B) 5 1]) (show own vn ((bej c j).length) ((bej c j).map B) 5 1 = own vn ((be8 c).length) ((be8 c).map B) 5 1 from ownM_cast (by rw [show j = 8 by omega, be8_def]))) ?_
      refine tk_own1 (.head _) fun hfn => ?_
      have hl8 : (be8 c).length = 8 := be8_len
      refine tk_exit ?_; refine tk_then_exit ?_; refine tk_then_exit ?_; refine tk_in_hit ?_; refine tk_then ?_; refine tk_region ?_; refine s_q rfl (y_move rfl) ?_; refine s_q rfl (y_move rfl) ?_; refine s_q rfl (y_move rfl) ?_; refine s_q rfl (y_str (l := be8 c) rfl rfl rfl rfl (fun w hw => own_rdS (hw.mem (.head _)))) ?_; refine s_q rfl (y_catT (l := b) (m := be8 c) rfl rfl lenP) ?_; refine tk_act rfl ?_; refine a_callv [] _ rfl (by kernel_rfl) rfl (fun w' hw' => rof_spec (l := b ++ (be8 c)) lenP) rfl fun _ _ => ?_
      refine tk_act rfl ?_; refine a_appStr (H1 := [_]) (l := (tapeL b c).drop (32 * (p / 32))) (m := sumL (b ++ (be8 c))) rfl rfl EL42 Tryz.underlying9 rfl rfl ⟨lenP, lenP⟩ fun v39 => ?_; refine tk_own1 (.tail _ (.head _)) fun hfv39 => ?_; refine s_q rfl (y_assign rfl) ?_; refine tk_nil ?_; refine tk_in_normal ?_; refine tk_then ?_; refine tk_region ?_; refine s_q rfl (y_move rfl) ?_; refine s_q rfl (y_addN (a := c) (b := 1) rfl rfl (by omega)) ?_
      refine s_q rfl (y_assign rfl) ?_; refine tk_nil ?_; refine tk_H [own vn ((be8 c).length) ((be8 c).map B) 5 1, own v39 (((tapeL b (c + 1)).drop (32 * (p / 32))).length) (((tapeL b (c + 1)).drop (32 * (p / 32))).map B) 5 1] (congrArg (fun z_ => [own vn ((be8 c).length) ((be8 c).map B) 5 1, z_]) (show own v39 ((((tapeL b c).drop (32 * (p / 32))) ++ (sumL (b ++ (be8 c)))).length) ((((tapeL b c).drop (32 * (p / 32))) ++ (sumL (b ++ (be8 c)))).map B) 5 1 = own v39 (((tapeL b (c + 1)).drop (32 * (p / 32))).length) (((tapeL b (c + 1)).drop (32 * (p / 32))).map B) 5 1 from ownM_cast (tape_more (by omega)))) ?_
      exact tk_again ((c + 1, v39)) (⟨by dsimp only; omega, by dsimp only; omega⟩) (by dsimp only; omega) (by repeat (first | exact trivial | refine ⟨rfl, ?_⟩)) (.cons _ (List.Sublist.refl _))
  · skip
    refine tk_exit ?_; refine tk_then_exit ?_; refine tk_then_exit ?_; refine tk_in_hit ?_; refine tk_then ?_; refine s_r ?_; refine s_q rfl (y_move rfl) ?_; refine s_q rfl (y_move rfl) ?_; refine s_q rfl (y_remN (a := p) (b := 32) rfl rfl (by omega)) ?_; refine s_q rfl (y_move rfl) ?_; refine s_q rfl (y_remN (a := p) (b := 32) rfl rfl (by omega)) ?_; refine s_q rfl (y_move rfl) ?_; refine s_q rfl (y_addN (a := p % 32) (b := n) rfl rfl (by omega)) ?_
    refine s_q rfl (y_cutRBlh (l := (tapeL b c).drop (32 * (p / 32))) (p % 32) ((p % 32) + n) rfl rfl rfl hfo.choose_spec (by kernel_rfl) ⟨lenP, lenP⟩ rfl rfl) ?_; refine tk_qe (Str (tapeN b p n)) rfl rfl rfl (y_str (l := (((tapeL b c).drop (32 * (p / 32))).drop (p % 32)).take (((p % 32) + n) - (p % 32))) rfl rfl rfl rfl (fun w hw => RdS.cutB ((fun w hw => own_rdS (hw.mem (.head _))) w hw) (lo := p % 32) (hi := (p % 32) + n) ⟨lenP, lenP⟩)) (by rw [tape_cut (by omega)]) ?_
    refine s_q rfl (y_assign rfl) ?_; refine s_n ?_; refine tk_retc ?_
    exact tk_ret (()) (trivial) (.inl rfl) (r1 rfl rfl) (List.nil_sublist _)
end Go.Proofs.YtkkjfojgjmglpaaGreatDoor
set_option linter.unusedSimpArgs false
set_option linter.unusedVariables false
namespace Go.Proofs.YtkkjfojgjmglpaaGreatDoor
open Go Go.RowKit
set_option maxRecDepth 100000
theorem hex_hi (x : UInt8) : (UInt8.ofNat (x.toNat / 2 ^ 4)).toNat < 16 := by have := x.toNat_lt; simp; omega
theorem hex_lo (x : UInt8) : (x &&& 15).toNat < 16 := by rw [UInt8.toNat_and]; have := @Nat.and_le_right x.toNat (15 : UInt8).toNat; have : (15 : UInt8).toNat = 15 := rfl; omega
theorem hex_hi2 (x : UInt8) : (UInt8.ofNat (x.toNat / (16 : UInt8).toNat)).toNat < 16 := by have := x.toNat_lt; simp; omega
theorem hex_lo2 (x : UInt8) : (UInt8.ofNat (x.toNat % (16 : UInt8).toNat)).toNat < 16 := by have := x.toNat_lt; simp; omega
theorem hex_step {l : List UInt8} {i : Nat} (h : i < l.length) : hexL (l.take i) ++ [([48, 49, 50, 51, 52, 53, 54, 55, 56, 57, 97, 98, 99, 100, 101, 102] : List UInt8).getD (UInt8.ofNat ((l.getD i 0).toNat / 2 ^ 4)).toNat 0, ([48, 49, 50, 51, 52, 53, 54, 55, 56, 57, 97, 98, 99, 100, 101, 102] : List UInt8).getD ((l.getD i 0) &&& 15).toNat 0] = hexL (l.take (i + 1)) := by
  rw [← hexL_take h]
  generalize l.getD i 0 = x
  have e1 : (UInt8.ofNat (x.toNat / 2 ^ 4)).toNat = x.toNat / 16 := by have := x.toNat_lt; simp; omega
  have e2 : (x &&& 15).toNat = x.toNat % 16 := by rw [UInt8.toNat_and]; exact Nat.and_two_pow_sub_one_eq_mod x.toNat 4
  rw [e1, e2]; rfl
theorem hex_step2 {l : List UInt8} {i : Nat} (h : i < l.length) : hexL (l.take i) ++ [([48, 49, 50, 51, 52, 53, 54, 55, 56, 57, 97, 98, 99, 100, 101, 102] : List UInt8).getD (UInt8.ofNat ((l.getD i 0).toNat / (16 : UInt8).toNat)).toNat 0, ([48, 49, 50, 51, 52, 53, 54, 55, 56, 57, 97, 98, 99, 100, 101, 102] : List UInt8).getD (UInt8.ofNat ((l.getD i 0).toNat % (16 : UInt8).toNat)).toNat 0] = hexL (l.take (i + 1)) := by
  rw [← hexL_take h]
  generalize l.getD i 0 = x
  have e1 : (UInt8.ofNat (x.toNat / (16 : UInt8).toNat)).toNat = x.toNat / 16 := by have := x.toNat_lt; simp; omega
  have e2 : (UInt8.ofNat (x.toNat % (16 : UInt8).toNat)).toNat = x.toNat % 16 := by have := x.toNat_lt; simp; omega
  rw [e1, e2]; rfl
attribute [local irreducible] sumL keyedL hexL
theorem text_spec {l : List UInt8} {w : World} (hl : l.length = 32) : Spec Tryz.prog 58 [Ag l] w [] (fun _ : Unit => True) (fun _ => Str (hexL l)) (fun _ => []) := by
  refine spec_of (n := 22) Tryz.func58 rfl rfl trivial trivial rfl ?_; refine s_r ?_; refine tk_act rfl ?_; refine a_boxL (cs := l.map B) rfl rfl fun b1 => ?_; refine s_q rfl (y_assign rfl) ?_; refine s_n ?_; refine s_r ?_; refine s_q rfl (y_assign rfl) ?_; refine s_n ?_; refine tk_seq ?_; refine s_r ?_; refine s_q rfl (y_loadA 32 rfl (by kernel_rfl) lenP (hcw (.head _))) ?_; refine s_q rfl (y_move rfl) ?_
  refine s_n ?_; refine tk_block ?_; refine tk_ownM0 (f := B) 5 ?_; refine tk_H [own (.slice none 0 0) ((hexL (l.take 0)).length) ((hexL (l.take 0)).map B) 5 1, cel b1 (l.map B) 27] (congrArg (fun z_ => [z_, cel b1 (l.map B) 27]) (show own (.slice none 0 0) (([] : List UInt8).length) (([] : List UInt8).map B) 5 1 = own (.slice none 0 0) ((hexL (l.take 0)).length) ((hexL (l.take 0)).map B) 5 1 from ownM_cast (hexL_0.symm))) ?_
  refine tk_loop (X := Nat × Value) (fun (i, v) => i ≤ 32) (fun (i, v) => [(2, Str []), (3, v), (6, .agg (l.map B).toArray), (7, I ((i : Nat) : Int))]) (fun (i, v) => [own v ((hexL (l.take i)).length) ((hexL (l.take i)).map B) 5 1, cel b1 (l.map B) 27]) (fun (i, v) => 32 - i) ((0, .slice none 0 0)) (Nat.zero_le _) (by repeat (first | exact trivial | refine ⟨rfl, ?_⟩)) ((List.Sublist.refl _)) ?_
  rintro ⟨i, v⟩ hI
  try dsimp only at hI ⊢
  have hlx : (hexL (l.take i)).length ≤ 2 * l.length := by rw [hexL_len, List.length_take]; omega
  refine tk_own1 (.head _) fun hfv => ?_; refine s_r ?_; refine s_q rfl (y_lss rfl rfl) ?_; refine s_n ?_; refine tk_seq ?_; refine tk_condP rfl (fun ht8 => ?_) (fun ht8 => ?_)
  · skip
    refine tk_skip ?_; refine tk_then ?_; refine tk_seq ?_; refine tk_block ?_; refine s_r ?_; refine s_q rfl (y_ixVM (d0 := 0) (i := i) rfl rfl rfl rfl (fun _ => by kernel_rfl) (by omega) lenP) ?_; refine s_q rfl (y_assign rfl) ?_; refine s_n ?_; refine tk_drawH [cel b1 (l.map B) 27] [] (by kernel_rfl) ?_; refine s_x 0 rfl (y_move rfl) ?_; refine s_x 1 rfl (y_move rfl) ?_; refine s_x 2 rfl (y_shr8 (a := l.getD i 0) (m := 4) rfl rfl (by decide)) ?_
    refine s_x 3 rfl (y_ixT (l := [48, 49, 50, 51, 52, 53, 54, 55, 56, 57, 97, 98, 99, 100, 101, 102]) (i := (UInt8.ofNat ((l.getD i 0).toNat / 2 ^ 4)).toNat) rfl rfl rfl ⟨rfl, (hex_hi _)⟩) ?_; refine s_x 4 rfl (y_move rfl) ?_; refine s_x 5 rfl (y_and8 (a := l.getD i 0) (b := 15) rfl rfl) ?_; refine s_x 6 rfl (y_ixT (l := [48, 49, 50, 51, 52, 53, 54, 55, 56, 57, 97, 98, 99, 100, 101, 102]) (i := ((l.getD i 0) &&& 15).toNat) rfl rfl rfl ⟨rfl, (hex_lo _)⟩) ?_
    refine tx_a 7 rfl (by kernel_rfl) rfl ?_; refine a_slitN (vs := [B ([48, 49, 50, 51, 52, 53, 54, 55, 56, 57, 97, 98, 99, 100, 101, 102].getD ((UInt8.ofNat ((l.getD i 0).toNat / 2 ^ 4)).toNat) 0), B ([48, 49, 50, 51, 52, 53, 54, 55, 56, 57, 97, 98, 99, 100, 101, 102].getD (((l.getD i 0) &&& 15).toNat) 0)]) rfl (List.forall_mem_cons.2 ⟨rfl, (List.forall_mem_cons.2 ⟨rfl, (fun _ h => nomatch h)⟩)⟩) (EL42) rfl rfl (by decide) fun b17 => ?_
    refine tk_S (fun _ h => h.sub (.cons _ (.cons _ (List.Sublist.refl _)))) ?_; refine tx_more [cel b17 ([B ([48, 49, 50, 51, 52, 53, 54, 55, 56, 57, 97, 98, 99, 100, 101, 102].getD ((UInt8.ofNat ((l.getD i 0).toNat / 2 ^ 4)).toNat) 0), B ([48, 49, 50, 51, 52, 53, 54, 55, 56, 57, 97, 98, 99, 100, 101, 102].getD (((l.getD i 0) &&& 15).toNat) 0)]) 5, cel b1 (l.map B) 27] (fun _ h => h.sub (.cons _ (List.Sublist.refl _))) (fun _ h => h.sub (.cons_cons _ (.cons _ (List.Sublist.refl _)))) ?_
    refine tx_a 8 rfl (by kernel_rfl) rfl ?_; refine a_appM (H1 := [_]) (f := B) (l := hexL (l.take i)) (m := [[48, 49, 50, 51, 52, 53, 54, 55, 56, 57, 97, 98, 99, 100, 101, 102].getD ((UInt8.ofNat ((l.getD i 0).toNat / 2 ^ 4)).toNat) 0, [48, 49, 50, 51, 52, 53, 54, 55, 56, 57, 97, 98, 99, 100, 101, 102].getD (((l.getD i 0) &&& 15).toNat) 0]) rfl rfl EL42 rfl rfl (fun w hw => cel_rdE (o := 0) (m := 2) (cp := 2) (vs := ([[48, 49, 50, 51, 52, 53, 54, 55, 56, 57, 97, 98, 99, 100, 101, 102].getD ((UInt8.ofNat ((l.getD i 0).toNat / 2 ^ 4)).toNat) 0, [48, 49, 50, 51, 52, 53, 54, 55, 56, 57, 97, 98, 99, 100, 101, 102].getD (((l.getD i 0) &&& 15).toNat) 0]).map B) (hw.mem (.head _)) (rfl) (by first | rfl | exact lenP | (simp; omega)) lenP) (fun _ => rfl) ⟨lenP, lenP⟩ fun v18 => ?_
    refine tk_own1 (.tail _ (.head _)) fun hfv18 => ?_; refine tk_S (fun _ h => h.sub (.cons_cons _ (.cons _ (List.Sublist.refl _)))) ?_; refine s_x 9 rfl (y_assign rfl) ?_; refine tx_done (by kernel_rfl) ?_; refine tk_in_normal ?_; refine tk_then ?_; refine tk_region ?_; refine s_q rfl (y_addN (a := i) (b := 1) rfl rfl (by omega)) ?_; refine s_q rfl (y_move rfl) ?_; refine tk_nil ?_; refine tk_H [cel b17 ([B ([48, 49, 50, 51, 52, 53, 54, 55, 56, 57, 97, 98, 99, 100, 101, 102].getD ((UInt8.ofNat ((l.getD i 0).toNat / 2 ^ 4)).toNat) 0), B ([48, 49, 50, 51, 52, 53, 54, 55, 56, 57, 97, 98, 99, 100, 101, 102].getD (((l.getD i 0) &&& 15).toNat) 0)]) 5, own v18 ((hexL (l.take (i + 1))).length) ((hexL (l.take (i + 1))).map B) 5 1, cel b1 (l.map B) 27] (congrArg (fun z_ => [cel b17 ([B ([48, 49, 50, 51, 52, 53, 54, 55, 56, 57, 97, 98, 99, 100, 101, 102].getD ((UInt8.ofNat ((l.getD i 0).toNat / 2 ^ 4)).toNat) 0), B ([48, 49, 50, 51, 52, 53, 54, 55, 56, 57, 97, 98, 99, 100, 101, 102].getD (((l.getD i 0) &&& 15).toNat) 0)]) 5, z_, cel b1 (l.map B) 27]) (show own v18 (((hexL (l.take i)) ++ ([[48, 49, 50, 51, 52, 53, 54, 55, 56, 57, 97, 98, 99, 100, 101, 102].getD ((UInt8.ofNat ((l.getD i 0).toNat / 2 ^ 4)).toNat) 0, [48, 49, 50, 51, 52, 53, 54, 55, 56, 57, 97, 98, 99, 100, 101, 102].getD (((l.getD i 0) &&& 15).toNat) 0])).length) (((hexL (l.take i)) ++ ([[48, 49, 50, 51, 52, 53, 54, 55, 56, 57, 97, 98, 99, 100, 101, 102].getD ((UInt8.ofNat ((l.getD i 0).toNat / 2 ^ 4)).toNat) 0, [48, 49, 50, 51, 52, 53, 54, 55, 56, 57, 97, 98, 99, 100, 101, 102].getD (((l.getD i 0) &&& 15).toNat) 0])).map B) 5 1 = own v18 ((hexL (l.take (i + 1))).length) ((hexL (l.take (i + 1))).map B) 5 1 from ownM_cast (hex_step (by omega)))) ?_
    exact tk_again ((i + 1, v18)) (by dsimp only; omega) (by dsimp only; omega) (by repeat (first | exact trivial | refine ⟨rfl, ?_⟩)) (.cons _ (List.Sublist.refl _))
  · skip
    refine tk_exit ?_; refine tk_then_exit ?_; refine tk_then_exit ?_; refine tk_in_hit ?_; refine tk_then ?_; refine s_r ?_; refine s_q rfl (y_move rfl) ?_; refine s_q rfl (y_str (l := hexL (l.take i)) rfl rfl rfl rfl (fun w hw => own_rdS (hw.mem (.head _)))) ?_; refine tk_re 21 (Str (hexL (l.take i))) (Str (hexL l)) rfl (by rw [show i = 32 by omega, ← hl, List.take_length]) ?_; refine s_q rfl (y_assign rfl) ?_
    refine s_n ?_; refine tk_retc ?_
    exact tk_ret (()) (trivial) (.inl rfl) (r1 rfl rfl) (List.nil_sublist _)
theorem rtext_spec {l : List UInt8} {w : World} (hl : l.length < 1099511627776) : Spec Tryz.prog 73 [Str l] w [] (fun _ : Unit => True) (fun _ => Str (hexL l)) (fun _ => []) := by
  refine spec_of (n := 29) Tryz.func73 rfl rfl trivial trivial rfl ?_; refine s_r ?_; refine s_q rfl (y_assign rfl) ?_; refine s_n ?_; refine s_r ?_; refine s_q rfl (y_assign rfl) ?_; refine s_n ?_; refine s_r ?_; refine s_q rfl (y_assign rfl) ?_; refine s_n ?_; refine tk_seq ?_; refine s_r ?_; refine s_q rfl (y_assign rfl) ?_; refine s_n ?_; refine tk_block ?_; refine tk_ownM0 (f := B) 5 ?_; refine tk_H [own (.slice none 0 0) ((hexL (l.take 0)).length) ((hexL (l.take 0)).map B) 5 1] (congrArg (fun z_ => [z_]) (show own (.slice none 0 0) (([] : List UInt8).length) (([] : List UInt8).map B) 5 1 = own (.slice none 0 0) ((hexL (l.take 0)).length) ((hexL (l.take 0)).map B) 5 1 from ownM_cast (hexL_0.symm))) ?_
  refine tk_loop (X := Nat × Value) (fun (i, v) => i ≤ l.length) (fun (i, v) => [(0, Str l), (2, Str []), (3, Str [48, 49, 50, 51, 52, 53, 54, 55, 56, 57, 97, 98, 99, 100, 101, 102]), (4, v), (5, I ((i : Nat) : Int))]) (fun (i, v) => [own v ((hexL (l.take i)).length) ((hexL (l.take i)).map B) 5 1]) (fun (i, v) => l.length - i) ((0, .slice none 0 0)) (Nat.zero_le _) (by repeat (first | exact trivial | refine ⟨rfl, ?_⟩)) ((List.Sublist.refl _)) ?_
  rintro ⟨i, v⟩ hI
  try dsimp only at hI ⊢
  have hlx : (hexL (l.take i)).length ≤ 2 * l.length := by rw [hexL_len, List.length_take]; omega
  refine tk_own1 (.head _) fun hfv => ?_; refine tk_seq ?_; refine s_r ?_; refine s_q rfl (y_move rfl) ?_; refine s_q rfl (y_move rfl) ?_; refine s_q rfl (y_lenStr (l := l) rfl rfl) ?_; refine s_q rfl (y_lss rfl rfl) ?_; refine s_n ?_; refine tk_condP rfl (fun ht9 => ?_) (fun ht9 => ?_)
  · skip
    refine tk_skip ?_; refine tk_then ?_; refine tk_seq ?_; refine tk_block ?_; refine tk_drawH [] [] (by kernel_rfl) ?_; refine s_x 0 rfl (y_move rfl) ?_; refine s_x 1 rfl (y_move rfl) ?_; refine s_x 2 rfl (y_move rfl) ?_; refine s_x 3 rfl (y_move rfl) ?_; refine s_x 4 rfl (y_ixT (l := l) (i := i) rfl rfl rfl ⟨rfl, lenP⟩) ?_; refine s_x 5 rfl (y_quo8 (a := l.getD i 0) (b := 16) rfl rfl (by decide)) ?_
    refine s_x 6 rfl (y_ixT (l := [48, 49, 50, 51, 52, 53, 54, 55, 56, 57, 97, 98, 99, 100, 101, 102]) (i := (UInt8.ofNat ((l.getD i 0).toNat / (16 : UInt8).toNat)).toNat) rfl rfl rfl ⟨rfl, (hex_hi2 _)⟩) ?_; refine s_x 7 rfl (y_move rfl) ?_; refine s_x 8 rfl (y_move rfl) ?_; refine s_x 9 rfl (y_move rfl) ?_; refine s_x 10 rfl (y_ixT (l := l) (i := i) rfl rfl rfl ⟨rfl, lenP⟩) ?_; refine s_x 11 rfl (y_rem8 (a := l.getD i 0) (b := 16) rfl rfl (by decide)) ?_
    refine s_x 12 rfl (y_ixT (l := [48, 49, 50, 51, 52, 53, 54, 55, 56, 57, 97, 98, 99, 100, 101, 102]) (i := (UInt8.ofNat ((l.getD i 0).toNat % (16 : UInt8).toNat)).toNat) rfl rfl rfl ⟨rfl, (hex_lo2 _)⟩) ?_; refine tx_a 13 rfl (by kernel_rfl) rfl ?_; refine a_slitN (vs := [B ([48, 49, 50, 51, 52, 53, 54, 55, 56, 57, 97, 98, 99, 100, 101, 102].getD ((UInt8.ofNat ((l.getD i 0).toNat / (16 : UInt8).toNat)).toNat) 0), B ([48, 49, 50, 51, 52, 53, 54, 55, 56, 57, 97, 98, 99, 100, 101, 102].getD ((UInt8.ofNat ((l.getD i 0).toNat % (16 : UInt8).toNat)).toNat) 0)]) rfl (List.forall_mem_cons.2 ⟨rfl, (List.forall_mem_cons.2 ⟨rfl, (fun _ h => nomatch h)⟩)⟩) (EL42) rfl rfl (by decide) fun b25 => ?_
    refine tk_S (fun _ h => h.sub (List.nil_sublist _)) ?_; refine tx_more [cel b25 ([B ([48, 49, 50, 51, 52, 53, 54, 55, 56, 57, 97, 98, 99, 100, 101, 102].getD ((UInt8.ofNat ((l.getD i 0).toNat / (16 : UInt8).toNat)).toNat) 0), B ([48, 49, 50, 51, 52, 53, 54, 55, 56, 57, 97, 98, 99, 100, 101, 102].getD ((UInt8.ofNat ((l.getD i 0).toNat % (16 : UInt8).toNat)).toNat) 0)]) 5] (fun _ h => h.sub (List.nil_sublist _)) (fun _ h => h.sub (.cons_cons _ (List.nil_sublist _))) ?_
    refine tx_a 14 rfl (by kernel_rfl) rfl ?_; refine a_appM (H1 := [_]) (f := B) (l := hexL (l.take i)) (m := [[48, 49, 50, 51, 52, 53, 54, 55, 56, 57, 97, 98, 99, 100, 101, 102].getD ((UInt8.ofNat ((l.getD i 0).toNat / (16 : UInt8).toNat)).toNat) 0, [48, 49, 50, 51, 52, 53, 54, 55, 56, 57, 97, 98, 99, 100, 101, 102].getD ((UInt8.ofNat ((l.getD i 0).toNat % (16 : UInt8).toNat)).toNat) 0]) rfl rfl EL42 rfl rfl (fun w hw => cel_rdE (o := 0) (m := 2) (cp := 2) (vs := ([[48, 49, 50, 51, 52, 53, 54, 55, 56, 57, 97, 98, 99, 100, 101, 102].getD ((UInt8.ofNat ((l.getD i 0).toNat / (16 : UInt8).toNat)).toNat) 0, [48, 49, 50, 51, 52, 53, 54, 55, 56, 57, 97, 98, 99, 100, 101, 102].getD ((UInt8.ofNat ((l.getD i 0).toNat % (16 : UInt8).toNat)).toNat) 0]).map B) (hw.mem (.head _)) (rfl) (by first | rfl | exact lenP | (simp; omega)) lenP) (fun _ => rfl) ⟨lenP, lenP⟩ fun v26 => ?_
    refine tk_own1 (.tail _ (.head _)) fun hfv26 => ?_; refine tk_S (fun _ h => h.sub (.cons_cons _ (List.nil_sublist _))) ?_; refine s_x 15 rfl (y_assign rfl) ?_; refine tx_done (by kernel_rfl) ?_; refine tk_in_normal ?_; refine tk_then ?_; refine tk_region ?_; refine s_q rfl (y_move rfl) ?_; refine s_q rfl (y_addN (a := i) (b := 1) rfl rfl (by omega)) ?_; refine s_q rfl (y_assign rfl) ?_; refine tk_nil ?_
    refine tk_H [cel b25 ([B ([48, 49, 50, 51, 52, 53, 54, 55, 56, 57, 97, 98, 99, 100, 101, 102].getD ((UInt8.ofNat ((l.getD i 0).toNat / (16 : UInt8).toNat)).toNat) 0), B ([48, 49, 50, 51, 52, 53, 54, 55, 56, 57, 97, 98, 99, 100, 101, 102].getD ((UInt8.ofNat ((l.getD i 0).toNat % (16 : UInt8).toNat)).toNat) 0)]) 5, own v26 ((hexL (l.take (i + 1))).length) ((hexL (l.take (i + 1))).map B) 5 1] (congrArg (fun z_ => [cel b25 ([B ([48, 49, 50, 51, 52, 53, 54, 55, 56, 57, 97, 98, 99, 100, 101, 102].getD ((UInt8.ofNat ((l.getD i 0).toNat / (16 : UInt8).toNat)).toNat) 0), B ([48, 49, 50, 51, 52, 53, 54, 55, 56, 57, 97, 98, 99, 100, 101, 102].getD ((UInt8.ofNat ((l.getD i 0).toNat % (16 : UInt8).toNat)).toNat) 0)]) 5, z_]) (show own v26 (((hexL (l.take i)) ++ ([[48, 49, 50, 51, 52, 53, 54, 55, 56, 57, 97, 98, 99, 100, 101, 102].getD ((UInt8.ofNat ((l.getD i 0).toNat / (16 : UInt8).toNat)).toNat) 0, [48, 49, 50, 51, 52, 53, 54, 55, 56, 57, 97, 98, 99, 100, 101, 102].getD ((UInt8.ofNat ((l.getD i 0).toNat % (16 : UInt8).toNat)).toNat) 0])).length) (((hexL (l.take i)) ++ ([[48, 49, 50, 51, 52, 53, 54, 55, 56, 57, 97, 98, 99, 100, 101, 102].getD ((UInt8.ofNat ((l.getD i 0).toNat / (16 : UInt8).toNat)).toNat) 0, [48, 49, 50, 51, 52, 53, 54, 55, 56, 57, 97, 98, 99, 100, 101, 102].getD ((UInt8.ofNat ((l.getD i 0).toNat % (16 : UInt8).toNat)).toNat) 0])).map B) 5 1 = own v26 ((hexL (l.take (i + 1))).length) ((hexL (l.take (i + 1))).map B) 5 1 from ownM_cast (hex_step2 (by omega)))) ?_
    exact tk_again ((i + 1, v26)) (by dsimp only; omega) (by dsimp only; omega) (by repeat (first | exact trivial | refine ⟨rfl, ?_⟩)) (.cons _ (List.Sublist.refl _))
  · skip
    refine tk_exit ?_; refine tk_then_exit ?_; refine tk_then_exit ?_; refine tk_in_hit ?_; refine tk_then ?_; refine s_r ?_; refine s_q rfl (y_move rfl) ?_; refine s_q rfl (y_str (l := hexL (l.take i)) rfl rfl rfl rfl (fun w hw => own_rdS (hw.mem (.head _)))) ?_; refine tk_re 28 (Str (hexL (l.take i))) (Str (hexL l)) rfl (by rw [show i = l.length by omega, List.take_length]) ?_; refine s_q rfl (y_assign rfl) ?_
    refine s_n ?_; refine tk_retc ?_
    exact tk_ret (()) (trivial) (.inl rfl) (r1 rfl rfl) (List.nil_sublist _)
theorem rbegin_spec {kind : UInt8} {w : World} : Spec Tryz.prog 70 [B kind] w [] (fun _ : Unit => True) (fun _ => Str [72, 89, kind]) (fun _ => []) := by
  refine spec_of (n := 7) Tryz.func70 rfl rfl trivial trivial rfl ?_; refine s_r ?_; refine s_q rfl (y_assign rfl) ?_; refine s_n ?_; refine s_r ?_; refine s_q rfl (y_move rfl) ?_; refine tk_act rfl ?_; refine a_slitN (vs := [B kind]) rfl (List.forall_mem_cons.2 ⟨rfl, (fun _ h => nomatch h)⟩) (EL42) rfl rfl (by decide) fun b4 => ?_; refine s_q rfl (y_str (l := [kind]) rfl rfl rfl rfl (fun w hw => cel_rdE (o := 0) (m := 1) (cp := 1) (vs := [kind].map B) (hw.mem (.head _)) (rfl) (by first | rfl | exact lenP | (simp; omega)) lenP)) ?_
  refine s_q rfl (y_catT (l := [72, 89]) (m := [kind]) rfl rfl lenP) ?_; refine s_q rfl (y_assign rfl) ?_; refine s_n ?_; refine tk_retc ?_
  exact tk_ret (()) (trivial) (.inl rfl) (r1 rfl rfl) (List.nil_sublist _)
theorem rnum_spec {n : Nat} {w : World} (hn : n < 4611686018427387904) : Spec Tryz.prog 71 [I (n : Int)] w [] (fun _ : Unit => True) (fun _ => Str (numL n)) (fun _ => []) := by
  refine spec_of (n := 22) Tryz.func71 rfl rfl trivial trivial rfl ?_
  have hn9 := numL_len 8 (n := n) (by omega)
  refine s_r ?_; refine s_q rfl (y_assign rfl) ?_; refine s_n ?_; refine s_r ?_; refine s_q rfl (y_assign rfl) ?_; refine s_n ?_; refine tk_seq ?_; refine tk_block ?_; refine tk_loop (X := List UInt8 × Nat) (fun (a, m) => a ++ numL m = numL n ∧ m < 4611686018427387904) (fun (a, m) => [(0, I ((m : Nat) : Int)), (2, Str []), (3, Str a)]) (fun (a, m) => []) (fun (a, m) => m) (([], n)) (⟨rfl, by omega⟩) (by repeat (first | exact trivial | refine ⟨rfl, ?_⟩)) ((List.Sublist.refl _)) ?_
  rintro ⟨a, m⟩ hI
  try dsimp only at hI ⊢
  have hla := congrArg List.length hI.1
  rw [List.length_append] at hla
  refine tk_seq ?_; refine s_r ?_; refine s_q rfl (y_move rfl) ?_; refine s_q rfl (y_geq rfl rfl) ?_; refine s_n ?_; refine tk_condP rfl (fun ht5 => ?_) (fun ht5 => ?_)
  · skip
    refine tk_skip ?_; refine tk_then ?_; refine tk_block ?_; refine s_r ?_; refine s_q rfl (y_move rfl) ?_; refine s_q rfl (y_move rfl) ?_; refine s_q rfl (y_remN (a := m) (b := 128) rfl rfl (by omega)) ?_; refine s_q rfl (y_addN (a := m % 128) (b := 128) rfl rfl (by omega)) ?_; refine s_q rfl (y_convi8 (m := (m % 128) + 128) rfl rfl rfl) ?_; refine tk_act rfl ?_; refine a_slitN (vs := [B (UInt8.ofNat ((m % 128) + 128))]) rfl (List.forall_mem_cons.2 ⟨rfl, (fun _ h => nomatch h)⟩) (EL42) rfl rfl (by decide) fun b11 => ?_
    refine s_q rfl (y_str (l := [UInt8.ofNat ((m % 128) + 128)]) rfl rfl rfl rfl (fun w hw => cel_rdE (o := 0) (m := 1) (cp := 1) (vs := [UInt8.ofNat ((m % 128) + 128)].map B) (hw.mem (.head _)) (rfl) (by first | rfl | exact lenP | (simp; omega)) lenP)) ?_; refine s_q rfl (y_catT (l := a) (m := [UInt8.ofNat ((m % 128) + 128)]) rfl rfl lenP) ?_; refine s_q rfl (y_assign rfl) ?_; refine s_n ?_; refine tk_region ?_
    refine s_q rfl (y_move rfl) ?_; refine s_q rfl (y_quoN (a := m) (b := 128) rfl rfl (by omega)) ?_; refine s_q rfl (y_assign rfl) ?_; refine tk_nil ?_; refine tk_in_normal ?_
    exact tk_again ((a ++ [UInt8.ofNat (m % 128 + 128)], m / 128)) (⟨by dsimp only; rw [← hI.1, numL_ge (n := m) (by omega)]; simp, by dsimp only; omega⟩) (by dsimp only; omega) (by repeat (first | exact trivial | refine ⟨rfl, ?_⟩)) (List.nil_sublist _)
  · skip
    refine tk_exit ?_; refine tk_then_exit ?_; refine tk_then_exit ?_; refine tk_in_hit ?_; refine tk_then ?_; refine s_r ?_; refine s_q rfl (y_move rfl) ?_; refine s_q rfl (y_move rfl) ?_; refine s_q rfl (y_convi8 (m := m) rfl rfl rfl) ?_; refine tk_act rfl ?_; refine a_slitN (vs := [B (UInt8.ofNat m)]) rfl (List.forall_mem_cons.2 ⟨rfl, (fun _ h => nomatch h)⟩) (EL42) rfl rfl (by decide) fun b19 => ?_
    refine s_q rfl (y_str (l := [UInt8.ofNat m]) rfl rfl rfl rfl (fun w hw => cel_rdE (o := 0) (m := 1) (cp := 1) (vs := [UInt8.ofNat m].map B) (hw.mem (.head _)) (rfl) (by first | rfl | exact lenP | (simp; omega)) lenP)) ?_; refine s_q rfl (y_catT (l := a) (m := [UInt8.ofNat m]) rfl rfl lenP) ?_; refine tk_re 21 (Str (a ++ [UInt8.ofNat m])) (Str (numL n)) rfl (by rw [← hI.1, numL_lt (n := m) (by omega)]) ?_
    refine s_q rfl (y_assign rfl) ?_; refine s_n ?_; refine tk_retc ?_
    exact tk_ret (()) (trivial) (.inl rfl) (r1 rfl rfl) (List.nil_sublist _)
end Go.Proofs.YtkkjfojgjmglpaaGreatDoor
set_option linter.unusedSimpArgs false
set_option linter.unusedVariables false
namespace Go.Proofs.YtkkjfojgjmglpaaGreatDoor
open Go Go.RowKit
set_option maxRecDepth 100000
abbrev IN (n : Nat) : Value := I (n : Int)
def numsL (ns : List Nat) : List UInt8 := ns.flatMap numL
theorem flat_succ {ps : List Sb} {i : Nat} (h : i < ps.length) : (ps.take (i + 1)).flatMap Prod.snd = (ps.take i).flatMap Prod.snd ++ (ps.getD i dP).2 := by
  have e : ps.getD i dP = ps[i] := by rw [List.getD_eq_getElem?_getD, List.getElem?_eq_getElem h]; rfl
  rw [e, List.take_add_one, List.getElem?_eq_getElem h]
  simp only [List.flatMap_append, Option.toList, List.flatMap_cons, List.flatMap_nil, List.append_nil]
theorem flat_pre {ps : List Sb} (i : Nat) : ((ps.take i).flatMap Prod.snd).length ≤ (ps.flatMap Prod.snd).length := by
  have := congrArg (fun l => (l.flatMap Prod.snd).length) (List.take_append_drop i ps)
  simp only [List.flatMap_append, List.length_append] at this; omega
theorem numsL_succ {ns : List Nat} {i : Nat} (h : i < ns.length) : numsL (ns.take i) ++ numL (ns.getD i 0) = numsL (ns.take (i + 1)) := by
  have e : ns.getD i 0 = ns[i] := by rw [List.getD_eq_getElem?_getD, List.getElem?_eq_getElem h]; rfl
  rw [e, List.take_add_one, List.getElem?_eq_getElem h]
  simp only [numsL, List.flatMap_append, Option.toList, List.flatMap_cons, List.flatMap_nil, List.append_nil]
theorem numsL_len {ns : List Nat} (h : ∀ n ∈ ns, n < 4611686018427387904) (i : Nat) : (numsL (ns.take i)).length ≤ 9 * ns.length := by
  have h2 : ∀ (l : List Nat), (∀ n ∈ l, n < 4611686018427387904) → (numsL l).length ≤ 9 * l.length := fun l => by
    induction l with
    | nil => intro _; simp [numsL]
    | cons n l ih =>
      intro hl
      have h3 := ih (fun m hm => hl m (List.mem_cons_of_mem _ hm))
      have h4 := numL_len 8 (n := n) (by have := hl n (List.mem_cons_self ..); omega)
      simp only [numsL, List.flatMap_cons, List.length_append, List.length_cons] at h3 ⊢; omega
  have h5 := h2 (ns.take i) (fun n hn => h n (List.mem_of_mem_take hn))
  have : (ns.take i).length ≤ ns.length := by simp; omega
  omega
attribute [local irreducible] sumL keyedL hexL
theorem gbegin_spec {kind : UInt8} {w : World} : Spec Tryz.prog 52 [B kind] w [] (fun _ : Nat × Value => True) (fun x => .pointer (some ⟨x.1, 0, none⟩)) (fun x => [cel x.1 [x.2, I 0] 204, ownB x.2 [72, 89, kind] 5]) := by
  refine spec_of (n := 10) Tryz.func52 rfl rfl trivial trivial rfl ?_; refine s_r ?_; refine s_q rfl (y_assign rfl) ?_; refine s_n ?_; refine s_r ?_; refine tk_act rfl ?_; refine a_slitN (vs := [B 72, B 89]) rfl (List.forall_mem_cons.2 ⟨rfl, (List.forall_mem_cons.2 ⟨rfl, (fun _ h => nomatch h)⟩)⟩) (EL42) rfl rfl (by decide) fun b3 => ?_; refine tk_act rfl ?_; refine a_convX (H1 := []) rfl Tryz.underlying42 Tryz.underlying5 rfl rfl ?_
  refine s_q rfl (y_move rfl) ?_; refine tk_act rfl ?_; refine a_slitN (vs := [B kind]) rfl (List.forall_mem_cons.2 ⟨rfl, (fun _ h => nomatch h)⟩) (EL42) rfl rfl (by decide) fun b6 => ?_; refine tk_celM (H1 := [_]) (f := B) (l := [72, 89]) (T := 5) rfl rfl (by decide) ?_; refine tk_act rfl ?_; refine a_appM (H1 := [_]) (f := B) (l := [72, 89]) (m := [kind]) rfl rfl EL42 rfl rfl (fun w hw => cel_rdE (o := 0) (m := 1) (cp := 1) (vs := [kind].map B) (hw.mem (.head _)) (rfl) (by first | rfl | exact lenP | (simp; omega)) lenP) (fun _ => rfl) ⟨lenP, lenP⟩ fun v7 => ?_
  refine tk_own1 (.tail _ (.head _)) fun hfv7 => ?_; refine tk_own1 (.tail _ (.head _)) fun hf7 => ?_; refine tk_H [cel b6 ([B kind]) 5, own v7 ([72, 89, kind].length) ([72, 89, kind].map B) 5 1] (congrArg (fun z_ => [cel b6 ([B kind]) 5, z_]) (show own v7 (([72, 89] ++ [kind]).length) (([72, 89] ++ [kind]).map B) 5 1 = own v7 ([72, 89, kind].length) ([72, 89, kind].map B) 5 1 from ownM_cast rfl)) ?_
  have hc7 := hf7.choose_spec.cells
  simp only [Value.cells] at hc7
  refine s_q rfl (y_build (v := .agg ([v7, I 0]).toArray) (vs := [(0, v7)]) rfl (run_build (zs := [Value.slice none 0 0, I 0]) (pl := [(0, 1), (1, 1)]) Tryz.underlying204 (fun _ => by kernel_rfl) (fun _ => by kernel_rfl) (by simp [fillL, Value.cells, hc7]))) ?_; refine tk_act rfl ?_; refine a_boxL (cs := [v7, I 0]) rfl rfl fun b9 => ?_; refine s_q rfl (y_assign rfl) ?_; refine s_n ?_; refine tk_retc ?_
  exact tk_ret ((b9, v7)) (trivial) (.inl rfl) (r1 rfl rfl) (.cons_cons _ (.cons _ (List.Sublist.refl _)))
theorem gnum1_spec {ob n : Nat} {v : Value} {b : List UInt8} {w : World} (hn : n < 4611686018427387904) (hb : b.length < 1099511627776) (hh : Pre w [cel ob [v, I 0] 204, ownB v b 5]) :
    Spec Tryz.prog 103 [.pointer (some ⟨ob, 0, none⟩), I (n : Int)] w [cel ob [v, I 0] 204, ownB v b 5] (fun _ : Value => True) (fun _ => .tuple #[]) (fun x => [cel ob [x, I 0] 204, ownB x (b ++ numL n) 5]) := by
  refine spec_of (n := 39) Tryz.func103 rfl rfl hh.1 hh.2 rfl ?_
  have hn9 := numL_len 8 (n := n) (by omega)
  refine tk_seq ?_; refine s_r ?_; refine s_q rfl (y_move rfl) ?_; refine tk_qe (.bool false) rfl rfl rfl (y_lss rfl rfl) (bool_f (by omega)) ?_; refine s_q rfl (y_move rfl) ?_; refine s_g rfl (y_move rfl) ?_; refine tk_gqe (.bool false) rfl rfl rfl (y_geq rfl rfl) (bool_f (by omega)) ?_; refine s_q rfl (y_pick0 rfl rfl) ?_; refine s_n ?_; refine tk_cond0 rfl ?_; refine tk_skip ?_; refine tk_then ?_
  refine tk_seq ?_; refine tk_block ?_; refine tk_loop (X := List UInt8 × Nat × Value) (fun (a, m, va) => a ++ numL m = b ++ numL n ∧ m < 4611686018427387904) (fun (a, m, va) => [(0, .pointer (some ⟨ob, 0, none⟩)), (1, I ((m : Nat) : Int))]) (fun (a, m, va) => [cel ob ([va, I 0]) 204, own va a.length (a.map B) 5 1]) (fun (a, m, va) => m) ((b, n, v)) (⟨rfl, by omega⟩) (by repeat (first | exact trivial | refine ⟨rfl, ?_⟩)) ((List.Sublist.refl _)) ?_
  rintro ⟨a, m, va⟩ hI
  try dsimp only at hI ⊢
  have hla := congrArg List.length hI.1
  rw [List.length_append, List.length_append] at hla
  refine tk_own1 (.tail _ (.head _)) fun hfa => ?_; refine tk_seq ?_; refine s_r ?_; refine s_q rfl (y_move rfl) ?_; refine s_q rfl (y_geq rfl rfl) ?_; refine s_n ?_; refine tk_condP rfl (fun ht13 => ?_) (fun ht13 => ?_)
  · skip
    refine tk_skip ?_; refine tk_then ?_; refine tk_seq ?_; refine tk_block ?_; refine tk_region ?_; refine s_q rfl (y_move rfl) ?_; refine s_q rfl (y_move rfl) ?_; refine s_q rfl (y_nilCheck rfl) ?_; refine s_q rfl (y_fld0 (o := 0) rfl (by kernel_rfl)) ?_; refine s_q rfl (y_load rfl rfl (hc (o := 0) (.head _) (rfl))) ?_; refine s_q rfl (y_move rfl) ?_; refine s_q rfl (y_convi8 (m := m) rfl rfl rfl) ?_
    refine s_q rfl (y_or8 (a := UInt8.ofNat m) (b := 128) rfl rfl) ?_; refine tk_act rfl ?_; refine a_slitN (vs := [B ((UInt8.ofNat m) ||| 128)]) rfl (List.forall_mem_cons.2 ⟨rfl, (fun _ h => nomatch h)⟩) (EL42) rfl rfl (by decide) fun b24 => ?_; refine tk_act rfl ?_; refine a_appM (H1 := [_, _]) (f := B) (l := a) (m := [(UInt8.ofNat m) ||| 128]) rfl rfl EL42 rfl rfl (fun w hw => cel_rdE (o := 0) (m := 1) (cp := 1) (vs := [(UInt8.ofNat m) ||| 128].map B) (hw.mem (.head _)) (rfl) (by first | rfl | exact lenP | (simp; omega)) lenP) (fun _ => rfl) ⟨lenP, lenP⟩ fun v25 => ?_
    refine tk_own1 (.tail _ (.tail _ (.head _))) fun hfv25 => ?_; refine s_q rfl (y_nilCheck rfl) ?_; refine s_q rfl (y_fld0 (o := 0) rfl (by kernel_rfl)) ?_; refine tk_act rfl ?_; refine a_storeE (H1 := [_]) (o := 0) (v := v25) (cs' := [v25, I 0]) rfl rfl (by kernel_rfl) (RdS.one hfv25.choose_spec) rfl (by first | (simp; done) | (simp; omega)) (rfl) ?_; refine tk_nil ?_; refine tk_in_normal ?_; refine tk_then ?_
    refine tk_region ?_; refine s_q rfl (y_move rfl) ?_; refine s_q rfl (y_shrN (k := .i64) (k' := .u64) (a := m) (m := 7) rfl rfl (by decide)) ?_; refine s_q rfl (y_assign rfl) ?_; refine tk_nil ?_
    exact tk_again ((a ++ [UInt8.ofNat m ||| 128], m / 2 ^ 7, v25)) (⟨by dsimp only; rw [← hI.1]; exact numL_step (by omega), by dsimp only; omega⟩) (by dsimp only; omega) (by repeat (first | exact trivial | refine ⟨rfl, ?_⟩)) (.cons _ (List.Sublist.refl _))
  · skip
    refine tk_exit ?_; refine tk_then_exit ?_; refine tk_then_exit ?_; refine tk_in_hit ?_; refine tk_then ?_; refine tk_region ?_; refine s_q rfl (y_move rfl) ?_; refine s_q rfl (y_move rfl) ?_; refine s_q rfl (y_nilCheck rfl) ?_; refine s_q rfl (y_fld0 (o := 0) rfl (by kernel_rfl)) ?_; refine s_q rfl (y_load rfl rfl (hc (o := 0) (.head _) (rfl))) ?_; refine s_q rfl (y_move rfl) ?_; refine s_q rfl (y_convi8 (m := m) rfl rfl rfl) ?_
    refine tk_act rfl ?_; refine a_slitN (vs := [B (UInt8.ofNat m)]) rfl (List.forall_mem_cons.2 ⟨rfl, (fun _ h => nomatch h)⟩) (EL42) rfl rfl (by decide) fun b35 => ?_; refine tk_act rfl ?_; refine a_appM (H1 := [_, _]) (f := B) (l := a) (m := [UInt8.ofNat m]) rfl rfl EL42 rfl rfl (fun w hw => cel_rdE (o := 0) (m := 1) (cp := 1) (vs := [UInt8.ofNat m].map B) (hw.mem (.head _)) (rfl) (by first | rfl | exact lenP | (simp; omega)) lenP) (fun _ => rfl) ⟨lenP, lenP⟩ fun v36 => ?_
    refine tk_own1 (.tail _ (.tail _ (.head _))) fun hfv36 => ?_; refine s_q rfl (y_nilCheck rfl) ?_; refine s_q rfl (y_fld0 (o := 0) rfl (by kernel_rfl)) ?_; refine tk_act rfl ?_; refine a_storeE (H1 := [_]) (o := 0) (v := v36) (cs' := [v36, I 0]) rfl rfl (by kernel_rfl) (RdS.one hfv36.choose_spec) rfl (by first | (simp; done) | (simp; omega)) (rfl) ?_; refine tk_nil ?_; refine tk_H [cel b35 ([B (UInt8.ofNat m)]) 5, cel ob ([v36, I 0]) 204, own v36 ((b ++ numL n).length) ((b ++ numL n).map B) 5 1] (congrArg (fun z_ => [cel b35 ([B (UInt8.ofNat m)]) 5, cel ob ([v36, I 0]) 204, z_]) (show own v36 ((a ++ [UInt8.ofNat m]).length) ((a ++ [UInt8.ofNat m]).map B) 5 1 = own v36 ((b ++ numL n).length) ((b ++ numL n).map B) 5 1 from ownM_cast (by rw [← hI.1, numL_lt (n := m) (by omega)]))) ?_
    exact tk_ret (v36) (trivial) (.inr rfl) (r0 rfl) (.cons _ (List.Sublist.refl _))
theorem gnum_spec {ob : Nat} {nv v : Value} {b : List UInt8} {ns : List Nat} {w : World} (hn : Ro (Fs [cel ob [v, I 0] 204, ownB v b 5]) w (rd nv (ns.map IN))) (hn62 : ∀ n ∈ ns, n < 4611686018427387904) (hnl : ns.length < 1000000) (hb : b.length < 109951162777) (hh : Pre w [cel ob [v, I 0] 204, ownB v b 5]) :
    Spec Tryz.prog 53 [.pointer (some ⟨ob, 0, none⟩), nv] w [cel ob [v, I 0] 204, ownB v b 5] (fun _ : Value => True) (fun _ => .pointer (some ⟨ob, 0, none⟩)) (fun x => [cel ob [x, I 0] 204, ownB x (b ++ numsL ns) 5]) := by
  refine spec_of (n := 27) Tryz.func53 rfl rfl hh.1 hh.2 rfl ?_; refine s_r ?_; refine s_q rfl (y_assign rfl) ?_; refine s_n ?_; refine tk_seq ?_; refine s_r ?_; refine s_q rfl (y_move rfl) ?_; refine s_q rfl (y_lenRN (n' := ns.length) rfl hn.1 rfl (by first | rfl | (rw [List.length_map]; omega) | simp)) ?_; refine s_q rfl (y_move rfl) ?_; refine s_n ?_; refine tk_block ?_; refine tk_H [cel ob ([v, I 0]) 204, own v ((b ++ numsL (ns.take 0)).length) ((b ++ numsL (ns.take 0)).map B) 5 1] (congrArg (fun z_ => [cel ob ([v, I 0]) 204, z_]) (show own v b.length (b.map B) 5 1 = own v ((b ++ numsL (ns.take 0)).length) ((b ++ numsL (ns.take 0)).map B) 5 1 from ownM_cast (by simp [numsL]))) ?_
  refine tk_loop (X := Nat × Value) (fun (i, va) => i ≤ ns.length) (fun (i, va) => [(0, .pointer (some ⟨ob, 0, none⟩)), (4, .pointer none), (7, nv), (8, I ((ns.length : Nat) : Int)), (9, I ((i : Nat) : Int))]) (fun (i, va) => [cel ob ([va, I 0]) 204, own va ((b ++ numsL (ns.take i)).length) ((b ++ numsL (ns.take i)).map B) 5 1]) (fun (i, va) => ns.length - i) ((0, v)) (Nat.zero_le _) (by repeat (first | exact trivial | refine ⟨rfl, ?_⟩)) ((List.Sublist.refl _)) ?_
  rintro ⟨i, va⟩ hI
  try dsimp only at hI ⊢
  have hll := numsL_len (ns := ns) hn62 i
  refine tk_own1 (.tail _ (.head _)) fun hfa => ?_; refine s_r ?_; refine s_q rfl (y_lss rfl rfl) ?_; refine s_n ?_; refine tk_seq ?_; refine tk_condP rfl (fun ht10 => ?_) (fun ht10 => ?_)
  · skip
    refine tk_skip ?_; refine tk_then ?_; refine tk_seq ?_; refine tk_block ?_; refine s_r ?_; refine s_q rfl (y_ixR (j := i) rfl rfl hn.1 lenP (by kernel_rfl)) ?_; refine s_q rfl (y_load rfl rfl (fun w hw => ((fun w hw => Ro.rd hn hw) w hw).cell (gM (f := IN) (d := 0) lenP))) ?_; refine s_q rfl (y_assign rfl) ?_; refine s_n ?_; refine s_r ?_; refine s_q rfl (y_move rfl) ?_; refine s_q rfl (y_pnnil rfl rfl rfl) ?_
    refine s_q rfl (y_move rfl) ?_; refine s_g rfl (y_move rfl) ?_; refine s_g rfl (y_nilCheck rfl) ?_; refine s_g rfl (y_fldN (o := 0) 1 rfl (by kernel_rfl)) ?_; refine s_g rfl (y_load rfl rfl (hc (o := 1) (.head _) (rfl))) ?_; refine s_g rfl ((y_eql rfl rfl).cast (bool_t (by decide))) ?_; refine s_q rfl (y_pick1 rfl rfl) ?_; refine s_n ?_; refine tk_cond1 rfl ?_; refine tk_region ?_; refine s_q rfl (y_move rfl) ?_
    refine s_q rfl (y_move rfl) ?_
    have hni : ns.getD i 0 < 4611686018427387904 := hn62 _ (getD_mem (by omega))
    refine tk_act rfl ?_; refine a_callv [] _ rfl (by kernel_rfl) rfl (fun w' hw' => gnum1_spec (ob := ob) (v := va) (b := b ++ numsL (ns.take i)) (n := ns.getD i 0) lenP lenP (St.pre hw')) rfl fun v24 _ => ?_; refine tk_nil ?_; refine tk_in_normal ?_; refine tk_then ?_; refine tk_region ?_; refine s_q rfl (y_addN (a := i) (b := 1) rfl rfl (by omega)) ?_; refine s_q rfl (y_move rfl) ?_; refine tk_nil ?_
    refine tk_H [cel ob ([v24, I 0]) 204, own v24 ((b ++ numsL (ns.take (i + 1))).length) ((b ++ numsL (ns.take (i + 1))).map B) 5 1] (congrArg (fun z_ => [cel ob ([v24, I 0]) 204, z_]) (show own v24 (((b ++ numsL (ns.take i)) ++ numL (ns.getD i 0)).length) (((b ++ numsL (ns.take i)) ++ numL (ns.getD i 0)).map B) 5 1 = own v24 ((b ++ numsL (ns.take (i + 1))).length) ((b ++ numsL (ns.take (i + 1))).map B) 5 1 from ownM_cast (by rw [List.append_assoc, numsL_succ (by omega)]))) ?_
    exact tk_again ((i + 1, v24)) (by first | exact trivial | omega | (dsimp only; omega)) (by first | omega | (dsimp only; omega)) (by repeat (first | exact trivial | refine ⟨rfl, ?_⟩)) (List.Sublist.refl _)
  · skip
    refine tk_exit ?_; refine tk_then_exit ?_; refine tk_then_exit ?_; refine tk_in_hit ?_; refine tk_then ?_; refine s_r ?_; refine s_q rfl (y_move rfl) ?_; refine s_q rfl (y_assign rfl) ?_; refine s_n ?_; refine tk_retc ?_; refine tk_H [cel ob ([va, I 0]) 204, own va ((b ++ numsL ns).length) ((b ++ numsL ns).map B) 5 1] (congrArg (fun z_ => [cel ob ([va, I 0]) 204, z_]) (show own va ((b ++ numsL (ns.take i)).length) ((b ++ numsL (ns.take i)).map B) 5 1 = own va ((b ++ numsL ns).length) ((b ++ numsL ns).map B) 5 1 from ownM_cast (by rw [show i = ns.length by omega, List.take_length]))) ?_
    exact tk_ret (va) (trivial) (.inl rfl) (r1 rfl rfl) (List.Sublist.refl _)
theorem graw_spec {ob : Nat} {pv v : Value} {b L : List UInt8} {ps : List Sb} {w : World} (hv : Ro (Fs [cel ob [v, I 0] 204, ownB v b 5]) w (rd pv (ps.map Prod.fst))) (hp : ∀ p ∈ ps, Ro (Fs [cel ob [v, I 0] 204, ownB v b 5]) w (rdB p.1 p.2)) (hL : ps.flatMap Prod.snd = L)
    (hpl : ps.length < 1099511627776) (hLl : L.length < 1099511627776) (hb : b.length < 1099511627776) (hh : Pre w [cel ob [v, I 0] 204, ownB v b 5]) :
    Spec Tryz.prog 55 [.pointer (some ⟨ob, 0, none⟩), pv] w [cel ob [v, I 0] 204, ownB v b 5] (fun _ : Value => True) (fun _ => .pointer (some ⟨ob, 0, none⟩)) (fun x => [cel ob [x, I 0] 204, ownB x (b ++ L) 5]) := by
  refine spec_of (n := 33) Tryz.func55 rfl rfl hh.1 hh.2 rfl ?_
  subst hL
  refine s_r ?_; refine s_q rfl (y_assign rfl) ?_; refine s_n ?_; refine tk_seq ?_; refine s_r ?_; refine s_q rfl (y_move rfl) ?_; refine s_q rfl (y_lenRN (n' := ps.length) rfl hv.1 rfl (by first | rfl | (rw [List.length_map]; omega) | simp)) ?_; refine s_q rfl (y_move rfl) ?_; refine s_n ?_; refine tk_block ?_; refine tk_H [cel ob ([v, I 0]) 204, own v ((b ++ (ps.take 0).flatMap Prod.snd).length) ((b ++ (ps.take 0).flatMap Prod.snd).map B) 5 1] (congrArg (fun z_ => [cel ob ([v, I 0]) 204, z_]) (show own v b.length (b.map B) 5 1 = own v ((b ++ (ps.take 0).flatMap Prod.snd).length) ((b ++ (ps.take 0).flatMap Prod.snd).map B) 5 1 from ownM_cast (by simp))) ?_
  refine tk_loop (X := Nat × Value) (fun (i, va) => i ≤ ps.length) (fun (i, va) => [(0, .pointer (some ⟨ob, 0, none⟩)), (4, .pointer none), (7, pv), (8, I ((ps.length : Nat) : Int)), (9, I ((i : Nat) : Int))]) (fun (i, va) => [cel ob ([va, I 0]) 204, own va ((b ++ (ps.take i).flatMap Prod.snd).length) ((b ++ (ps.take i).flatMap Prod.snd).map B) 5 1]) (fun (i, va) => ps.length - i) ((0, v)) (Nat.zero_le _) (by repeat (first | exact trivial | refine ⟨rfl, ?_⟩)) ((List.Sublist.refl _)) ?_
  rintro ⟨i, va⟩ hI
  try dsimp only at hI ⊢
  have hfl := flat_pre (ps := ps) i
  have hfl2 := flat_pre (ps := ps) (i + 1)
  refine tk_own1 (.tail _ (.head _)) fun hfa => ?_; refine s_r ?_; refine s_q rfl (y_lss rfl rfl) ?_; refine s_n ?_; refine tk_seq ?_; refine tk_condP rfl (fun ht10 => ?_) (fun ht10 => ?_)
  · skip
    refine tk_skip ?_; refine tk_then ?_; refine tk_seq ?_; refine tk_block ?_; refine s_r ?_; refine s_q rfl (y_ixR (j := i) rfl rfl hv.1 lenP (by kernel_rfl)) ?_; refine s_q rfl (y_load rfl rfl (fun w hw => ((fun w hw => Ro.rd hv hw) w hw).cell (gM (f := Prod.fst) (d := dP) lenP))) ?_; refine s_q rfl (y_assign rfl) ?_; refine s_n ?_; refine s_r ?_; refine s_q rfl (y_move rfl) ?_; refine s_q rfl (y_pnnil rfl rfl rfl) ?_
    refine s_q rfl (y_move rfl) ?_; refine s_g rfl (y_move rfl) ?_; refine s_g rfl (y_nilCheck rfl) ?_; refine s_g rfl (y_fldN (o := 0) 1 rfl (by kernel_rfl)) ?_; refine s_g rfl (y_load rfl rfl (hc (o := 1) (.head _) (rfl))) ?_; refine s_g rfl ((y_eql rfl rfl).cast (bool_t (by decide))) ?_; refine s_q rfl (y_pick1 rfl rfl) ?_; refine s_n ?_; refine tk_cond1 rfl ?_; refine tk_region ?_; refine s_q rfl (y_move rfl) ?_
    refine s_q rfl (y_move rfl) ?_; refine s_q rfl (y_nilCheck rfl) ?_; refine s_q rfl (y_fld0 (o := 0) rfl (by kernel_rfl)) ?_; refine s_q rfl (y_load rfl rfl (hc (o := 0) (.head _) (rfl))) ?_; refine s_q rfl (y_move rfl) ?_
    have hfl3 : ((ps.take i).flatMap Prod.snd).length + (ps.getD i dP).2.length = ((ps.take (i + 1)).flatMap Prod.snd).length := by rw [flat_succ (by omega), List.length_append]
    refine tk_act rfl ?_; refine a_appM (H1 := [_]) (f := B) (l := b ++ (ps.take i).flatMap Prod.snd) (m := (ps.getD i dP).2) rfl rfl EL42 rfl rfl (fun w hw => Ro.rd (hp _ (getD_mem lenP)) hw) (fun _ => rfl) ⟨lenP, lenP⟩ fun v28 => ?_; refine tk_own1 (.tail _ (.head _)) fun hfv28 => ?_; refine s_q rfl (y_nilCheck rfl) ?_; refine s_q rfl (y_fld0 (o := 0) rfl (by kernel_rfl)) ?_; refine tk_act rfl ?_; refine a_storeE (H1 := []) (o := 0) (v := v28) (cs' := [v28, I 0]) rfl rfl (by kernel_rfl) (RdS.one hfv28.choose_spec) rfl (by first | (simp; done) | (simp; omega)) (rfl) ?_
    refine tk_nil ?_; refine tk_in_normal ?_; refine tk_then ?_; refine tk_region ?_; refine s_q rfl (y_addN (a := i) (b := 1) rfl rfl (by omega)) ?_; refine s_q rfl (y_move rfl) ?_; refine tk_nil ?_; refine tk_H [cel ob ([v28, I 0]) 204, own v28 ((b ++ (ps.take (i + 1)).flatMap Prod.snd).length) ((b ++ (ps.take (i + 1)).flatMap Prod.snd).map B) 5 1] (congrArg (fun z_ => [cel ob ([v28, I 0]) 204, z_]) (show own v28 (((b ++ (ps.take i).flatMap Prod.snd) ++ ((ps.getD i dP).2)).length) (((b ++ (ps.take i).flatMap Prod.snd) ++ ((ps.getD i dP).2)).map B) 5 1 = own v28 ((b ++ (ps.take (i + 1)).flatMap Prod.snd).length) ((b ++ (ps.take (i + 1)).flatMap Prod.snd).map B) 5 1 from ownM_cast (by rw [List.append_assoc, flat_succ (by omega)]))) ?_
    exact tk_again ((i + 1, v28)) (by first | exact trivial | omega | (dsimp only; omega)) (by first | omega | (dsimp only; omega)) (by repeat (first | exact trivial | refine ⟨rfl, ?_⟩)) (List.Sublist.refl _)
  · skip
    refine tk_exit ?_; refine tk_then_exit ?_; refine tk_then_exit ?_; refine tk_in_hit ?_; refine tk_then ?_; refine s_r ?_; refine s_q rfl (y_move rfl) ?_; refine s_q rfl (y_assign rfl) ?_; refine s_n ?_; refine tk_retc ?_; refine tk_H [cel ob ([va, I 0]) 204, own va ((b ++ ps.flatMap Prod.snd).length) ((b ++ ps.flatMap Prod.snd).map B) 5 1] (congrArg (fun z_ => [cel ob ([va, I 0]) 204, z_]) (show own va ((b ++ (ps.take i).flatMap Prod.snd).length) ((b ++ (ps.take i).flatMap Prod.snd).map B) 5 1 = own va ((b ++ ps.flatMap Prod.snd).length) ((b ++ ps.flatMap Prod.snd).map B) 5 1 from ownM_cast (by rw [show i = ps.length by omega, List.take_length]))) ?_
    exact tk_ret (va) (trivial) (.inl rfl) (r1 rfl rfl) (List.Sublist.refl _)
theorem gbytes_spec {ob : Nat} {v : Value} {b : List UInt8} {w : World} (hb : b.length < 1099511627776) (hh : Pre w [cel ob [v, I 0] 204, ownB v b 5]) :
    Spec Tryz.prog 56 [.pointer (some ⟨ob, 0, none⟩)] w [cel ob [v, I 0] 204, ownB v b 5] (fun _ : Value => True) (fun x => .tuple #[x, I 0]) (fun x => [cel ob [v, I 0] 204, ownB v b 5, ownB x b 5]) := by
  refine spec_of (n := 22) Tryz.func56 rfl rfl hh.1 hh.2 rfl ?_; refine s_r ?_; refine s_q rfl (y_assign rfl) ?_; refine s_q rfl (y_assign rfl) ?_; refine s_n ?_; refine tk_seq ?_; refine tk_block ?_; refine s_r ?_; refine s_q rfl (y_move rfl) ?_; refine s_q rfl (y_pnil rfl rfl rfl) ?_; refine s_q rfl (y_assign rfl) ?_; refine s_n ?_; refine tk_cond0 rfl ?_; refine s_r ?_; refine s_q rfl (y_move rfl) ?_
  refine s_q rfl (y_nilCheck rfl) ?_; refine s_q rfl (y_fldN (o := 0) 1 rfl (by kernel_rfl)) ?_; refine s_q rfl (y_load rfl rfl (hc (o := 1) (.head _) (rfl))) ?_; refine s_q rfl ((y_neq rfl rfl).cast (bool_f (by decide))) ?_; refine s_q rfl (y_assign rfl) ?_; refine s_n ?_; refine tk_cond0 rfl ?_; refine tk_skip ?_; refine tk_in_normal ?_; refine tk_then ?_; refine s_r ?_; refine s_q rfl (y_move rfl) ?_
  refine s_q rfl (y_nilCheck rfl) ?_; refine s_q rfl (y_fld0 (o := 0) rfl (by kernel_rfl)) ?_; refine s_q rfl (y_load rfl rfl (hc (o := 0) (.head _) (rfl))) ?_; refine tk_act rfl ?_; refine a_callv [] _ rfl (by kernel_rfl) rfl (fun w' hw' => clone_spec (l := b) (Ro.own (H0 := []) hw' (.tail _ (.head _))) lenP) rfl fun v21 _ => ?_; refine s_q rfl (y_assign rfl) ?_; refine s_q rfl (y_assign rfl) ?_; refine s_n ?_
  refine tk_retc ?_; refine tk_perm _ mv2 ?_; refine tk_perm _ mv2 ?_
  exact tk_ret (v21) (trivial) (.inl rfl) (r2 rfl rfl rfl) (List.Sublist.refl _)
end Go.Proofs.YtkkjfojgjmglpaaGreatDoor
set_option linter.unusedSimpArgs false
set_option linter.unusedVariables false
namespace Go.Proofs.YtkkjfojgjmglpaaGreatDoor
open Go Go.RowKit
set_option maxRecDepth 100000
def setA (cs : List UInt8) : List Bool := cs.foldl (fun s c => s.set c.toNat true) (List.replicate 256 false)
theorem setA_len {cs : List UInt8} : (setA cs).length = 256 := by
  have : ∀ (cs : List UInt8) (s : List Bool), (cs.foldl (fun s c => s.set c.toNat true) s).length = s.length := by
    intro cs
    induction cs with
    | nil => intro s; rfl
    | cons c cs ih => intro s; rw [List.foldl_cons, ih, List.length_set]
  unfold setA; rw [this, List.length_replicate]
theorem setA_step {l : List UInt8} {i : Nat} (h : i < l.length) : setA (l.take (i + 1)) = (setA (l.take i)).set (l.getD i 0).toNat true := by
  unfold setA
  rw [List.take_add_one, List.getElem?_eq_getElem h, List.foldl_append, List.getD_eq_getElem?_getD, List.getElem?_eq_getElem h]; rfl
theorem setA_get {cs : List UInt8} {x : UInt8} : (setA cs).getD x.toNat false = cs.contains x := by
  have : ∀ (cs : List UInt8) (s : List Bool), s.length = 256 → (cs.foldl (fun s c => s.set c.toNat true) s).getD x.toNat false = (s.getD x.toNat false || cs.contains x) := by
    intro cs
    induction cs with
    | nil => intro s _; simp
    | cons c cs ih =>
      intro s hs
      rw [List.foldl_cons, ih _ (by rw [List.length_set]; exact hs)]
      have hx : x.toNat < s.length := by have := UInt8.toNat_lt x; omega
      by_cases hc : c = x
      · subst hc
        simp [List.getD_eq_getElem?_getD, hx]
      · have hne : c.toNat ≠ x.toNat := fun e => hc (UInt8.toNat.inj e)
        have hbeq : (x == c) = false := by simpa using fun e : x = c => hc e.symm
        simp [List.getD_eq_getElem?_getD, List.getElem?_set_ne hne, hbeq, Ne.symm hc]
  unfold setA; rw [this _ _ (by simp), List.getD_eq_getElem?_getD, List.getElem?_replicate]
  split <;> rfl
theorem mkasc_spec {l : List UInt8} {w : World} (hA : ∀ c ∈ l, c.toNat < 128) (hl : l.length < 1099511627776) : Spec Tryz.prog 199 [Str l] w [] (fun _ : Unit => True) (fun _ => .tuple #[.agg ((setA l).map bo).toArray, .bool true]) (fun _ => []) := by
  refine spec_of (n := 21) Tryz.func199 rfl rfl trivial trivial rfl ?_; refine s_r ?_; refine tk_act rfl ?_; refine a_allocL (cs := (List.replicate 256 false).map bo) (by kernel_rfl) rfl fun b2 => ?_; refine s_q rfl (y_assign rfl) ?_; refine s_n ?_; refine tk_seq ?_; refine s_r ?_; refine s_q rfl (y_assign rfl) ?_; refine s_n ?_; refine tk_block ?_; refine tk_H [cel b2 ((setA (l.take 0)).map bo) 305] (congrArg (fun z_ => [cel b2 z_ 305]) (show (List.replicate 256 false).map bo = (setA (l.take 0)).map bo from rfl)) ?_
  refine tk_loop (X := Nat) (fun i => i ≤ l.length) (fun i => [(0, Str l), (2, .pointer (some ⟨b2, 0, none⟩)), (4, I ((i : Nat) : Int))]) (fun i => [cel b2 ((setA (l.take i)).map bo) 305]) (fun i => l.length - i) (0) (Nat.zero_le _) (by repeat (first | exact trivial | refine ⟨rfl, ?_⟩)) ((List.Sublist.refl _)) ?_
  rintro i hI
  try dsimp only at hI ⊢
  refine tk_seq ?_; refine s_r ?_; refine s_q rfl (y_move rfl) ?_; refine s_q rfl (y_move rfl) ?_; refine s_q rfl (y_lenStr (l := l) rfl rfl) ?_; refine s_q rfl (y_lss rfl rfl) ?_; refine s_n ?_; refine tk_condP rfl (fun ht9 => ?_) (fun ht9 => ?_)
  · skip
    refine tk_skip ?_; refine tk_then ?_; refine tk_seq ?_; refine tk_block ?_; refine s_r ?_; refine s_q rfl (y_move rfl) ?_; refine s_q rfl (y_move rfl) ?_; refine s_q rfl (y_ixT (l := l) (i := i) rfl rfl rfl ⟨rfl, lenP⟩) ?_; refine s_q rfl (y_assign rfl) ?_; refine s_n ?_; refine tk_seq ?_; refine s_r ?_; refine s_q rfl (y_move rfl) ?_; refine tk_qe (.bool false) rfl rfl rfl (y_geq rfl rfl) (bool_f (by have := hA _ (getD_mem (d := 0) (l := l) (i := i) (by omega)); omega)) ?_
    refine s_n ?_; refine tk_cond0 rfl ?_; refine tk_skip ?_; refine tk_then ?_; refine tk_region ?_; refine s_q rfl (y_move rfl) ?_; refine s_q rfl (y_ixA01 256 (i := (l.getD i 0).toNat) rfl rfl (by kernel_rfl) (by have := UInt8.toNat_lt (l.getD i 0); omega)) ?_; refine tk_act rfl ?_; refine a_storeE (H1 := []) (o := (l.getD i 0).toNat) (v := .bool true) (cs' := ((setA (l.take i)).set ((l.getD i 0).toNat) true).map bo) rfl rfl (by kernel_rfl) rfl rfl (by rw [List.length_map, setA_len]; exact UInt8.toNat_lt _) (sM) ?_
    refine tk_nil ?_; refine tk_in_normal ?_; refine tk_then ?_; refine tk_region ?_; refine s_q rfl (y_move rfl) ?_; refine s_q rfl (y_addN (a := i) (b := 1) rfl rfl (by omega)) ?_; refine s_q rfl (y_assign rfl) ?_; refine tk_nil ?_; refine tk_H [cel b2 ((setA (l.take (i + 1))).map bo) 305] (congrArg (fun z_ => [cel b2 z_ 305]) (show ((setA (l.take i)).set ((l.getD i 0).toNat) true).map bo = (setA (l.take (i + 1))).map bo from by rw [setA_step (by omega)])) ?_
    exact tk_again (i + 1) (by omega) (by omega) (by repeat (first | exact trivial | refine ⟨rfl, ?_⟩)) (List.Sublist.refl _)
  · skip
    refine tk_exit ?_; refine tk_then_exit ?_; refine tk_then_exit ?_; refine tk_in_hit ?_; refine tk_then ?_; refine s_r ?_; refine tk_H [cel b2 ((setA l).map bo) 305] (congrArg (fun z_ => [cel b2 z_ 305]) (show (setA (l.take i)).map bo = (setA l).map bo from by rw [show i = l.length by omega, List.take_length])) ?_; refine s_q rfl (y_loadA 256 rfl (by kernel_rfl) (by rw [List.length_map, setA_len]) (hcw (.head _))) ?_
    refine tk_act rfl ?_; refine a_storeW (H1 := []) (vs := (setA l).map bo) 256 rfl rfl (by kernel_rfl) rfl ⟨(by rw [List.length_map, setA_len]), (by rw [List.length_map, setA_len])⟩ oneBo ?_; refine s_q rfl (y_assign rfl) ?_; refine s_n ?_; refine tk_retc ?_
    exact tk_ret (()) (trivial) (.inl rfl) (rct (vs := (setA l).map bo) rfl rfl (by rw [List.length_map, setA_len]; kernel_rfl) (hcw (.head _)) rfl) (List.nil_sublist _)
theorem asc_spec {cs : List UInt8} {x : UInt8} {b : Nat} {w : World} (hh : Pre w [cel b ((setA cs).map bo) 305]) : Spec Tryz.prog 225 [.pointer (some ⟨b, 0, none⟩), B x] w [cel b ((setA cs).map bo) 305] (fun _ : Unit => True) (fun _ => .bool (cs.contains x)) (fun _ => [cel b ((setA cs).map bo) 305]) := by
  refine spec_of (n := 10) Tryz.func225 rfl rfl hh.1 hh.2 rfl ?_; refine s_r ?_; refine s_q rfl (y_assign rfl) ?_; refine s_n ?_; refine s_r ?_; refine s_q rfl (y_move rfl) ?_; refine s_q rfl (y_move rfl) ?_; refine s_q rfl (y_nilCheck rfl) ?_; refine s_q rfl (y_ixA01 256 (i := x.toNat) rfl rfl (by kernel_rfl) (by have := UInt8.toNat_lt x; omega)) ?_; refine tk_qe (.bool (List.contains cs x)) rfl rfl rfl (y_load rfl rfl (hc (o := x.toNat) (.head _) (gM (d := false) (by rw [setA_len]; have := UInt8.toNat_lt x; omega)))) (by rw [setA_get]) ?_
  refine s_q rfl (y_assign rfl) ?_; refine s_n ?_; refine tk_retc ?_
  exact tk_ret (()) (trivial) (.inl rfl) (r1 rfl rfl) (List.Sublist.refl _)
theorem hasp_spec {l m : List UInt8} {w : World} (hl : l.length < 9223372036854775808) (hm : m.length < 9223372036854775808) : Spec Tryz.prog 145 [Str l, Str m] w [] (fun _ : Unit => True) (fun _ => .bool (decide (m.length ≤ l.length ∧ l.take m.length = m))) (fun _ => []) := by
  refine spec_of (n := 18) Tryz.func145 rfl rfl trivial trivial rfl ?_; refine s_r ?_; refine s_q rfl (y_assign rfl) ?_; refine s_n ?_; refine s_r ?_; refine s_q rfl (y_move rfl) ?_; refine s_q rfl (y_lenStr (l := l) rfl rfl) ?_; refine s_q rfl (y_move rfl) ?_; refine s_q rfl (y_lenStr (l := m) rfl rfl) ?_; refine tk_qs rfl rfl rfl (y_geq rfl rfl) (fun hs1_4 => ?_) (fun hs1_4 => ?_)
  · skip
    refine s_q rfl (y_move rfl) ?_; refine s_g rfl (y_move rfl) ?_; refine s_g rfl (y_move rfl) ?_; refine s_g rfl (y_lenStr (l := m) rfl rfl) ?_; refine s_g rfl (y_cutTh (l := l) (hi := m.length) rfl rfl rfl (by omega)) ?_; refine s_g rfl (y_move rfl) ?_; refine s_g rfl (y_strEq (l := l.take m.length) (m := m) rfl rfl) ?_; refine s_q rfl (y_pick1 rfl rfl) ?_; refine s_q rfl (y_assign rfl) ?_; refine s_n ?_
    refine tk_retc ?_; refine tk_re 4 (.bool (decide (l.take m.length = m))) (.bool (decide (m.length ≤ l.length ∧ l.take m.length = m))) rfl (congrArg Value.bool (by rw [decide_eq_decide]; exact ⟨fun h => ⟨by omega, h⟩, fun h => h.2⟩)) ?_
    exact tk_ret (()) (trivial) (.inl rfl) (r1 rfl rfl) (List.Sublist.refl _)
  · skip
    refine s_q rfl (y_move rfl) ?_; refine tk_gno rfl rfl rfl ?_; refine tk_gno rfl rfl rfl ?_; refine tk_gno rfl rfl rfl ?_; refine tk_gno rfl rfl rfl ?_; refine tk_gno rfl rfl rfl ?_; refine tk_gno rfl rfl rfl ?_; refine s_q rfl (y_pick0 rfl rfl) ?_; refine s_q rfl (y_assign rfl) ?_; refine s_n ?_; refine tk_retc ?_; refine tk_re 4 (.bool false) (.bool (decide (m.length ≤ l.length ∧ l.take m.length = m))) rfl ((bool_f (fun h => absurd h.1 (by omega))).symm) ?_
    exact tk_ret (()) (trivial) (.inl rfl) (r1 rfl rfl) (List.Sublist.refl _)
theorem pre_spec {l m : List UInt8} {w : World} (hl : l.length < 9223372036854775808) (hm : m.length < 9223372036854775808) : Spec Tryz.prog 96 [Str l, Str m] w [] (fun _ : Unit => True) (fun _ => .bool (decide (m.length ≤ l.length ∧ l.take m.length = m))) (fun _ => []) := by
  refine spec_of (n := 8) Tryz.func96 rfl rfl trivial trivial rfl ?_; refine s_r ?_; refine s_q rfl (y_assign rfl) ?_; refine s_n ?_; refine s_r ?_; refine s_q rfl (y_move rfl) ?_; refine s_q rfl (y_move rfl) ?_; refine tk_act rfl ?_; refine a_callv [] _ rfl (by kernel_rfl) rfl (fun w' hw' => hasp_spec (l := l) (m := m) lenP lenP) rfl fun _ _ => ?_; refine s_q rfl (y_assign rfl) ?_; refine s_n ?_; refine tk_retc ?_
  exact tk_ret (()) (trivial) (.inl rfl) (r1 rfl rfl) (List.Sublist.refl _)
theorem take_getD {l : List UInt8} {n j : Nat} (h : j < n) : (l.take n).getD j 0 = l.getD j 0 := by
  rw [List.getD_eq_getElem?_getD, List.getElem?_take, if_pos h, List.getD_eq_getElem?_getD]
theorem drop_getD {l : List UInt8} {n j : Nat} : (l.drop n).getD j 0 = l.getD (n + j) 0 := by
  rw [List.getD_eq_getElem?_getD, List.getElem?_drop, List.getD_eq_getElem?_getD]
def endR (cs l : List UInt8) (n : Nat) : Prop := n ≤ l.length ∧ ∀ j, n ≤ j → j < l.length → cs.contains (l.getD j 0) = true
def endL (cs l : List UInt8) (n : Nat) : Prop := n ≤ l.length ∧ ∀ j, j < n → cs.contains (l.getD j 0) = true
theorem trimr_step {cs l : List UInt8} {n : Nat} (h : endR cs l n) (hn : 0 < n) (hc : cs.contains (l.getD (n - 1) 0) = true) : endR cs l (n - 1) :=
  ⟨by have := h.1; omega, fun j h1 h2 => by
    by_cases e : j = n - 1
    · rw [e]; exact hc
    · exact h.2 j (by omega) h2⟩
theorem triml_step {cs l : List UInt8} {n : Nat} (h : endL cs l n) (hn : n < l.length) (hc : cs.contains (l.getD n 0) = true) : endL cs l (n + 1) :=
  ⟨hn, fun j h1 => by
    by_cases e : j = n
    · rw [e]; exact hc
    · exact h.2 j (by omega)⟩
theorem trimr_spec {cs l : List UInt8} {b : Nat} {w : World} (hl : l.length < 9223372036854775808) (hh : Pre w [cel b ((setA cs).map bo) 305]) : Spec Tryz.prog 201 [Str l, .pointer (some ⟨b, 0, none⟩)] w [cel b ((setA cs).map bo) 305] (fun n : Nat => endR cs l n ∧ (n = 0 ∨ cs.contains (l.getD (n - 1) 0) = false)) (fun n => Str (l.take n)) (fun _ => [cel b ((setA cs).map bo) 305]) := by
  refine spec_of (n := 22) Tryz.func201 rfl rfl hh.1 hh.2 rfl ?_; refine s_r ?_; refine s_q rfl (y_assign rfl) ?_; refine s_n ?_; refine tk_seq ?_; refine tk_block ?_; refine tk_re 0 (Str l) (Str (l.take l.length)) rfl (by rw [List.take_length]) ?_; refine tk_loop (X := Nat) (fun n => endR cs l n) (fun n => [(0, Str (l.take n)), (1, .pointer (some ⟨b, 0, none⟩)), (4, Str [])]) (fun n => [cel b ((setA cs).map bo) 305]) (fun n => n) (l.length) (⟨Nat.le_refl _, fun j h1 h2 => absurd h2 (by omega)⟩) (by repeat (first | exact trivial | refine ⟨rfl, ?_⟩)) ((List.Sublist.refl _)) ?_
  rintro n hI
  try dsimp only at hI ⊢
  have hnl := hI.1
  have hln : (l.take n).length = n := by rw [List.length_take]; omega
  refine tk_seq ?_; refine s_r ?_; refine s_q rfl (y_move rfl) ?_; refine s_q rfl (y_lenStr (l := l.take n) rfl rfl) ?_; refine s_q rfl (y_gtr rfl rfl) ?_; refine s_n ?_; refine tk_condP rfl (fun ht7 => ?_) (fun ht7 => ?_)
  · skip
    refine tk_skip ?_; refine tk_then ?_; refine tk_block ?_; refine tk_seq ?_; refine s_r ?_; refine s_q rfl (y_move rfl) ?_; refine s_q rfl (y_move rfl) ?_; refine s_q rfl (y_move rfl) ?_; refine s_q rfl (y_lenStr (l := l.take n) rfl rfl) ?_; refine s_q rfl (y_subN (a := (l.take n).length) (b := 1) rfl rfl (by omega)) ?_; refine s_q rfl (y_ixT (l := l.take n) (i := ((l.take n).length) - 1) rfl rfl rfl ⟨rfl, lenP⟩) ?_
    refine tk_re 13 (B ((l.take n).getD (((l.take n).length) - 1) 0)) (B (l.getD (n - 1) 0)) rfl (by rw [hln, take_getD (by omega)]) ?_; refine tk_act rfl ?_; refine a_callv [] _ rfl (by kernel_rfl) rfl (fun w' hw' => asc_spec (b := b) (cs := cs) (x := l.getD (n - 1) 0) (St.pre hw')) rfl fun _ _ => ?_; refine s_q rfl (y_not rfl) ?_; refine s_n ?_; refine tk_cond rfl (fun ht15 => ?_) (fun ht15 => ?_)
    · skip
      refine tk_exit ?_; refine tk_then_exit ?_; refine tk_in_miss rfl ?_; refine tk_then_exit ?_; refine tk_in_hit ?_; refine tk_then ?_; refine s_r ?_; refine s_q rfl (y_move rfl) ?_; refine s_q rfl (y_assign rfl) ?_; refine s_n ?_; refine tk_retc ?_
      exact tk_ret (n) (⟨hI, .inr (by simpa using ht15)⟩) (.inl rfl) (r1 rfl rfl) (List.Sublist.refl _)
    · skip
      refine tk_skip ?_; refine tk_then ?_; refine tk_region ?_; refine s_q rfl (y_move rfl) ?_; refine s_q rfl (y_move rfl) ?_; refine s_q rfl (y_lenStr (l := l.take n) rfl rfl) ?_; refine s_q rfl (y_subN (a := (l.take n).length) (b := 1) rfl rfl (by omega)) ?_; refine s_q rfl (y_cutTh (l := l.take n) (hi := ((l.take n).length) - 1) rfl rfl rfl (by omega)) ?_; refine s_q rfl (y_assign rfl) ?_; refine tk_re 0 (Str ((l.take n).take (((l.take n).length) - 1))) (Str (l.take (n - 1))) rfl (by rw [hln, List.take_take, Nat.min_eq_left (by omega)]) ?_
      refine tk_nil ?_; refine tk_in_normal ?_
      exact tk_again (n - 1) (trimr_step hI (by omega) (by simpa using ht15)) (by omega) (by repeat (first | exact trivial | refine ⟨rfl, ?_⟩)) (List.Sublist.refl _)
  · skip
    refine tk_exit ?_; refine tk_then_exit ?_; refine tk_then_exit ?_; refine tk_in_hit ?_; refine tk_then ?_; refine s_r ?_; refine s_q rfl (y_move rfl) ?_; refine s_q rfl (y_assign rfl) ?_; refine s_n ?_; refine tk_retc ?_
    exact tk_ret (n) (⟨hI, .inl (by omega)⟩) (.inl rfl) (r1 rfl rfl) (List.Sublist.refl _)
theorem triml_spec {cs l : List UInt8} {b : Nat} {w : World} (hl : l.length < 9223372036854775808) (hh : Pre w [cel b ((setA cs).map bo) 305]) : Spec Tryz.prog 200 [Str l, .pointer (some ⟨b, 0, none⟩)] w [cel b ((setA cs).map bo) 305] (fun n : Nat => endL cs l n ∧ (n = l.length ∨ cs.contains (l.getD n 0) = false)) (fun n => Str (l.drop n)) (fun _ => [cel b ((setA cs).map bo) 305]) := by
  refine spec_of (n := 16) Tryz.func200 rfl rfl hh.1 hh.2 rfl ?_; refine s_r ?_; refine s_q rfl (y_assign rfl) ?_; refine s_n ?_; refine tk_seq ?_; refine tk_block ?_; refine tk_re 0 (Str l) (Str (l.drop 0)) rfl (by rw [List.drop_zero]) ?_; refine tk_loop (X := Nat) (fun n => endL cs l n) (fun n => [(0, Str (l.drop n)), (1, .pointer (some ⟨b, 0, none⟩)), (4, Str [])]) (fun n => [cel b ((setA cs).map bo) 305]) (fun n => l.length - n) (0) (⟨Nat.zero_le _, fun j h => absurd h (by omega)⟩) (by repeat (first | exact trivial | refine ⟨rfl, ?_⟩)) ((List.Sublist.refl _)) ?_
  rintro n hI
  try dsimp only at hI ⊢
  have hnl := hI.1
  have hln : (l.drop n).length = l.length - n := by rw [List.length_drop]
  refine tk_seq ?_; refine s_r ?_; refine s_q rfl (y_move rfl) ?_; refine s_q rfl (y_lenStr (l := l.drop n) rfl rfl) ?_; refine s_q rfl (y_gtr rfl rfl) ?_; refine s_n ?_; refine tk_condP rfl (fun ht7 => ?_) (fun ht7 => ?_)
  · skip
    refine tk_skip ?_; refine tk_then ?_; refine tk_block ?_; refine tk_seq ?_; refine s_r ?_; refine s_q rfl (y_move rfl) ?_; refine s_q rfl (y_move rfl) ?_; refine s_q rfl (y_ixT (l := l.drop n) (i := 0) rfl rfl rfl ⟨rfl, lenP⟩) ?_; refine tk_re 10 (B ((l.drop n).getD 0 0)) (B (l.getD n 0)) rfl (by rw [drop_getD]; rfl) ?_; refine tk_act rfl ?_; refine a_callv [] _ rfl (by kernel_rfl) rfl (fun w' hw' => asc_spec (b := b) (cs := cs) (x := l.getD n 0) (St.pre hw')) rfl fun _ _ => ?_
    refine s_q rfl (y_not rfl) ?_; refine s_n ?_; refine tk_cond rfl (fun ht12 => ?_) (fun ht12 => ?_)
    · skip
      refine tk_exit ?_; refine tk_then_exit ?_; refine tk_in_miss rfl ?_; refine tk_then_exit ?_; refine tk_in_hit ?_; refine tk_then ?_; refine s_r ?_; refine s_q rfl (y_move rfl) ?_; refine s_q rfl (y_assign rfl) ?_; refine s_n ?_; refine tk_retc ?_
      exact tk_ret (n) (⟨hI, .inr (by simpa using ht12)⟩) (.inl rfl) (r1 rfl rfl) (List.Sublist.refl _)
    · skip
      refine tk_skip ?_; refine tk_then ?_; refine tk_region ?_; refine s_q rfl (y_move rfl) ?_; refine s_q rfl (y_cutTl (l := l.drop n) (lo := 1) rfl rfl rfl (by omega)) ?_; refine tk_re 14 (Str ((l.drop n).drop 1)) (Str (l.drop (n + 1))) rfl (by rw [List.drop_drop]) ?_; refine s_q rfl (y_assign rfl) ?_; refine tk_nil ?_; refine tk_in_normal ?_
      exact tk_again (n + 1) (triml_step hI (by omega) (by simpa using ht12)) (by omega) (by repeat (first | exact trivial | refine ⟨rfl, ?_⟩)) (List.Sublist.refl _)
  · skip
    refine tk_exit ?_; refine tk_then_exit ?_; refine tk_then_exit ?_; refine tk_in_hit ?_; refine tk_then ?_; refine s_r ?_; refine s_q rfl (y_move rfl) ?_; refine s_q rfl (y_assign rfl) ?_; refine s_n ?_; refine tk_retc ?_
    exact tk_ret (n) (⟨hI, .inl (by omega)⟩) (.inl rfl) (r1 rfl rfl) (List.Sublist.refl _)
end Go.Proofs.YtkkjfojgjmglpaaGreatDoor
