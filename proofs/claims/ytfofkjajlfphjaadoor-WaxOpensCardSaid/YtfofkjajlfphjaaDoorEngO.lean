/- Owned slices seen as lists: made, appended to, stored into; bytes of a string. Own work for this project; no program in sight. -/
import Derived.Test.YtfofkjajlfphjaaDoorEngN
set_option linter.unusedSimpArgs false
set_option linter.unusedVariables false
namespace Go.Proofs.YtfofkjajlfphjaaDoor
open Go Go.RowKit
abbrev ownM {α : Type} (f : α → Value) (v : Value) (l : List α) (T : TypeId) : Res := own v l.length (l.map f) T 1
theorem ownM_cast {α : Type} {f : α → Value} {v : Value} {l m : List α} {T : TypeId} (h : l = m) : ownM f v l T = ownM f v m T := by rw [h]
section
variable {c : Cx} {L : Sl} {H : List Res} {P : Program} {Q : Exit → Act → World → Prop} {K : Act → World → Prop} {n : Nat} {S : World → Prop} {dst : Option Tmp}
  {d : Nat} {rty : TypeId} {pos : String} {af : Array Edge} {gd : Option (Nat × Bool)} {t t' : TypeId} {x y z : Operand} {v u : Value} {k k' : IntKind} {α : Type} {f : α → Value}
def mkB (P : Program) (t e : TypeId) (z : Value) (bytes : Nat) : Prop := P.underlying t = some (.slice e) ∧ ∃ i, P.info? e = some i ∧ i.zero = some z ∧ i.size = 1 ∧ i.bytes = bytes
theorem a_makeM {e : TypeId} {m bytes : Nat} {z : α} (hx : ev L x = some (I (m : Int))) (hy : ev L y = some (I (m : Int))) (hm : mkB P t e (f z) bytes) (hone : (f z).oneCell' = true) (hn : Nat.blt d c.n = true)
    (hb : m ≤ 281474976710656 ∧ bytes * m ≤ 281474976710656) (h : ∀ b, TK c K ((d, .slice (some ⟨b, 0, none⟩) m m) :: L) (cel b ((List.replicate m z).map f) e :: H)) :
    TK c (fun a w => (⟨some d, .makeSlice t x y, rty, pos, af, gd⟩ : Oper).wp P a w K Q) L H :=
  a_make hx hy hm.1 hm.2 hone hn hb (fun b => by rw [← List.map_replicate]; exact h b)
theorem a_appM {H1 H2 : List Res} {l m : List α} {T : TypeId} {bytes : Nat} (hx : ev L x = some v) (hy : ev L y = some u) (he : elB P t T 1 bytes) (hn : Nat.blt d c.n = true)
    (hH : H = H1 ++ ownM f v l T :: H2) (hr : ∀ w, St c w H → RdS w u (m.map f)) (h1 : ∀ a, (f a).oneCell' = true)
    (hb : l.length + m.length ≤ 140737488355328 ∧ (l.length + m.length) * bytes ≤ 140737488355328) (h : ∀ v', TK c K ((d, v') :: L) (H1 ++ ownM f v' (l ++ m) T :: H2)) :
    TK c (fun a w => (⟨some d, .call { callee := .builtin .append, args := #[x, y], argTypes := #[t, t] }, rty, pos, af, gd⟩ : Oper).wp P a w K Q) L H :=
  a_appendR (n := l.length) (xs := l.map f) (news := m.map f) hx hy he hn hH hr (fun u hu => by obtain ⟨a, _, rfl⟩ := List.mem_map.1 hu; exact h1 a) (by simpa using hb)
    (fun v' => by have := h v'; simp only [ownM, List.length_append, List.map_append] at this; simpa using this)
theorem tk_ownM0 (T : TypeId) (h : TK c K L (ownM f (.slice none 0 0) [] T :: H)) : TK c K L H := tk_own0 T h
theorem tk_celM {H1 H2 : List Res} {g m : Nat} {l : List α} {T T' : TypeId} (hH : H = H1 ++ cel g (l.map f) T' :: H2) (hl : l.length = m) (hm : m ≤ maxLen)
    (h : TK c K L (H1 ++ ownM f (.slice (some ⟨g, 0, none⟩) m m) l T :: H2)) : TK c K L H := by
  subst hl
  exact tk_celOwn (n := l.length) hH (by simp) (by simpa using hm) (by rw [List.length_map, List.take_of_length_le (by simp)]; exact h)
theorem a_storeM {H1 H2 : List Res} {l : List α} {i : Nat} {q : α} {T : TypeId} (hx : ev L x = some (.pointer (some ((adOf v).add i)))) (hy : ev L y = some (f q)) (hone : (f q).oneCell' = true) (ht : szB P t 1 = true)
    (hH : H = H1 ++ ownM f v l T :: H2) (hi : i < l.length) (h : TK c K L (H1 ++ ownM f v (l.set i q) T :: H2)) :
    TK c (fun a w => (⟨none, .store t x y, rty, pos, af, gd⟩ : Oper).wp P a w K Q) L H :=
  a_storeOwn (n := l.length) (xs := l.map f) hx hy hone ht hH hi (by
    have := h
    simp only [ownM, List.length_set] at this
    rw [List.map_set] at this; exact this)
/-- []byte of a string, owned -/
theorem a_s2bO {e : TypeId} {l : List UInt8} (hx : ev L x = some (Str l)) (hs : P.underlying t = some .string) (hd : P.underlying t' = some (.slice e)) (he : P.underlying e = some (.int .u8)) (hn : Nat.blt d c.n = true) (hl : l.length ≤ maxLen)
    (h : ∀ v, TK c K ((d, v) :: L) (ownB v l e :: H)) :
    TK c (fun a w => (⟨some d, .convert t t' x, rty, pos, af, gd⟩ : Oper).wp P a w K Q) L H := fun a w ha hw => by
  have h1 := ha.ev hx
  have hr := Lib.run_convert_string_bytes w t t' e ⟨l.toArray⟩ hs hd he
  have e0 : (ByteArray.mk l.toArray).size = l.length := by simp [ByteArray.size]
  have e1 : (execOp a.eval (⟨some d, .convert t t' x, rty, pos, af, gd⟩ : Oper)).run P w = .ok (.value (.slice (some ⟨w.heap.size, 0, none⟩) l.length (grownCap w l.length 0 e))) (Lib.bytesWorld w e ⟨l.toArray⟩) := by
    rw [e0] at hr
    simp [execOp, h1, hr]
  change Oper.upon P _ a K Q ((execOp a.eval _).run P w)
  rw [e1, Oper.upon_value]
  have hge := grownCap_ge w l.length 0 e
  have hcm := grownCap_le_maxLen w l.length 0 e hl
  have hcs : (Lib.bytesCells w e ⟨l.toArray⟩).toList = l.map B ++ List.replicate (grownCap w l.length 0 e - l.length) (.int .u8 0) := by
    simp [Lib.bytesCells, e0]
  have hsz : (Lib.bytesCells w e ⟨l.toArray⟩).size = grownCap w l.length 0 e := by
    rw [← Array.length_toList, hcs]; simp; omega
  refine h _ _ _ (ha.put hn _) (St.new (w' := Lib.bytesWorld w e ⟨l.toArray⟩) (N := [ownB (.slice (some ⟨w.heap.size, 0, none⟩) l.length (grownCap w l.length 0 e)) l e]) hw ⟨rfl, rfl, rfl, by rw [Lib.bytesWorld_size]; omega, fun k hk _ => Lib.bytesWorld_at_old w e _ k hk⟩
    ⟨⟨by simp, .inr ⟨w.heap.size, _, Lib.bytesCells w e ⟨l.toArray⟩, _, _, rfl, Lib.bytesWorld_at_new w e _,   .inl (by rw [hsz]; exact Nat.le_refl _), hge, hcm, by rw [hsz, Nat.mul_one], ?_⟩⟩, trivial⟩ ⟨fun _ _ h => h, trivial⟩ (fun k hk => ?_))
  · rw [hcs, Nat.mul_one, List.take_left' (by simp)]
  · rcases hk with hk | hk
    · have : some w.heap.size = some k := hk
      cases this; exact Nat.le_refl _
    · exact hk.elim
theorem y_neB {a b : Bool} (hx : ev L x = some (.bool a)) (hy : ev L y = some (.bool b)) (ht : P.underlying t = some .bool) : Y P n S L ⟨dst, .binOp .neq t x y t', rty, pos, af, gd⟩ (.bool (a != b)) := fun q w ha _ => by
  have h1 := ha.ev hx; have h2 := ha.ev hy
  have e1 : (binOp .neq t (.bool a) (.bool b)) = (do pure (Value.bool (!(← Op.equal t (.bool a) (.bool b))))) := rfl
  have e2 : (Op.equal t (.bool a) (.bool b)).run P w = .ok (a == b) w := run_equalIn_bool (d := 9999) ht
  simp only [execOp, h1, h2, eqGuard_at_bool, e1]
  rw [Sem.run_bind, Sem.run_bind, Sem.run_pure, Result.andThen, Sem.run_bind, e2]; rfl
theorem bne_iff {p q : Prop} [Decidable p] [Decidable q] (h : p ↔ q) : (decide p != decide q) = false := by simp [h]
theorem beq_iff {p q : Prop} [Decidable p] [Decidable q] (h : p ↔ q) : (decide p == decide q) = true := by simp [h]
theorem y_min3 {a b e : Nat} {ty : Array TypeId} (hx : ev L x = some (I (a : Int))) (hy : ev L y = some (I (b : Int))) (hz : ev L z = some (I (e : Int))) :
    Y P n S L ⟨dst, .call { callee := .builtin .min, args := #[x, y, z], argTypes := ty }, rty, pos, af, gd⟩ (I ((min (min a b) e : Nat) : Int)) := fun q w ha _ => by
  have h1 := ha.ev hx; have h2 := ha.ev hy; have h3 := ha.ev hz
  simp [execOp, resolve, h1, h2, h3, invoke, builtin, Builtin.min_, Builtin.min2, List.foldlM]
  (repeat' split) <;> omega
theorem y_mulU {a b : Nat} (hx : ev L x = some (.int .u64 (a : Int))) (hy : ev L y = some (.int .u64 (b : Int))) (h : a * b < 18446744073709551616) : Y P n S L ⟨dst, .binOp .mul t x y t', rty, pos, af, gd⟩ (.int .u64 ((a * b : Nat) : Int)) :=
  (y_mul hx hy).cast (by rw [← Int.natCast_mul, wrap_u64 h])
theorem y_subU {a b : Nat} (hx : ev L x = some (.int .u64 (a : Int))) (hy : ev L y = some (.int .u64 (b : Int))) (h : b ≤ a ∧ a < 18446744073709551616) : Y P n S L ⟨dst, .binOp .sub t x y t', rty, pos, af, gd⟩ (.int .u64 ((a - b : Nat) : Int)) :=
  (y_sub hx hy).cast (by rw [IntKind.wrap_u64]; congr 1; omega)
theorem y_quoU {a b : Nat} (hx : ev L x = some (.int .u64 (a : Int))) (hy : ev L y = some (.int .u64 (b : Int))) (h : 0 < b ∧ a < 18446744073709551616) : Y P n S L ⟨dst, .binOp .quo t x y t', rty, pos, af, gd⟩ (.int .u64 ((a / b : Nat) : Int)) :=
  (y_quo hx hy (by omega)).cast (by
    have e : ((a : Int)).tdiv (b : Int) = ((a / b : Nat) : Int) := by rw [Int.tdiv_eq_ediv_of_nonneg (by omega)]; simp
    have h1 : a / b ≤ a := Nat.div_le_self _ _
    rw [e, wrap_u64 (by omega)])
/-- a slot's value kept as a fact: what a slice of one's own is -/
theorem tk_own1 {v : Value} {xs : List Value} {m : Nat} {T : TypeId} (hm : own v m xs T 1 ∈ H) (h : (∃ w0, RdS w0 v xs) → TK c K L H) : TK c K L H := tk_form (fun w hw => ⟨w, own_rdS (hw.mem hm)⟩) h
end
/-! ### within a drawn region more may be kept from some point on -/
theorem AnyX.more {P : Program} {ops : Array Oper} {Q : Exit → Act → World → Prop} {S S' : World → Prop} (hS : ∀ w, S' w → S w) : ∀ (f : Nat) (l : Array Bool) (a : Act) (w : World), S' w → AnyX P ops Q S' [] f l a w → AnyX P ops Q S [] f l a w
  | 0, _, _, _, _, h => h
  | f + 1, _, _, w, h0, h => ⟨h.1, fun i hi => wpOp_mono (fun _ w' h' => by
      rcases h'.1 with h1 | h1
      · cases h1
      · exact ⟨.inr fun _ => hS _ (h1 h0), AnyX.more hS f _ _ _ (h1 h0) h'.2⟩) (h.2 i hi)⟩
theorem tx_more {c : Cx} {L : Sl} {H H' : List Res} {P : Program} {Q : Exit → Act → World → Prop} {ops : Array Oper} {f : Nat} {l : Array Bool} (H'' : List Res) (h1 : ∀ w, St c w H'' → St c w H') (h0 : ∀ w, St c w H → St c w H'')
    (h : TK c (AnyX P ops Q (fun w => St c w H'') [] f l) L H) : TK c (AnyX P ops Q (fun w => St c w H') [] f l) L H := fun a w ha hw => AnyX.more h1 _ _ _ _ (h0 w hw) (h a w ha hw)

/-! ### a struct's value built of parts -/
def fillL (pl : List (Nat × Nat)) (cs : List Value) : List (Nat × List Value) → Option (List Value)
  | [] => some cs
  | (i, v) :: r => match pl[i]? with
    | none => none
    | some (o, k) => if v.length = k ∧ o + k ≤ cs.length then fillL pl (cs.take o ++ v ++ cs.drop (o + k)) r else none
theorem foldl_set (o : Nat) : ∀ (v : List Value) (j : Nat) (cs : Array Value), o + j + v.length ≤ cs.size →
    ((v.zipIdx j).foldl (fun cs (p : Value × Nat) => cs.setIfInBounds (o + p.2) p.1) cs) = (cs.toList.take (o + j) ++ v ++ cs.toList.drop (o + j + v.length)).toArray
  | [], j, cs, _ => by simp
  | u :: v, j, cs, h => by
    simp only [List.length_cons] at h
    rw [List.zipIdx_cons, List.foldl_cons, foldl_set o v (j + 1) _ (by simp; omega)]
    congr 1
    rw [Array.toList_setIfInBounds]
    have e3 : (cs.toList.set (o + j) u).take (o + (j + 1)) = cs.toList.take (o + j) ++ [u] := by
      rw [show o + (j + 1) = (o + j) + 1 by omega, List.take_add_one, List.take_set_of_le (by omega)]
      have hlt : o + j < cs.size := by omega
      simp [hlt]
    have e4 : (cs.toList.set (o + j) u).drop (o + (j + 1) + v.length) = cs.toList.drop (o + j + (u :: v).length) := by
      rw [List.drop_set, if_pos (by omega)]; congr 1; simp; omega
    rw [e3, e4]; simp
theorem fill_L {pl : List (Nat × Nat)} : ∀ (vs : List (Nat × Value)) (cs : List Value) {r : List Value}, fillL pl cs (vs.map fun p => (p.1, p.2.cells.toList)) = some r → Instr.fill (pl.toArray[·]?) cs.toArray vs = some r.toArray
  | [], cs, r, h => by simp [fillL] at h; subst h; rfl
  | (i, v) :: vs, cs, r, h => by
    simp only [List.map_cons, fillL] at h
    simp only [Instr.fill]
    cases hp : pl[i]? with
    | none => rw [hp] at h; cases h
    | some q =>
      obtain ⟨o, k⟩ := q
      rw [hp] at h
      simp only at h
      have e0 : pl.toArray[i]? = some (o, k) := by simpa using hp
      rw [e0]
      split at h
      · rename_i hc
        obtain ⟨h1, h2⟩ := hc
        have h1' : v.cells.size = k := by simpa using h1
        have e1 : ¬ ((decide (v.cells.size ≠ k) || decide (o + v.cells.size > cs.toArray.size)) = true) := by simp; omega
        simp only
        rw [if_neg e1]
        have e2 := foldl_set o v.cells.toList 0 cs.toArray (by simp; omega)
        have e3 : v.cells.zipIdx.foldl (fun cs (p : Value × Nat) => cs.setIfInBounds (o + p.2) p.1) cs.toArray = (cs.take o ++ v.cells.toList ++ cs.drop (o + k)).toArray := by
          rw [← Array.foldl_toList, Array.toList_zipIdx]
          rw [e2]; simp [h1']
        rw [e3]
        exact fill_L vs _ h
      · cases h
theorem run_build {P : Program} {t : TypeId} {fs : Array Field} {pl : List (Nat × Nat)} {zs cs : List Value} {vs : List (Nat × Value)} (hu : P.underlying t = some (.struct fs)) (hz : ∀ w, (zeroValue t).run P w = .ok (.agg zs.toArray) w)
    (hpl : ∀ w, (fs.mapM fun (f : Field) => (do pure (f.offset, ← Go.sizeOf f.type) : Sem (Nat × Nat))).run P w = .ok pl.toArray w) (hf : fillL pl zs (vs.map fun p => (p.1, p.2.cells.toList)) = some cs) (w : World) : (Instr.build t vs.toArray).run P w = .ok (.agg cs.toArray) w := by
  have h1 := fill_L vs zs hf
  have h2 : (Value.agg zs.toArray).cells = zs.toArray := rfl
  simp only [Instr.build, Sem.run_bind, hz w, Result.andThen, run_underlying hu, hpl w, h2]
  rw [h1]; rfl
/-- what else is there stays; what is not asked for goes -/
theorem Spec.frame {P : Program} {f : FuncId} {args : List Value} {w : World} {H0 F : List Res} {Y : Type} {R : Y → Prop} {res : Y → Value} {N : Y → List Res} (h : Spec P f args w H0 R res N) (hp : Pre w (H0 ++ F)) :
    Spec P f args w (H0 ++ F) R res (fun y => N y ++ F) := by
  refine Calls.mono h ?_
  rintro e w' ⟨y, hR, he, hf, hN, hd, ho⟩
  have hs := Hs_append.1 hp.1
  have dj := Dj_append.1 hp.2
  have hlt : ∀ k, Fs F k → k < w.heap.size := fun k hk => Fs.bnd hs.2 k hk
  refine ⟨y, hR, he, hf.mono fun k hk => Fs_append.2 (.inl hk), Hs_append.2 ⟨hN, Hs.loc (fun k hk => hf.block k (hlt k hk) (fun h0 => dj.2.2 k h0 hk)) hs.2⟩, Dj_append.2 ⟨hd, dj.2.1, fun k hk hr => ?_⟩, fun k hk => ?_⟩
  · rcases ho k hk with h1 | h1
    · exact dj.2.2 k h1 hr
    · have := hlt k hr; omega
  · rcases Fs_append.1 hk with hk | hk
    · rcases ho k hk with h1 | h1
      · exact .inl (Fs_append.2 (.inl h1))
      · exact .inr h1
    · exact .inl (Fs_append.2 (.inr hk))
theorem Spec.less {P : Program} {f : FuncId} {args : List Value} {w : World} {H0 : List Res} {Y : Type} {R : Y → Prop} {res : Y → Value} {N N' : Y → List Res} (h : Spec P f args w H0 R res N) (hs : ∀ y, (N' y).Sublist (N y)) :
    Spec P f args w H0 R res N' := by
  refine Calls.mono h ?_
  rintro e w' ⟨y, hR, he, hf, hN, hd, ho⟩
  exact ⟨y, hR, he, hf, Hs.sub (hs y) hN, Dj.sub (hs y) hd, fun k hk => ho k (Fs.sub (hs y) hk)⟩
end Go.Proofs.YtfofkjajlfphjaaDoor
