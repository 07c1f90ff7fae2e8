/- The engine: walks over code with pieces of memory. Own work. -/
import Derived.Test.YtfofkjajlfphjaaDoorEngTwo
import Derived.Lib.AppendZeros
import Derived.Deep.Slices
set_option linter.unusedSimpArgs false
set_option linter.unusedVariables false
/- Owned slices of wider elements: read by index, appended to, made of a literal. Own work for this project; no program in sight. -/
namespace Go.Proofs.YtfofkjajlfphjaaDoor
open Go Go.RowKit
abbrev ownA {α : Type} (f : α → List Value) (k : Nat) (v : Value) (l : List α) (T : TypeId) : Res := own v l.length (l.flatMap f) T k
theorem ownA_cast {α : Type} {f : α → List Value} {k : Nat} {v : Value} {l m : List α} {T : TypeId} (h : l = m) : ownA f k v l T = ownA f k v m T := by rw [h]
/-- the cells of a slice of n elements can be read -/
def RdC (w : World) (v : Value) (n : Nat) (xs : List Value) : Prop := (v = .slice none 0 0 ∧ n = 0 ∧ xs = []) ∨ ∃ ad cap, v = .slice (some ad) n cap ∧ n ≤ cap ∧ ∀ j u, xs[j]? = some u → w.cell? (ad.add j) = some u
theorem own_rdC {w : World} {v : Value} {n k : Nat} {xs : List Value} {T : TypeId} (h : (own v n xs T k).holds w) : RdC w v n xs := by
  rcases own_cells h with ⟨rfl, rfl, rfl⟩ | ⟨g, o, cap, rfl, hc, _, hr⟩
  · exact .inl ⟨rfl, rfl, rfl⟩
  · exact .inr ⟨⟨g, o, none⟩, cap, rfl, hc, fun j u hj => by rw [add_w]; exact hr j u hj⟩
theorem RdC.cell {w : World} {v : Value} {n : Nat} {xs : List Value} (h : RdC w v n xs) {j : Nat} {u : Value} (hj : xs[j]? = some u) : w.cell? ((adOf v).add j) = some u := by
  rcases h with ⟨rfl, _, rfl⟩ | ⟨ad, cap, rfl, _, hc⟩
  · cases hj
  · exact hc j u hj
theorem RdC.one {w : World} {v : Value} {n : Nat} {xs : List Value} (h : RdC w v n xs) : v.oneCell' = true := by
  rcases h with ⟨rfl, _⟩ | ⟨ad, cap, rfl, _⟩ <;> rfl
theorem RdC.cells {w : World} {v : Value} {n : Nat} {xs : List Value} (h : RdC w v n xs) : v.cells = #[v] := by
  rcases h with ⟨rfl, _⟩ | ⟨ad, cap, rfl, _⟩ <;> rfl
theorem RdC.form {w : World} {v : Value} {n : Nat} {xs : List Value} (h : RdC w v n xs) : ∃ ad, v = .slice ad n (cpOf v) ∧ (0 < n → ad = some (adOf v)) := by
  rcases h with ⟨rfl, rfl, _⟩ | ⟨ad, cap, rfl, _⟩
  · exact ⟨none, rfl, fun h => absurd h (by omega)⟩
  · exact ⟨some ad, rfl, fun _ => rfl⟩
/-- the cells of a slice, as a piece -/
def rdC (v : Value) (n : Nat) (xs : List Value) : Res where
  fp k := xs ≠ [] ∧ (adOf v).block = k
  holds w := RdC w v n xs
  loc w w' h hr := by
    rcases hr with hr | ⟨ad, cp, rfl, hc, hr⟩
    · exact .inl hr
    · refine .inr ⟨ad, cp, rfl, hc, fun j u hj => ?_⟩
      have hb : (ad.add j).block = ad.block := by cases j <;> simp [Addr.add]
      have hne : xs ≠ [] := fun e => by subst e; cases hj
      have := h ad.block ⟨hne, rfl⟩
      have h2 := hr j u hj
      simp only [World.cell?, hb] at h2 ⊢
      rw [this]; exact h2
  bnd w hr k hk := by
    obtain ⟨hne, rfl⟩ := hk
    cases xs with
    | nil => exact (hne rfl).elim
    | cons u us =>
      have h0 := hr.cell (j := 0) (u := u) rfl
      rw [show (adOf v).add 0 = adOf v by simp [Addr.add]] at h0
      exact World.block_lt_of_cell? w _ h0
theorem Ro.rdC {c : Cx} {v : Value} {n : Nat} {xs : List Value} {w : World} {H : List Res} (h : Ro c.E c.w0 (YtfofkjajlfphjaaDoor.rdC v n xs)) (hw : St c w H) : RdC w v n xs := h.st hw
section
variable {α : Type} {f : α → List Value} {k : Nat} {d0 : α}
theorem flat_get (hf : ∀ a, (f a).length = k) : ∀ {l : List α} {i j : Nat}, i < l.length → j < k → (l.flatMap f)[i * k + j]? = (f (l.getD i d0))[j]?
  | [], _, _, h, _ => absurd h (by simp)
  | a :: l, 0, j, _, hj => by
    simp only [List.flatMap_cons, Nat.zero_mul, Nat.zero_add, List.getD_cons_zero]
    rw [List.getElem?_append_left (by rw [hf]; exact hj)]
  | a :: l, i + 1, j, h, hj => by
    simp only [List.flatMap_cons, List.getD_cons_succ]
    rw [List.getElem?_append_right (by rw [hf, Nat.add_mul]; omega), hf, show (i + 1) * k + j - k = i * k + j by rw [Nat.add_mul]; omega]
    exact flat_get hf (by simpa using h) hj
theorem flat_len (hf : ∀ a, (f a).length = k) {l : List α} : (l.flatMap f).length = l.length * k := by
  induction l with
  | nil => simp
  | cons a l ih => rw [List.flatMap_cons, List.length_append, hf, ih, List.length_cons, Nat.add_mul]; omega
/-- some cells of an element -/
theorem flat_part (hf : ∀ a, (f a).length = k) {l : List α} {i o : Nat} {vs : List Value} (hi : i < l.length) (hv : ((f (l.getD i d0)).drop o).take vs.length = vs) {w : World} {v : Value} {n : Nat} (h : RdC w v n (l.flatMap f)) :
    ∀ j u, vs[j]? = some u → w.cell? (((adOf v).add (i * k + o)).add j) = some u := fun j u hj => by
  have hj1 : j < vs.length := (List.getElem?_eq_some_iff.1 hj).1
  have hlen : vs.length ≤ (f (l.getD i d0)).length - o := by have := congrArg List.length hv; rw [List.length_take, List.length_drop] at this; omega
  rw [Deep.add_add]
  refine h.cell ?_
  rw [show i * k + o + j = i * k + (o + j) by omega, flat_get (d0 := d0) hf hi (by rw [hf] at hlen; omega)]
  rw [← hv, List.getElem?_take, if_pos hj1, List.getElem?_drop] at hj
  exact hj
theorem RdC.part {l : List α} {i o : Nat} {w : World} {v : Value} {n : Nat} (h : RdC w v n (l.flatMap f)) (hf : ∀ a, (f a).length = k) (hi : i < l.length) {bs : List UInt8} {m : Nat} (hv : ((f (l.getD i d0)).drop o).take m = bs.map B ∧ bs.length = m) :
    RdB w (.slice (some ((adOf v).add (i * k + o))) m m) bs :=
  .inr ⟨(adOf v).add (i * k + o), m, by simp [hv.2], by simp [hv.2], fun j u hj => flat_part (d0 := d0) hf hi (vs := bs.map B) (by rw [List.length_map, hv.2]; exact hv.1) h j u hj⟩
end
section
variable {P : Program} {n : Nat} {S : World → Prop} {L : Sl} {dst : Option Tmp} {rty : TypeId} {pos : String} {af : Array Edge} {gd : Option (Nat × Bool)}
  {t t' : TypeId} {x y z : Operand} {v u : Value} {α : Type} {f : α → List Value} {l : List α} {d0 : α}
theorem y_lenE {w0 : World} {m : Nat} {xs : List Value} {e : TypeId} (hx : ev L x = some v) (hv : RdC w0 v m xs) (ht : P.underlying t = some (.slice e)) :
    Y P n S L ⟨dst, .call { callee := .builtin .len, args := #[x], argTypes := #[t] }, rty, pos, af, gd⟩ (I (m : Int)) := by
  obtain ⟨ad, hf, _⟩ := hv.form
  rw [hf] at hx
  exact y_lenS hx ht
theorem y_ixE {w0 : World} {i k m : Nat} {kk : IntKind} {xs : List Value} (hx : ev L x = some v) (hy : ev L y = some (.int kk (i : Int))) (hv : RdC w0 v m xs) (hi : i < m) (ht : sliB P t k = true) :
    Y P n S L ⟨dst, .indexAddr t x y, rty, pos, af, gd⟩ (.pointer (some ((adOf v).add (i * k + 0)))) := by
  obtain ⟨ad, hf, h2⟩ := hv.form
  rw [h2 (by omega)] at hf
  rw [hf] at hx
  refine (y_ixS hx hy ht (by omega)).cast ?_
  rw [Int.toNat_natCast, Nat.add_zero]
theorem y_fldE {o off fi : Nat} (hx : ev L x = some (.pointer (some ((adOf v).add o)))) (ht : fldB P t fi off = true) :
    Y P n S L ⟨dst, .fieldAddr t x fi, rty, pos, af, gd⟩ (.pointer (some ((adOf v).add (o + off)))) := (y_fld hx ht).cast (by rw [Deep.add_add])
theorem y_loadE {i k o : Nat} (m : Nat) {vs : List Value} (hx : ev L x = some (.pointer (some ((adOf v).add (i * k + o))))) (ht : agB P t m = true) (hk : vs.length = m) (hf : ∀ a, (f a).length = k) (hi : i < l.length) (hv : ((f (l.getD i d0)).drop o).take m = vs)
    (hS : ∀ w, S w → RdC w v l.length (l.flatMap f)) : Y P n S L ⟨dst, .load t x, rty, pos, af, gd⟩ (.agg vs.toArray) :=
  y_loadA m hx ht hk (fun w hw => flat_part (d0 := d0) hf hi (by rw [hk]; exact hv) (hS w hw))
theorem y_loadE1 {i k o : Nat} (hx : ev L x = some (.pointer (some ((adOf v).add (i * k + o))))) (ht : scB P t = true) (hf : ∀ a, (f a).length = k) (hi : i < l.length) (hv : (f (l.getD i d0))[o]? = some u)
    (hS : ∀ w, S w → RdC w v l.length (l.flatMap f)) : Y P n S L ⟨dst, .load t x, rty, pos, af, gd⟩ u :=
  y_load hx ht (fun w hw => by
    refine (hS w hw).cell ?_
    rw [flat_get (d0 := d0) hf hi (by have := (List.getElem?_eq_some_iff.1 hv).1; rw [hf] at this; exact this)]
    exact hv)
end
section
variable {c : Cx} {L : Sl} {H : List Res} {P : Program} {Q : Exit → Act → World → Prop} {K : Act → World → Prop} {d : Nat} {rty : TypeId} {pos : String} {af : Array Edge} {gd : Option (Nat × Bool)} {t t' : TypeId} {x y : Operand} {v : Value} {α : Type} {f : α → List Value}
theorem tk_ownA {xs : List Value} {m k : Nat} {T : TypeId} (hm : own v m xs T k ∈ H) (h : (∃ w0, RdC w0 v m xs) → TK c K L H) : TK c K L H := tk_form (fun w hw => ⟨w, own_rdC (hw.mem hm)⟩) h
theorem tk_ownA0 (k : Nat) (T : TypeId) (h : TK c K L (ownA f k (.slice none 0 0) [] T :: H)) : TK c K L H := fun a w ha hw =>
  h a w ha (St.new (N := [own (.slice none 0 0) 0 [] T k]) hw (Fo.refl _ _) ⟨own_nil, trivial⟩ ⟨fun _ _ h => h, trivial⟩ (fun k hk => by
    rcases hk with hk | hk
    · cases hk
    · exact hk.elim))
/-- append of one element out of a row of its own -/
theorem a_appE {H1 H2 : List Res} {l : List α} {e : α} {T T' : TypeId} {k bytes b : Nat} (hx : ev L x = some v) (hy : ev L y = some (.slice (some ⟨b, 0, none⟩) 1 1)) (he : elB P t T k bytes) (hn : Nat.blt d c.n = true)
    (hH : H = H1 ++ ownA f k v l T :: H2) (hb : cel b (f e) T' ∈ H) (hk : (f e).length = k) (h1 : ∀ u ∈ f e, u.oneCell' = true) (hl : l.length + 1 ≤ 16777216) (hy1 : (l.length + 1) * bytes ≤ 140737488355328) (h : ∀ v', TK c K ((d, v') :: L) (H1 ++ ownA f k v' (l ++ [e]) T :: H2)) :
    TK c (fun a w => (⟨some d, .call { callee := .builtin .append, args := #[x, y], argTypes := #[t, t] }, rty, pos, af, gd⟩ : Oper).wp P a w K Q) L H :=
  a_append (n := l.length) (m := 1) (xs := l.flatMap f) (news := f e) hx hy he hn hH (by rw [hk, Nat.one_mul]) (fun w hw j u hj => by rw [add_w, Nat.zero_add]; exact cel_cell (hw.mem hb) hj) h1 ⟨by omega, hy1⟩
    (fun v' => by have := h v'; simp only [ownA, List.length_append, List.length_singleton, List.flatMap_append, List.flatMap_singleton] at this; exact this)
theorem run_slitE {w : World} {e : TypeId} {bytes k : Nat} {cs : List Value} (he : elB P t e k bytes) (hk : cs.length = k) (hs : k ≤ 16777216) :
    (Instr.buildSlice t 1 #[(0, .agg cs.toArray)]).run P w = .ok (.slice (some ⟨w.heap.size, 0, none⟩) 1 1) { w with heap := w.heap.push (.cells cs.toArray e) } := by
  obtain ⟨ht, i, z, hi, hz, hzs, rfl, _, h0⟩ := he
  have hv : (Value.agg cs.toArray).cells = cs.toArray := rfl
  have h2 : ¬ (2 ^ 24 < 1 * i.size) := by omega
  have h3 : ¬ (i.size = 0) := by omega
  have h4 := foldl_set 0 cs 0 ((Array.range (1 * i.size)).map (z.cells[· % z.cells.size]!)) (by simp [hk])
  have h5 : cs.toArray.zipIdx.foldl (fun cs (p : Value × Nat) => cs.setIfInBounds (0 * i.size + p.2) p.1) ((Array.range (1 * i.size)).map (z.cells[· % z.cells.size]!)) = cs.toArray := by
    rw [← Array.foldl_toList, Array.toList_zipIdx, Nat.zero_mul]
    refine h4.trans ?_
    rw [List.drop_of_length_le (by simp; omega)]; simp
  have h6 : Instr.fill (fun j => some (j * i.size, i.size)) ((Array.range (1 * i.size)).map (z.cells[· % z.cells.size]!)) [(0, .agg cs.toArray)] = some cs.toArray := by
    simp only [Instr.fill, hv]
    rw [if_neg (by simp; omega)]
    exact congrArg some h5
  simp only [Instr.buildSlice, Sem.run_bind, run_underlying ht, Result.andThen_ok, Go.sizeOf, typeInfo]
  simp [hi, zeroValue, typeInfo, hz, newRow, h3]
  rw [Nat.one_mul] at h6
  rw [if_neg (by omega), h6]; rfl
theorem a_slitE {o : Operand} {e : TypeId} {bytes k : Nat} {cs : List Value} (hx : ev L o = some (.agg cs.toArray)) (he : elB P t e k bytes) (hk : cs.length = k) (hs : k ≤ 16777216) (hn : Nat.blt d c.n = true)
    (h : ∀ b, TK c K ((d, .slice (some ⟨b, 0, none⟩) 1 1) :: L) (cel b cs e :: H)) :
    TK c (fun a w => (⟨some d, .buildSlice t 1 #[(0, o)], rty, pos, af, gd⟩ : Oper).wp P a w K Q) L H :=
  a_slit (xs := [(0, o)]) (vs := [(0, .agg cs.toArray)]) (by simp [evp, hx]) hn (fun _ => run_slitE he hk hs) h
/-- s[:m] of an owned slice is owned -/
theorem tk_ownTake {β : Type} {g : β → Value} {H1 H2 : List Res} {l : List β} (m : Nat) {T : TypeId} (hH : H = H1 ++ ownM g v l T :: H2) (hm : m ≤ l.length) (h : TK c K L (H1 ++ ownM g (cutR v 0 m) (l.take m) T :: H2)) : TK c K L H := fun a w ha hw => by
  subst hH
  have h0 := hw.mem (r := ownM g v l T) (by simp)
  have h1 : (ownM g (cutR v 0 m) (l.take m) T).holds w ∧ ∀ k, (cutR v 0 m).ownBlock = some k → v.ownBlock = some k := by
    obtain ⟨h1, h2⟩ := h0
    rcases h2 with ⟨rfl, h0⟩ | ⟨b, o, cap, cur, fr, T', rfl, hg, hf, hc, hcm, hcs, ht⟩
    · have : l = [] := List.eq_nil_of_length_eq_zero h0
      subst this
      obtain rfl : m = 0 := by simpa using hm
      refine ⟨⟨by simp, .inl ⟨by simp [cutR, cutAd], rfl⟩⟩, fun k hk => by simp [cutR, cutAd, Value.ownBlock] at hk⟩
    · have e : cutR (.slice (some ⟨b, o, none⟩) l.length cap) 0 m = .slice (some ⟨b, o, none⟩) m cap := by
        simp only [cutR, cutAd]
        split
        · simp [*]
        · simp [Addr.add]
      rw [e]
      refine ⟨⟨by simp, .inr ⟨b, o, cap, cur, fr, T', by rw [List.length_take, Nat.min_eq_left hm], hg, hf, by rw [List.length_take]; omega, hcm, hcs, ?_⟩⟩, fun k hk => by simpa [Value.ownBlock] using hk⟩
      rw [Nat.mul_one] at ht ⊢
      rw [List.length_take, Nat.min_eq_left hm, List.map_take, ← ht, List.take_take, Nat.min_eq_left hm]
  exact h a w ha (St.perm (St.turn (N := [ownM g (cutR v 0 m) (l.take m) T]) hw (Fo.refl _ _) ⟨h1.1, trivial⟩ ⟨fun _ _ h => h, trivial⟩ (fun k hk => by
    rcases hk with hk | hk
    · exact .inl (h1.2 k hk)
    · exact hk.elim)) perm_mid)
/-- append(nil, make([]byte, n)...) -/
theorem a_appZ {tn e : TypeId} {n : Nat} {kn : IntKind} (hx : ev L x = some (.slice none 0 0)) (hy : ev L y = some (I (n : Int))) (he : mkB P t e (B 0) 1) (htn : P.underlying tn = some (.int kn)) (h0 : 0 < n) (h48 : n ≤ 281474976710656) (hn : Nat.blt d c.n = true)
    (h : ∀ v, TK c K ((d, v) :: L) (ownB v (List.replicate n 0) e :: H)) :
    TK c (fun a w => (⟨some d, .call { callee := .builtin .append, args := #[x, y], argTypes := #[t, tn] }, rty, pos, af, gd⟩ : Oper).wp P a w K Q) L H := fun a w ha hw => by
  have h1 := ha.ev hx; have h2 := ha.ev hy
  obtain ⟨ht, i, hi, hz, hs, hb⟩ := he
  have hr := Lib.run_append_nil_zeros (P := P) w t tn rty e i (B 0) .i64 kn ht htn hi hz n h0 (by omega) (by omega) (by rw [hb]; omega)
  have e1 : (execOp a.eval (⟨some d, .call { callee := .builtin .append, args := #[x, y], argTypes := #[t, tn] }, rty, pos, af, gd⟩ : Oper)).run P w = .ok (.value (.slice (some ⟨w.heap.size, 0, none⟩) n (grownCap w n 0 e))) (w.drew.alloc (.cells (Builtin.zeroCells (B 0).cells n ++ Builtin.zeroCells (B 0).cells (grownCap w n 0 e - n)) e)) := by
    simp [execOp, resolve, h1, h2, invoke, builtin, hr]
  change Oper.upon P _ a K Q ((execOp a.eval _).run P w)
  rw [e1, Oper.upon_value]
  have hge := grownCap_ge w n 0 e
  have hcm := grownCap_le_maxLen w n 0 e (by simp only [maxLen]; omega)
  have hz0 : ∀ m, (Builtin.zeroCells (B 0).cells m).toList = (List.replicate m (0 : UInt8)).map B := fun m => by
    simp only [Builtin.zeroCells, Value.cells]
    apply List.ext_getElem
    · simp
    · intro i h1 h2
      simp
      rw [show i % 1 = 0 by omega]; rfl
  refine h _ _ _ (ha.put hn _) (St.new (w' := w.drew.alloc (.cells (Builtin.zeroCells (B 0).cells n ++ Builtin.zeroCells (B 0).cells (grownCap w n 0 e - n)) e)) (N := [ownB (.slice (some ⟨w.heap.size, 0, none⟩) n (grownCap w n 0 e)) (List.replicate n 0) e]) hw ⟨rfl, rfl, rfl, by simp, fun k hk _ => Below.heap_alloc w.drew _ k hk⟩
    ⟨⟨by simp, .inr ⟨w.heap.size, 0, _, _, (0, 0), e, by simp, heap_alloc_new w.drew _, .inr rfl, by simpa using hge, hcm, ?_, ?_⟩⟩, trivial⟩ ⟨fun _ _ h => h, trivial⟩ (fun k hk => ?_))
  · rw [← Array.length_toList, Array.toList_append, hz0, hz0]; simp; omega
  · rw [Array.toList_append, hz0, hz0, Nat.mul_one, List.drop_zero, List.take_left' (by simp)]
  · rcases hk with hk | hk
    · have : some w.heap.size = some k := hk
      cases this; exact Nat.le_refl _
    · exact hk.elim
end
/-! ### a struct's value built of its first parts -/
theorem fillP1 {zs a cs : List Value} {n : Nat} {pl : List (Nat × Nat)} (ha : a.length = n) (hz : n ≤ zs.length) (e : a ++ zs.drop n = cs) : fillL ((0, n) :: pl) zs [(0, a)] = some cs := by
  subst ha; subst e
  simp only [fillL, List.getElem?_cons_zero]
  rw [if_pos ⟨trivial, by omega⟩]; simp
theorem fillP2 {zs a b cs : List Value} {n m : Nat} {pl : List (Nat × Nat)} (ha : a.length = n) (hb : b.length = m) (hz : n + m ≤ zs.length) (e : a ++ b ++ zs.drop (n + m) = cs) : fillL ((0, n) :: (n, m) :: pl) zs [(0, a), (1, b)] = some cs := by
  subst ha; subst hb; subst e
  simp only [fillL, List.getElem?_cons_zero, List.getElem?_cons_succ]
  have h2 : zs.take 0 ++ a ++ zs.drop (0 + a.length) = a ++ zs.drop a.length := by simp
  rw [if_pos ⟨trivial, by omega⟩, h2, if_pos ⟨trivial, by simp; omega⟩, List.take_left, ← List.drop_drop]
  congr 2
  rw [← List.drop_drop, List.drop_left]
theorem fillP4 {zs a cs : List Value} {x y z : Value} {n : Nat} (ha : a.length = n) (hz : zs.length = n + 3) (e : a ++ [x, y, z] = cs) : fillL [(0, n), (n, 1), (n + 1, 1), (n + 2, 1)] zs [(0, a), (1, [x]), (2, [y]), (3, [z])] = some cs := by
  subst ha; subst e
  obtain ⟨p, q, rfl, hp⟩ : ∃ p q, zs = p ++ q ∧ p.length = a.length := ⟨zs.take a.length, zs.drop a.length, by simp, by simp; omega⟩
  have hq : q.length = 3 := by simp at hz; omega
  match q, hq with
  | [q1, q2, q3], _ =>
    simp only [fillL, List.getElem?_cons_zero, List.getElem?_cons_succ]
    have h2 : (p ++ [q1, q2, q3]).take 0 ++ a ++ (p ++ [q1, q2, q3]).drop (0 + a.length) = a ++ [q1, q2, q3] := by rw [Nat.zero_add, ← hp]; simp
    have h3 : ∀ (u1 u2 u3 : Value), (a ++ [u1, u2, u3]).take a.length ++ [x] ++ (a ++ [u1, u2, u3]).drop (a.length + 1) = a ++ [x, u2, u3] := fun u1 u2 u3 => by rw [List.take_left, List.drop_length_add_append]; simp
    have h4 : ∀ (u1 u2 u3 : Value), (a ++ [u1, u2, u3]).take (a.length + 1) ++ [y] ++ (a ++ [u1, u2, u3]).drop (a.length + 1 + 1) = a ++ [u1, y, u3] := fun u1 u2 u3 => by rw [List.take_length_add_append, Nat.add_assoc, List.drop_length_add_append]; simp
    have h5 : ∀ (u1 u2 u3 : Value), (a ++ [u1, u2, u3]).take (a.length + 2) ++ [z] ++ (a ++ [u1, u2, u3]).drop (a.length + 2 + 1) = a ++ [u1, u2, z] := fun u1 u2 u3 => by rw [List.take_length_add_append, Nat.add_assoc, List.drop_length_add_append]; simp
    rw [if_pos ⟨trivial, by simp; omega⟩, h2, if_pos ⟨rfl, by simp⟩, h3, if_pos ⟨rfl, by simp⟩, h4, if_pos ⟨rfl, by simp⟩, h5]
section
variable {L : Sl} {P : Program} {n : Nat} {S : World → Prop}
theorem rcc {fn : Func} {p b o p2 b2 o2 : Nat} {ty ty2 : TypeId} {vs vs2 : List Value} (h : fn.results = #[.cell p ty, .cell p2 ty2]) (hp : lk p L = some (.pointer (some ⟨b, o, none⟩))) (ht : agB P ty vs.length = true)
    (hc : ∀ w, S w → ∀ (j : Nat) (u : Value), vs[j]? = some u → w.cell? ((⟨b, o, none⟩ : Addr).add j) = some u)
    (hp2 : lk p2 L = some (.pointer (some ⟨b2, o2, none⟩))) (ht2 : agB P ty2 vs2.length = true)
    (hc2 : ∀ w, S w → ∀ (j : Nat) (u : Value), vs2[j]? = some u → w.cell? ((⟨b2, o2, none⟩ : Addr).add j) = some u) :
    ∀ a w, Agr n a L → S w → (results fn a.tmps).run P w = .ok (.tuple #[.agg vs.toArray, .agg vs2.toArray]) w := fun a w ha hs => by
  have e1 := cell_run ha hp ht (hc w hs)
  have e3 := cell_run ha hp2 ht2 (hc2 w hs)
  have e4 : (results fn a.tmps) = (do let v ← (do loadVar ty (← asAddr (a.tmps.getD p undef))); let v2 ← (do loadVar ty2 (← asAddr (a.tmps.getD p2 undef))); pure (.tuple #[v, v2])) := by
    unfold results; rw [h]; simp
  rw [e4, Sem.run_bind, e1]
  show (do let v2 ← (do loadVar ty2 (← asAddr (a.tmps.getD p2 undef))); pure (Value.tuple #[.agg vs.toArray, v2])).run P w = _
  rw [Sem.run_bind, e3]
  rfl
theorem rctt {fn : Func} {p b o q q2 : Nat} {ty : TypeId} {vs : List Value} {u u2 : Value} (h : fn.results = #[.cell p ty, .tmp q, .tmp q2]) (hp : lk p L = some (.pointer (some ⟨b, o, none⟩))) (ht : agB P ty vs.length = true)
    (hc : ∀ w, S w → ∀ (j : Nat) (u : Value), vs[j]? = some u → w.cell? ((⟨b, o, none⟩ : Addr).add j) = some u) (hu : lk q L = some u) (hu2 : lk q2 L = some u2) :
    ∀ a w, Agr n a L → S w → (results fn a.tmps).run P w = .ok (.tuple #[.agg vs.toArray, u, u2]) w := fun a w ha hs => by
  have e1 := cell_run ha hp ht (hc w hs)
  have e2 : a.tmps.getD q undef = u := by rw [Array.getD_eq_getD_getElem?, ha.at_ q u hu]; rfl
  have e3 : a.tmps.getD q2 undef = u2 := by rw [Array.getD_eq_getD_getElem?, ha.at_ q2 u2 hu2]; rfl
  have e4 : (results fn a.tmps) = (do let v ← (do loadVar ty (← asAddr (a.tmps.getD p undef))); pure (.tuple #[v, a.tmps.getD q undef, a.tmps.getD q2 undef])) := by
    unfold results; rw [h]; simp
  rw [e4, e2, e3, Sem.run_bind, e1]
  rfl
theorem r4 {fn : Func} {p q r s : Nat} {v u x y : Value} (h : fn.results = #[.tmp p, .tmp q, .tmp r, .tmp s]) (hv : lk p L = some v) (hu : lk q L = some u) (hx : lk r L = some x) (hy : lk s L = some y) :
    ∀ a w, Agr n a L → S w → (results fn a.tmps).run P w = .ok (.tuple #[v, u, x, y]) w := fun a w ha _ => by
  have e1 : a.tmps.getD p undef = v := by rw [Array.getD_eq_getD_getElem?, ha.at_ p v hv]; rfl
  have e2 : a.tmps.getD q undef = u := by rw [Array.getD_eq_getD_getElem?, ha.at_ q u hu]; rfl
  have e3 : a.tmps.getD r undef = x := by rw [Array.getD_eq_getD_getElem?, ha.at_ r x hx]; rfl
  have e4 : a.tmps.getD s undef = y := by rw [Array.getD_eq_getD_getElem?, ha.at_ s y hy]; rfl
  have e5 : (results fn a.tmps) = pure (.tuple #[a.tmps.getD p undef, a.tmps.getD q undef, a.tmps.getD r undef, a.tmps.getD s undef]) := by
    unfold results; rw [h]; simp
  rw [e5, e1, e2, e3, e4]; rfl
theorem r3 {fn : Func} {p q r : Nat} {v u x : Value} (h : fn.results = #[.tmp p, .tmp q, .tmp r]) (hv : lk p L = some v) (hu : lk q L = some u) (hx : lk r L = some x) :
    ∀ a w, Agr n a L → S w → (results fn a.tmps).run P w = .ok (.tuple #[v, u, x]) w := fun a w ha _ => by
  have e1 : a.tmps.getD p undef = v := by rw [Array.getD_eq_getD_getElem?, ha.at_ p v hv]; rfl
  have e2 : a.tmps.getD q undef = u := by rw [Array.getD_eq_getD_getElem?, ha.at_ q u hu]; rfl
  have e3 : a.tmps.getD r undef = x := by rw [Array.getD_eq_getD_getElem?, ha.at_ r x hx]; rfl
  have e5 : (results fn a.tmps) = pure (.tuple #[a.tmps.getD p undef, a.tmps.getD q undef, a.tmps.getD r undef]) := by
    unfold results; rw [h]; simp
  rw [e5, e1, e2, e3]; rfl
end
section
variable {P : Program} {n : Nat} {S : World → Prop} {L : Sl} {dst : Option Tmp} {rty : TypeId} {pos : String} {af : Array Edge} {gd : Option (Nat × Bool)}
  {t t' : TypeId} {x y z : Operand}
theorem y_quo8 {a b : UInt8} (hx : ev L x = some (B a)) (hy : ev L y = some (B b)) (h : 0 < b.toNat) : Y P n S L ⟨dst, .binOp .quo t x y t', rty, pos, af, gd⟩ (B (UInt8.ofNat (a.toNat / b.toNat))) :=
  (y_quo hx hy (by omega)).cast (by
    have h1 : a.toNat / b.toNat ≤ a.toNat := Nat.div_le_self _ _
    have h2 : a.toNat < 256 := a.toNat_lt
    have h3 : (a.toNat : Int).tdiv (b.toNat : Int) = ((a.toNat / b.toNat : Nat) : Int) := rfl
    rw [h3]
    have h4 : (UInt8.ofNat (a.toNat / b.toNat)).toNat = a.toNat / b.toNat := by simp; omega
    simp only [B, h4]
    congr 1
    simp [IntKind.wrap, IntKind.signed, IntKind.bits]; omega)
theorem y_rem8 {a b : UInt8} (hx : ev L x = some (B a)) (hy : ev L y = some (B b)) (h : 0 < b.toNat) : Y P n S L ⟨dst, .binOp .rem t x y t', rty, pos, af, gd⟩ (B (UInt8.ofNat (a.toNat % b.toNat))) :=
  (y_rem hx hy (by omega)).cast (by
    have h1 : a.toNat % b.toNat ≤ a.toNat := Nat.mod_le _ _
    have h2 : a.toNat < 256 := a.toNat_lt
    have h3 : (a.toNat : Int).tmod (b.toNat : Int) = ((a.toNat % b.toNat : Nat) : Int) := rfl
    rw [h3]
    have h4 : (UInt8.ofNat (a.toNat % b.toNat)).toNat = a.toNat % b.toNat := by simp; omega
    simp only [B, h4])
theorem y_capNil {e : TypeId} (hx : ev L x = some (.slice none 0 0)) (ht : P.underlying t = some (.slice e)) : Y P n S L ⟨dst, .call { callee := .builtin .cap, args := #[x], argTypes := #[t] }, rty, pos, af, gd⟩ (I ((0 : Nat) : Int)) := fun q w ha _ => by
  have h1 := ha.ev hx
  simp [execOp, resolve, h1, invoke, builtin, Builtin.cap_, underlying, ht, goInt]
end
end Go.Proofs.YtfofkjajlfphjaaDoor

