/- Arrays as values, results in memory, builds, joins of ways. Own work for this project; no program in sight. -/
import Derived.Test.YtfofkjajlfphjaaEngF
namespace Go.Proofs.Ytfofkjajlfphjaa
open Go Go.RowKit
abbrev Ag (l : List UInt8) : Value := .agg (l.map B).toArray
section
variable {c : Cx} {L : Sl} {H : List Res} {P : Program} {Q : Exit → Act → World → Prop} {K : Act → World → Prop} {n : Nat} {S : World → Prop} {dst : Option Tmp} {w0 : World} {H0 : List Res}
  {d : Nat} {rty : TypeId} {pos : String} {af : Array Edge} {gd : Option (Nat × Bool)} {t t' : TypeId} {x y z : Operand} {v u : Value}

/-- pieces told otherwise -/
theorem tk_H (H' : List Res) (e : H = H') (h : TK c K L H') : TK c K L H := e ▸ h
theorem tk_have {p : Prop} (hp : p) (h : p → TK c K L H) : TK c K L H := h hp

theorem a_boxL {cs : List Value} (hx : ev L x = some (.agg cs.toArray)) (hn : Nat.blt d c.n = true) (h : ∀ b, TK c K ((d, .pointer (some ⟨b, 0, none⟩)) :: L) (cel b cs t :: H)) :
    TK c (fun a w => (⟨some d, .box t x, rty, pos, af, gd⟩ : Oper).wp P a w K Q) L H := a_box hx hn h
theorem a_box1 (hx : ev L x = some v) (hone : v.oneCell' = true) (hn : Nat.blt d c.n = true) (h : ∀ b, TK c K ((d, .pointer (some ⟨b, 0, none⟩)) :: L) (cel b [v] t :: H)) :
    TK c (fun a w => (⟨some d, .box t x, rty, pos, af, gd⟩ : Oper).wp P a w K Q) L H := a_box hx hn (by
      have e : v.cells.toList = [v] := by cases v <;> first | rfl | simp [Value.oneCell'] at hone
      rw [e]; exact h)
theorem a_allocL {cs : List Value} (hz : (P.info? t).bind (·.zero) = some (.agg cs.toArray)) (hn : Nat.blt d c.n = true) (h : ∀ b, TK c K ((d, .pointer (some ⟨b, 0, none⟩)) :: L) (cel b cs t :: H)) :
    TK c (fun a w => (⟨some d, .alloc t, rty, pos, af, gd⟩ : Oper).wp P a w K Q) L H := a_alloc hz hn h
theorem a_alloc1 (hz : (P.info? t).bind (·.zero) = some v) (hone : v.oneCell' = true) (hn : Nat.blt d c.n = true) (h : ∀ b, TK c K ((d, .pointer (some ⟨b, 0, none⟩)) :: L) (cel b [v] t :: H)) :
    TK c (fun a w => (⟨some d, .alloc t, rty, pos, af, gd⟩ : Oper).wp P a w K Q) L H := a_alloc hz hn (by
      have e : v.cells.toList = [v] := by cases v <;> first | rfl | simp [Value.oneCell'] at hone
      rw [e]; exact h)
/-- the whole row is stored anew -/
theorem a_storeW {H1 H2 : List Res} {b : Nat} {cs vs : List Value} {T : TypeId} (k : Nat) (hx : ev L x = some (.pointer (some ⟨b, 0, none⟩))) (hy : ev L y = some (.agg vs.toArray)) (ht : szB P t k = true)
    (hH : H = H1 ++ cel b cs T :: H2) (hk : vs.length = k ∧ cs.length = k) (hone : ∀ u ∈ vs, u.oneCell' = true) (h : TK c K L (H1 ++ cel b vs T :: H2)) :
    TK c (fun a w => (⟨none, .store t x y, rty, pos, af, gd⟩ : Oper).wp P a w K Q) L H := by
  refine a_store (k := k) (vs := vs) hx hy rfl ht hk.1 hH hone (by omega) ?_
  have e : cs.take 0 ++ vs ++ cs.drop (0 + k) = vs := by simp [hk.2]
  rw [e]; exact h
/-- several cells of a row are stored -/
theorem a_storeL {H1 H2 : List Res} {b o : Nat} {cs vs : List Value} {T : TypeId} (k : Nat) (hx : ev L x = some (.pointer (some ⟨b, o, none⟩))) (hy : ev L y = some (.agg vs.toArray)) (ht : szB P t k = true)
    (hH : H = H1 ++ cel b cs T :: H2) (hk : vs.length = k) (hone : ∀ u ∈ vs, u.oneCell' = true) (hlen : o + k ≤ cs.length) (h : TK c K L (H1 ++ cel b (cs.take o ++ vs ++ cs.drop (o + k)) T :: H2)) :
    TK c (fun a w => (⟨none, .store t x y, rty, pos, af, gd⟩ : Oper).wp P a w K Q) L H := a_store (k := k) (vs := vs) hx hy rfl ht hk hH hone hlen h
theorem oneB {l : List UInt8} : ∀ u ∈ l.map B, u.oneCell' = true := by
  intro u hu
  obtain ⟨a, _, rfl⟩ := List.mem_map.1 hu
  rfl

/-! ### builds -/
def evp (L : Sl) : List (Nat × Operand) → Option (List (Nat × Value))
  | [] => some []
  | p :: xs => match ev L p.2, evp L xs with
    | some v, some vs => some ((p.1, v) :: vs)
    | _, _ => none
theorem evp_map {a : Act} (ha : Agr n a L) : ∀ {xs : List (Nat × Operand)} {vs : List (Nat × Value)}, evp L xs = some vs → xs.map (fun p => (p.1, a.eval p.2)) = vs
  | [], vs, h => by simp [evp] at h; subst h; rfl
  | p :: xs, vs, h => by
    simp only [evp] at h
    cases h1 : ev L p.2 with
    | none => simp [h1] at h
    | some v =>
      cases h2 : evp L xs with
      | none => simp [h1, h2] at h
      | some us => simp [h1, h2] at h; subst h; simp [ha.ev h1, evp_map ha h2]
theorem y_build {xs : List (Nat × Operand)} {vs : List (Nat × Value)} (hx : evp L xs = some vs) (hb : ∀ w, (Instr.build t vs.toArray).run P w = .ok v w) :
    Y P n S L ⟨dst, .build t xs.toArray, rty, pos, af, gd⟩ v := fun a w ha _ => by
  have h1 := evp_map ha hx
  have e : (xs.toArray.map fun (p : Nat × Operand) => (p.1, a.eval p.2)) = vs.toArray := by rw [List.map_toArray, h1]
  have e2 := hb w
  simp only [execOp]
  simp only [e, Sem.run_bind, e2, Result.andThen]
  rfl

/-! ### pointers -/
theorem y_pnil {p : Option Addr} (hx : ev L x = some (.pointer p)) (hy : ev L y = some (.pointer none)) (h : P.underlying t = some (.pointer (P.pointee t))) : Y P n S L ⟨dst, .binOp .eql t x y t', rty, pos, af, gd⟩ (.bool p.isNone) := fun a w ha _ => by
  have h1 := ha.ev hx; have h2 := ha.ev hy
  simp [execOp, h1, h2, eqGuard_at_pointer, run_eql_pointer_nil w t p h]
theorem y_pnnil {p : Option Addr} (hx : ev L x = some (.pointer p)) (hy : ev L y = some (.pointer none)) (h : P.underlying t = some (.pointer (P.pointee t))) : Y P n S L ⟨dst, .binOp .neq t x y t', rty, pos, af, gd⟩ (.bool (!p.isNone)) := fun a w ha _ => by
  have h1 := ha.ev hx; have h2 := ha.ev hy
  simp [execOp, h1, h2, eqGuard_at_pointer, run_neq_pointer_nil w t p h]

/-! ### cuts of arrays, told in numbers -/
theorem y_cutAN {b o : Nat} {k k' : IntKind} {il ih : Int} {xl xh : Operand} (m sz : Nat) (lo hi : Nat) (hx : ev L x = some (.pointer (some ⟨b, o, none⟩))) (hl : ev L xl = some (.int k il)) (hh : ev L xh = some (.int k' ih))
    (ht : arrB P t m sz = true) (hb : il = (lo : Int) ∧ ih = (hi : Int) ∧ lo ≤ hi ∧ hi ≤ m ∧ lo < m) :
    Y P n S L ⟨dst, .slice t x (some xl) (some xh) none, rty, pos, af, gd⟩ (.slice (some ⟨b, o + lo * sz, none⟩) (hi - lo) (m - lo)) := by
  obtain ⟨rfl, rfl, h1, h2, h3⟩ := hb
  refine (y_cutAlh hx hl hh ht ⟨by omega, by omega, by omega⟩).cast ?_
  have e : ¬ m = lo := by omega
  simp only [cutAd, Int.toNat_natCast, if_neg e, Option.map_some, add_w]

theorem y_cutSlN {b o len cap : Nat} {k : IntKind} {il : Int} {xl : Operand} (sz lo : Nat) (hx : ev L x = some (.slice (some ⟨b, o, none⟩) len cap)) (hl : ev L xl = some (.int k il))
    (ht : sliB P t sz = true) (hb : il = (lo : Int) ∧ lo ≤ len ∧ lo < cap) :
    Y P n S L ⟨dst, .slice t x (some xl) none none, rty, pos, af, gd⟩ (.slice (some ⟨b, o + lo * sz, none⟩) (len - lo) (cap - lo)) := by
  obtain ⟨rfl, h1, h3⟩ := hb
  refine (y_cutSl hx hl ht ⟨by omega, by omega⟩).cast ?_
  have e : ¬ cap = lo := by omega
  simp only [cutAd, Int.toNat_natCast, if_neg e, Option.map_some, add_w]
theorem y_cutSN {b o len cap : Nat} {k k' : IntKind} {il ih : Int} {xl xh : Operand} (sz lo hi : Nat) (hx : ev L x = some (.slice (some ⟨b, o, none⟩) len cap)) (hl : ev L xl = some (.int k il)) (hh : ev L xh = some (.int k' ih))
    (ht : sliB P t sz = true) (hb : il = (lo : Int) ∧ ih = (hi : Int) ∧ lo ≤ hi ∧ hi ≤ cap ∧ lo < cap) :
    Y P n S L ⟨dst, .slice t x (some xl) (some xh) none, rty, pos, af, gd⟩ (.slice (some ⟨b, o + lo * sz, none⟩) (hi - lo) (cap - lo)) := by
  obtain ⟨rfl, rfl, h1, h2, h3⟩ := hb
  refine (y_cutS hx hl hh ht ⟨by omega, by omega, by omega⟩).cast ?_
  have e : ¬ cap = lo := by omega
  simp only [cutAd, Int.toNat_natCast, if_neg e, Option.map_some, add_w]

/-! ### a result that lies in memory -/
theorem rc {fn : Func} {p b o : Nat} {ty : TypeId} {vs : List Value} (h : fn.results = #[.cell p ty]) (hp : lk p L = some (.pointer (some ⟨b, o, none⟩))) (ht : agB P ty vs.length = true)
    (hc : ∀ w, S w → ∀ (j : Nat) (u : Value), vs[j]? = some u → w.cell? ((⟨b, o, none⟩ : Addr).add j) = some u) :
    ∀ a w, Agr n a L → S w → (results fn a.tmps).run P w = .ok (.agg vs.toArray) w := fun a w ha hs => by
  have h1 := ha.at_ p _ hp
  have e1 : a.tmps.getD p undef = .pointer (some ⟨b, o, none⟩) := by rw [Array.getD_eq_getD_getElem?, h1]; rfl
  have e2 := run_loadCells_list (P := P) (w := w) ⟨b, o, none⟩ vs (hc w hs)
  have e3 : (loadVar ty ⟨b, o, none⟩).run P w = .ok (.agg vs.toArray) w := by simp [loadVar, (agB_run ht).1, (agB_run ht).2, e2]
  have e4 : (results fn a.tmps) = (do let v ← (do loadVar ty (← asAddr (a.tmps.getD p undef))); pure v) := by
    unfold results; rw [h]; simp
  rw [e4, e1]
  simp [asAddr, e3]
/-- the whole of a row -/
theorem hcw {b : Nat} {cs : List Value} {T : TypeId} (hm : cel b cs T ∈ H) : ∀ w, St c w H → ∀ (j : Nat) (u : Value), cs[j]? = some u → w.cell? ((⟨b, 0, none⟩ : Addr).add j) = some u := fun w hw j u hj => by
  rw [add_w, Nat.zero_add]
  exact cel_cell (hw.mem hm) hj

/-! ### a test that is not decided: both ways -/
theorem tk_qs {ops : Array Oper} {rest : List Oper} {o : Oper} {p : Prop} [Decidable p] (hd : o.dst = some d) (hg : o.guard = none) (hn : Nat.blt d c.n = true) (hy : Y P c.n (fun w => St c w H) L o (.bool (decide p)))
    (h1 : p → TK c (wpList P ops Q rest) ((d, .bool true) :: L) H) (h2 : ¬ p → TK c (wpList P ops Q rest) ((d, .bool false) :: L) H) : TK c (wpList P ops Q (o :: rest)) L H := by
  by_cases hp : p
  · exact tk_qe _ hd hg hn hy (bool_t hp) (h1 hp)
  · exact tk_qe _ hd hg hn hy (bool_f hp) (h2 hp)
theorem tk_gqe {ops : Array Oper} {rest : List Oper} {o : Oper} (v' : Value) (hd : o.dst = some d) (hn : Nat.blt d c.n = true) (hg : gdB ops L o = some true) (hy : Y P c.n (fun w => St c w H) L o v) (e : v = v')
    (h : TK c (wpList P ops Q rest) ((d, v') :: L) H) : TK c (wpList P ops Q (o :: rest)) L H := tk_gq hd hn hg (hy.cast e) h
theorem tk_gqs {ops : Array Oper} {rest : List Oper} {o : Oper} {p : Prop} [Decidable p] (hd : o.dst = some d) (hn : Nat.blt d c.n = true) (hg : gdB ops L o = some true) (hy : Y P c.n (fun w => St c w H) L o (.bool (decide p)))
    (h1 : p → TK c (wpList P ops Q rest) ((d, .bool true) :: L) H) (h2 : ¬ p → TK c (wpList P ops Q rest) ((d, .bool false) :: L) H) : TK c (wpList P ops Q (o :: rest)) L H := by
  by_cases hp : p
  · exact tk_gqe _ hd hn hg hy (bool_t hp) (h1 hp)
  · exact tk_gqe _ hd hn hg hy (bool_f hp) (h2 hp)
/-! ### some cells of a row of bytes -/
theorem hcsB {b o m : Nat} {l : List UInt8} {T : TypeId} (hm : cel b (l.map B) T ∈ H) : ∀ w, St c w H → ∀ (j : Nat) (u : Value), (((l.drop o).take m).map B)[j]? = some u → w.cell? ((⟨b, o, none⟩ : Addr).add j) = some u := fun w hw j u hj => by
  rw [add_w]
  refine cel_cell (hw.mem hm) ?_
  rw [List.getElem?_map, List.getElem?_take] at hj
  split at hj
  · rw [List.getElem?_drop] at hj; rw [List.getElem?_map]; exact hj
  · cases hj
theorem hroB {b o q m : Nat} {l : List UInt8} (h0 : ∀ j, j < l.length → c.w0.cell? ⟨b, q + j, none⟩ = some (B (l.getD j 0))) (hE : ¬ c.E b) : ∀ w, St c w H → ∀ (j : Nat) (u : Value), (((l.drop o).take m).map B)[j]? = some u → w.cell? ((⟨b, q + o, none⟩ : Addr).add j) = some u := fun w hw j u hj => by
  rw [add_w]
  rw [List.getElem?_map, List.getElem?_take] at hj
  split at hj
  · rw [List.getElem?_drop] at hj
    cases hl : l[o + j]? with
    | none => rw [hl] at hj; cases hj
    | some a =>
      rw [hl] at hj; cases hj
      have hlt := (List.getElem?_eq_some_iff.1 hl).1
      have := hw.fr.cell (h0 (o + j) hlt) hE
      rw [List.getD_eq_getElem?_getD, hl] at this
      rw [Nat.add_assoc]; exact this
  · cases hj

/-! ### ways that meet -/
theorem tk_seqI {X : Type} {s r : Code} (I : X → Prop) (LI : X → Sl) (HI : X → List Res)
    (h1 : TK c (s.wp P (Exit.then (fun a w => ∃ g, I g ∧ Agr c.n a (LI g) ∧ St c w (HI g)) Q)) L H) (h2 : ∀ g, I g → TK c (r.wp P Q) (LI g) (HI g)) : TK c ((Code.seq s r).wp P Q) L H := fun a w ha hw =>
  wp_seq (wp_mono (h1 a w ha hw) (fun e a' w' q => by
    cases e <;> first
      | exact q
      | (obtain ⟨g, hg, ha', hw'⟩ := q; exact h2 g hg a' w' ha' hw')))
theorem tk_to {X : Type} {I : X → Prop} {LI : X → Sl} {HI : X → List Res} (g : X) (hI : I g) (hL : subS L (LI g)) (hH : (HI g).Sublist H) :
    TK c (Exit.then (fun a w => ∃ g, I g ∧ Agr c.n a (LI g) ∧ St c w (HI g)) Q .normal) L H := fun _ _ ha hw => ⟨g, hI, ha.sub hL.lk, hw.sub hH⟩
end
theorem St.ne {c : Cx} {w : World} {H : List Res} {ad : Addr} {v : Value} {b : Nat} {cs : List Value} {T : TypeId} (h : St c w H) (h0 : c.w0.cell? ad = some v) (hE : ¬ c.E ad.block) (hm : cel b cs T ∈ H) : ad.block ≠ b := fun e => by
  have hb := World.block_lt_of_cell? c.w0 ad h0
  rcases h.own b (Fs.of_mem hm (k := b) rfl) with h1 | h1
  · exact hE (e ▸ h1)
  · omega
theorem ixb (b : UInt8) : 0 ≤ (b.toNat : Int) ∧ (b.toNat : Int) < ((256 : Nat) : Int) := by have := b_lt b; omega
/-- a byte is stored into a row of bytes -/
theorem a_store1B {c : Cx} {L : Sl} {H : List Res} {P : Program} {Q : Exit → Act → World → Prop} {K : Act → World → Prop} {rty : TypeId} {pos : String} {af : Array Edge} {gd : Option (Nat × Bool)} {t : TypeId} {x y : Operand}
    {H1 H2 : List Res} {b o : Nat} {l : List UInt8} {v : UInt8} {T : TypeId} (hx : ev L x = some (.pointer (some ⟨b, o, none⟩))) (hy : ev L y = some (B v)) (ht : szB P t 1 = true)
    (hH : H = H1 ++ cel b (l.map B) T :: H2) (hlen : o < l.length) (h : TK c K L (H1 ++ cel b ((l.set o v).map B) T :: H2)) :
    TK c (fun a w => (⟨none, .store t x y, rty, pos, af, gd⟩ : Oper).wp P a w K Q) L H :=
  a_store1 hx hy ht rfl hH (by simpa using hlen) (by rw [← List.map_set]; exact h)
theorem y_ixA0I {P : Program} {n : Nat} {S : World → Prop} {L : Sl} {dst : Option Tmp} {rty : TypeId} {pos : String} {af : Array Edge} {gd : Option (Nat × Bool)} {t : TypeId} {x y : Operand}
    {b : Nat} {i : Int} {k : IntKind} (len : Nat) (j : Nat) (hx : ev L x = some (.pointer (some ⟨b, 0, none⟩))) (hy : ev L y = some (.int k i)) (ht : arrB P t len 1 = true) (hi : i = (j : Int) ∧ j < len) :
    Y P n S L ⟨dst, .indexAddr t x y, rty, pos, af, gd⟩ (.pointer (some ⟨b, j, none⟩)) := (y_ixAI len 1 j hx hy ht hi).cast (by rw [Nat.zero_add, Nat.mul_one])
theorem getBA {l : List UInt8} {b : UInt8} (h : b.toNat < l.length) : (l.map B).toArray[((b.toNat : Int)).toNat]? = some (B (l.getD b.toNat 0)) := by
  simp [List.getD_eq_getElem?_getD, h]
end Go.Proofs.Ytfofkjajlfphjaa
