/- The shell of a row whose law returns true and whose arguments read as before; the opening of arguments. Own work for this project; no program in sight. -/
import Derived.Test.YtfofkjajlfphjaaEngI
import Derived.ProofKit
import Derived.OpenShut
namespace Go.Proofs.Ytfofkjajlfphjaa
open Go Go.RowKit Go.ChangeShapes Go.WideShapes
section
variable {H : Type} {enc : TypeId × Value → H} {P : Program} {W : World} {t : TypeId} {v : Value} {d : DataW H} {ps : List MemPlace}

def readAll (P : Program) (ts : List TypeId) : Bool := ts.all fun t => P.readableRec t && decide (t < P.types.size)

theorem trodAll_below (hl : laidOutB P = true) {W W' : World} (hb : Below W.heap.size W W') : ∀ {ts : List TypeId} {vs : List Value} {ds : List (DataW H)} {p : List MemPlace}, readAll P ts = true →
    DataW.TrodAll enc P W 0 (fun _ => true) true ts vs ds p → (∀ x ∈ p, x.block < W.heap.size) → DataW.TrodAll enc P W' 0 (fun b => decide (b < W.heap.size)) true ts vs ds p
  | [], [], [], _, _, h, _ => h
  | [], [], _ :: _, _, _, h, _ => h.elim
  | [], _ :: _, _, _, _, h, _ => h.elim
  | _ :: _, [], _, _, _, h, _ => h.elim
  | _ :: _, _ :: _, [], _, _, h, _ => h.elim
  | t :: ts, v :: vs, d :: ds, _, hr, h, hlt => by
    obtain ⟨p, q, h1, h2, rfl⟩ := h
    simp only [readAll, List.all_cons, Bool.and_eq_true, decide_eq_true_eq] at hr
    exact ⟨p, q, Below.trod hl hr.1.1 hr.1.2 h1 hb (fun x hx => hlt x (by simp [hx])), trodAll_below hl hb (by simpa [readAll] using hr.2) h2 (fun x hx => hlt x (by simp [hx])), rfl⟩

theorem trodAll_len {base : Nat} {sp : Nat → Bool} {held : Bool} : ∀ {ts : List TypeId} {vs : List Value} {ds : List (DataW H)} {p : List MemPlace}, DataW.TrodAll enc P W base sp held ts vs ds p → ds.length = ts.length
  | [], [], [], _, _ => rfl
  | [], [], _ :: _, _, h => h.elim
  | [], _ :: _, _, _, h => h.elim
  | _ :: _, [], _, _, h => h.elim
  | _ :: _, _ :: _, [], _, h => h.elim
  | t :: ts, v :: vs, d :: ds, _, h => by
    obtain ⟨p, q, _, h2, _⟩ := h
    simp [trodAll_len h2]

/-- THE ROW: the law's walk gives 'true' and turns no old memory. -/
theorem row_true {K : FuncId} {fn : Func} {s : ChangeSpec} {args : Array Value} {ds gs : List (DataW H)} {before : List MemPlace} {b : TypeId} {apart handsOn : Bool}
    (hW : DataW.Whole enc P fn.params.toList s.vars apart W args.toList ds gs before)
    (hl : laidOutB P = true) (hr : readAll P fn.params.toList = true) (hv : s.vars = [])
    (hb : fn.resultTypes = #[b]) (ub : P.underlying b = some .bool)
    (hs : ∀ ds' : List (DataW H), ds'.length = fn.params.toList.length → (s.fn H (ds' ++ gs)).results = [.lit (.bool true)] ∧ (s.fn H (ds' ++ gs)).args = ds' ∧ (s.fn H (ds' ++ gs)).vars = gs)
    (core : Spec P K args.toList W [] (fun _ : Unit => True) (fun _ => .bool true) (fun _ => [])) :
    Calls P K args W fun e W' => ∃ v, e = .returned v ∧ s.post enc P fn apart true handsOn false W args v W' := by
  have core' : Calls P K args W fun e w' => ∃ x : Unit, True ∧ e = .returned (.bool true) ∧ Fo (Fs []) W w' ∧ Hs w' [] ∧ Dj [] ∧ ∀ k, Fs [] k → Fs [] k ∨ W.heap.size ≤ k := by
    have := core; unfold Spec at this; simpa using this
  refine core'.mono fun e W' ⟨_, _, he, hf, _⟩ => ⟨_, he, ?_⟩
  have hbel : Below W.heap.size W W' := (hf.mono (fun k h => by simp [Fs] at h)).below
  have hlt := hW.lt
  have hW' := hW
  obtain ⟨p, q, hA, hV, rfl, hfz, hnd⟩ := hW
  obtain ⟨h1, h2, h3⟩ := hs ds (trodAll_len hA)
  refine ⟨ds, gs, _, [], p, q, hW', ?_, ?_, ?_, hbel.frame _, fun h => by cases h⟩
  · rw [h1, hb]; exact trodAll_mk1 (shut_bool ub true)
  · rw [h2]; exact trodAll_below hl hbel hr hA (fun x hx => hlt x (by simp [hx]))
  · rw [h3, hv]; rw [hv] at hV; obtain ⟨rfl, rfl⟩ := trodVars_none hV; exact rfl

/- OPENING -/
theorem wf_u8 {n : Int} (h : (Lit.int .u8 n).wf = true) : ∃ b : UInt8, Value.int .u8 n = B b := by
  simp [Lit.wf, IntKind.min, IntKind.max, IntKind.signed, IntKind.bits] at h
  refine ⟨UInt8.ofNat n.toNat, ?_⟩
  have : (UInt8.ofNat n.toNat).toNat = n.toNat := by simp; omega
  simp only [B, this]
  congr 1; omega
section
variable {base : Nat} {sp : Nat → Bool} {held : Bool} {fuel : Nat} {cs : List Value} {x : DataW H × List MemPlace}
theorem op_u8 (ht : P.underlying t = some (.int .u8)) (h : DataW.trod enc P W base sp held fuel t cs = some x) : ∃ b : UInt8, cs = [B b] := by
  obtain ⟨n, rfl, _, hw⟩ := DataW.trod_int ht h
  obtain ⟨b, hb⟩ := wf_u8 hw
  exact ⟨b, by rw [hb]⟩
theorem op_i64 (ht : P.underlying t = some (.int .i64)) (h : DataW.trod enc P W base sp held fuel t cs = some x) : ∃ n : Int, cs = [I n] ∧ -9223372036854775808 ≤ n ∧ n ≤ 9223372036854775807 := by
  obtain ⟨n, rfl, _, hw⟩ := DataW.trod_int ht h
  exact ⟨n, rfl, bounds_i64 hw⟩
theorem op_str (ht : P.underlying t = some .string) (h : DataW.trod enc P W base sp held fuel t cs = some x) : ∃ l : List UInt8, cs = [Str l] ∧ l.length ≤ maxLen := by
  obtain ⟨s, rfl, _, hw⟩ := DataW.trod_string ht h
  refine ⟨s.data.toList, ?_, ?_⟩
  · show [Value.string s] = [Value.string ⟨s.data.toList.toArray⟩]; rw [Array.toArray_toList]
  · rw [Array.length_toList]; exact hw

theorem bytes_of_each (cs : List Value) (h : ∀ (i : Nat) (v : Value), cs[i]? = some v → ∃ b : UInt8, v = B b) : ∃ l : List UInt8, cs = l.map B := by
  induction cs with
  | nil => exact ⟨[], rfl⟩
  | cons c cs ih =>
    obtain ⟨b, rfl⟩ := h 0 c rfl
    obtain ⟨l, rfl⟩ := ih (fun i v hv => h (i + 1) v (by simpa using hv))
    exact ⟨b :: l, rfl⟩

theorem op_arr8 {k : Nat} {e : TypeId} (ht : P.underlying t = some (.array k e)) (he : P.underlying e = some (.int .u8)) (hc : P.cellsOf e = 1) (hk : P.cellsOf t = k)
    (h : DataW.trod enc P W base sp held fuel t cs = some x) : ∃ l : List UInt8, l.length = k ∧ cs = l.map B := by
  obtain ⟨xs, m, _, _, hl, hx, hi⟩ := DataW.trod_array ht h
  obtain ⟨l, rfl⟩ := bytes_of_each cs (fun i v hv => by
    have hik : i < k := by have := (List.getElem?_eq_some_iff.1 hv).1; omega
    have h1 := hi i hik
    rw [hc, Nat.mul_one] at h1
    cases hxi : xs[i]? with
    | none => simp at hxi; omega
    | some y =>
      rw [hxi] at h1
      obtain ⟨b, hb⟩ := op_u8 he h1
      refine ⟨b, ?_⟩
      have h2 : (cs.drop i).head? = some v := by simpa using hv
      cases hd : cs.drop i with
      | nil => rw [hd] at h2; cases h2
      | cons u r =>
        rw [hd] at hb h2
        simp at hb h2
        rw [← h2, hb])
  exact ⟨l, by simpa [hk] using hl, rfl⟩

theorem op_bytes {e : TypeId} (ht : P.underlying t = some (.slice e)) (he : P.underlying e = some (.int .u8)) (hc : P.cellsOf e = 1)
    (h : DataW.trod enc P W base sp held fuel t cs = some x) : ∃ v l, cs = [v] ∧ RdB W v l ∧ l.length ≤ cpOf v ∧ cpOf v ≤ maxLen := by
  rcases open_ints ht he hc h with ⟨rfl, _⟩ | ⟨a, len, cap, zs, rfl, _, hl, hm, hz, _, hcell, hwf⟩
  · exact ⟨_, [], rfl, .inl ⟨rfl, rfl⟩, by simp [cpOf], by simp [cpOf]⟩
  have hlz : len ≤ zs.length := by rw [hz]; split <;> omega
  obtain ⟨l, hb⟩ := bytes_of_each ((zs.take len).map fun n => Value.int .u8 n) (fun i v hv => by
    simp only [List.getElem?_map, Option.map_eq_some_iff] at hv
    obtain ⟨n, h1, rfl⟩ := hv
    exact wf_u8 (hwf n (List.mem_of_mem_take (List.mem_of_getElem? h1))))
  have hll : l.length = len := by
    have := congrArg List.length hb
    simp at this; omega
  refine ⟨_, l, rfl, .inr ⟨a, cap, by simp [hll], by simp; omega, fun j u hj => ?_⟩, by simp [cpOf]; omega, hm⟩
  rw [← hb] at hj
  simp only [List.getElem?_map, Option.map_eq_some_iff] at hj
  obtain ⟨n, h1, rfl⟩ := hj
  have hj' : j < len := by have := (List.getElem?_eq_some_iff.1 h1).1; simp at this; omega
  rw [hcell j (by omega)]
  rw [List.getElem?_take] at h1
  simp [hj'] at h1
  simp [List.getD, h1]

/-- the field of a struct -/
theorem op_fld {fs : Array Field} (ht : P.underlying t = some (.struct fs)) (h : DataW.trod enc P W base sp held fuel t cs = some x) (i : Nat) {f : Field} (hf : fs[i]? = some f) :
    ∃ n y, DataW.trod enc P W base sp held n f.type ((cs.drop f.offset).take (P.cellsOf f.type)) = some y := by
  obtain ⟨xs, n, _, _, _, hx, hi⟩ := DataW.trod_struct ht h
  have h1 := hi i f hf
  cases hxi : xs[i]? with
  | none => have := (Array.getElem?_eq_some_iff.1 hf).1; simp at hxi; omega
  | some y => exact ⟨n, y, by rw [h1, hxi]⟩
theorem op_fldO {fs : Array Field} (ht : P.underlying t = some (.struct fs)) (h : DataW.trod enc P W base sp held fuel t cs = some x) (i ty o k : Nat) (hf : (fs[i]?).map (fun f => (f.type, f.offset)) = some (ty, o)) (hk : P.cellsOf ty = k) :
    ∃ n y, DataW.trod enc P W base sp held n ty ((cs.drop o).take k) = some y := by
  cases hi : fs[i]? with
  | none => rw [hi] at hf; cases hf
  | some f =>
    rw [hi] at hf
    simp only [Option.map_some, Option.some.injEq, Prod.mk.injEq] at hf
    obtain ⟨rfl, rfl⟩ := hf
    subst hk
    exact op_fld ht h i hi
theorem op_len {fs : Array Field} (ht : P.underlying t = some (.struct fs)) (h : DataW.trod enc P W base sp held fuel t cs = some x) : cs.length = P.cellsOf t := by
  obtain ⟨xs, n, _, _, hl, _⟩ := DataW.trod_struct ht h
  exact hl
end

/- values -/
theorem ov_arr8 {k b0 : Nat} {r : Reach} {e : TypeId} (ht : P.underlying t = some (.array k e)) (he : P.underlying e = some (.int .u8)) (hc : P.cellsOf e = 1) (hk : P.cellsOf t = k)
    (hval : Value.okWide P W r b0 t v) (hd : DataW.Trod enc P W 0 (fun _ => true) true t v d ps) : ∃ l : List UInt8, l.length = k ∧ v = Ag l := by
  obtain ⟨fuel, hf⟩ := hd
  obtain ⟨l, hl, hcs⟩ := op_arr8 ht he hc hk hf
  have hv : ∃ cs, v = .agg cs := by
    simp only [Value.okWide, ht] at hval
    obtain ⟨cs, h1, _⟩ := hval
    exact ⟨cs, h1⟩
  obtain ⟨cs, rfl⟩ := hv
  refine ⟨l, hl, ?_⟩
  have : cs.toList = l.map B := by simpa [Value.cells] using hcs
  simp [Ag, ← this]
theorem ov_bytes {b0 : Nat} {r : Reach} {e : TypeId} (ht : P.underlying t = some (.slice e)) (he : P.underlying e = some (.int .u8)) (hc : P.cellsOf e = 1)
    (hval : Value.okWide P W r b0 t v) (hd : DataW.Trod enc P W 0 (fun _ => true) true t v d ps) : ∃ l : List UInt8, RdB W v l ∧ l.length ≤ cpOf v ∧ cpOf v ≤ maxLen := by
  obtain ⟨fuel, hf⟩ := hd
  obtain ⟨a, n, c, rfl⟩ := okWide_slice ht hval
  obtain ⟨u, l, hcs, hr, h1, h2⟩ := op_bytes ht he hc hf
  simp [Value.cells] at hcs
  subst hcs
  exact ⟨l, hr, h1, h2⟩
end
end Go.Proofs.Ytfofkjajlfphjaa
