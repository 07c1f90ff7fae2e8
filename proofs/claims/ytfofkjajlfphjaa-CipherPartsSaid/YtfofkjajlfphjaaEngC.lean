/- What each quiet operation leaves, and the steps of a walk over them. Own work for this project; no program in sight. -/
import Derived.Test.YtfofkjajlfphjaaEngB
namespace Go.Proofs.Ytfofkjajlfphjaa
open Go Go.RowKit

abbrev I (n : Int) : Value := .int .i64 n
abbrev B (b : UInt8) : Value := .int .u8 (b.toNat : Int)
abbrev W4 (x : UInt32) : Value := .int .u32 (x.toNat : Int)
abbrev W8 (x : UInt64) : Value := .int .u64 (x.toNat : Int)
abbrev Str (l : List UInt8) : Value := .string ⟨l.toArray⟩
abbrev bo (b : Bool) : Value := .bool b

/-- o leaves v and nothing else, whatever the frame and the world (that meet L and S) -/
def Y (P : Program) (n : Nat) (S : World → Prop) (L : Sl) (o : Oper) (v : Value) : Prop :=
  ∀ a w, Agr n a L → S w → (execOp a.eval o).run P w = .ok (.value v) w

section
variable {P : Program} {n : Nat} {S : World → Prop} {L : Sl} {dst : Option Tmp} {rty : TypeId} {pos : String} {af : Array Edge} {gd : Option (Nat × Bool)}
  {t t' : TypeId} {x y z : Operand} {v u : Value}

theorem Y.cast {o : Oper} (h : Y P n S L o v) (e : v = u) : Y P n S L o u := e ▸ h
theorem Y.weak {S' : World → Prop} {o : Oper} (h : Y P n S L o v) (e : ∀ w, S' w → S w) : Y P n S' L o v := fun a w ha hs => h a w ha (e w hs)

theorem y_move (hx : ev L x = some v) : Y P n S L ⟨dst, .move x, rty, pos, af, gd⟩ v := fun a w ha _ => by
  have := ha.ev hx; simp [execOp, this]
theorem y_assign (hx : ev L x = some v) : Y P n S L ⟨dst, .assign x, rty, pos, af, gd⟩ v := fun a w ha _ => by
  have := ha.ev hx; simp [execOp, this]
theorem y_pick1 (hx : ev L x = some (.bool true)) (hy : ev L y = some v) : Y P n S L ⟨dst, .pick x y z, rty, pos, af, gd⟩ v := fun a w ha _ => by
  have h1 := ha.ev hx; have h2 := ha.ev hy; simp [execOp, h1, h2, asBool]
theorem y_pick0 (hx : ev L x = some (.bool false)) (hz : ev L z = some v) : Y P n S L ⟨dst, .pick x y z, rty, pos, af, gd⟩ v := fun a w ha _ => by
  have h1 := ha.ev hx; have h2 := ha.ev hz; simp [execOp, h1, h2, asBool]
theorem y_extract {vs : Array Value} {i : Nat} (hx : ev L x = some (.tuple vs)) (hi : vs[i]? = some v) : Y P n S L ⟨dst, .extract x i, rty, pos, af, gd⟩ v := fun a w ha _ => by
  have h1 := ha.ev hx; simp [execOp, h1, Instr.extract, hi]
theorem y_nilCheck {ad : Addr} (hx : ev L x = some (.pointer (some ad))) : Y P n S L ⟨dst, .nilCheck x, rty, pos, af, gd⟩ (.pointer (some ad)) := fun a w ha _ => by
  have h1 := ha.ev hx; simp [execOp, h1]

/-! ### numbers -/
theorem y_add {k : IntKind} {a b : Int} (hx : ev L x = some (.int k a)) (hy : ev L y = some (.int k b)) : Y P n S L ⟨dst, .binOp .add t x y t', rty, pos, af, gd⟩ (.int k (k.wrap (a + b))) := fun q w ha _ => by
  have h1 := ha.ev hx; have h2 := ha.ev hy; simp [execOp, h1, h2, eqGuard_add, binOp_add, Op.intArith]
theorem y_sub {k : IntKind} {a b : Int} (hx : ev L x = some (.int k a)) (hy : ev L y = some (.int k b)) : Y P n S L ⟨dst, .binOp .sub t x y t', rty, pos, af, gd⟩ (.int k (k.wrap (a - b))) := fun q w ha _ => by
  have h1 := ha.ev hx; have h2 := ha.ev hy; simp [execOp, h1, h2, eqGuard_sub, binOp_sub, Op.intArith]
theorem y_mul {k : IntKind} {a b : Int} (hx : ev L x = some (.int k a)) (hy : ev L y = some (.int k b)) : Y P n S L ⟨dst, .binOp .mul t x y t', rty, pos, af, gd⟩ (.int k (k.wrap (a * b))) := fun q w ha _ => by
  have h1 := ha.ev hx; have h2 := ha.ev hy; simp [execOp, h1, h2, eqGuard_mul, binOp_mul, Op.intArith]
theorem wrap_in {a : Int} (h0 : -9223372036854775808 ≤ a) (h1 : a ≤ 9223372036854775807) : IntKind.i64.wrap a = a := IntWalk.i64_in _ (by omega)
theorem y_addI {a b : Int} (hx : ev L x = some (I a)) (hy : ev L y = some (I b)) (h : -9223372036854775808 ≤ a + b ∧ a + b ≤ 9223372036854775807) :
    Y P n S L ⟨dst, .binOp .add t x y t', rty, pos, af, gd⟩ (I (a + b)) := (y_add hx hy).cast (by rw [wrap_in h.1 h.2])
theorem y_subI {a b : Int} (hx : ev L x = some (I a)) (hy : ev L y = some (I b)) (h : -9223372036854775808 ≤ a - b ∧ a - b ≤ 9223372036854775807) :
    Y P n S L ⟨dst, .binOp .sub t x y t', rty, pos, af, gd⟩ (I (a - b)) := (y_sub hx hy).cast (by rw [wrap_in h.1 h.2])
theorem y_mulI {a b : Int} (hx : ev L x = some (I a)) (hy : ev L y = some (I b)) (h : -9223372036854775808 ≤ a * b ∧ a * b ≤ 9223372036854775807) :
    Y P n S L ⟨dst, .binOp .mul t x y t', rty, pos, af, gd⟩ (I (a * b)) := (y_mul hx hy).cast (by rw [wrap_in h.1 h.2])
theorem y_quo {k : IntKind} {a b : Int} (hx : ev L x = some (.int k a)) (hy : ev L y = some (.int k b)) (h : b ≠ 0) : Y P n S L ⟨dst, .binOp .quo t x y t', rty, pos, af, gd⟩ (.int k (k.wrap (a.tdiv b))) := fun q w ha _ => by
  have h1 := ha.ev hx; have h2 := ha.ev hy; simp [execOp, h1, h2, eqGuard_quo, binOp_quo, Op.intDiv, h]
theorem y_rem {k : IntKind} {a b : Int} (hx : ev L x = some (.int k a)) (hy : ev L y = some (.int k b)) (h : b ≠ 0) : Y P n S L ⟨dst, .binOp .rem t x y t', rty, pos, af, gd⟩ (.int k (a.tmod b)) := fun q w ha _ => by
  have h1 := ha.ev hx; have h2 := ha.ev hy; simp [execOp, h1, h2, eqGuard_rem, binOp_rem, Op.intDiv, h]
theorem y_quoI {a b : Int} (hx : ev L x = some (I a)) (hy : ev L y = some (I b)) (h : 0 ≤ a ∧ a ≤ 9223372036854775807 ∧ 1 ≤ b) :
    Y P n S L ⟨dst, .binOp .quo t x y t', rty, pos, af, gd⟩ (I (a / b)) := (y_quo hx hy (by omega)).cast (by
      have e : a.tdiv b = a / b := Int.tdiv_eq_ediv_of_nonneg h.1
      have h1 : 0 ≤ a / b := Int.ediv_nonneg h.1 (by omega)
      have h2 : a / b ≤ a := Int.ediv_le_self _ h.1
      rw [e, wrap_in (by omega) (by omega)])
theorem y_remI {a b : Int} (hx : ev L x = some (I a)) (hy : ev L y = some (I b)) (h : 0 ≤ a ∧ 1 ≤ b) :
    Y P n S L ⟨dst, .binOp .rem t x y t', rty, pos, af, gd⟩ (I (a % b)) := (y_rem hx hy (by omega)).cast (by rw [Int.tmod_eq_emod_of_nonneg h.1])
theorem y_cmp {k : IntKind} {a b : Int} {op : BinOp} {r : Bool} (hx : ev L x = some (.int k a)) (hy : ev L y = some (.int k b))
    (h : Op.intCmp op a b = pure (.bool r)) (ho : op = .lss ∨ op = .leq ∨ op = .gtr ∨ op = .geq ∨ op = .eql ∨ op = .neq) : Y P n S L ⟨dst, .binOp op t x y t', rty, pos, af, gd⟩ (.bool r) := fun q w ha _ => by
  have h1 := ha.ev hx; have h2 := ha.ev hy
  have e : eqGuard op t x y (.int k a) (.int k b) = pure () := eqGuard_at_int op t x y _ k a
  rcases ho with rfl | rfl | rfl | rfl | rfl | rfl <;> simp [execOp, h1, h2, e, binOp, h]
theorem y_lss {k : IntKind} {a b : Int} (hx : ev L x = some (.int k a)) (hy : ev L y = some (.int k b)) : Y P n S L ⟨dst, .binOp .lss t x y t', rty, pos, af, gd⟩ (.bool (decide (a < b))) :=
  y_cmp hx hy rfl (by simp)
theorem y_leq {k : IntKind} {a b : Int} (hx : ev L x = some (.int k a)) (hy : ev L y = some (.int k b)) : Y P n S L ⟨dst, .binOp .leq t x y t', rty, pos, af, gd⟩ (.bool (decide (a ≤ b))) :=
  y_cmp hx hy rfl (by simp)
theorem y_gtr {k : IntKind} {a b : Int} (hx : ev L x = some (.int k a)) (hy : ev L y = some (.int k b)) : Y P n S L ⟨dst, .binOp .gtr t x y t', rty, pos, af, gd⟩ (.bool (decide (b < a))) :=
  y_cmp hx hy rfl (by simp)
theorem y_geq {k : IntKind} {a b : Int} (hx : ev L x = some (.int k a)) (hy : ev L y = some (.int k b)) : Y P n S L ⟨dst, .binOp .geq t x y t', rty, pos, af, gd⟩ (.bool (decide (b ≤ a))) :=
  y_cmp hx hy rfl (by simp)
theorem y_eql {k : IntKind} {a b : Int} (hx : ev L x = some (.int k a)) (hy : ev L y = some (.int k b)) : Y P n S L ⟨dst, .binOp .eql t x y t', rty, pos, af, gd⟩ (.bool (decide (a = b))) :=
  (y_cmp hx hy rfl (by simp)).cast (congrArg Value.bool (by rw [Bool.eq_iff_iff]; simp))
theorem y_neq {k : IntKind} {a b : Int} (hx : ev L x = some (.int k a)) (hy : ev L y = some (.int k b)) : Y P n S L ⟨dst, .binOp .neq t x y t', rty, pos, af, gd⟩ (.bool (decide (¬ a = b))) :=
  (y_cmp hx hy rfl (by simp)).cast (congrArg Value.bool (by rw [Bool.eq_iff_iff]; simp))
theorem bool_t {p : Prop} [Decidable p] (h : p) : Value.bool (decide p) = .bool true := by simp [h]
theorem bool_f {p : Prop} [Decidable p] (h : ¬ p) : Value.bool (decide p) = .bool false := by simp [h]
theorem y_not {b : Bool} (hx : ev L x = some (.bool b)) : Y P n S L ⟨dst, .unOp .not t x, rty, pos, af, gd⟩ (.bool (!b)) := fun q w ha _ => by
  have h1 := ha.ev hx; simp [execOp, h1, Op.unary]
theorem y_neg {k : IntKind} {a : Int} (hx : ev L x = some (.int k a)) : Y P n S L ⟨dst, .unOp .neg t x, rty, pos, af, gd⟩ (.int k (k.wrap (0 - a))) := fun q w ha _ => by
  have h1 := ha.ev hx; simp [execOp, h1, Op.unary, Op.intArith]
theorem y_inv {k : IntKind} {a : Int} (hx : ev L x = some (.int k a)) : Y P n S L ⟨dst, .unOp .xor t x, rty, pos, af, gd⟩ (.int k (bits .xor k (if k.signed then -1 else k.max) a)) := fun q w ha _ => by
  have h1 := ha.ev hx; simp [execOp, h1, Op.unary, intBits_xor]
theorem y_bits {k : IntKind} {a b : Int} {op : BinOp} (hx : ev L x = some (.int k a)) (hy : ev L y = some (.int k b)) (ho : op = .and ∨ op = .or ∨ op = .xor) :
    Y P n S L ⟨dst, .binOp op t x y t', rty, pos, af, gd⟩ (.int k (bits op k a b)) := fun q w ha _ => by
  have h1 := ha.ev hx; have h2 := ha.ev hy
  rcases ho with rfl | rfl | rfl
  · simp [execOp, h1, h2, eqGuard_and, binOp_and, intBits_and]
  · simp [execOp, h1, h2, eqGuard_or, binOp_or, intBits_or]
  · simp [execOp, h1, h2, eqGuard_xor, binOp_xor, intBits_xor]
theorem y_shl {k k' : IntKind} {a b : Int} (hx : ev L x = some (.int k a)) (hy : ev L y = some (.int k' b)) (h : 0 ≤ b) :
    Y P n S L ⟨dst, .binOp .shl t x y t', rty, pos, af, gd⟩ (.int k (k.wrap (a * 2 ^ (min b.toNat k.bits)))) := fun q w ha _ => by
  have h1 := ha.ev hx; have h2 := ha.ev hy; have h3 : ¬ b < 0 := by omega
  simp [execOp, h1, h2, eqGuard_shl, binOp_shl, Op.shift, h3]
theorem y_shr {k k' : IntKind} {a b : Int} (hx : ev L x = some (.int k a)) (hy : ev L y = some (.int k' b)) (h : 0 ≤ b) :
    Y P n S L ⟨dst, .binOp .shr t x y t', rty, pos, af, gd⟩ (.int k (a.fdiv (2 ^ (min b.toNat k.bits)))) := fun q w ha _ => by
  have h1 := ha.ev hx; have h2 := ha.ev hy; have h3 : ¬ b < 0 := by omega
  simp [execOp, h1, h2, eqGuard_shr, binOp_shr, Op.shift, h3]
theorem y_conv {k k' : IntKind} {a : Int} (hx : ev L x = some (.int k' a)) (hs : (P.underlying t).isSome = true) (hd : P.underlying t' = some (.int k)) :
    Y P n S L ⟨dst, .convert t t' x, rty, pos, af, gd⟩ (.int k (k.wrap a)) := fun q w ha _ => by
  have h1 := ha.ev hx
  obtain ⟨d, hd'⟩ := Option.isSome_iff_exists.1 hs
  simp [execOp, h1, convert, underlying, hd, hd', Conv.intToInt]

/-! ### places -/
def scB (P : Program) (t : TypeId) : Bool := match P.underlying t with
  | some (.struct _) | some (.array ..) | none => false
  | some _ => true
theorem scB_run {w : World} (h : scB P t = true) : (isAgg t).run P w = .ok false w := by
  unfold scB at h
  cases e : P.underlying t with
  | none => rw [e] at h; simp at h
  | some d => rw [e] at h; cases d <;> simp_all [isAgg, underlying]
theorem y_load {ad : Addr} (hx : ev L x = some (.pointer (some ad))) (ht : scB P t = true) (hc : ∀ w, S w → w.cell? ad = some v) :
    Y P n S L ⟨dst, .load t x, rty, pos, af, gd⟩ v := fun q w ha hs => by
  have h1 := ha.ev hx
  simp [execOp, h1, Instr.loadAt, Instr.sureAddr, loadVar, scB_run ht, hc w hs]
/-- a type whose values lie in several cells -/
def agB (P : Program) (t : TypeId) (k : Nat) : Bool := (match P.underlying t with
  | some (.struct _) | some (.array ..) => true
  | _ => false) && (match P.info? t with | some i => Nat.beq i.size k | none => false)
theorem agB_run {k : Nat} {w : World} (h : agB P t k = true) : (isAgg t).run P w = .ok true w ∧ (Go.sizeOf t).run P w = .ok k w := by
  unfold agB at h
  rw [Bool.and_eq_true] at h
  obtain ⟨h1, h2⟩ := h
  constructor
  · cases e : P.underlying t with
    | none => rw [e] at h1; simp at h1
    | some d => rw [e] at h1; cases d <;> simp_all [isAgg, underlying]
  · cases e : P.info? t with
    | none => rw [e] at h2; simp at h2
    | some i => rw [e] at h2; have := Nat.eq_of_beq_eq_true h2; simp [Go.sizeOf, typeInfo, e, this]
theorem y_loadA {ad : Addr} (k : Nat) {vs : List Value} (hx : ev L x = some (.pointer (some ad))) (ht : agB P t k = true) (hk : vs.length = k) (hc : ∀ w, S w → ∀ j u, vs[j]? = some u → w.cell? (ad.add j) = some u) :
    Y P n S L ⟨dst, .load t x, rty, pos, af, gd⟩ (.agg vs.toArray) := fun q w ha hs => by
  have h1 := ha.ev hx
  have := run_loadCells_list (P := P) (w := w) ad vs (hc w hs)
  rw [hk] at this
  simp [execOp, h1, Instr.loadAt, Instr.sureAddr, loadVar, (agB_run ht).1, (agB_run ht).2, this]
def fldB (P : Program) (t : TypeId) (f off : Nat) : Bool := match P.underlying t with
  | some (.struct fs) => (match fs[f]? with | some fd => Nat.beq fd.offset off && (match P.info? fd.type with | some i => !Nat.beq i.size 0 | none => false) | none => false)
  | _ => false
theorem y_fld {ad : Addr} {f off : Nat} (hx : ev L x = some (.pointer (some ad))) (ht : fldB P t f off = true) :
    Y P n S L ⟨dst, .fieldAddr t x f, rty, pos, af, gd⟩ (.pointer (some (ad.add off))) := fun q w ha hs => by
  have h1 := ha.ev hx
  unfold fldB at ht
  cases e : P.underlying t with
  | none => rw [e] at ht; simp at ht
  | some d =>
    rw [e] at ht
    cases d <;> simp at ht
    rename_i fs
    cases e2 : fs[f]? with
    | none => rw [e2] at ht; simp at ht
    | some fd =>
      rw [e2] at ht
      simp at ht
      obtain ⟨h2, h3⟩ := ht
      cases e3 : P.info? fd.type with
      | none => rw [e3] at h3; simp at h3
      | some i =>
        rw [e3] at h3
        have h3' : ¬ i.size = 0 := fun e => by simp [e] at h3
        simp [execOp, h1, Instr.fieldAt, Instr.sureAddr, underlying, e, e2, fieldPlace, Go.sizeOf, typeInfo, e3, h3', h2]
/-- an array type of so many elements of so many cells -/
def arrB (P : Program) (t : TypeId) (len sz : Nat) : Bool := match P.underlying t with
  | some (.array m e) => Nat.beq m len && (match P.info? e with | some i => Nat.beq i.size sz | none => false)
  | _ => false
def sliB (P : Program) (t : TypeId) (sz : Nat) : Bool := match P.underlying t with
  | some (.slice e) => (match P.info? e with | some i => Nat.beq i.size sz | none => false)
  | _ => false
theorem arrB_run {len sz : Nat} (h : arrB P t len sz = true) : ∃ e, P.underlying t = some (.array len e) ∧ ∀ w, (Go.sizeOf e).run P w = .ok sz w := by
  unfold arrB at h
  cases e : P.underlying t with
  | none => rw [e] at h; simp at h
  | some d =>
    rw [e] at h
    cases d <;> simp at h
    rename_i m el
    obtain ⟨rfl, h2⟩ := h
    cases e3 : P.info? el with
    | none => rw [e3] at h2; simp at h2
    | some i => rw [e3] at h2; simp at h2; exact ⟨el, rfl, fun w => by simp [Go.sizeOf, typeInfo, e3, h2]⟩
theorem sliB_run {sz : Nat} (h : sliB P t sz = true) : ∃ e, P.underlying t = some (.slice e) ∧ ∀ w, (Go.sizeOf e).run P w = .ok sz w := by
  unfold sliB at h
  cases e : P.underlying t with
  | none => rw [e] at h; simp at h
  | some d =>
    rw [e] at h
    cases d <;> simp at h
    rename_i el
    cases e3 : P.info? el with
    | none => rw [e3] at h; simp at h
    | some i => rw [e3] at h; simp at h; exact ⟨el, rfl, fun w => by simp [Go.sizeOf, typeInfo, e3, h]⟩
theorem y_ixA {ad : Addr} {i : Int} {k : IntKind} {len sz : Nat} (hx : ev L x = some (.pointer (some ad))) (hy : ev L y = some (.int k i)) (ht : arrB P t len sz = true) (hi : 0 ≤ i ∧ i < len) :
    Y P n S L ⟨dst, .indexAddr t x y, rty, pos, af, gd⟩ (.pointer (some (ad.add (i.toNat * sz)))) := fun q w ha hs => by
  have h1 := ha.ev hx; have h2 := ha.ev hy
  obtain ⟨e, he, hsz⟩ := arrB_run ht
  simp [execOp, h1, h2, Instr.indexAt, Instr.sureAddr, asIntOf, underlying, he, hi.1, hi.2, hsz]
theorem y_ixS {ad : Addr} {i : Int} {k : IntKind} {len cap sz : Nat} (hx : ev L x = some (.slice (some ad) len cap)) (hy : ev L y = some (.int k i)) (ht : sliB P t sz = true) (hi : 0 ≤ i ∧ i < len) :
    Y P n S L ⟨dst, .indexAddr t x y, rty, pos, af, gd⟩ (.pointer (some (ad.add (i.toNat * sz)))) := fun q w ha hs => by
  have h1 := ha.ev hx; have h2 := ha.ev hy
  obtain ⟨e, he, hsz⟩ := sliB_run ht
  simp [execOp, h1, h2, Instr.indexAt, asIntOf, underlying, he, hi.1, hi.2, hsz]
theorem y_lenS {ad : Option Addr} {len cap : Nat} {e : TypeId} (hx : ev L x = some (.slice ad len cap)) (ht : P.underlying t = some (.slice e)) :
    Y P n S L ⟨dst, .call { callee := .builtin .len, args := #[x], argTypes := #[t] }, rty, pos, af, gd⟩ (I len) := fun q w ha hs => by
  have h1 := ha.ev hx
  simp [execOp, resolve, h1, invoke, builtin, Builtin.len_, underlying, ht, goInt]
theorem y_lenT {s : ByteArray} (hx : ev L x = some (.string s)) (ht : P.underlying t = some .string) :
    Y P n S L ⟨dst, .call { callee := .builtin .len, args := #[x], argTypes := #[t] }, rty, pos, af, gd⟩ (I s.size) := fun q w ha hs => by
  have h1 := ha.ev hx
  simp [execOp, resolve, h1, invoke, builtin, Builtin.len_, underlying, ht, goInt]
theorem y_s2a {ad : Option Addr} {len cap m : Nat} {e : TypeId} (hx : ev L x = some (.slice ad len cap)) (ht : P.underlying t = some (.array m e)) (hm : m ≤ len) :
    Y P n S L ⟨dst, .sliceToArrayPointer t x, rty, pos, af, gd⟩ (.pointer ad) := fun q w ha hs => by
  have h1 := ha.ev hx
  have : ¬ len < m := by omega
  simp [execOp, h1, Instr.arrayAt, underlying, ht, this]
/-- a row of cells in the middle of a value -/
theorem y_ixV {cs : Array Value} {i : Int} {k : IntKind} {len : Nat} {e : TypeId} (hx : ev L x = some (.agg cs)) (hy : ev L y = some (.int k i)) (ht : P.underlying t = some (.array len e)) (he : scB P e = true) (hz : ∀ w, (Go.sizeOf e).run P w = .ok 1 w)
    (hi : 0 ≤ i ∧ i < len) (hv : cs[i.toNat]? = some v) : Y P n S L ⟨dst, .index t x y, rty, pos, af, gd⟩ v := fun q w ha hs => by
  have h1 := ha.ev hx; have h2 := ha.ev hy
  simp [execOp, h1, h2, Instr.index, asIntOf, underlying, ht, hi.1, hi.2, hz, part, scB_run he, hv]
/-- slices -/
theorem sliceBound_ok {k : IntKind} {i : Int} {m : Nat} {code : BoundsCode} {w : World} (h : 0 ≤ i ∧ i ≤ m) : (Instr.sliceBound (.int k i) m code).run P w = .ok i.toNat w := by
  simp [Instr.sliceBound, asIntOf, h.1, h.2]
/-- s[lo:hi] of a slice -/
def cutAd (ad : Option Addr) (lo cap sz : Nat) : Option Addr := if cap = lo then ad else ad.map (·.add (lo * sz))
theorem y_cutS {ad : Option Addr} {len cap sz : Nat} {k k' : IntKind} {lo hi : Int} {xl xh : Operand} (hx : ev L x = some (.slice ad len cap)) (hl : ev L xl = some (.int k lo)) (hh : ev L xh = some (.int k' hi))
    (ht : sliB P t sz = true) (hb : 0 ≤ lo ∧ lo ≤ hi ∧ hi ≤ cap) :
    Y P n S L ⟨dst, .slice t x (some xl) (some xh) none, rty, pos, af, gd⟩ (.slice (cutAd ad lo.toNat cap sz) (hi.toNat - lo.toNat) (cap - lo.toNat)) := fun q w ha hs => by
  have h1 := ha.ev hx; have h2 := ha.ev hl; have h3 := ha.ev hh
  obtain ⟨e, he, hsz⟩ := sliB_run ht
  have b1 : (Instr.sliceBound (.int k' hi) cap .sliceAcap).run P w = .ok hi.toNat w := sliceBound_ok (by omega)
  have b2 : (Instr.sliceBound (.int k lo) hi.toNat .sliceB).run P w = .ok lo.toNat w := sliceBound_ok (by omega)
  simp [execOp, h1, h2, h3, Instr.sliceAt, underlying, he, Instr.slice, Instr.sliceBounds, b1, b2, hsz, cutAd]
theorem y_cutSh {ad : Option Addr} {len cap sz : Nat} {k' : IntKind} {hi : Int} {xh : Operand} (hx : ev L x = some (.slice ad len cap)) (hh : ev L xh = some (.int k' hi))
    (ht : sliB P t sz = true) (hb : 0 ≤ hi ∧ hi ≤ cap) :
    Y P n S L ⟨dst, .slice t x none (some xh) none, rty, pos, af, gd⟩ (.slice ad hi.toNat cap) := fun q w ha hs => by
  have h1 := ha.ev hx; have h3 := ha.ev hh
  obtain ⟨e, he, hsz⟩ := sliB_run ht
  have b1 : (Instr.sliceBound (.int k' hi) cap .sliceAcap).run P w = .ok hi.toNat w := sliceBound_ok (by omega)
  simp [execOp, h1, h3, Instr.sliceAt, underlying, he, Instr.slice, Instr.sliceBounds, b1, hsz]
  cases ad <;> simp [Addr.add]
theorem y_cutSl {ad : Option Addr} {len cap sz : Nat} {k : IntKind} {lo : Int} {xl : Operand} (hx : ev L x = some (.slice ad len cap)) (hl : ev L xl = some (.int k lo))
    (ht : sliB P t sz = true) (hb : 0 ≤ lo ∧ lo ≤ len) :
    Y P n S L ⟨dst, .slice t x (some xl) none none, rty, pos, af, gd⟩ (.slice (cutAd ad lo.toNat cap sz) (len - lo.toNat) (cap - lo.toNat)) := fun q w ha hs => by
  have h1 := ha.ev hx; have h2 := ha.ev hl
  obtain ⟨e, he, hsz⟩ := sliB_run ht
  have b2 : (Instr.sliceBound (.int k lo) len .sliceB).run P w = .ok lo.toNat w := sliceBound_ok (by omega)
  simp [execOp, h1, h2, Instr.sliceAt, underlying, he, Instr.slice, Instr.sliceBounds, b2, hsz, cutAd]
/-- a[:] , a[lo:hi] of an array behind a pointer -/
theorem y_cutA {ad : Addr} {m : Nat} {sz : Nat} (hx : ev L x = some (.pointer (some ad))) (ht : arrB P t m sz = true) :
    Y P n S L ⟨dst, .slice t x none none none, rty, pos, af, gd⟩ (.slice (some ad) m m) := fun q w ha hs => by
  have h1 := ha.ev hx
  obtain ⟨e, he, hsz⟩ := arrB_run ht
  simp [execOp, h1, Instr.sliceAt, underlying, he, Instr.sureAddr, Instr.sliceBounds, hsz, Addr.add]
theorem y_cutAlh {ad : Addr} {m : Nat} {sz : Nat} {k k' : IntKind} {lo hi : Int} {xl xh : Operand} (hx : ev L x = some (.pointer (some ad))) (hl : ev L xl = some (.int k lo)) (hh : ev L xh = some (.int k' hi))
    (ht : arrB P t m sz = true) (hb : 0 ≤ lo ∧ lo ≤ hi ∧ hi ≤ m) :
    Y P n S L ⟨dst, .slice t x (some xl) (some xh) none, rty, pos, af, gd⟩ (.slice (cutAd (some ad) lo.toNat m sz) (hi.toNat - lo.toNat) (m - lo.toNat)) := fun q w ha hs => by
  have h1 := ha.ev hx; have h2 := ha.ev hl; have h3 := ha.ev hh
  obtain ⟨e, he, hsz⟩ := arrB_run ht
  have b1 : (Instr.sliceBound (.int k' hi) m .sliceAlen).run P w = .ok hi.toNat w := sliceBound_ok (by omega)
  have b2 : (Instr.sliceBound (.int k lo) hi.toNat .sliceB).run P w = .ok lo.toNat w := sliceBound_ok (by omega)
  simp [execOp, h1, h2, h3, Instr.sliceAt, underlying, he, Instr.sureAddr, Instr.sliceBounds, b1, b2, hsz, cutAd]
  split <;> rfl
theorem y_cutAh {ad : Addr} {m : Nat} {sz : Nat} {k' : IntKind} {hi : Int} {xh : Operand} (hx : ev L x = some (.pointer (some ad))) (hh : ev L xh = some (.int k' hi))
    (ht : arrB P t m sz = true) (hb : 0 ≤ hi ∧ hi ≤ m) :
    Y P n S L ⟨dst, .slice t x none (some xh) none, rty, pos, af, gd⟩ (.slice (some ad) hi.toNat m) := fun q w ha hs => by
  have h1 := ha.ev hx; have h3 := ha.ev hh
  obtain ⟨e, he, hsz⟩ := arrB_run ht
  have b1 : (Instr.sliceBound (.int k' hi) m .sliceAlen).run P w = .ok hi.toNat w := sliceBound_ok (by omega)
  simp [execOp, h1, h3, Instr.sliceAt, underlying, he, Instr.sureAddr, Instr.sliceBounds, b1, hsz, Addr.add]
theorem y_cutAl {ad : Addr} {m : Nat} {sz : Nat} {k : IntKind} {lo : Int} {xl : Operand} (hx : ev L x = some (.pointer (some ad))) (hl : ev L xl = some (.int k lo))
    (ht : arrB P t m sz = true) (hb : 0 ≤ lo ∧ lo ≤ m) :
    Y P n S L ⟨dst, .slice t x (some xl) none none, rty, pos, af, gd⟩ (.slice (cutAd (some ad) lo.toNat m sz) (m - lo.toNat) (m - lo.toNat)) := fun q w ha hs => by
  have h1 := ha.ev hx; have h2 := ha.ev hl
  obtain ⟨e, he, hsz⟩ := arrB_run ht
  have b2 : (Instr.sliceBound (.int k lo) m .sliceB).run P w = .ok lo.toNat w := sliceBound_ok (by omega)
  simp [execOp, h1, h2, Instr.sliceAt, underlying, he, Instr.sureAddr, Instr.sliceBounds, b2, hsz, cutAd]
  split <;> rfl
end

/-! ## the steps -/
section
variable {c : Cx} {L : Sl} {H : List Res} {P : Program} {Q : Exit → Act → World → Prop} {ops : Array Oper} {rest : List Oper} {o : Oper}

/-- a quiet operation without a guard -/
theorem tk_q {d : Nat} {v : Value} (hd : o.dst = some d) (hg : o.guard = none) (hn : Nat.blt d c.n = true) (hy : Y P c.n (fun w => St c w H) L o v)
    (h : TK c (wpList P ops Q rest) ((d, v) :: L) H) : TK c (wpList P ops Q (o :: rest)) L H := fun a w ha hw => by
  refine wpList_plain hg fun K hK => ?_
  unfold Oper.wp
  rw [hy a w ha hw, Oper.upon_value, hd]
  exact hK _ _ (h _ _ (ha.put hn v) hw)
/-- the same, its value told otherwise -/
theorem tk_qe {d : Nat} {v : Value} (v' : Value) (hd : o.dst = some d) (hg : o.guard = none) (hn : Nat.blt d c.n = true) (hy : Y P c.n (fun w => St c w H) L o v) (e : v = v')
    (h : TK c (wpList P ops Q rest) ((d, v') :: L) H) : TK c (wpList P ops Q (o :: rest)) L H := tk_q hd hg hn (hy.cast e) h
/-- any other operation without a guard: what its run does -/
theorem tk_act (hg : o.guard = none) (h : TK c (fun a w => o.wp P a w (wpList P ops Q rest) Q) L H) : TK c (wpList P ops Q (o :: rest)) L H := fun a w ha hw => by
  unfold wpList
  rw [if_pos (by simp [Region.wanted, hg])]
  exact .inl (h a w ha hw)
theorem wanted_of {a : Act} {j d : Nat} {b b' : Bool} {oj : Oper} (hg : o.guard = some (j, b)) (hj : ops[j]? = some oj) (hd : oj.dst = some d) (ha : Agr c.n a L) (hl : lk d L = some (.bool b')) :
    Region.wanted o (yielded ops a.tmps) = (b' == b) := by
  have := ha.at_ d _ hl
  have hy : yielded ops a.tmps j = some b' := by simp [yielded, hj, hd, this]
  simp only [Region.wanted, hg, hy]
  cases b <;> cases b' <;> rfl
theorem wanted_of_skipped {a : Act} {j d : Nat} {b : Bool} {oj : Oper} (hg : o.guard = some (j, b)) (hj : ops[j]? = some oj) (hd : oj.dst = some d) (ha : Agr c.n a L) (hl : lk d L = some undef) :
    Region.wanted o (yielded ops a.tmps) = false := by
  have := ha.at_ d _ hl
  have hy : yielded ops a.tmps j = none := by simp [yielded, hj, hd, this, undef]
  simp only [Region.wanted, hg, hy]
  rfl
/-- is a guarded operation carried out? -/
def gdB (ops : Array Oper) (L : Sl) (o : Oper) : Option Bool := match o.guard with
  | none => some true
  | some (j, b) => match ops[j]? with
    | some oj => match oj.dst with
      | some d => match lk d L with
        | some (.bool b') => some (b' == b)
        | some (.tuple _) => some false
        | _ => none
      | none => none
    | none => none
theorem gdB_wanted {a : Act} {r : Bool} (h : gdB ops L o = some r) (ha : Agr c.n a L) : Region.wanted o (yielded ops a.tmps) = r := by
  unfold gdB at h
  cases hg : o.guard with
  | none => rw [hg] at h; simp at h; subst h; simp [Region.wanted, hg]
  | some p =>
    obtain ⟨j, b⟩ := p
    rw [hg] at h
    cases hj : ops[j]? with
    | none => simp [hj] at h
    | some oj =>
      cases hd : oj.dst with
      | none => simp [hj, hd] at h
      | some d =>
        cases hl : lk d L with
        | none => simp [hj, hd, hl] at h
        | some u =>
          cases u <;> simp [hj, hd, hl] at h
          case bool b' => subst h; exact wanted_of hg hj hd ha hl
          case tuple vs =>
            subst h
            have := ha.at_ d _ hl
            have hy : yielded ops a.tmps j = none := by simp [yielded, hj, hd, this]
            simp only [Region.wanted, hg, hy]
            rfl
/-- a guarded operation that is not carried out -/
theorem tk_gno {d : Nat} (hd : o.dst = some d) (hn : Nat.blt d c.n = true) (hg : gdB ops L o = some false)
    (h : TK c (wpList P ops Q rest) ((d, undef) :: L) H) : TK c (wpList P ops Q (o :: rest)) L H := fun a w ha hw => by
  unfold wpList
  rw [gdB_wanted hg ha, hd]
  exact h _ _ (ha.put hn _) hw
/-- a guarded quiet operation that is carried out -/
theorem tk_gq {d : Nat} {v : Value} (hd : o.dst = some d) (hn : Nat.blt d c.n = true) (hg : gdB ops L o = some true) (hy : Y P c.n (fun w => St c w H) L o v)
    (h : TK c (wpList P ops Q rest) ((d, v) :: L) H) : TK c (wpList P ops Q (o :: rest)) L H := fun a w ha hw => by
  unfold wpList
  rw [gdB_wanted hg ha]
  refine .inl ?_
  unfold Oper.wp
  rw [hy a w ha hw, Oper.upon_value, hd]
  exact h _ _ (ha.put hn v) hw
theorem tk_gact (hg : gdB ops L o = some true) (h : TK c (fun a w => o.wp P a w (wpList P ops Q rest) Q) L H) : TK c (wpList P ops Q (o :: rest)) L H := fun a w ha hw => by
  unfold wpList
  rw [gdB_wanted hg ha]
  exact .inl (h a w ha hw)
end
end Go.Proofs.Ytfofkjajlfphjaa
