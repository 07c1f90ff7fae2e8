/- More of what quiet operations leave: bytes and words, places written out. Own work for this project; no program in sight. -/
import Derived.Test.YtfofkjajlfphjaaEngE
namespace Go.Proofs.Ytfofkjajlfphjaa
open Go Go.RowKit
section
variable {P : Program} {n : Nat} {S : World → Prop} {L : Sl} {dst : Option Tmp} {rty : TypeId} {pos : String} {af : Array Edge} {gd : Option (Nat × Bool)}
  {t t' : TypeId} {x y z : Operand} {v u : Value}

/-! ### bytes -/
theorem b_lt (a : UInt8) : a.toNat < 256 := a.toNat_lt
theorem y_xor8 {a b : UInt8} (hx : ev L x = some (B a)) (hy : ev L y = some (B b)) : Y P n S L ⟨dst, .binOp .xor t x y t', rty, pos, af, gd⟩ (B (a ^^^ b)) :=
  (y_bits hx hy (by simp)).cast (by rw [u8_xor_nat _ _ (b_lt a) (b_lt b)]; simp only [B, UInt8.toNat_xor])
theorem y_and8 {a b : UInt8} (hx : ev L x = some (B a)) (hy : ev L y = some (B b)) : Y P n S L ⟨dst, .binOp .and t x y t', rty, pos, af, gd⟩ (B (a &&& b)) :=
  (y_bits hx hy (by simp)).cast (by rw [u8_and_nat _ _ (b_lt a) (b_lt b)]; simp only [B, UInt8.toNat_and])
theorem y_or8 {a b : UInt8} (hx : ev L x = some (B a)) (hy : ev L y = some (B b)) : Y P n S L ⟨dst, .binOp .or t x y t', rty, pos, af, gd⟩ (B (a ||| b)) :=
  (y_bits hx hy (by simp)).cast (by rw [u8_or_nat _ _ (b_lt a) (b_lt b)]; simp only [B, UInt8.toNat_or])
theorem ofNat8 (m : Nat) : B (UInt8.ofNat m) = .int .u8 ((m : Int) % 256) := by
  have e : (UInt8.ofNat m).toNat = m % 256 := by simp
  have e2 : ((m % 256 : Nat) : Int) = (m : Int) % 256 := by omega
  simp only [B, e, e2]
theorem y_shl8 {a : UInt8} {k' : IntKind} {m : Nat} (hx : ev L x = some (B a)) (hy : ev L y = some (.int k' (m : Int))) (hm : m ≤ 8) :
    Y P n S L ⟨dst, .binOp .shl t x y t', rty, pos, af, gd⟩ (B (UInt8.ofNat (a.toNat * 2 ^ m))) :=
  (y_shl hx hy (by omega)).cast (by
    rw [ofNat8, IntKind.wrap_u8]
    have e : min ((m : Int)).toNat IntKind.u8.bits = m := by simp [IntKind.bits]; omega
    rw [e]; congr 1)
theorem y_shr8 {a : UInt8} {k' : IntKind} {m : Nat} (hx : ev L x = some (B a)) (hy : ev L y = some (.int k' (m : Int))) (hm : m ≤ 8) :
    Y P n S L ⟨dst, .binOp .shr t x y t', rty, pos, af, gd⟩ (B (UInt8.ofNat (a.toNat / 2 ^ m))) :=
  (y_shr hx hy (by omega)).cast (by
    have e : min ((m : Int)).toNat IntKind.u8.bits = m := by simp [IntKind.bits]; omega
    have e2 : a.toNat / 2 ^ m < 256 := Nat.lt_of_le_of_lt (Nat.div_le_self _ _) (b_lt a)
    have e3 : ((a.toNat : Int)).fdiv (2 ^ m) = ((a.toNat / 2 ^ m : Nat) : Int) := by
      rw [Int.fdiv_eq_ediv_of_nonneg _ (Int.le_of_lt (Int.pow_pos (by decide)))]
      simp
    have e4 : (UInt8.ofNat (a.toNat / 2 ^ m)).toNat = a.toNat / 2 ^ m := by simp [Nat.mod_eq_of_lt e2]
    rw [e, e3]
    simp only [B, e4])
theorem y_neg8 {a : UInt8} (hx : ev L x = some (B a)) : Y P n S L ⟨dst, .unOp .neg t x, rty, pos, af, gd⟩ (B (-a)) :=
  (y_neg hx).cast (by
    rw [IntKind.wrap_u8]
    have e : (-a).toNat = (256 - a.toNat) % 256 := by rw [UInt8.toNat_neg]
    simp only [B, e]
    have := b_lt a
    congr 1; omega)
theorem y_add8 {a b : UInt8} (hx : ev L x = some (B a)) (hy : ev L y = some (B b)) : Y P n S L ⟨dst, .binOp .add t x y t', rty, pos, af, gd⟩ (B (a + b)) :=
  (y_add hx hy).cast (by
    rw [IntKind.wrap_u8]
    simp only [B, UInt8.toNat_add]
    congr 1)
theorem y_conv8i {a : UInt8} (hx : ev L x = some (B a)) (hs : (P.underlying t).isSome = true) (hd : P.underlying t' = some (.int .i64)) : Y P n S L ⟨dst, .convert t t' x, rty, pos, af, gd⟩ (I a.toNat) :=
  (y_conv hx hs hd).cast (by have := b_lt a; rw [wrap_in (by omega) (by omega)])
theorem y_convi8 {k : IntKind} {m : Nat} (hx : ev L x = some (.int k (m : Int))) (hs : (P.underlying t).isSome = true) (hd : P.underlying t' = some (.int .u8)) : Y P n S L ⟨dst, .convert t t' x, rty, pos, af, gd⟩ (B (UInt8.ofNat m)) :=
  (y_conv hx hs hd).cast (by rw [ofNat8, IntKind.wrap_u8])

theorem y_convi64 {k k' : IntKind} {m : Nat} (hx : ev L x = some (.int k' (m : Int))) (hs : (P.underlying t).isSome = true) (hd : P.underlying t' = some (.int k)) (hm : k.wrap (m : Int) = (m : Int)) : Y P n S L ⟨dst, .convert t t' x, rty, pos, af, gd⟩ (.int k (m : Int)) :=
  (y_conv hx hs hd).cast (by rw [hm])
theorem wrap_u64 {m : Nat} (h : m < 18446744073709551616) : IntKind.u64.wrap (m : Int) = (m : Int) := by rw [IntKind.wrap_u64]; omega
theorem y_addU {a b : Nat} (hx : ev L x = some (.int .u64 (a : Int))) (hy : ev L y = some (.int .u64 (b : Int))) (h : a + b < 18446744073709551616) : Y P n S L ⟨dst, .binOp .add t x y t', rty, pos, af, gd⟩ (.int .u64 ((a + b : Nat) : Int)) :=
  (y_add hx hy).cast (by have := wrap_u64 h; rw [Int.natCast_add] at this ⊢; rw [this])
theorem fdiv_nat (a m : Nat) : ((a : Int)).fdiv (2 ^ m) = ((a / 2 ^ m : Nat) : Int) := by
  rw [Int.fdiv_eq_ediv_of_nonneg _ (Int.le_of_lt (Int.pow_pos (by decide)))]
  simp
theorem y_shrN {k k' : IntKind} {a m : Nat} (hx : ev L x = some (.int k (a : Int))) (hy : ev L y = some (.int k' (m : Int))) (hm : m ≤ k.bits) : Y P n S L ⟨dst, .binOp .shr t x y t', rty, pos, af, gd⟩ (.int k ((a / 2 ^ m : Nat) : Int)) :=
  (y_shr hx hy (by omega)).cast (by
    have e : min ((m : Int)).toNat k.bits = m := by simp; omega
    rw [e, fdiv_nat])
theorem y_addN {a b : Nat} (hx : ev L x = some (I (a : Int))) (hy : ev L y = some (I (b : Int))) (h : a + b < 9223372036854775808) : Y P n S L ⟨dst, .binOp .add t x y t', rty, pos, af, gd⟩ (I ((a + b : Nat) : Int)) :=
  (y_addI hx hy (by omega)).cast (by rw [Int.natCast_add])
theorem y_quoN {a b : Nat} (hx : ev L x = some (I (a : Int))) (hy : ev L y = some (I (b : Int))) (h : a < 9223372036854775808 ∧ 0 < b) : Y P n S L ⟨dst, .binOp .quo t x y t', rty, pos, af, gd⟩ (I ((a / b : Nat) : Int)) :=
  (y_quoI hx hy (by omega)).cast (by rw [Int.natCast_ediv])
theorem y_remN {a b : Nat} (hx : ev L x = some (I (a : Int))) (hy : ev L y = some (I (b : Int))) (h : 0 < b) : Y P n S L ⟨dst, .binOp .rem t x y t', rty, pos, af, gd⟩ (I ((a % b : Nat) : Int)) :=
  (y_remI hx hy (by omega)).cast (by rw [Int.natCast_emod])
theorem y_mulN {a b : Nat} (hx : ev L x = some (I (a : Int))) (hy : ev L y = some (I (b : Int))) (h : a * b < 9223372036854775808) : Y P n S L ⟨dst, .binOp .mul t x y t', rty, pos, af, gd⟩ (I ((a * b : Nat) : Int)) :=
  (y_mul hx hy).cast (by rw [← Int.natCast_mul, wrap_in (by omega) (by omega)])

/-! ### places written out -/
theorem add_w (b o m : Nat) : (⟨b, o, none⟩ : Addr).add m = ⟨b, o + m, none⟩ := by cases m <;> simp [Addr.add]
theorem y_fldN {b o f : Nat} (off : Nat) (hx : ev L x = some (.pointer (some ⟨b, o, none⟩))) (ht : fldB P t f off = true) :
    Y P n S L ⟨dst, .fieldAddr t x f, rty, pos, af, gd⟩ (.pointer (some ⟨b, o + off, none⟩)) := (y_fld hx ht).cast (by rw [add_w])
theorem y_ixAN {b o : Nat} {i : Nat} {k : IntKind} (len sz : Nat) (hx : ev L x = some (.pointer (some ⟨b, o, none⟩))) (hy : ev L y = some (.int k (i : Int))) (ht : arrB P t len sz = true) (hi : i < len) :
    Y P n S L ⟨dst, .indexAddr t x y, rty, pos, af, gd⟩ (.pointer (some ⟨b, o + i * sz, none⟩)) := (y_ixA hx hy ht (by omega)).cast (by rw [add_w]; rfl)
theorem y_ixAI {b o : Nat} {i : Int} {k : IntKind} (len sz : Nat) (j : Nat) (hx : ev L x = some (.pointer (some ⟨b, o, none⟩))) (hy : ev L y = some (.int k i)) (ht : arrB P t len sz = true) (hi : i = (j : Int) ∧ j < len) :
    Y P n S L ⟨dst, .indexAddr t x y, rty, pos, af, gd⟩ (.pointer (some ⟨b, o + j * sz, none⟩)) := by
  obtain ⟨rfl, h⟩ := hi
  exact y_ixAN len sz hx hy ht h
theorem y_ixSN {b o : Nat} {i : Nat} {k : IntKind} {len cap : Nat} (sz : Nat) (hx : ev L x = some (.slice (some ⟨b, o, none⟩) len cap)) (hy : ev L y = some (.int k (i : Int))) (ht : sliB P t sz = true) (hi : i < len) :
    Y P n S L ⟨dst, .indexAddr t x y, rty, pos, af, gd⟩ (.pointer (some ⟨b, o + i * sz, none⟩)) := (y_ixS hx hy ht (by omega)).cast (by rw [add_w]; rfl)
theorem y_ixSI {b o : Nat} {i : Int} {k : IntKind} {len cap : Nat} (sz : Nat) (j : Nat) (hx : ev L x = some (.slice (some ⟨b, o, none⟩) len cap)) (hy : ev L y = some (.int k i)) (ht : sliB P t sz = true) (hi : i = (j : Int) ∧ j < len) :
    Y P n S L ⟨dst, .indexAddr t x y, rty, pos, af, gd⟩ (.pointer (some ⟨b, o + j * sz, none⟩)) := by
  obtain ⟨rfl, h⟩ := hi
  exact y_ixSN sz hx hy ht h
theorem y_fld0 {b o f : Nat} (hx : ev L x = some (.pointer (some ⟨b, o, none⟩))) (ht : fldB P t f 0 = true) :
    Y P n S L ⟨dst, .fieldAddr t x f, rty, pos, af, gd⟩ (.pointer (some ⟨b, o, none⟩)) := (y_fld hx ht).cast (by rw [add_w]; rfl)
theorem y_ixAN1 {b o : Nat} {i : Nat} {k : IntKind} (len : Nat) (hx : ev L x = some (.pointer (some ⟨b, o, none⟩))) (hy : ev L y = some (.int k (i : Int))) (ht : arrB P t len 1 = true) (hi : i < len) :
    Y P n S L ⟨dst, .indexAddr t x y, rty, pos, af, gd⟩ (.pointer (some ⟨b, o + i, none⟩)) := (y_ixAN len 1 hx hy ht hi).cast (by rw [Nat.mul_one])
theorem y_ixA01 {b : Nat} {i : Nat} {k : IntKind} (len : Nat) (hx : ev L x = some (.pointer (some ⟨b, 0, none⟩))) (hy : ev L y = some (.int k (i : Int))) (ht : arrB P t len 1 = true) (hi : i < len) :
    Y P n S L ⟨dst, .indexAddr t x y, rty, pos, af, gd⟩ (.pointer (some ⟨b, i, none⟩)) := (y_ixAN1 len hx hy ht hi).cast (by rw [Nat.zero_add])
theorem y_ixSN1 {b o : Nat} {i : Nat} {k : IntKind} {len cap : Nat} (hx : ev L x = some (.slice (some ⟨b, o, none⟩) len cap)) (hy : ev L y = some (.int k (i : Int))) (ht : sliB P t 1 = true) (hi : i < len) :
    Y P n S L ⟨dst, .indexAddr t x y, rty, pos, af, gd⟩ (.pointer (some ⟨b, o + i, none⟩)) := (y_ixSN 1 hx hy ht hi).cast (by rw [Nat.mul_one])
theorem y_ixS01 {b : Nat} {i : Nat} {k : IntKind} {len cap : Nat} (hx : ev L x = some (.slice (some ⟨b, 0, none⟩) len cap)) (hy : ev L y = some (.int k (i : Int))) (ht : sliB P t 1 = true) (hi : i < len) :
    Y P n S L ⟨dst, .indexAddr t x y, rty, pos, af, gd⟩ (.pointer (some ⟨b, i, none⟩)) := (y_ixSN1 hx hy ht hi).cast (by rw [Nat.zero_add])
end
theorem getB {l : List UInt8} {i : Nat} (h : i < l.length) : (l.map B)[i]? = some (B (l.getD i 0)) := by simp [List.getD_eq_getElem?_getD, h]
theorem tk_drawS {c : Cx} {L : Sl} {H : List Res} {P : Program} {Q : Exit → Act → World → Prop} {ops : Array Oper} {id : Nat} (X : List Nat) (hm : P.follows .mixedOrders = true)
    (h : TK c (AnyX P ops Q (fun w => St c w H) X ops.size (Array.replicate ops.size false)) L H) : TK c ((Code.region id ops true).wp P Q) L H := tk_draw _ X hm h
/-- a store of one cell -/
theorem a_store1 {c : Cx} {L : Sl} {H : List Res} {P : Program} {Q : Exit → Act → World → Prop} {K : Act → World → Prop} {rty : TypeId} {pos : String} {af : Array Edge} {gd : Option (Nat × Bool)} {t : TypeId} {x y : Operand} {v : Value}
    {H1 H2 : List Res} {b o : Nat} {cs : List Value} {T : TypeId} (hx : ev L x = some (.pointer (some ⟨b, o, none⟩))) (hy : ev L y = some v) (ht : szB P t 1 = true) (hone : v.oneCell' = true)
    (hH : H = H1 ++ cel b cs T :: H2) (hlen : o < cs.length) (h : TK c K L (H1 ++ cel b (cs.set o v) T :: H2)) :
    TK c (fun a w => (⟨none, .store t x y, rty, pos, af, gd⟩ : Oper).wp P a w K Q) L H := by
  have hc : v.cells.toList = [v] := by cases v <;> first | rfl | simp [Value.oneCell'] at hone
  refine a_store (vs := [v]) hx hy hc ht rfl hH (by simpa using hone) (by omega) ?_
  have e : cs.take o ++ [v] ++ cs.drop (o + 1) = cs.set o v := by rw [List.set_eq_take_append_cons_drop, if_pos hlen]; simp
  rw [e]; exact h
end Go.Proofs.Ytfofkjajlfphjaa
