/- Words of 64 bits as natural numbers; bytes of a string; copy. Own work for this project; no program in sight. -/
import Derived.Test.YtfofkjajlfphjaaEngK
import Derived.Lib.ConvBytes
namespace Go.Proofs.Ytfofkjajlfphjaa
open Go Go.RowKit
theorem ofInt_64 (a : Nat) (ha : a < 18446744073709551616) : (BitVec.ofInt 64 (a : Int)).toNat = a := by
  rw [BitVec.ofInt_natCast, BitVec.toNat_ofNat]; exact Nat.mod_eq_of_lt (by omega)
theorem i64_xor_nat (a b : Nat) (ha : a < 4611686018427387904) (hb : b < 4611686018427387904) : bits .xor .i64 (a : Int) (b : Int) = ((a ^^^ b : Nat) : Int) := by
  have hx : a ^^^ b < 2 ^ 62 := Nat.xor_lt_two_pow (by omega) (by omega)
  show IntKind.i64.wrap ((BitVec.ofInt 64 (a : Int) ^^^ BitVec.ofInt 64 (b : Int)).toNat : Int) = _
  rw [BitVec.toNat_xor, ofInt_64 a (by omega), ofInt_64 b (by omega), wrap_in (by omega) (by omega)]
theorem i64_and_nat (a b : Nat) (ha : a < 4611686018427387904) (hb : b < 4611686018427387904) : bits .and .i64 (a : Int) (b : Int) = ((a &&& b : Nat) : Int) := by
  have hx : a &&& b < 2 ^ 62 := Nat.and_lt_two_pow _ (by omega)
  show IntKind.i64.wrap ((BitVec.ofInt 64 (a : Int) &&& BitVec.ofInt 64 (b : Int)).toNat : Int) = _
  rw [BitVec.toNat_and, ofInt_64 a (by omega), ofInt_64 b (by omega), wrap_in (by omega) (by omega)]
section
variable {P : Program} {n : Nat} {S : World → Prop} {L : Sl} {dst : Option Tmp} {rty : TypeId} {pos : String} {af : Array Edge} {gd : Option (Nat × Bool)}
  {t t' : TypeId} {x y z : Operand} {v u : Value}
theorem y_xorN {a b : Nat} (hx : ev L x = some (I (a : Int))) (hy : ev L y = some (I (b : Int))) (h : a < 4611686018427387904 ∧ b < 4611686018427387904) : Y P n S L ⟨dst, .binOp .xor t x y t', rty, pos, af, gd⟩ (I ((a ^^^ b : Nat) : Int)) :=
  (y_bits hx hy (by simp)).cast (by rw [i64_xor_nat _ _ h.1 h.2])
theorem y_andN {a b : Nat} (hx : ev L x = some (I (a : Int))) (hy : ev L y = some (I (b : Int))) (h : a < 4611686018427387904 ∧ b < 4611686018427387904) : Y P n S L ⟨dst, .binOp .and t x y t', rty, pos, af, gd⟩ (I ((a &&& b : Nat) : Int)) :=
  (y_bits hx hy (by simp)).cast (by rw [i64_and_nat _ _ h.1 h.2])
theorem y_and1 {a : Nat} (hx : ev L x = some (I (a : Int))) (hy : ev L y = some (I 1)) (h : a < 4611686018427387904) : Y P n S L ⟨dst, .binOp .and t x y t', rty, pos, af, gd⟩ (I ((a % 2 : Nat) : Int)) :=
  (y_andN (b := 1) hx hy ⟨h, by decide⟩).cast (by rw [Nat.and_one_is_mod])
theorem y_shrI {a m : Nat} (hx : ev L x = some (I (a : Int))) (hy : ev L y = some (I (m : Int))) (hm : m ≤ 64) : Y P n S L ⟨dst, .binOp .shr t x y t', rty, pos, af, gd⟩ (I ((a / 2 ^ m : Nat) : Int)) :=
  y_shrN hx hy (by simpa [IntKind.bits] using hm)
theorem y_shlI {a m : Nat} (hx : ev L x = some (I (a : Int))) (hy : ev L y = some (I (m : Int))) (hm : m ≤ 64) (h : a * 2 ^ m < 9223372036854775808) : Y P n S L ⟨dst, .binOp .shl t x y t', rty, pos, af, gd⟩ (I ((a * 2 ^ m : Nat) : Int)) :=
  (y_shl hx hy (by omega)).cast (by
    have e : min ((m : Int)).toNat IntKind.i64.bits = m := by simp [IntKind.bits]; omega
    have e2 : (a : Int) * 2 ^ m = ((a * 2 ^ m : Nat) : Int) := by simp
    rw [e, e2, wrap_in (by omega) (by omega)])
theorem y_ixS0I {b : Nat} {i : Int} {k : IntKind} {len cap : Nat} (j : Nat) (hx : ev L x = some (.slice (some ⟨b, 0, none⟩) len cap)) (hy : ev L y = some (.int k i)) (ht : sliB P t 1 = true) (hi : i = (j : Int) ∧ j < len) :
    Y P n S L ⟨dst, .indexAddr t x y, rty, pos, af, gd⟩ (.pointer (some ⟨b, j, none⟩)) := (y_ixSI 1 j hx hy ht hi).cast (by simp)
theorem y_subN {a b : Nat} (hx : ev L x = some (I (a : Int))) (hy : ev L y = some (I (b : Int))) (h : b ≤ a ∧ a < 9223372036854775808) : Y P n S L ⟨dst, .binOp .sub t x y t', rty, pos, af, gd⟩ (I ((a - b : Nat) : Int)) :=
  (y_subI hx hy (by omega)).cast (by congr 1; omega)
end
section
variable {c : Cx} {L : Sl} {H : List Res} {P : Program} {Q : Exit → Act → World → Prop} {K : Act → World → Prop} {d : Nat} {rty : TypeId} {pos : String} {af : Array Edge} {gd : Option (Nat × Bool)} {t t' : TypeId} {x y : Operand} {v u : Value}
/-- []byte of a string -/
theorem a_s2b {e : TypeId} {l : List UInt8} (hx : ev L x = some (Str l)) (hs : P.underlying t = some .string) (hd : P.underlying t' = some (.slice e)) (he : P.underlying e = some (.int .u8)) (hn : Nat.blt d c.n = true)
    (h : ∀ b cap rest, l.length ≤ cap → TK c K ((d, .slice (some ⟨b, 0, none⟩) l.length cap) :: L) (cel b (l.map B ++ rest) e :: H)) :
    TK c (fun a w => (⟨some d, .convert t t' x, rty, pos, af, gd⟩ : Oper).wp P a w K Q) L H := fun a w ha hw => by
  have h1 := ha.ev hx
  have hr := Lib.run_convert_string_bytes w t t' e ⟨l.toArray⟩ hs hd he
  have e0 : (ByteArray.mk l.toArray).size = l.length := by simp [ByteArray.size]
  have e1 : (execOp a.eval (⟨some d, .convert t t' x, rty, pos, af, gd⟩ : Oper)).run P w = .ok (.value (.slice (some ⟨w.heap.size, 0, none⟩) l.length (grownCap w l.length 0 e))) (Lib.bytesWorld w e ⟨l.toArray⟩) := by
    rw [e0] at hr
    simp [execOp, h1, hr]
  change Oper.upon P _ a K Q ((execOp a.eval _).run P w)
  rw [e1, Oper.upon_value]
  have hge := grownCap_ge w l.length 0 e
  have hcs : (Lib.bytesCells w e ⟨l.toArray⟩).toList = l.map B ++ List.replicate (grownCap w l.length 0 e - l.length) (.int .u8 0) := by
    simp [Lib.bytesCells, e0]
  refine h w.heap.size _ (List.replicate (grownCap w l.length 0 e - l.length) (.int .u8 0)) hge _ _ (ha.put hn _) (St.new (w' := Lib.bytesWorld w e ⟨l.toArray⟩) (N := [cel w.heap.size (l.map B ++ List.replicate (grownCap w l.length 0 e - l.length) (Value.int .u8 0)) e]) hw ⟨rfl, rfl, rfl, by rw [Lib.bytesWorld_size]; omega, fun k hk _ => Lib.bytesWorld_at_old w e _ k hk⟩ ⟨⟨_, by rw [← hcs]; exact Lib.bytesWorld_at_new w e _, .inl (by rw [← hcs]; simp)⟩, trivial⟩ ⟨fun _ _ h => h, trivial⟩ (fun k hk => by
    rcases hk with hk | hk
    · have : k = w.heap.size := hk
      omega
    · exact hk.elim))
/-- copy of a string's bytes into a row of one's own -/
theorem a_copyT {H1 H2 : List Res} {b o dl cap : Nat} {cs : List Value} {T e : TypeId} {l : List UInt8} (hx : ev L x = some (.slice (some ⟨b, o, none⟩) dl cap)) (hy : ev L y = some (Str l)) (ht : P.underlying t = some (.slice e)) (hz : szB P e 1 = true) (hn : Nat.blt d c.n = true)
    (hH : H = H1 ++ cel b cs T :: H2) (hl : l.length ≤ dl ∧ o + l.length ≤ cs.length) (h : TK c K ((d, I l.length) :: L) (H1 ++ cel b (cs.take o ++ l.map B ++ cs.drop (o + l.length)) T :: H2)) :
    TK c (fun a w => (⟨some d, .call { callee := .builtin .copy, args := #[x, y], argTypes := #[t, t'] }, rty, pos, af, gd⟩ : Oper).wp P a w K Q) L H := fun a w ha hw => by
  subst hH
  have h1 := ha.ev hx; have h2 := ha.ev hy
  obtain ⟨fr, hb, hf⟩ := hw.mem (r := cel b cs T) (by simp)
  obtain ⟨w', h3, h4, h5⟩ := run_storeCells P b T (l.map B) o 0 w cs fr hb hf oneB (by simpa using hl.2)
  have e0 : (ByteArray.mk l.toArray).size = l.length := by simp [ByteArray.size]
  have e3 : List.take l.length (List.map (fun b => Value.int IntKind.u8 (b.toNat : Int)) l) = l.map B := by rw [List.take_of_length_le (by simp)]
  have e : (execOp a.eval (⟨some d, .call { callee := .builtin .copy, args := #[x, y], argTypes := #[t, t'] }, rty, pos, af, gd⟩ : Oper)).run P w = .ok (.value (I l.length)) w' := by
    have hm : Nat.min l.length dl = l.length := Nat.min_eq_left hl.1
    simp [execOp, resolve, h1, h2, invoke, builtin, Builtin.copy_, underlying, ht, Builtin.lenOf, e0, hm, szB_run hz, Builtin.firstCells, e3, h3, goInt]
  change Oper.upon P _ a K Q ((execOp a.eval _).run P w)
  rw [e, Oper.upon_value]
  refine h _ _ (ha.put hn _) (St.perm (St.turn (N := [cel b (cs.take o ++ l.map B ++ cs.drop (o + l.length)) T]) hw h5 ⟨⟨fr, by simpa using h4, ?_⟩, trivial⟩ ⟨fun _ _ h => h, trivial⟩ ?_) perm_mid)
  · have : (cs.take o ++ l.map B ++ cs.drop (o + l.length)).length = cs.length := by simp; omega
    rw [this]; exact hf
  · intro j hj
    rcases hj with hj | hj
    · exact .inl hj
    · exact hj.elim
end
end Go.Proofs.Ytfofkjajlfphjaa
