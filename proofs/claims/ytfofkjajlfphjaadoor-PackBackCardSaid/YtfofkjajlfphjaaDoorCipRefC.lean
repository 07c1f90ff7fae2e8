/- cipher's reference: its turn of a block is the program's. Plain Lean, no program in sight. -/
import Derived.Test.YtfofkjajlfphjaaDoorCipRefB
set_option linter.unusedSimpArgs false
set_option linter.unusedVariables false
namespace Go.Proofs.YtfofkjajlfphjaaDoor.Cip
def tw (n : Nat) : Nat := bif Nat.ble 128 n then (n * 2 - 256) ^^^ 27 else n * 2
theorem tw_all : ((List.range 256).all fun a => Nat.beq (twice8 (UInt8.ofNat a)).toNat (tw a)) = true := by kernel_rfl
theorem tw_lin : ((List.range 256).all fun a => (List.range 256).all fun b => Nat.beq (tw (a ^^^ b)) (tw a ^^^ tw b)) = true := by kernel_rfl
theorem twice_tw (a : UInt8) : (twice8 a).toNat = tw a.toNat := by
  have h := List.all_eq_true.1 tw_all a.toNat (List.mem_range.2 a.toNat_lt)
  simp only [UInt8.ofNat_toNat] at h
  exact Nat.eq_of_beq_eq_true h
theorem twice_xor (a b : UInt8) : twice8 (a ^^^ b) = twice8 a ^^^ twice8 b := by
  apply UInt8.toNat_inj.1
  rw [UInt8.toNat_xor, twice_tw, twice_tw, twice_tw, UInt8.toNat_xor]
  exact Nat.eq_of_beq_eq_true (List.all_eq_true.1 (List.all_eq_true.1 tw_lin a.toNat (List.mem_range.2 a.toNat_lt)) b.toNat (List.mem_range.2 b.toNat_lt))
theorem xc (x y : UInt8) : x ^^^ (x ^^^ y) = y := by rw [← UInt8.xor_assoc, UInt8.xor_self, UInt8.zero_xor]
theorem xlc (x y z : UInt8) : x ^^^ (y ^^^ z) = y ^^^ (x ^^^ z) := by rw [← UInt8.xor_assoc, UInt8.xor_comm x y, UInt8.xor_assoc]
theorem mixb (a b d e : UInt8) : a ^^^ (a ^^^ b ^^^ d ^^^ e ^^^ twice8 (a ^^^ b)) = twice8 a ^^^ (twice8 b ^^^ b) ^^^ d ^^^ e := by
  rw [twice_xor]; simp only [UInt8.xor_assoc, xc]
  generalize twice8 a = p; generalize twice8 b = q
  simp only [UInt8.xor_assoc, UInt8.xor_comm, xlc]
/-- the reference's mixing: byte i -/
def mxb (U : List UInt8) (i : Nat) : UInt8 :=
  let c := i / 4 * 4; let r := i % 4
  twice8 (U.getD (c + r) 0) ^^^ (twice8 (U.getD (c + (r + 1) % 4) 0) ^^^ U.getD (c + (r + 1) % 4) 0) ^^^ U.getD (c + (r + 2) % 4) 0 ^^^ U.getD (c + (r + 3) % 4) 0
def mxTo (U : List UInt8) : Nat → List UInt8
  | 0 => U
  | k + 1 => (mxTo U k).set k (mxb U k)
@[simp] theorem mxTo_len {U : List UInt8} {k : Nat} : (mxTo U k).length = U.length := by
  induction k with
  | zero => rfl
  | succ k ih => simp [mxTo, ih]
def adTo (K : List UInt8) (r : Nat) (T S : List UInt8) : Nat → List UInt8
  | 0 => S
  | k + 1 => (adTo K r T S k).set k (T.getD k 0 ^^^ K.getD (16 * r + k) 0)
@[simp] theorem adTo_len {K T S : List UInt8} {r k : Nat} : (adTo K r T S k).length = S.length := by
  induction k with
  | zero => rfl
  | succ k ih => simp [adTo, ih]
theorem adTo_at {K T S : List UInt8} {r k m : Nat} (hm : m < S.length) : (adTo K r T S k).getD m 0 = if m < k then T.getD m 0 ^^^ K.getD (16 * r + m) 0 else S.getD m 0 := by
  induction k with
  | zero => simp [adTo]
  | succ k ih =>
    simp only [adTo]
    by_cases e : m = k
    · subst e; rw [getD_set_self (by simpa using hm), if_pos (by omega)]
    · rw [getD_set_ne (fun h => e h.symm), ih]
      by_cases h : m < k
      · rw [if_pos h, if_pos (by omega)]
      · rw [if_neg h, if_neg (by omega)]
theorem addTo_at {K V : List UInt8} {r k m : Nat} (hm : m < V.length) : (addTo K r V k).getD m 0 = if m < k then V.getD m 0 ^^^ K.getD (16 * r + m) 0 else V.getD m 0 := by
  induction k with
  | zero => simp [addTo]
  | succ k ih =>
    simp only [addTo]
    by_cases e : m = k
    · subst e; rw [getD_set_self (by simpa using hm), if_pos (by omega), ih, if_neg (by omega)]
    · rw [getD_set_ne (fun h => e h.symm), ih]
      by_cases h : m < k
      · rw [if_pos h, if_pos (by omega)]
      · rw [if_neg h, if_neg (by omega)]
theorem ext_getD {l m : List UInt8} (h : l.length = m.length) (hg : ∀ i, i < l.length → l.getD i 0 = m.getD i 0) : l = m := by
  apply List.ext_getElem h
  intro i h1 h2
  have := hg i h1
  rw [List.getD_eq_getElem?_getD, List.getD_eq_getElem?_getD, List.getElem?_eq_getElem h1, List.getElem?_eq_getElem h2] at this
  exact this
theorem ad_eq {K T S : List UInt8} {r : Nat} (hT : T.length = 16) (hS : S.length = 16) : adTo K r T S 16 = addTo K r T 16 := by
  apply ext_getD (by simp [hT, hS])
  intro i hi
  rw [adTo_len] at hi
  rw [adTo_at hi, addTo_at (by omega), if_pos (by omega), if_pos (by omega)]
theorem list16' {l : List UInt8} (h : l.length = 16) : ∃ a0 a1 a2 a3 a4 a5 a6 a7 a8 a9 a10 a11 a12 a13 a14 a15, l = [a0, a1, a2, a3, a4, a5, a6, a7, a8, a9, a10, a11, a12, a13, a14, a15] := by
  match l, h with
  | [a0, a1, a2, a3, a4, a5, a6, a7, a8, a9, a10, a11, a12, a13, a14, a15], _ => exact ⟨a0, a1, a2, a3, a4, a5, a6, a7, a8, a9, a10, a11, a12, a13, a14, a15, rfl⟩
theorem mixb1 (a b d e : UInt8) : b ^^^ (a ^^^ b ^^^ d ^^^ e ^^^ twice8 (b ^^^ d)) = twice8 b ^^^ (twice8 d ^^^ d) ^^^ e ^^^ a := by
  rw [← mixb b d e a]; congr 2; simp only [UInt8.xor_assoc, UInt8.xor_comm, xlc]
theorem mixb2 (a b d e : UInt8) : d ^^^ (a ^^^ b ^^^ d ^^^ e ^^^ twice8 (d ^^^ e)) = twice8 d ^^^ (twice8 e ^^^ e) ^^^ a ^^^ b := by
  rw [← mixb d e a b]; congr 2; simp only [UInt8.xor_assoc, UInt8.xor_comm, xlc]
theorem mixb3 (a b d e : UInt8) : e ^^^ (a ^^^ b ^^^ d ^^^ e ^^^ twice8 (e ^^^ a)) = twice8 e ^^^ (twice8 a ^^^ a) ^^^ b ^^^ d := by
  rw [← mixb e a b d]; congr 2; simp only [UInt8.xor_assoc, UInt8.xor_comm, xlc]
theorem mx_eq {U : List UInt8} (h : U.length = 16) : mxTo U 16 = mixTo U 4 := by
  obtain ⟨a0, a1, a2, a3, a4, a5, a6, a7, a8, a9, a10, a11, a12, a13, a14, a15, rfl⟩ := list16' h
  have e1 : mxTo [a0, a1, a2, a3, a4, a5, a6, a7, a8, a9, a10, a11, a12, a13, a14, a15] 16 =
    [twice8 a0 ^^^ (twice8 a1 ^^^ a1) ^^^ a2 ^^^ a3, twice8 a1 ^^^ (twice8 a2 ^^^ a2) ^^^ a3 ^^^ a0, twice8 a2 ^^^ (twice8 a3 ^^^ a3) ^^^ a0 ^^^ a1, twice8 a3 ^^^ (twice8 a0 ^^^ a0) ^^^ a1 ^^^ a2,
     twice8 a4 ^^^ (twice8 a5 ^^^ a5) ^^^ a6 ^^^ a7, twice8 a5 ^^^ (twice8 a6 ^^^ a6) ^^^ a7 ^^^ a4, twice8 a6 ^^^ (twice8 a7 ^^^ a7) ^^^ a4 ^^^ a5, twice8 a7 ^^^ (twice8 a4 ^^^ a4) ^^^ a5 ^^^ a6,
     twice8 a8 ^^^ (twice8 a9 ^^^ a9) ^^^ a10 ^^^ a11, twice8 a9 ^^^ (twice8 a10 ^^^ a10) ^^^ a11 ^^^ a8, twice8 a10 ^^^ (twice8 a11 ^^^ a11) ^^^ a8 ^^^ a9, twice8 a11 ^^^ (twice8 a8 ^^^ a8) ^^^ a9 ^^^ a10,
     twice8 a12 ^^^ (twice8 a13 ^^^ a13) ^^^ a14 ^^^ a15, twice8 a13 ^^^ (twice8 a14 ^^^ a14) ^^^ a15 ^^^ a12, twice8 a14 ^^^ (twice8 a15 ^^^ a15) ^^^ a12 ^^^ a13, twice8 a15 ^^^ (twice8 a12 ^^^ a12) ^^^ a13 ^^^ a14] := by kernel_rfl
  have e2 : mixTo [a0, a1, a2, a3, a4, a5, a6, a7, a8, a9, a10, a11, a12, a13, a14, a15] 4 =
    [a0 ^^^ (a0 ^^^ a1 ^^^ a2 ^^^ a3 ^^^ twice8 (a0 ^^^ a1)), a1 ^^^ (a0 ^^^ a1 ^^^ a2 ^^^ a3 ^^^ twice8 (a1 ^^^ a2)), a2 ^^^ (a0 ^^^ a1 ^^^ a2 ^^^ a3 ^^^ twice8 (a2 ^^^ a3)), a3 ^^^ (a0 ^^^ a1 ^^^ a2 ^^^ a3 ^^^ twice8 (a3 ^^^ a0)),
     a4 ^^^ (a4 ^^^ a5 ^^^ a6 ^^^ a7 ^^^ twice8 (a4 ^^^ a5)), a5 ^^^ (a4 ^^^ a5 ^^^ a6 ^^^ a7 ^^^ twice8 (a5 ^^^ a6)), a6 ^^^ (a4 ^^^ a5 ^^^ a6 ^^^ a7 ^^^ twice8 (a6 ^^^ a7)), a7 ^^^ (a4 ^^^ a5 ^^^ a6 ^^^ a7 ^^^ twice8 (a7 ^^^ a4)),
     a8 ^^^ (a8 ^^^ a9 ^^^ a10 ^^^ a11 ^^^ twice8 (a8 ^^^ a9)), a9 ^^^ (a8 ^^^ a9 ^^^ a10 ^^^ a11 ^^^ twice8 (a9 ^^^ a10)), a10 ^^^ (a8 ^^^ a9 ^^^ a10 ^^^ a11 ^^^ twice8 (a10 ^^^ a11)), a11 ^^^ (a8 ^^^ a9 ^^^ a10 ^^^ a11 ^^^ twice8 (a11 ^^^ a8)),
     a12 ^^^ (a12 ^^^ a13 ^^^ a14 ^^^ a15 ^^^ twice8 (a12 ^^^ a13)), a13 ^^^ (a12 ^^^ a13 ^^^ a14 ^^^ a15 ^^^ twice8 (a13 ^^^ a14)), a14 ^^^ (a12 ^^^ a13 ^^^ a14 ^^^ a15 ^^^ twice8 (a14 ^^^ a15)), a15 ^^^ (a12 ^^^ a13 ^^^ a14 ^^^ a15 ^^^ twice8 (a15 ^^^ a12))] := by kernel_rfl
  rw [e1, e2]; simp only [mixb, mixb1, mixb2, mixb3]
/-- the reference's rounds -/
def rfTo (K V : List UInt8) : Nat → List UInt8
  | 0 => addTo K 0 V 16
  | r + 1 => adTo K (r + 1) (if r + 1 < 14 then mxTo (shTo (rfTo K V r) 16) 16 else shTo (rfTo K V r) 16) (rfTo K V r) 16
theorem rf_eq {K V : List UInt8} (hV : V.length = 16) : ∀ r, rfTo K V r = turnTo K V r
  | 0 => rfl
  | r + 1 => by
    have ih := rf_eq (K := K) hV r
    have hl : (turnTo K V r).length = 16 := turnTo_len hV
    simp only [rfTo, turnTo, ih]
    rw [ad_eq (by split <;> simp) hl, mx_eq (by simp)]
theorem rf14 {K V : List UInt8} (hV : V.length = 16) : rfTo K V 14 = turn K V := rf_eq hV 14
theorem rf_len {K V : List UInt8} (hV : V.length = 16) (r : Nat) : (rfTo K V r).length = 16 := by rw [rf_eq hV]; exact turnTo_len hV
end Go.Proofs.YtfofkjajlfphjaaDoor.Cip
