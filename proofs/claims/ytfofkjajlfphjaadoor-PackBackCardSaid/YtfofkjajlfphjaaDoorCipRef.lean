/- cipher's reference: products of bytes and the bytes that stand for others, as plain functions of numbers; they are the program's. -/
import Derived.Test.YtfofkjajlfphjaaDoorCipPlus
set_option linter.unusedSimpArgs false
set_option linter.unusedVariables false
namespace Go.Proofs.YtfofkjajlfphjaaDoor.Cip
def tmA (a b : Nat) : Nat → Nat
  | 0 => 0
  | i + 1 => bif Nat.beq (b / 2 ^ i % 2) 1 then tmA a b i ^^^ a * 2 ^ i else tmA a b i
def tmB (p : Nat) : Nat → Nat
  | 0 => p
  | k + 1 => bif Nat.beq (tmB p k / 2 ^ (14 - k) % 2) 1 then tmB p k ^^^ 283 * 2 ^ (6 - k) else tmB p k
def timesN (a b : Nat) : Nat := tmB (tmA a b 8) 7
def invTo (x : Nat) : Nat → Nat → Nat
  | 0, _ => 0
  | f + 1, y => bif Nat.beq (timesN x y) 1 then y else invTo x f (y + 1)
def invN (x : Nat) : Nat := bif Nat.beq x 0 then 0 else invTo x 255 1
def bit1 (v i : Nat) : Nat := (v / 2 ^ i ^^^ v / 2 ^ ((i + 4) % 8) ^^^ v / 2 ^ ((i + 5) % 8) ^^^ v / 2 ^ ((i + 6) % 8) ^^^ v / 2 ^ ((i + 7) % 8) ^^^ 99 / 2 ^ i) % 2
def mixN (v : Nat) : Nat → Nat
  | 0 => 0
  | i + 1 => mixN v i + bit1 v i * 2 ^ i
def boxN (x : Nat) : Nat := mixN (invN x) 8
theorem times_tw : ((List.range 256).all fun a => Nat.beq (timesN a 2) (twice8 (UInt8.ofNat a)).toNat && Nat.beq (timesN a 3) (twice8 (UInt8.ofNat a) ^^^ UInt8.ofNat a).toNat) = true := by kernel_rfl
theorem times2 (a : UInt8) : timesN a.toNat 2 = (twice8 a).toNat := by
  have h := List.all_eq_true.1 times_tw a.toNat (List.mem_range.2 a.toNat_lt)
  simp only [Bool.and_eq_true, UInt8.ofNat_toNat] at h
  exact Nat.eq_of_beq_eq_true h.1
theorem times3 (a : UInt8) : timesN a.toNat 3 = (twice8 a ^^^ a).toNat := by
  have h := List.all_eq_true.1 times_tw a.toNat (List.mem_range.2 a.toNat_lt)
  simp only [Bool.and_eq_true, UInt8.ofNat_toNat] at h
  exact Nat.eq_of_beq_eq_true h.2
theorem xor_lt {a b : Nat} (k : Nat) (ha : a < 2 ^ k) (hb : b < 2 ^ k) : a ^^^ b < 2 ^ k := Nat.xor_lt_two_pow ha hb
theorem tmA_lt {a b k : Nat} (ha : a < 256) (hk : k ≤ 8) : tmA a b k < 65536 := by
  induction k with
  | zero => simp [tmA]
  | succ k ih =>
    simp only [tmA]
    have h1 : 2 ^ k ≤ 2 ^ 7 := Nat.pow_le_pow_right (by decide) (by omega)
    have h2 : a * 2 ^ k < 65536 := by
      have : a * 2 ^ k ≤ 255 * 2 ^ 7 := Nat.mul_le_mul (by omega) h1
      omega
    cases Nat.beq (b / 2 ^ k % 2) 1 with
    | true => exact xor_lt 16 (ih (by omega)) h2
    | false => exact ih (by omega)
theorem tmB_lt {p k : Nat} (hp : p < 65536) (hk : k ≤ 7) : tmB p k < 65536 := by
  induction k with
  | zero => exact hp
  | succ k ih =>
    simp only [tmB]
    have h1 : 2 ^ (6 - k) ≤ 2 ^ 6 := Nat.pow_le_pow_right (by decide) (by omega)
    have h2 : 283 * 2 ^ (6 - k) < 65536 := by omega
    cases Nat.beq (tmB p k / 2 ^ (14 - k) % 2) 1 with
    | true => exact xor_lt 16 (ih (by omega)) h2
    | false => exact ih (by omega)
theorem tmA_on {a b k : Nat} (h : b / 2 ^ k % 2 = 1) : tmA a b (k + 1) = tmA a b k ^^^ a * 2 ^ k := by simp only [tmA]; rw [h]; rfl
theorem tmA_off {a b k : Nat} (h : ¬ b / 2 ^ k % 2 = 1) : tmA a b (k + 1) = tmA a b k := by
  simp only [tmA]; rw [show b / 2 ^ k % 2 = 0 by omega]; rfl
theorem tmB_on {p k : Nat} (h : tmB p k / 2 ^ (14 - k) % 2 = 1) : tmB p (k + 1) = tmB p k ^^^ 283 * 2 ^ (6 - k) := by simp only [tmB]; rw [h]; rfl
theorem tmB_off {p k : Nat} (h : ¬ tmB p k / 2 ^ (14 - k) % 2 = 1) : tmB p (k + 1) = tmB p k := by
  simp only [tmB]; rw [show tmB p k / 2 ^ (14 - k) % 2 = 0 by omega]; rfl
theorem mixN_lt {v i : Nat} : mixN v i < 2 ^ i := by
  induction i with
  | zero => simp [mixN]
  | succ i ih =>
    have h1 : bit1 v i ≤ 1 := by simp only [bit1]; omega
    have h2 : bit1 v i * 2 ^ i ≤ 1 * 2 ^ i := Nat.mul_le_mul_right _ h1
    rw [Nat.pow_succ]; simp only [mixN]; omega
theorem invTo_lt {x : Nat} : ∀ {f y : Nat}, f + y ≤ 256 → invTo x f y < 256
  | 0, _, _ => by simp [invTo]
  | f + 1, y, h => by
    simp only [invTo]
    cases Nat.beq (timesN x y) 1 with
    | true => show y < 256; omega
    | false => exact invTo_lt (f := f) (y := y + 1) (by omega)
theorem invN_lt {x : Nat} : invN x < 256 := by
  unfold invN
  cases Nat.beq x 0 with
  | true => show 0 < 256; decide
  | false => exact invTo_lt (by omega)
end Go.Proofs.YtfofkjajlfphjaaDoor.Cip
