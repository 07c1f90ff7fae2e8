/- key: what the program and its document reckon, told plainly. Own work for this project. -/
import Derived.Test.YtfofkjajlfphjaaDoorWaxPure
set_option linter.unusedSimpArgs false
set_option linter.unusedVariables false
namespace Go.Proofs.YtfofkjajlfphjaaDoor
open Go
/-- a, its first j bytes crossed with b's -/
def xz (a b : List UInt8) (j : Nat) : List UInt8 := (List.range 32).map fun i => if i < j then a.getD i 0 ^^^ b.getD i 0 else a.getD i 0
@[simp] theorem xz_len {a b : List UInt8} {j : Nat} : (xz a b j).length = 32 := by simp [xz]
theorem xz_get {a b : List UInt8} {i j : Nat} (h : i < 32) : (xz a b j).getD i 0 = if i < j then a.getD i 0 ^^^ b.getD i 0 else a.getD i 0 := by
  rw [xz, List.getD_eq_getElem?_getD, List.getElem?_map, List.getElem?_range h]; rfl
theorem xz_0 {a b : List UInt8} (h : a.length = 32) : xz a b 0 = a := by
  refine List.ext_getElem (by simp [h]) fun i h1 h2 => ?_
  simp only [xz_len] at h1
  simp only [xz, List.getElem_map, List.getElem_range, Nat.not_lt_zero, if_false]
  rw [List.getD_eq_getElem?_getD, List.getElem?_eq_getElem h2]; rfl
theorem xz_set {a b : List UInt8} {j : Nat} (h : j < 32) : (xz a b j).set j ((xz a b j).getD j 0 ^^^ b.getD j 0) = xz a b (j + 1) := by
  rw [xz_get h, if_neg (Nat.lt_irrefl _)]
  refine List.ext_getElem (by simp) fun i h1 h2 => ?_
  simp only [xz_len] at h2
  rw [List.getElem_set]
  simp only [xz, List.getElem_map, List.getElem_range]
  split
  · subst_vars; rw [if_pos (by omega)]
  · by_cases h3 : i < j
    · rw [if_pos h3, if_pos (by omega)]
    · rw [if_neg h3, if_neg (by omega)]
/-- the stretched word -/
def strL (w s : List UInt8) : Nat → List UInt8
  | 0 => keyedL w s
  | n + 1 => xz (strL w s n) (keyedL w (strL w s n)) 32
@[simp] theorem strL_len {w s : List UInt8} {n : Nat} : (strL w s n).length = 32 := by cases n <;> simp [strL]
theorem strL_0 {w s : List UInt8} : strL w s 0 = keyedL w s := rfl
theorem strL_succ {w s : List UInt8} {n : Nat} : strL w s (n + 1) = xz (strL w s n) (keyedL w (strL w s n)) 32 := rfl
/-- byte j of a number, the greatest first -/
def beB (n j : Nat) : UInt8 := UInt8.ofNat (n / 2 ^ (56 - 8 * j))
def bej (n j : Nat) : List UInt8 := (List.range j).map (beB n)
theorem bej_0 {n : Nat} : bej n 0 = [] := rfl
theorem bej_snoc {n j : Nat} : bej n j ++ [beB n j] = bej n (j + 1) := by simp [bej, List.range_succ]
@[simp] theorem bej_len {n j : Nat} : (bej n j).length = j := by simp [bej]
def be8 (n : Nat) : List UInt8 := bej n 8
theorem be8_def {n : Nat} : bej n 8 = be8 n := rfl
@[simp] theorem be8_len {n : Nat} : (be8 n).length = 8 := bej_len
/-- the first c blocks of a tape that begins with b -/
def tapeL (b : List UInt8) : Nat → List UInt8
  | 0 => []
  | c + 1 => tapeL b c ++ sumL (b ++ be8 c)
@[simp] theorem tapeL_len {b : List UInt8} : ∀ {c : Nat}, (tapeL b c).length = 32 * c
  | 0 => rfl
  | c + 1 => by rw [tapeL, List.length_append, tapeL_len, sumL_len]; omega
theorem tapeL_0 {b : List UInt8} : tapeL b 0 = [] := rfl
theorem tapeL_succ {b : List UInt8} {c : Nat} : tapeL b c ++ sumL (b ++ be8 c) = tapeL b (c + 1) := rfl
theorem tapeL_pre {b : List UInt8} {c : Nat} : ∀ d, tapeL b c <+: tapeL b (c + d)
  | 0 => List.prefix_refl _
  | d + 1 => (tapeL_pre d).trans ⟨_, tapeL_succ⟩
/-- n bytes of the tape, from its byte p on -/
def tapeN (b : List UInt8) (p n : Nat) : List UInt8 := ((tapeL b (p + n)).drop p).take n
theorem tapeN_eq {b : List UInt8} {c p n : Nat} (h : p + n ≤ 32 * c) : ((tapeL b c).drop p).take n = tapeN b p n := by
  have e : ∀ {x y : List UInt8}, x <+: y → p + n ≤ x.length → (x.drop p).take n = (y.drop p).take n := by
    rintro x y ⟨z, rfl⟩ hx
    rw [List.drop_append_of_le_length (by omega), List.take_append_of_le_length (by simp; omega)]
  unfold tapeN
  rcases Nat.le_total c (p + n) with h1 | h1
  · obtain ⟨d, hd⟩ := Nat.exists_eq_add_of_le h1
    rw [hd]; exact e (tapeL_pre d) (by simpa using h)
  · obtain ⟨d, hd⟩ := Nat.exists_eq_add_of_le h1
    have h2 := e (tapeL_pre (b := b) (c := p + n) d) (by simp; omega)
    rw [hd]; exact h2.symm
@[simp] theorem tapeN_len {b : List UInt8} {p n : Nat} : (tapeN b p n).length = n := by simp [tapeN]; omega
/-- what is left of the tape's blocks from p on grows by a block -/
theorem tape_more {b : List UInt8} {c p : Nat} (h : p ≤ 32 * c) : (tapeL b c).drop p ++ sumL (b ++ be8 c) = (tapeL b (c + 1)).drop p := by
  rw [← tapeL_succ, List.drop_append_of_le_length (by simpa using h)]
end Go.Proofs.YtfofkjajlfphjaaDoor
