/- cipher's reference: its round keys are the program's. Plain Lean, no program in sight. -/
import Derived.Test.YtfofkjajlfphjaaDoorCipRef
set_option linter.unusedSimpArgs false
set_option linter.unusedVariables false
namespace Go.Proofs.YtfofkjajlfphjaaDoor.Cip
theorem getD_set_self {l : List UInt8} {i : Nat} {v : UInt8} (h : i < l.length) : (l.set i v).getD i 0 = v := by rw [List.getD_eq_getElem?_getD, List.getElem?_set_self h]; rfl
theorem getD_set_ne {l : List UInt8} {i j : Nat} {v : UInt8} (h : i ≠ j) : (l.set i v).getD j 0 = l.getD j 0 := by rw [List.getD_eq_getElem?_getD, List.getElem?_set_ne h, ← List.getD_eq_getElem?_getD]
theorem getD_take {l : List UInt8} {n j : Nat} (h : j < n) : (l.take n).getD j 0 = l.getD j 0 := by rw [List.getD_eq_getElem?_getD, List.getElem?_take, if_pos h, ← List.getD_eq_getElem?_getD]
theorem getD_drop {l : List UInt8} {n j : Nat} : (l.drop n).getD j 0 = l.getD (n + j) 0 := by rw [List.getD_eq_getElem?_getD, List.getElem?_drop, ← List.getD_eq_getElem?_getD]
theorem word_at {W : List UInt8} {i j : Nat} (hj : j < 4) : (word W i).getD j 0 = W.getD (i * 4 + j) 0 := by rw [word, getD_take hj, getD_drop]
theorem subTo_at {T : List UInt8} {j m : Nat} (hm : m < T.length) : (subTo T j).getD m 0 = if m < j then sbox (T.getD m 0) else T.getD m 0 := by
  induction j with
  | zero => simp [subTo]
  | succ j ih =>
    simp only [subTo]
    by_cases e : m = j
    · subst e
      rw [getD_set_self (by simpa using hm), if_pos (by omega), ih, if_neg (by omega)]
    · rw [getD_set_ne (fun h => e h.symm), ih]
      by_cases h : m < j
      · rw [if_pos h, if_pos (by omega)]
      · rw [if_neg h, if_neg (by omega)]
theorem tv_at0 {W : List UInt8} {n j : Nat} {con : UInt8} (h : n % 8 = 0) (hj : j < 4) (hj0 : j ≠ 0) : (tv W n con).getD j 0 = sbox (W.getD ((n + 7) * 4 + (j + 1) % 4) 0) := by
  simp only [tv]; rw [if_pos h]
  simp only [tvA, word_at (show 1 < 4 by decide), word_at (show 2 < 4 by decide), word_at (show 3 < 4 by decide), word_at (show 0 < 4 by decide)]
  match j, hj, hj0 with
  | 1, _, _ => rfl
  | 2, _, _ => rfl
  | 3, _, _ => rfl
theorem tv_at00 {W : List UInt8} {n : Nat} {con : UInt8} (h : n % 8 = 0) : (tv W n con).getD 0 0 = sbox (W.getD ((n + 7) * 4 + 1) 0) ^^^ con := by
  simp only [tv]; rw [if_pos h]
  simp only [tvA, word_at (show 1 < 4 by decide)]; rfl
theorem tv_at4 {W : List UInt8} {n j : Nat} {con : UInt8} (h0 : ¬ n % 8 = 0) (h : n % 8 = 4) (hj : j < 4) (hn : n < 52) (hW : W.length = 240) : (tv W n con).getD j 0 = sbox (W.getD ((n + 7) * 4 + j) 0) := by
  simp only [tv]; rw [if_neg h0, if_pos h, subTo_at (by rw [word_len hW (by omega)]; exact hj), if_pos hj, word_at hj]
theorem tv_atx {W : List UInt8} {n j : Nat} {con : UInt8} (h0 : ¬ n % 8 = 0) (h : ¬ n % 8 = 4) (hj : j < 4) : (tv W n con).getD j 0 = W.getD ((n + 7) * 4 + j) 0 := by
  simp only [tv]; rw [if_neg h0, if_neg h, word_at hj]
theorem putTo_low {W T : List UInt8} {n j m : Nat} (h : m < (n + 8) * 4) : (putTo W n T j).getD m 0 = W.getD m 0 := by
  induction j with
  | zero => rfl
  | succ j ih => simp only [putTo]; rw [getD_set_ne (by omega), ih]
/-- the round keys while word i is made, j bytes of it done -/
def inW (b : List UInt8) (i j : Nat) : List UInt8 :=
  if i < 8 then b.take (i * 4 + j) ++ List.replicate (240 - (i * 4 + j)) 0 else putTo (expW b (i - 8)).1 (i - 8) (tv (expW b (i - 8)).1 (i - 8) (expW b (i - 8)).2) j
def refW (b : List UInt8) (i : Nat) : List UInt8 × UInt8 := if i ≤ 8 then (initTo b i, 1) else expW b (i - 8)
theorem refW_lo {b : List UInt8} {i : Nat} (h : i ≤ 8) : refW b i = (initTo b i, 1) := if_pos h
theorem refW_hi {b : List UInt8} {n : Nat} : refW b (n + 8) = expW b n := by
  unfold refW
  split
  · have : n = 0 := by omega
    subst this; rfl
  · rw [Nat.add_sub_cancel]
theorem inW_hi {b : List UInt8} {n j : Nat} : inW b (n + 8) j = putTo (expW b n).1 n (tv (expW b n).1 n (expW b n).2) j := by
  unfold inW; rw [if_neg (by omega), Nat.add_sub_cancel]
theorem inW_lo {b : List UInt8} {i j : Nat} (h : i < 8) : inW b i j = b.take (i * 4 + j) ++ List.replicate (240 - (i * 4 + j)) 0 := if_pos h
theorem inW_zero {b : List UInt8} {i : Nat} : inW b i 0 = (refW b i).1 := by
  rcases Nat.lt_or_ge i 8 with h | h
  · rw [inW_lo h, refW_lo (by omega)]; rfl
  · obtain ⟨n, rfl⟩ : ∃ n, i = n + 8 := ⟨i - 8, by omega⟩
    rw [inW_hi, refW_hi]; rfl
theorem inW_four {b : List UInt8} {i : Nat} : inW b i 4 = (refW b (i + 1)).1 := by
  rcases Nat.lt_or_ge i 8 with h | h
  · rw [inW_lo h, refW_lo (by omega), show i * 4 + 4 = (i + 1) * 4 by omega]; rfl
  · obtain ⟨n, rfl⟩ : ∃ n, i = n + 8 := ⟨i - 8, by omega⟩
    rw [inW_hi, show n + 8 + 1 = (n + 1) + 8 by omega, refW_hi]; rfl
theorem inW_len {b : List UInt8} {i j : Nat} (hb : b.length = 32) (hj : j ≤ 4) : (inW b i j).length = 240 := by
  rcases Nat.lt_or_ge i 8 with h | h
  · rw [inW_lo h]; simp; omega
  · obtain ⟨n, rfl⟩ : ∃ n, i = n + 8 := ⟨i - 8, by omega⟩
    rw [inW_hi]; simp [hb]
theorem inW_lo_succ {b : List UInt8} {i j : Nat} (hb : b.length = 32) (h : i < 8) (hj : j < 4) : inW b i (j + 1) = (inW b i j).set (i * 4 + j) (b.getD (i * 4 + j) 0) := by
  rw [inW_lo h, inW_lo h]
  have e1 : b.take (i * 4 + (j + 1)) = b.take (i * 4 + j) ++ [b.getD (i * 4 + j) 0] := by
    rw [← Nat.add_assoc, List.take_add_one, List.getElem?_eq_getElem (by omega), List.getD_eq_getElem?_getD, List.getElem?_eq_getElem (by omega)]; rfl
  have e2 : List.replicate (240 - (i * 4 + j)) (0 : UInt8) = 0 :: List.replicate (240 - (i * 4 + (j + 1))) 0 := by
    rw [show 240 - (i * 4 + j) = (240 - (i * 4 + (j + 1))) + 1 by omega]; rfl
  have hl : (b.take (i * 4 + j)).length = i * 4 + j := by simp; omega
  rw [e1, e2, List.set_append_right _ _ (by omega), hl]
  simp
theorem inW_hi_succ {b : List UInt8} {n j : Nat} : inW b (n + 8) (j + 1) = (inW b (n + 8) j).set ((n + 8) * 4 + j) ((inW b (n + 8) j).getD (n * 4 + j) 0 ^^^ (tv (expW b n).1 n (expW b n).2).getD j 0) := by
  rw [inW_hi, inW_hi]; rfl
theorem inW_low {b : List UInt8} {n j m : Nat} (h : m < (n + 8) * 4) : (inW b (n + 8) j).getD m 0 = (expW b n).1.getD m 0 := by rw [inW_hi, putTo_low h]
theorem ref0 {b : List UInt8} : refW b 0 = (List.replicate 240 0, 1) := by rw [refW_lo (by omega)]; simp [initTo]
theorem ref60 {b : List UInt8} : (refW b 60).1 = keyW b := by rw [show 60 = 52 + 8 from rfl, refW_hi]; rfl
def conS : Nat → UInt8
  | 0 => 1
  | n + 1 => conN (conS n) n
theorem exp_con {b : List UInt8} {n : Nat} : (expW b n).2 = conS n := by
  induction n with
  | zero => rfl
  | succ n ih => simp only [expW, conS, ih]
theorem conS_all : ((List.range 52).all fun n => !(Nat.beq (n % 8) 0) || Nat.beq (timesN (conS n).toNat 2) (conS (n + 1)).toNat) = true := by kernel_rfl
theorem con_twice {b : List UInt8} {n : Nat} (hn : n < 52) (h : n % 8 = 0) : timesN (expW b n).2.toNat 2 = (expW b (n + 1)).2.toNat := by
  rw [exp_con, exp_con]
  have := List.all_eq_true.1 conS_all n (List.mem_range.2 hn)
  rw [h] at this
  exact Nat.eq_of_beq_eq_true (by simpa using this)
theorem con_same {b : List UInt8} {n : Nat} (h : ¬ n % 8 = 0) : (expW b (n + 1)).2 = (expW b n).2 := by
  rw [exp_con, exp_con]; simp only [conS, conN]; rw [if_neg h]
theorem sbox_at (u : UInt8) : fwd[u.toNat]? = some (sbox u) := by
  have := u.toNat_lt
  rw [List.getElem?_eq_getElem (by rw [fwd_len]; omega), sbox, List.getD_eq_getElem?_getD, List.getElem?_eq_getElem (by rw [fwd_len]; omega)]; rfl
end Go.Proofs.YtfofkjajlfphjaaDoor.Cip
