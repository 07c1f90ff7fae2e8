/- cipher: numbers of 16 bytes: to add a and then b is to add a + b. Plain Lean, no program in sight. -/
import Derived.Test.YtfofkjajlfphjaaDoorCipPure
set_option linter.unusedSimpArgs false
set_option linter.unusedVariables false
namespace Go.Proofs.YtfofkjajlfphjaaDoor.Cip
/-- lowest byte first -/
def padd : List UInt8 → Nat → List UInt8
  | [], _ => []
  | b :: r, n => UInt8.ofNat (n + b.toNat) :: padd r ((n + b.toNat) / 256)
def pcar : List UInt8 → Nat → Nat
  | [], n => n
  | b :: r, n => pcar r ((n + b.toNat) / 256)
theorem padd_len (l : List UInt8) : ∀ n, (padd l n).length = l.length := by
  induction l with
  | nil => intro n; rfl
  | cons b r ih => intro n; simp [padd, ih]
theorem ofNat_mod (n : Nat) : (UInt8.ofNat n).toNat = n % 256 := by simp
theorem padd_add (l : List UInt8) : ∀ a b, padd (padd l a) b = padd l (a + b) := by
  induction l with
  | nil => intro a b; rfl
  | cons x r ih =>
    intro a b
    simp only [padd, ih, ofNat_mod]
    congr 1
    · apply UInt8.toNat_inj.1; rw [ofNat_mod, ofNat_mod]; omega
    · congr 1; omega
theorem padd_zero (l : List UInt8) : padd l 0 = l := by
  induction l with
  | nil => rfl
  | cons x r ih =>
    have := x.toNat_lt
    simp only [padd, Nat.zero_add]
    rw [show x.toNat / 256 = 0 by omega, ih]
    congr 1
    apply UInt8.toNat_inj.1; rw [ofNat_mod]; omega
theorem padd_snoc (l : List UInt8) (b : UInt8) : ∀ n, padd (l ++ [b]) n = padd l n ++ [UInt8.ofNat (pcar l n + b.toNat)] := by
  induction l with
  | nil => intro n; rfl
  | cons x r ih => intro n; simp only [List.cons_append, padd, pcar, ih]
theorem pcar_snoc (l : List UInt8) (b : UInt8) : ∀ n, pcar (l ++ [b]) n = (pcar l n + b.toNat) / 256 := by
  induction l with
  | nil => intro n; rfl
  | cons x r ih => intro n; simp only [List.cons_append, pcar, ih]
theorem rev_take {N : List UInt8} {k : Nat} (hk : k < N.length) : N.reverse.take (k + 1) = N.reverse.take k ++ [N.getD (N.length - 1 - k) 0] := by
  rw [List.take_add_one, List.getElem?_reverse hk, List.getD_eq_getElem?_getD]
  rw [List.getElem?_eq_getElem (by omega)]; rfl
theorem plusTo_eq {N : List UInt8} (hN : N.length = 16) (n : Nat) : ∀ k, k ≤ 16 → plusTo N n k = (N.take (16 - k) ++ (padd (N.reverse.take k) n).reverse, pcar (N.reverse.take k) n) := by
  intro k
  induction k with
  | zero => intro _; simp [plusTo, padd, pcar, List.take_of_length_le, hN]
  | succ k ih =>
    intro hk
    have h := ih (by omega)
    have e1 := rev_take (N := N) (k := k) (by omega)
    rw [hN, show 16 - 1 - k = 15 - k by omega] at e1
    have e2 : N.take (16 - k) = N.take (15 - k) ++ [N.getD (15 - k) 0] := by
      rw [show 16 - k = (15 - k) + 1 by omega, List.take_add_one, List.getD_eq_getElem?_getD, List.getElem?_eq_getElem (by omega)]; rfl
    have hl : (N.take (15 - k)).length = 15 - k := by simp; omega
    simp only [plusTo]
    rw [h, e1, padd_snoc, pcar_snoc]
    have hg : (N.take (16 - k) ++ (padd (N.reverse.take k) n).reverse).getD (15 - k) 0 = N.getD (15 - k) 0 := by
      rw [e2, List.append_assoc, List.getD_eq_getElem?_getD, List.getElem?_append_right (by omega), hl]; simp
    simp only
    rw [hg]
    generalize N.getD (15 - k) 0 = x at *
    generalize pcar (N.reverse.take k) n = c at *
    have hx := x.toNat_lt
    split
    · rename_i h0
      subst h0
      rw [show 16 - (k + 1) = 15 - k by omega, e2]
      simp
      try omega
    · rw [show 16 - (k + 1) = 15 - k by omega, e2, List.append_assoc, List.set_append_right _ _ (by omega), hl]
      simp
theorem plus_padd {N : List UInt8} (hN : N.length = 16) (n : Nat) : plus N n = (padd N.reverse n).reverse := by
  rw [plus, plusTo_eq hN n 16 (by omega)]
  simp [List.take_of_length_le, hN]
theorem plus_add {N : List UInt8} (hN : N.length = 16) (a b : Nat) : plus (plus N a) b = plus N (a + b) := by
  rw [plus_padd (N := plus N a) (by rw [plus_len]; exact hN), plus_padd hN, plus_padd hN, List.reverse_reverse, padd_add]
theorem plus_zero {N : List UInt8} (hN : N.length = 16) : plus N 0 = N := by
  rw [plus_padd hN, padd_zero, List.reverse_reverse]
/-- the flow from block s on is the flow of the number s further -/
theorem flowB_plus {K N : List UInt8} (hN : N.length = 16) (s i : Nat) : flowB K N (16 * s + i) = flowB K (plus N s) i := by
  unfold flowB
  rw [plus_add hN, show (16 * s + i) / 16 = s + i / 16 by omega, show (16 * s + i) % 16 = i % 16 by omega]
theorem hideL_plus {K N : List UInt8} (hN : N.length = 16) (s : Nat) (l : List UInt8) : hideL K N (16 * s) l = hideL K (plus N s) 0 l := by
  unfold hideL
  refine List.map_congr_left fun i _ => ?_
  rw [flowB_plus hN, Nat.zero_add]
/-- what is hidden, of noughts: block i -/
theorem hideL_block {K N : List UInt8} {m i : Nat} (hN : N.length = 16) (hi : i < m) : ((hideL K N 0 (List.replicate (16 * m) 0)).drop (16 * i)).take 16 = turn K (plus N i) := by
  have ht : (turn K (plus N i)).length = 16 := turn_len (by rw [plus_len]; exact hN)
  apply List.ext_getElem
  · simp [ht]; omega
  · intro j h1 h2
    simp only [List.getElem_take, List.getElem_drop]
    unfold hideL
    simp only [List.getElem_map, List.getElem_range]
    have hj : j < 16 := by rw [ht] at h2; exact h2
    have e : (List.replicate (16 * m) (0 : UInt8)).getD (16 * i + j) 0 = 0 := by
      rw [List.getD_eq_getElem?_getD, List.getElem?_eq_getElem (by simp; omega)]; simp
    rw [e, Nat.zero_add]
    unfold flowB
    rw [show (16 * i + j) / 16 = i by omega, show (16 * i + j) % 16 = j by omega, List.getD_eq_getElem?_getD, List.getElem?_eq_getElem h2]
    simp
theorem u8_inc (n x : UInt8) (h : n = 1) : UInt8.ofNat (n.toNat + x.toNat) = x + 1 := by
  subst h; apply UInt8.toNat_inj.1; rw [ofNat_mod, UInt8.toNat_add]; rw [show (1 : UInt8).toNat = 1 from rfl]; omega
/-- one is put to the number: byte k from the end, where the carry is still there -/
theorem inc_step {N : List UInt8} {k : Nat} (h : (plusTo N 1 k).2 = 1) :
    plusTo N 1 (k + 1) = ((plusTo N 1 k).1.set (15 - k) ((plusTo N 1 k).1.getD (15 - k) 0 + 1), (1 + ((plusTo N 1 k).1.getD (15 - k) 0).toNat) / 256) := by
  have e : UInt8.ofNat (1 + ((plusTo N 1 k).1.getD (15 - k) 0).toNat) = (plusTo N 1 k).1.getD (15 - k) 0 + 1 := u8_inc 1 _ rfl
  simp only [plusTo, h]
  rw [if_neg (by omega), e]
theorem inc_out {N : List UInt8} {k : Nat} (hk : k < 16) (h : (plusTo N 1 k).2 = 1) (h0 : ¬ (((plusTo N 1 k).1.getD (15 - k) 0 + 1).toNat : Int) = 0) :
    plus N 1 = (plusTo N 1 k).1.set (15 - k) ((plusTo N 1 k).1.getD (15 - k) 0 + 1) := by
  have e := inc_step h
  generalize (plusTo N 1 k).1.getD (15 - k) 0 = x at *
  have hx := x.toNat_lt
  have h1 : x.toNat ≠ 255 := fun h2 => h0 (by rw [UInt8.toNat_add, h2]; rfl)
  rw [plus_at (k := k + 1) (by omega) (.inl (by rw [e]; simp only; omega)), e]
theorem inc_on {N : List UInt8} {k : Nat} (h : (plusTo N 1 k).2 = 1) (h0 : ¬ ¬ (((plusTo N 1 k).1.getD (15 - k) 0 + 1).toNat : Int) = 0) :
    (plusTo N 1 (k + 1)).2 = 1 ∧ (plusTo N 1 (k + 1)).1 = (plusTo N 1 k).1.set (15 - k) ((plusTo N 1 k).1.getD (15 - k) 0 + 1) := by
  have e := inc_step h
  generalize (plusTo N 1 k).1.getD (15 - k) 0 = x at *
  have hx := x.toNat_lt
  have h1 : x.toNat = 255 := by
    have h2 := Decidable.not_not.1 h0
    rw [UInt8.toNat_add] at h2
    rw [show (1 : UInt8).toNat = 1 from rfl] at h2
    omega
  rw [e]
  exact ⟨by simp only; omega, rfl⟩
end Go.Proofs.YtfofkjajlfphjaaDoor.Cip
