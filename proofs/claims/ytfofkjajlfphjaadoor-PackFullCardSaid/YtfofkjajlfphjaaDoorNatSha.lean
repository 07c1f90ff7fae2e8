/- SHA-256's block on Nat, as the kernel reckons it fast. Own work. -/
import Derived.Test.YtfofkjajlfphjaaDoorKeyPure
import Derived.Test.YtfofkjajlfphjaaDoorEngOne
set_option linter.unusedSimpArgs false
set_option linter.unusedVariables false
namespace Go.Proofs.YtfofkjajlfphjaaDoor
open Go
set_option maxRecDepth 100000
/-- eight numbers, one round -/
def M32 : Nat := 4294967296
def rN (x n : Nat) : Nat := (x >>> n) ||| ((x <<< (32 - n)) % M32)
def kN : List Nat := stepsL.map UInt32.toNat
/-- with the number reckoned first -/
def st {α : Type} (n : Nat) (k : Nat → α) : α := Nat.casesOn (motive := fun _ => α) n (k 0) (fun m => k (m + 1))
/-- the rounds over a window of sixteen words -/
def goN : List Nat → List Nat → Nat → Nat → Nat → Nat → Nat → Nat → Nat → Nat → List Nat
  | [], _, a, b, c, d, e, f, g, h => [a, b, c, d, e, f, g, h]
  | k :: ks, ws, a, b, c, d, e, f, g, h => match ws with
    | w0 :: w1 :: w2 :: w3 :: w4 :: w5 :: w6 :: w7 :: w8 :: w9 :: w10 :: w11 :: w12 :: w13 :: w14 :: w15 :: _ =>
      st ((h + (rN e 6 ^^^ rN e 11 ^^^ rN e 25) + (g ^^^ (e &&& (f ^^^ g))) + k + w0) % M32) fun t =>
      st ((t + (rN a 2 ^^^ rN a 13 ^^^ rN a 22) + (a &&& b ||| c &&& (a ||| b))) % M32) fun a' =>
      st ((d + t) % M32) fun e' =>
      st ((w0 + (rN w1 7 ^^^ rN w1 18 ^^^ (w1 >>> 3)) + w9 + (rN w14 17 ^^^ rN w14 19 ^^^ (w14 >>> 10))) % M32) fun w16 =>
      goN ks [w1, w2, w3, w4, w5, w6, w7, w8, w9, w10, w11, w12, w13, w14, w15, w16] a' a b c e' e f g
    | _ => []
theorem rr_nat (x : UInt32) (n : Nat) (h : 1 ≤ n ∧ n ≤ 31) : (rr x n).toNat = rN x.toNat n := by
  have h1 : n % 4294967296 = n := by omega
  have h2 : (32 - n) % 4294967296 = 32 - n := by omega
  have h3 : n % 32 = n := by omega
  have h4 : (32 - n) % 32 = 32 - n := by omega
  simp [rr, rN, M32, h1, h2, h3, h4]
theorem st_eq {α : Type} (n : Nat) (k : Nat → α) : st n k = k n := by cases n <;> rfl
theorem tOf_nat (a b c d e f g h k w : UInt32) : (tOf [a, b, c, d, e, f, g, h] k w).toNat = (h.toNat + (rN e.toNat 6 ^^^ rN e.toNat 11 ^^^ rN e.toNat 25) + (g.toNat ^^^ (e.toNat &&& (f.toNat ^^^ g.toNat))) + k.toNat + w.toNat) % M32 := by
  simp [tOf, M32, rr_nat]
theorem uOf_nat (a b c d e f g h : UInt32) : (uOf [a, b, c, d, e, f, g, h]).toNat = ((rN a.toNat 2 ^^^ rN a.toNat 13 ^^^ rN a.toNat 22) + (a.toNat &&& b.toNat ||| c.toNat &&& (a.toNat ||| b.toNat))) % M32 := by
  simp [uOf, M32, rr_nat]
def W (l : List UInt8) (i : Nat) : UInt32 := (sched l (i + 1)).getD i 0
theorem sched_get (l : List UInt8) {i k : Nat} (h : i < k) : (sched l k).getD i 0 = W l i := by
  induction k with
  | zero => omega
  | succ k ih =>
    by_cases e : i = k
    · subst e; rfl
    · rw [← ih (by omega)]
      show (sched l k ++ [nextW l (sched l k) k]).getD i 0 = _
      rw [List.getD_eq_getElem?_getD, List.getElem?_append_left (by simp; omega), ← List.getD_eq_getElem?_getD]
theorem W_def (l : List UInt8) (i : Nat) : W l i = nextW l (sched l i) i := by
  show (sched l i ++ [nextW l (sched l i) i]).getD i 0 = _
  rw [List.getD_eq_getElem?_getD, List.getElem?_append_right (by simp)]; simp
theorem W_next (l : List UInt8) (i : Nat) : (W l (i + 16)).toNat = ((W l i).toNat + (rN (W l (i + 1)).toNat 7 ^^^ rN (W l (i + 1)).toNat 18 ^^^ ((W l (i + 1)).toNat >>> 3)) + (W l (i + 9)).toNat + (rN (W l (i + 14)).toNat 17 ^^^ rN (W l (i + 14)).toNat 19 ^^^ ((W l (i + 14)).toNat >>> 10))) % M32 := by
  rw [W_def, nextW, if_neg (by omega), show i + 16 - 16 = i by omega, show i + 16 - 7 = i + 9 by omega, show i + 16 - 15 = i + 1 by omega, show i + 16 - 2 = i + 14 by omega]
  rw [sched_get l (by omega), sched_get l (by omega), sched_get l (by omega), sched_get l (by omega)]
  simp only [UInt32.toNat_add, UInt32.toNat_xor, UInt32.toNat_shiftRight, rr_nat _ _ (show 1 ≤ 7 ∧ 7 ≤ 31 by decide), rr_nat _ _ (show 1 ≤ 18 ∧ 18 ≤ 31 by decide), rr_nat _ _ (show 1 ≤ 17 ∧ 17 ≤ 31 by decide), rr_nat _ _ (show 1 ≤ 19 ∧ 19 ≤ 31 by decide)]
  rw [show (UInt32.ofNat 3).toNat % 32 = 3 by decide, show (UInt32.ofNat 10).toNat % 32 = 10 by decide]
  simp only [M32]
  omega
def win (l : List UInt8) (i : Nat) : List Nat := [(W l i).toNat, (W l (i + 1)).toNat, (W l (i + 2)).toNat, (W l (i + 3)).toNat, (W l (i + 4)).toNat, (W l (i + 5)).toNat, (W l (i + 6)).toNat, (W l (i + 7)).toNat, (W l (i + 8)).toNat, (W l (i + 9)).toNat, (W l (i + 10)).toNat, (W l (i + 11)).toNat, (W l (i + 12)).toNat, (W l (i + 13)).toNat, (W l (i + 14)).toNat, (W l (i + 15)).toNat]
theorem goN_rounds (l : List UInt8) (r : List UInt32) : ∀ (j i : Nat), i + j = 64 → ∀ a b c d e f g h, rounds r stepsL (sched l 64) i = [a, b, c, d, e, f, g, h] →
    goN ((stepsL.drop i).map UInt32.toNat) (win l i) a.toNat b.toNat c.toNat d.toNat e.toNat f.toNat g.toNat h.toNat = (rounds r stepsL (sched l 64) 64).map UInt32.toNat
  | 0, i, hij, a, b, c, d, e, f, g, h, hr => by
    obtain rfl : i = 64 := by omega
    rw [hr, List.drop_of_length_le (by decide)]; rfl
  | j + 1, i, hij, a, b, c, d, e, f, g, h, hr => by
    have h64 : stepsL.length = 64 := by decide
    have hs : stepsL.drop i = stepsL.getD i 0 :: stepsL.drop (i + 1) := by
      rw [List.drop_eq_getElem_cons (by omega), List.getD_eq_getElem?_getD, List.getElem?_eq_getElem (by omega)]; rfl
    rw [hs]
    have hw : (sched l 64).getD i 0 = W l i := sched_get l (by omega)
    have hn := rounds_succ (r := r) (ks := stepsL) (ws := sched l 64) (n := i)
    rw [hr, hw] at hn
    have ih := goN_rounds l r j (i + 1) (by omega) _ _ _ _ _ _ _ _ hn
    rw [← ih]
    have e1 : (tOf [a, b, c, d, e, f, g, h] (stepsL.getD i 0) (W l i) + uOf [a, b, c, d, e, f, g, h]).toNat = ((h.toNat + (rN e.toNat 6 ^^^ rN e.toNat 11 ^^^ rN e.toNat 25) + (g.toNat ^^^ (e.toNat &&& (f.toNat ^^^ g.toNat))) + (stepsL.getD i 0).toNat + (W l i).toNat) % M32 + (rN a.toNat 2 ^^^ rN a.toNat 13 ^^^ rN a.toNat 22) + (a.toNat &&& b.toNat ||| c.toNat &&& (a.toNat ||| b.toNat))) % M32 := by
      rw [UInt32.toNat_add, tOf_nat, uOf_nat]; simp only [M32]; omega
    have e2 : (([a, b, c, d, e, f, g, h] : List UInt32).getD 3 0 + tOf [a, b, c, d, e, f, g, h] (stepsL.getD i 0) (W l i)).toNat = (d.toNat + (h.toNat + (rN e.toNat 6 ^^^ rN e.toNat 11 ^^^ rN e.toNat 25) + (g.toNat ^^^ (e.toNat &&& (f.toNat ^^^ g.toNat))) + (stepsL.getD i 0).toNat + (W l i).toNat) % M32) % M32 := by
      rw [UInt32.toNat_add, tOf_nat]; rfl
    rw [e1, e2]
    simp only [List.map_cons, win, goN, st_eq]
    rw [← W_next l i]
    rfl
theorem win_0 (l : List UInt8) : win l 0 = (List.range 16).map fun i => (word l i).toNat := by
  have h : ∀ i, i < 16 → W l i = word l i := fun i hi => by rw [W_def, nextW, if_pos hi]
  simp only [win, Nat.zero_add]
  rw [h 0 (by decide), h 1 (by decide), h 2 (by decide), h 3 (by decide), h 4 (by decide), h 5 (by decide), h 6 (by decide), h 7 (by decide), h 8 (by decide), h 9 (by decide), h 10 (by decide), h 11 (by decide), h 12 (by decide), h 13 (by decide), h 14 (by decide), h 15 (by decide)]
  rfl
/-- the block function on Nat: a register of eight, sixteen words -/
def blkN (r ws : List Nat) : List Nat := match r with
  | [a, b, c, d, e, f, g, h] => (List.range 8).map fun j => (r.getD j 0 + (goN kN ws a b c d e f g h).getD j 0) % M32
  | _ => []
theorem blk_nat (r : List UInt32) (l : List UInt8) (h8 : r.length = 8) : (blockF r l).map UInt32.toNat = blkN (r.map UInt32.toNat) ((List.range 16).map fun i => (word l i).toNat) := by
  match r, h8 with
  | [a, b, c, d, e, f, g, h], _ =>
    have hg := goN_rounds l [a, b, c, d, e, f, g, h] 64 0 rfl a b c d e f g h rfl
    rw [win_0] at hg
    have hl : (rounds [a, b, c, d, e, f, g, h] stepsL (sched l 64) 64).length = 8 := rounds_len rfl 64
    generalize hR : rounds [a, b, c, d, e, f, g, h] stepsL (sched l 64) 64 = R at hg hl
    have hk : (stepsL.drop 0).map UInt32.toNat = kN := rfl
    rw [hk] at hg
    simp only [blockF, hR, blkN, List.map_cons, List.map_nil, hg]
    match R, hl with
    | [a', b', c', d', e', f', g', h'], _ =>
      simp [addI, M32, List.range_succ]
def foldN : Nat → List Nat → List UInt8 → List Nat
  | 0, r, _ => r
  | n + 1, r, l => foldN n (blkN r ((List.range 16).map fun i => (word (l.take 64) i).toNat)) (l.drop 64)
theorem fold_nat : ∀ (n : Nat) (r : List UInt32) (l : List UInt8), r.length = 8 → l.length = 64 * n → (foldB r l).map UInt32.toNat = foldN n (r.map UInt32.toNat) l
  | 0, r, l, _, hl => by rw [foldB_lt (by omega)]; rfl
  | n + 1, r, l, h8, hl => by
    rw [foldB_ge (by omega), fold_nat n _ _ (by simp) (by simp; omega), blk_nat _ _ h8]; rfl
def outN (R : List Nat) : List UInt8 := (List.range 32).map fun i => UInt8.ofNat (R.getD (i / 4) 0 >>> (24 - 8 * (i % 4)))
theorem out_nat (R : List UInt32) : outB R = outN (R.map UInt32.toNat) := by
  refine List.map_congr_left fun i hi => ?_
  have h0 : (R.map UInt32.toNat).getD (i / 4) 0 = (R.getD (i / 4) 0).toNat := by
    rw [List.getD_eq_getElem?_getD, List.getElem?_map, List.getD_eq_getElem?_getD]; cases R[i / 4]? <;> rfl
  rw [h0]
  apply UInt8.toNat.inj
  have h1 : (24 - 8 * (i % 4)) % 4294967296 % 32 = 24 - 8 * (i % 4) := by omega
  simp only [UInt32.toNat_toUInt8, UInt32.toNat_shiftRight, UInt8.toNat_ofNat', UInt32.toNat_ofNat', h1]
theorem sum_nat (l : List UInt8) : sumL l = outN (foldN ((pad l).length / 64) (beginL.map UInt32.toNat) (pad l)) := by
  obtain ⟨n, hn, _⟩ := pad_len l
  rw [sumL, out_nat, fold_nat n _ _ rfl hn, hn, Nat.mul_div_cancel_left _ (by decide)]
theorem sum_tst : outN (foldN ((pad [119, 111]).length / 64) (beginL.map UInt32.toNat) (pad [119, 111])) = sumL [119, 111] := (sum_nat _).symm
end Go.Proofs.YtfofkjajlfphjaaDoor
