/- Texts of the claim LogAdds, part 2 of 6: SumPure, Names, SumA, SumB, SumC, SumD, RowKitZ, CipPure, CipPlus, CipRef, CipRefB, CipRefC, CipApp, WaxPure, KeyPure, PackPure, EngThree, EngFour, IndexPure. Own work. -/
import Derived.Deep.Slices
import Derived.KernelRfl
import Derived.LaidMore
import Derived.Lay
import Derived.Lib.AppendZeros
import Derived.MakeChecks
import Derived.MapKept
import Derived.SevenTiedAt
import Derived.Stop.Joined
import Derived.Test.YtnhpghhibcdklaaGreatDoorCards
import Derived.Test.YtnhpghhibcdklaaGreatDoorProg
import Derived.Test.YtnhpghhibcdklaaGreatDoorTie
import Derived.Test.YtnhpghhibcdklaaGreatDoorPtLogAdds1
set_option linter.unusedSimpArgs false
set_option linter.unusedVariables false
namespace Go.Proofs.YtnhpghhibcdklaaGreatDoor
def rr (x : UInt32) (n : Nat) : UInt32 := x >>> UInt32.ofNat n ||| x <<< UInt32.ofNat (32 - n)
theorem rr_def (x : UInt32) (n : Nat) : x <<< UInt32.ofNat (32 - n) ||| x >>> UInt32.ofNat n = rr x n := UInt32.or_comm _ _
theorem rr_def' (x : UInt32) (n : Nat) : x >>> UInt32.ofNat n ||| x <<< UInt32.ofNat (32 - n) = rr x n := rfl
def word (l : List UInt8) (i : Nat) : UInt32 :=
  (l.getD (4 * i) 0).toUInt32 <<< UInt32.ofNat 24 ||| (l.getD (4 * i + 1) 0).toUInt32 <<< UInt32.ofNat 16 ||| (l.getD (4 * i + 2) 0).toUInt32 <<< UInt32.ofNat 8 ||| (l.getD (4 * i + 3) 0).toUInt32
theorem or_add (a b k : Nat) (h : b < 2 ^ k) : a * 2 ^ k ||| b = a * 2 ^ k + b := by
  rw [← Nat.shiftLeft_eq, ← Nat.shiftLeft_add_eq_or_of_lt h]
theorem word_nat {a b c d : Nat} (ha : a < 256) (hb : b < 256) (hc : c < 256) (hd : d < 256) :
    a * 16777216 % 4294967296 ||| b * 65536 % 4294967296 ||| c * 256 % 4294967296 ||| d = (((a * 16777216 % 4294967296 + b * 65536 % 4294967296) % 4294967296 + c * 256 % 4294967296) % 4294967296 + d) % 4294967296 := by
  have m1 : a * 16777216 % 4294967296 = a * 16777216 := Nat.mod_eq_of_lt (by omega)
  have m2 : b * 65536 % 4294967296 = b * 65536 := Nat.mod_eq_of_lt (by omega)
  have m3 : c * 256 % 4294967296 = c * 256 := Nat.mod_eq_of_lt (by omega)
  have o1 : a * 16777216 ||| b * 65536 = (a * 256 + b) * 65536 := by
    have := or_add a (b * 65536) 24 (by simp; omega)
    rw [show (2 : Nat) ^ 24 = 16777216 from rfl] at this
    rw [this]; omega
  have o2 : (a * 256 + b) * 65536 ||| c * 256 = ((a * 256 + b) * 256 + c) * 256 := by
    have := or_add (a * 256 + b) (c * 256) 16 (by simp; omega)
    rw [show (2 : Nat) ^ 16 = 65536 from rfl] at this
    rw [this]; omega
  have o3 : ((a * 256 + b) * 256 + c) * 256 ||| d = ((a * 256 + b) * 256 + c) * 256 + d := by
    have := or_add ((a * 256 + b) * 256 + c) d 8 (by simp; omega)
    rw [show (2 : Nat) ^ 8 = 256 from rfl] at this
    exact this
  rw [m1, m2, m3, o1, o2, o3]
  omega
theorem word_add (l : List UInt8) (i : Nat) : word l i =
    (l.getD (4 * i) 0).toUInt32 <<< UInt32.ofNat 24 + (l.getD (4 * i + 1) 0).toUInt32 <<< UInt32.ofNat 16 + (l.getD (4 * i + 2) 0).toUInt32 <<< UInt32.ofNat 8 + (l.getD (4 * i + 3) 0).toUInt32 := by
  unfold word
  generalize l.getD (4 * i) 0 = a
  generalize l.getD (4 * i + 1) 0 = b
  generalize l.getD (4 * i + 2) 0 = c
  generalize l.getD (4 * i + 3) 0 = d
  have ha := a.toNat_lt; have hb := b.toNat_lt; have hc := c.toNat_lt; have hd := d.toNat_lt
  have e24 : (UInt32.ofNat 24).toNat % 32 = 24 := by decide
  have e16 : (UInt32.ofNat 16).toNat % 32 = 16 := by decide
  have e8 : (UInt32.ofNat 8).toNat % 32 = 8 := by decide
  apply UInt32.toNat.inj
  simp only [UInt32.toNat_or, UInt32.toNat_add, UInt32.toNat_shiftLeft, e24, e16, e8, UInt8.toNat_toUInt32, Nat.shiftLeft_eq]
  exact word_nat ha hb hc hd
def nextW (l : List UInt8) (ws : List UInt32) (i : Nat) : UInt32 := if i < 16 then word l i else
  ws.getD (i - 16) 0 + ws.getD (i - 7) 0 + (rr (ws.getD (i - 15) 0) 7 ^^^ rr (ws.getD (i - 15) 0) 18 ^^^ ws.getD (i - 15) 0 >>> UInt32.ofNat 3) + (rr (ws.getD (i - 2) 0) 17 ^^^ rr (ws.getD (i - 2) 0) 19 ^^^ ws.getD (i - 2) 0 >>> UInt32.ofNat 10)
def sched (l : List UInt8) : Nat → List UInt32
  | 0 => []
  | k + 1 => sched l k ++ [nextW l (sched l k) k]
@[simp] theorem sched_len (l : List UInt8) : ∀ k, (sched l k).length = k
  | 0 => rfl
  | k + 1 => by simp [sched, sched_len l k]
def schedZ (l : List UInt8) (k : Nat) : List UInt32 := sched l k ++ List.replicate (64 - k) 0
theorem schedZ_len {l : List UInt8} {k : Nat} (h : k ≤ 64) : (schedZ l k).length = 64 := by simp [schedZ]; omega
theorem schedZ_0 {l : List UInt8} : schedZ l 0 = List.replicate 64 0 := rfl
theorem schedZ_64 {l : List UInt8} : schedZ l 64 = sched l 64 := by simp [schedZ]
theorem schedZ_get {l : List UInt8} {k j : Nat} (h : j < k) : (schedZ l k).getD j 0 = (sched l k).getD j 0 := by
  unfold schedZ; rw [List.getD_eq_getElem?_getD, List.getElem?_append_left (by simpa using h), ← List.getD_eq_getElem?_getD]
theorem schedZ_set {l : List UInt8} {k : Nat} (h : k < 64) : (schedZ l k).set k (nextW l (sched l k) k) = schedZ l (k + 1) := by
  unfold schedZ
  rw [List.set_append_right _ _ (by simp)]
  have e : 64 - k = (64 - (k + 1)) + 1 := by omega
  rw [sched_len, Nat.sub_self, e, List.replicate_succ, List.set_cons_zero, sched, List.append_assoc]; rfl
theorem schedZ_lo {l : List UInt8} {k : Nat} (h : k < 64) (h1 : k < 16) : (schedZ l k).set k (word l k) = schedZ l (k + 1) := by
  rw [← schedZ_set h, nextW, if_pos h1]
theorem schedZ_hi {l : List UInt8} {k : Nat} (h : k < 64) (h1 : ¬ k < 16) :
    (schedZ l k).set k ((schedZ l k).getD (k - 16) 0 + (schedZ l k).getD (k - 7) 0 + (rr ((schedZ l k).getD (k - 15) 0) 7 ^^^ rr ((schedZ l k).getD (k - 15) 0) 18 ^^^ (schedZ l k).getD (k - 15) 0 >>> UInt32.ofNat 3) + (rr ((schedZ l k).getD (k - 2) 0) 17 ^^^ rr ((schedZ l k).getD (k - 2) 0) 19 ^^^ (schedZ l k).getD (k - 2) 0 >>> UInt32.ofNat 10)) = schedZ l (k + 1) := by
  rw [← schedZ_set h, nextW, if_neg h1, schedZ_get (show k - 16 < k by omega), schedZ_get (show k - 7 < k by omega), schedZ_get (show k - 15 < k by omega), schedZ_get (show k - 2 < k by omega)]
theorem u32_rc (a b c : UInt32) : a + b + c = a + c + b := by rw [UInt32.add_assoc, UInt32.add_comm b c, ← UInt32.add_assoc]
theorem schedZ_hi' {l : List UInt8} {k : Nat} (h : k < 64) (h1 : ¬ k < 16) :
    (schedZ l k).set k ((schedZ l k).getD (k - 16) 0 + (rr ((schedZ l k).getD (k - 15) 0) 7 ^^^ rr ((schedZ l k).getD (k - 15) 0) 18 ^^^ (schedZ l k).getD (k - 15) 0 >>> UInt32.ofNat 3) + (schedZ l k).getD (k - 7) 0 + (rr ((schedZ l k).getD (k - 2) 0) 17 ^^^ rr ((schedZ l k).getD (k - 2) 0) 19 ^^^ (schedZ l k).getD (k - 2) 0 >>> UInt32.ofNat 10)) = schedZ l (k + 1) := by
  rw [← schedZ_hi h h1, u32_rc ((schedZ l k).getD (k - 16) 0)]
/-- a round -/
def tOf (v : List UInt32) (k w : UInt32) : UInt32 := v.getD 7 0 + (rr (v.getD 4 0) 6 ^^^ rr (v.getD 4 0) 11 ^^^ rr (v.getD 4 0) 25) + (v.getD 6 0 ^^^ (v.getD 4 0 &&& (v.getD 5 0 ^^^ v.getD 6 0))) + k + w
def uOf (v : List UInt32) : UInt32 := (rr (v.getD 0 0) 2 ^^^ rr (v.getD 0 0) 13 ^^^ rr (v.getD 0 0) 22) + (v.getD 0 0 &&& v.getD 1 0 ||| v.getD 2 0 &&& (v.getD 0 0 ||| v.getD 1 0))
def rstep (v : List UInt32) (k w : UInt32) : List UInt32 := [tOf v k w + uOf v, v.getD 0 0, v.getD 1 0, v.getD 2 0, v.getD 3 0 + tOf v k w, v.getD 4 0, v.getD 5 0, v.getD 6 0]
theorem u32_ext {a b : UInt32} (h : ∀ i, i < 32 → a.toBitVec.getLsbD i = b.toBitVec.getLsbD i) : a = b := UInt32.eq_of_toBitVec_eq (BitVec.eq_of_getLsbD_eq h)
theorem choose_eq (a b c : UInt32) : a &&& b ^^^ ~~~ a &&& c = c ^^^ a &&& (b ^^^ c) := u32_ext fun i hi => by
  simp only [UInt32.toBitVec_and, UInt32.toBitVec_xor, UInt32.toBitVec_not, BitVec.getLsbD_and, BitVec.getLsbD_xor, BitVec.getLsbD_not, hi, decide_true, Bool.true_and]
  cases a.toBitVec.getLsbD i <;> cases b.toBitVec.getLsbD i <;> cases c.toBitVec.getLsbD i <;> rfl
theorem most_eq (a b c : UInt32) : a &&& b ^^^ a &&& c ^^^ b &&& c = a &&& b ||| c &&& (a ||| b) := u32_ext fun i _ => by
  simp only [UInt32.toBitVec_and, UInt32.toBitVec_xor, UInt32.toBitVec_or, BitVec.getLsbD_and, BitVec.getLsbD_xor, BitVec.getLsbD_or]
  cases a.toBitVec.getLsbD i <;> cases b.toBitVec.getLsbD i <;> cases c.toBitVec.getLsbD i <;> rfl
/-- a round as the other one has it -/
theorem rstep_ref (v : List UInt32) (k w : UInt32) {s t ch mo x : UInt32} (hs : s = rr (v.getD 4 0) 6 ^^^ rr (v.getD 4 0) 11 ^^^ rr (v.getD 4 0) 25) (ht : t = rr (v.getD 0 0) 2 ^^^ rr (v.getD 0 0) 13 ^^^ rr (v.getD 0 0) 22)
    (hch : ch = v.getD 4 0 &&& v.getD 5 0 ^^^ ~~~ v.getD 4 0 &&& v.getD 6 0) (hmo : mo = v.getD 0 0 &&& v.getD 1 0 ^^^ v.getD 0 0 &&& v.getD 2 0 ^^^ v.getD 1 0 &&& v.getD 2 0) (hx : x = v.getD 7 0 + s + ch + k + w) :
    [x + t + mo, v.getD 0 0, v.getD 1 0, v.getD 2 0, v.getD 3 0 + x, v.getD 4 0, v.getD 5 0, v.getD 6 0] = rstep v k w := by
  have e1 : x = tOf v k w := by rw [hx, hs, hch, choose_eq]; rfl
  have e2 : t + mo = uOf v := by rw [ht, hmo, most_eq]; rfl
  rw [UInt32.add_assoc, e1, e2]; rfl
def rounds (r ks ws : List UInt32) : Nat → List UInt32
  | 0 => r
  | n + 1 => rstep (rounds r ks ws n) (ks.getD n 0) (ws.getD n 0)
theorem rounds_0 {r ks ws : List UInt32} : rounds r ks ws 0 = r := rfl
theorem rounds_succ {r ks ws : List UInt32} {n : Nat} : rounds r ks ws (n + 1) = rstep (rounds r ks ws n) (ks.getD n 0) (ws.getD n 0) := rfl
theorem rstep_prog {v : List UInt32} (h : v.length = 8) (k w : UInt32) {t u : UInt32} (ht : t = tOf v k w) (hu : u = uOf v) :
    ((v.take 1 ++ v.take 7).set 0 (t + u)).set 4 (((v.take 1 ++ v.take 7).set 0 (t + u)).getD 4 0 + t) = rstep v k w := by
  subst ht; subst hu
  match v, h with
  | [_, _, _, _, _, _, _, _], _ => rfl
theorem rounds_len {r ks ws : List UInt32} (h : r.length = 8) : ∀ n, (rounds r ks ws n).length = 8
  | 0 => h
  | _ + 1 => rfl
def stepsL : List UInt32 := [0x428a2f98, 0x71374491, 0xb5c0fbcf, 0xe9b5dba5, 0x3956c25b, 0x59f111f1, 0x923f82a4, 0xab1c5ed5,
  0xd807aa98, 0x12835b01, 0x243185be, 0x550c7dc3, 0x72be5d74, 0x80deb1fe, 0x9bdc06a7, 0xc19bf174,
  0xe49b69c1, 0xefbe4786, 0x0fc19dc6, 0x240ca1cc, 0x2de92c6f, 0x4a7484aa, 0x5cb0a9dc, 0x76f988da,
  0x983e5152, 0xa831c66d, 0xb00327c8, 0xbf597fc7, 0xc6e00bf3, 0xd5a79147, 0x06ca6351, 0x14292967,
  0x27b70a85, 0x2e1b2138, 0x4d2c6dfc, 0x53380d13, 0x650a7354, 0x766a0abb, 0x81c2c92e, 0x92722c85,
  0xa2bfe8a1, 0xa81a664b, 0xc24b8b70, 0xc76c51a3, 0xd192e819, 0xd6990624, 0xf40e3585, 0x106aa070,
  0x19a4c116, 0x1e376c08, 0x2748774c, 0x34b0bcb5, 0x391c0cb3, 0x4ed8aa4a, 0x5b9cca4f, 0x682e6ff3,
  0x748f82ee, 0x78a5636f, 0x84c87814, 0x8cc70208, 0x90befffa, 0xa4506ceb, 0xbef9a3f7, 0xc67178f2]
def beginL : List UInt32 := [0x6a09e667, 0xbb67ae85, 0x3c6ef372, 0xa54ff53a, 0x510e527f, 0x9b05688c, 0x1f83d9ab, 0x5be0cd19]
/-- the first i words of r have v's added -/
def addI (r v : List UInt32) (i : Nat) : List UInt32 := (List.range 8).map fun j => if j < i then r.getD j 0 + v.getD j 0 else r.getD j 0
@[simp] theorem addI_len {r v : List UInt32} {i : Nat} : (addI r v i).length = 8 := by simp [addI]
theorem range_getD {α : Type} (l : List α) (d : α) : (List.range l.length).map (fun j => l.getD j d) = l := by
  apply List.ext_getElem (by simp)
  intro i h1 h2
  simp [List.getD_eq_getElem?_getD, h2]
theorem addI_0 {r v : List UInt32} (h : r.length = 8) : addI r v 0 = r := by
  have := range_getD r 0
  rw [h] at this
  simpa [addI] using this
theorem addI_get {r v : List UInt32} {i j : Nat} (h : j < 8) : (addI r v i).getD j 0 = if j < i then r.getD j 0 + v.getD j 0 else r.getD j 0 := by
  rw [addI, List.getD_eq_getElem?_getD, List.getElem?_map, List.getElem?_range h]; rfl
theorem addI_set {r v : List UInt32} {i : Nat} (h : i < 8) : (addI r v i).set i ((addI r v i).getD i 0 + v.getD i 0) = addI r v (i + 1) := by
  rw [addI_get h, if_neg (Nat.lt_irrefl _)]
  apply List.ext_getElem (by simp)
  intro j h1 h2
  rw [List.getElem_set]
  simp only [addI, List.getElem_map, List.getElem_range]
  split
  · subst_vars; rw [if_pos (by omega)]
  · by_cases c : j < i
    · rw [if_pos c, if_pos (by omega)]
    · rw [if_neg c, if_neg (by omega)]
theorem addI_comm {r v : List UInt32} : addI r v 8 = addI v r 8 := by
  apply List.ext_getElem (by simp)
  intro j h1 h2
  simp only [addI_len] at h1
  simp only [addI, List.getElem_map, List.getElem_range, if_pos h1]
  rw [UInt32.add_comm]
def blockF (r : List UInt32) (l : List UInt8) : List UInt32 := addI r (rounds r stepsL (sched l 64) 64) 8
@[simp] theorem blockF_len {r : List UInt32} {l : List UInt8} : (blockF r l).length = 8 := by simp [blockF]
def foldB (r : List UInt32) (l : List UInt8) : List UInt32 := if _h : 64 ≤ l.length then foldB (blockF r (l.take 64)) (l.drop 64) else r
termination_by l.length
decreasing_by simp; omega
theorem foldB_lt {r : List UInt32} {l : List UInt8} (h : l.length < 64) : foldB r l = r := by rw [foldB, dif_neg (by omega)]
theorem foldB_ge {r : List UInt32} {l : List UInt8} (h : 64 ≤ l.length) : foldB r l = foldB (blockF r (l.take 64)) (l.drop 64) := by rw [foldB, dif_pos h]
theorem foldB_one {r : List UInt32} {l : List UInt8} (h : l.length = 64) : foldB r l = blockF r l := by
  rw [foldB_ge (by omega), foldB_lt (by simp; omega), List.take_of_length_le (by omega)]
theorem foldB_app (m : List UInt8) : ∀ (n : Nat) (r : List UInt32) (l : List UInt8), l.length = 64 * n → foldB r (l ++ m) = foldB (foldB r l) m
  | 0, r, l, h => by
    have : l = [] := List.eq_nil_of_length_eq_zero (by omega)
    subst this; rw [foldB_lt (l := []) (by simp)]; rfl
  | n + 1, r, l, h => by
    rw [foldB_ge (l := l ++ m) (by simp; omega), foldB_ge (l := l) (by omega), List.take_append_of_le_length (by omega), List.drop_append_of_le_length (by omega)]
    exact foldB_app m n _ _ (by simp; omega)
theorem foldB_len {r : List UInt32} (hr : r.length = 8) : ∀ (n : Nat) (l : List UInt8), l.length = 64 * n → (foldB r l).length = 8
  | 0, l, h => by rw [foldB_lt (by omega)]; exact hr
  | n + 1, l, h => by
    have e : l = l.take (64 * n) ++ l.drop (64 * n) := (List.take_append_drop _ _).symm
    rw [e, foldB_app _ n _ _ (by simp; omega), foldB_one (by simp; omega)]; simp
/-- what a state holds when bytes l are taken -/
def SI (l : List UInt8) (R : List UInt32) (W : List UInt8) : Prop := R.length = 8 ∧ W.length = 64 ∧ R = foldB beginL (l.take (64 * (l.length / 64))) ∧ W.take (l.length % 64) = l.drop (64 * (l.length / 64))
theorem SI_zero {W : List UInt8} (h : W.length = 64) : SI [] beginL W := ⟨rfl, h, by rw [foldB_lt (by simp)], by simp⟩
theorem set_take {α : Type} {W : List α} {i : Nat} {x : α} (h : i < W.length) : (W.set i x).take (i + 1) = W.take i ++ [x] := by
  rw [List.take_add_one, List.take_set_of_le (Nat.le_refl _)]
  simp [h]
theorem SI_push {l : List UInt8} {R : List UInt32} {W : List UInt8} {x : UInt8} (h : SI l R W) (hn : ¬ (l.length + 1) % 64 = 0) : SI (l ++ [x]) R (W.set (l.length % 64) x) := by
  obtain ⟨h1, h2, h3, h4⟩ := h
  have e1 : (l.length + 1) / 64 = l.length / 64 := by omega
  have e2 : (l.length + 1) % 64 = l.length % 64 + 1 := by omega
  refine ⟨h1, by simpa using h2, ?_, ?_⟩
  · rw [List.length_append, List.length_singleton, e1, List.take_append_of_le_length (by omega)]; exact h3
  · rw [List.length_append, List.length_singleton, e1, e2, set_take (by omega), h4, List.drop_append_of_le_length (by omega)]
theorem SI_wrap {l : List UInt8} {R : List UInt32} {W : List UInt8} {x : UInt8} (h : SI l R W) (hn : (l.length + 1) % 64 = 0) : SI (l ++ [x]) (blockF R (W.set (l.length % 64) x)) (W.set (l.length % 64) x) := by
  obtain ⟨h1, h2, h3, h4⟩ := h
  have e1 : 64 * ((l.length + 1) / 64) = l.length + 1 := by omega
  have e2 : l.length % 64 = 63 := by omega
  have e3 : W.set (l.length % 64) x = l.drop (64 * (l.length / 64)) ++ [x] := by
    rw [← h4, ← set_take (by omega), List.take_of_length_le (by simp; omega)]
  refine ⟨by simp, by simpa using h2, ?_, ?_⟩
  · rw [List.length_append, List.length_singleton, e1, List.take_of_length_le (by simp)]
    have e4 : l ++ [x] = l.take (64 * (l.length / 64)) ++ (l.drop (64 * (l.length / 64)) ++ [x]) := by rw [← List.append_assoc, List.take_append_drop]
    rw [e4, foldB_app _ (l.length / 64) _ _ (by simp; omega), ← h3, foldB_one (by simp; omega), e3]
  · rw [List.length_append, List.length_singleton, hn, e1]; simp
theorem take_snocD {m : List UInt8} {j : Nat} (h : j < m.length) : m.take (j + 1) = m.take j ++ [m.getD j 0] := by
  rw [List.take_add_one, List.getD_eq_getElem?_getD]; simp [h]
theorem SI_tpush {l m : List UInt8} {R : List UInt32} {W : List UInt8} {j : Nat} (h : SI (l ++ m.take j) R W) (hj : j < m.length) (hn : ¬ (l.length + j + 1) % 64 = 0) : SI (l ++ m.take (j + 1)) R (W.set ((l.length + j) % 64) (m.getD j 0)) := by
  have e : (l ++ m.take j).length = l.length + j := by simp; omega
  have := SI_push (x := m.getD j 0) h (by rw [e]; exact hn)
  rw [e, List.append_assoc, ← take_snocD hj] at this; exact this
theorem SI_twrap {l m : List UInt8} {R : List UInt32} {W : List UInt8} {j : Nat} (h : SI (l ++ m.take j) R W) (hj : j < m.length) (hn : (l.length + j + 1) % 64 = 0) : SI (l ++ m.take (j + 1)) (blockF R (W.set ((l.length + j) % 64) (m.getD j 0))) (W.set ((l.length + j) % 64) (m.getD j 0)) := by
  have e : (l ++ m.take j).length = l.length + j := by simp; omega
  have := SI_wrap (x := m.getD j 0) h (by rw [e]; exact hn)
  rw [e, List.append_assoc, ← take_snocD hj] at this; exact this
/-- the end of a text: a byte, noughts, its length -/
def zc (n : Nat) : Nat := (119 - n % 64) % 64
theorem zc_def (n : Nat) : zc n = (119 - n % 64) % 64 := rfl
theorem zc_lt (n : Nat) : zc n < 64 := Nat.mod_lt _ (by decide)
def lenB (n j : Nat) : UInt8 := UInt8.ofNat (n * 8 / 2 ^ (56 - 8 * j))
def len8 (n j : Nat) : List UInt8 := (List.range j).map (lenB n)
theorem len8_0 {n : Nat} : len8 n 0 = [] := rfl
theorem len8_snoc {n j : Nat} : len8 n j ++ [lenB n j] = len8 n (j + 1) := by simp [len8, List.range_succ]
@[simp] theorem len8_len {n j : Nat} : (len8 n j).length = j := by simp [len8]
def pad (l : List UInt8) : List UInt8 := l ++ [128] ++ List.replicate (zc l.length) 0 ++ len8 l.length 8
theorem pad_len (l : List UInt8) : ∃ n, (pad l).length = 64 * n ∧ 0 < n := by
  refine ⟨(l.length + 9 + zc l.length) / 64, ?_, ?_⟩
  · simp [pad, zc]; omega
  · simp [zc]; omega
def outB (R : List UInt32) : List UInt8 := (List.range 32).map fun i => (R.getD (i / 4) 0 >>> UInt32.ofNat (24 - 8 * (i % 4))).toUInt8
@[simp] theorem outB_len {R : List UInt32} : (outB R).length = 32 := by simp [outB]
def sumL (l : List UInt8) : List UInt8 := outB (foldB beginL (pad l))
@[simp] theorem sumL_len {l : List UInt8} : (sumL l).length = 32 := by simp [sumL]
def hmKey (k : List UInt8) : List UInt8 := if 64 < k.length then sumL k else k
theorem hmKey_len {k : List UInt8} : (hmKey k).length ≤ 64 := by
  unfold hmKey; split
  · simp
  · omega
def xorPad (k : List UInt8) (c : UInt8) : List UInt8 := (List.range 64).map fun i => k.getD i 0 ^^^ c
@[simp] theorem xorPad_len {k : List UInt8} {c : UInt8} : (xorPad k c).length = 64 := by simp [xorPad]
def keyedL (k m : List UInt8) : List UInt8 := sumL (xorPad (hmKey k) 0x5C ++ sumL (xorPad (hmKey k) 0x36 ++ m))
@[simp] theorem keyedL_len {k m : List UInt8} : (keyedL k m).length = 32 := by simp [keyedL]
/-- the first i bytes of l, and noughts -/
def takeZ (l : List UInt8) (n i : Nat) : List UInt8 := l.take i ++ List.replicate (n - i) 0
theorem takeZ_len {l : List UInt8} {n i : Nat} (h : l.length = n) (hi : i ≤ n) : (takeZ l n i).length = n := by simp [takeZ]; omega
theorem takeZ_0 {l : List UInt8} {n : Nat} : takeZ l n 0 = List.replicate n 0 := by simp [takeZ]
theorem takeZ_all {l : List UInt8} {n : Nat} (h : l.length = n) : takeZ l n n = l := by simp [takeZ, ← h]
theorem takeZ_set {l : List UInt8} {n i : Nat} (h : l.length = n) (hi : i < n) : (takeZ l n i).set i (l.getD i 0) = takeZ l n (i + 1) := by
  have e : n - i = (n - (i + 1)) + 1 := by omega
  have e2 : (l.take i).length = i := by simp; omega
  unfold takeZ
  rw [List.set_append_right _ _ (by omega), e2, Nat.sub_self, e, List.replicate_succ, List.set_cons_zero, take_snocD (by omega), List.append_assoc]; rfl
theorem takeZ_getD {l : List UInt8} {n i : Nat} (h : l.length = n) (hi : i < n) : (takeZ l n i).getD i 0 = 0 := by
  have e2 : (l.take i).length = i := by simp; omega
  unfold takeZ
  rw [List.getD_eq_getElem?_getD, List.getElem?_append_right (by omega), e2, Nat.sub_self, List.getElem?_replicate]
  split <;> rfl
theorem outB_get {R : List UInt32} {i : Nat} (h : i < 32) : (outB R).getD i 0 = (R.getD (i / 4) 0 >>> UInt32.ofNat (24 - 8 * (i % 4))).toUInt8 := by
  unfold outB; rw [List.getD_eq_getElem?_getD, List.getElem?_map, List.getElem?_range h]; rfl
theorem outZ_set {R : List UInt32} {i : Nat} (h : i < 32) : (takeZ (outB R) 32 i).set i (R.getD (i / 4) 0 >>> UInt32.ofNat (24 - 8 * (i % 4))).toUInt8 = takeZ (outB R) 32 (i + 1) := by rw [← outB_get h, takeZ_set outB_len h]
theorem sum_end {l : List UInt8} {R : List UInt32} {W : List UInt8} (h : SI (pad l) R W) : outB R = sumL l := by
  obtain ⟨n, hn, _⟩ := pad_len l
  unfold sumL
  rw [h.2.2.1, List.take_of_length_le (by omega)]
/-- the first i bytes of k, filled with noughts, have c put in -/
def xorI (k : List UInt8) (c : UInt8) (i : Nat) : List UInt8 := (List.range 64).map fun j => if j < i then k.getD j 0 ^^^ c else k.getD j 0
@[simp] theorem xorI_len {k : List UInt8} {c : UInt8} {i : Nat} : (xorI k c i).length = 64 := by simp [xorI]
theorem xorI_0 {k : List UInt8} {c : UInt8} (h : k.length ≤ 64) : xorI k c 0 = k ++ List.replicate (64 - k.length) 0 := by
  apply List.ext_getElem (by simp; omega)
  intro j h1 h2
  simp only [xorI_len] at h1
  simp only [xorI, List.getElem_map, List.getElem_range, Nat.not_lt_zero, if_false]
  rw [List.getD_eq_getElem?_getD]
  by_cases hj : j < k.length
  · rw [List.getElem_append_left hj, List.getElem?_eq_getElem hj]; rfl
  · rw [List.getElem_append_right (by omega), List.getElem?_eq_none (by omega)]; simp
theorem xorI_get {k : List UInt8} {c : UInt8} {i j : Nat} (h : j < 64) : (xorI k c i).getD j 0 = if j < i then k.getD j 0 ^^^ c else k.getD j 0 := by
  rw [xorI, List.getD_eq_getElem?_getD, List.getElem?_map, List.getElem?_range h]; rfl
theorem xorI_set {k : List UInt8} {c : UInt8} {i : Nat} (h : i < 64) : (xorI k c i).set i ((xorI k c i).getD i 0 ^^^ c) = xorI k c (i + 1) := by
  rw [xorI_get h, if_neg (Nat.lt_irrefl _)]
  apply List.ext_getElem (by simp)
  intro j h1 h2
  rw [List.getElem_set]
  simp only [xorI, List.getElem_map, List.getElem_range]
  split
  · subst_vars; rw [if_pos (by omega)]
  · by_cases c : j < i
    · rw [if_pos c, if_pos (by omega)]
    · rw [if_neg c, if_neg (by omega)]
theorem xorI_64 {k : List UInt8} {c : UInt8} : xorI k c 64 = xorPad k c := by
  apply List.ext_getElem (by simp)
  intro j h1 h2
  simp only [xorI_len] at h1
  simp only [xorI, xorPad, List.getElem_map, List.getElem_range, if_pos h1]
theorem foldB_next {r : List UInt32} {p : List UInt8} {j : Nat} (h : 64 * (j + 1) ≤ p.length) : blockF (foldB r (p.take (64 * j))) ((p.drop (64 * j)).take 64) = foldB r (p.take (64 * (j + 1))) := by
  have e : p.take (64 * (j + 1)) = p.take (64 * j) ++ (p.drop (64 * j)).take 64 := by rw [Nat.mul_succ, List.take_add]
  rw [e, foldB_app _ j _ _ (by simp; omega)]
  exact (foldB_one (by simp; omega)).symm
theorem outB_snoc {R : List UInt32} {i : Nat} (h : i < 8) : (outB R).take (4 * i) ++ [(R.getD i 0 >>> UInt32.ofNat 24).toUInt8, (R.getD i 0 >>> UInt32.ofNat 16).toUInt8, (R.getD i 0 >>> UInt32.ofNat 8).toUInt8, (R.getD i 0).toUInt8] = (outB R).take (4 * (i + 1)) := by
  have g : ∀ j, j < 4 → (outB R).getD (4 * i + j) 0 = (R.getD i 0 >>> UInt32.ofNat (24 - 8 * j)).toUInt8 := fun j hj => by
    rw [outB_get (by omega)]
    have e1 : (4 * i + j) / 4 = i := by omega
    have e2 : (4 * i + j) % 4 = j := by omega
    rw [e1, e2]
  have s : ∀ k, k < 32 → (outB R).take (k + 1) = (outB R).take k ++ [(outB R).getD k 0] := fun k hk => take_snocD (by simpa using hk)
  have h0 := g 0 (by omega); have h1 := g 1 (by omega); have h2 := g 2 (by omega); have h3 := g 3 (by omega)
  have e3 : R.getD i 0 >>> UInt32.ofNat (24 - 8 * 3) = R.getD i 0 := by
    apply UInt32.toNat.inj; simp [UInt32.toNat_shiftRight]
  rw [e3] at h3
  rw [show 4 * (i + 1) = 4 * i + 3 + 1 from rfl, s _ (by omega), s _ (by omega), s _ (by omega), s _ (by omega)]
  rw [Nat.add_zero] at h0
  rw [h0, h1, h2, h3]; simp
theorem pad_def {l : List UInt8} : l ++ [128] ++ List.replicate (zc l.length) 0 ++ len8 l.length 8 = pad l := rfl
theorem sum_def {l : List UInt8} : outB (foldB beginL (pad l)) = sumL l := rfl
theorem out_all {l : List UInt8} : (outB (foldB beginL (pad l))).take (4 * 8) = sumL l := by rw [List.take_of_length_le (by simp), sum_def]
theorem xorPad_get {k : List UInt8} {c : UInt8} {i : Nat} (h : i < 64) : (xorPad k c).getD i 0 = k.getD i 0 ^^^ c := by
  unfold xorPad; rw [List.getD_eq_getElem?_getD, List.getElem?_map, List.getElem?_range h]; rfl
theorem padT {k : List UInt8} {c : UInt8} {i : Nat} (h : i < 64) : ((takeZ (xorPad k c) 64 i).set i (k.getD i 0)).set i (((takeZ (xorPad k c) 64 i).set i (k.getD i 0)).getD i 0 ^^^ c) = takeZ (xorPad k c) 64 (i + 1) := by
  have hl : i < (takeZ (xorPad k c) 64 i).length := by rw [takeZ_len xorPad_len (by omega)]; exact h
  have e : ((takeZ (xorPad k c) 64 i).set i (k.getD i 0)).getD i 0 = k.getD i 0 := by rw [List.getD_eq_getElem?_getD, List.getElem?_set_self hl]; rfl
  rw [e, List.set_set, ← xorPad_get h, takeZ_set xorPad_len h]
theorem padF {k : List UInt8} {c : UInt8} {i : Nat} (h : i < 64) (hk : k.length ≤ i) : (takeZ (xorPad k c) 64 i).set i ((takeZ (xorPad k c) 64 i).getD i 0 ^^^ c) = takeZ (xorPad k c) 64 (i + 1) := by
  have e : k.getD i 0 = 0 := by rw [List.getD_eq_getElem?_getD, List.getElem?_eq_none hk]; rfl
  rw [takeZ_getD xorPad_len h, ← e, ← xorPad_get h, takeZ_set xorPad_len h]
theorem or_xor_0 (a x y : UInt8) : a ||| (x ^^^ y) = 0 ↔ a = 0 ∧ x = y := by
  constructor
  · intro h
    have h1 := congrArg UInt8.toNat h
    rw [UInt8.toNat_or, UInt8.toNat_xor] at h1
    have h2 := Nat.or_eq_zero_iff.1 h1
    refine ⟨UInt8.toNat.inj h2.1, UInt8.toNat.inj ?_⟩
    have := h2.2
    exact Nat.eq_of_testBit_eq fun i => by
      have h3 := congrArg (fun n => Nat.testBit n i) this
      simp only [Nat.testBit_xor, Nat.zero_testBit] at h3
      cases ha : Nat.testBit x.toNat i <;> cases hb : Nat.testBit y.toNat i <;> simp [ha, hb] at h3 ⊢
  · rintro ⟨rfl, rfl⟩; simp
theorem take_eq_snoc {l m : List UInt8} {i : Nat} (hl : i < l.length) (hm : i < m.length) : (l.take (i + 1) = m.take (i + 1)) ↔ (l.take i = m.take i ∧ l.getD i 0 = m.getD i 0) := by
  rw [take_snocD hl, take_snocD hm]
  constructor
  · intro h
    have := List.append_inj' h rfl
    exact ⟨this.1, by simpa using this.2⟩
  · rintro ⟨h1, h2⟩; rw [h1, h2]
end Go.Proofs.YtnhpghhibcdklaaGreatDoor
set_option linter.unusedSimpArgs false
set_option linter.unusedVariables false
namespace Go.Proofs.YtnhpghhibcdklaaGreatDoor
open Go Go.RowKit
set_option maxRecDepth 100000
theorem MK64 : mkB Tryz.prog 64 5 (.int .u8 0) 1 := ⟨kR, _, rfl, kR, kR, kR⟩
theorem EL64 : elB Tryz.prog 64 5 1 1 := ⟨kR, _, .int .u8 0, rfl, kR, rfl, kR, kR, Nat.one_pos⟩
theorem EL73 : elB Tryz.prog 73 3 1 8 := ⟨kR, _, .int .i64 0, rfl, kR, rfl, kR, kR, Nat.one_pos⟩
theorem EL81 : elB Tryz.prog 81 9 1 16 := ⟨kR, _, .string ⟨#[]⟩, rfl, kR, rfl, kR, kR, Nat.one_pos⟩
theorem EL208 : elB Tryz.prog 208 64 1 24 := ⟨kR, _, .slice none 0 0, rfl, kR, rfl, kR, kR, Nat.one_pos⟩
theorem MK345 : mkB Tryz.prog 345 213 (.int .u32 0) 4 := ⟨kR, _, rfl, kR, kR, kR⟩
theorem EL345 : elB Tryz.prog 345 213 1 4 := ⟨kR, _, .int .u32 0, rfl, kR, rfl, kR, kR, Nat.one_pos⟩
end Go.Proofs.YtnhpghhibcdklaaGreatDoor
set_option linter.unusedSimpArgs false
set_option linter.unusedVariables false
namespace Go.Proofs.YtnhpghhibcdklaaGreatDoor
open Go Go.RowKit
set_option maxRecDepth 100000
attribute [local irreducible] sched schedZ rounds rr addI blockF
theorem stepsL_len : stepsL.length = 64 := rfl
/-- the words that the program lays -/
def glob : Res where
  fp k := k = 0 ∨ k = 1
  holds w := (∀ (j : Nat) (v : Value), (beginL.map W4)[j]? = some v → w.cell? ⟨0, j, none⟩ = some v) ∧ (∀ (j : Nat) (v : Value), (stepsL.map W4)[j]? = some v → w.cell? ⟨1, j, none⟩ = some v)
  loc w w' h hh := ⟨fun j v hv => by
    have := hh.1 j v hv
    simp only [World.cell?] at this ⊢
    rw [h 0 (.inl rfl)]; exact this, fun j v hv => by
    have := hh.2 j v hv
    simp only [World.cell?] at this ⊢
    rw [h 1 (.inr rfl)]; exact this⟩
  bnd w hh k hk := by
    rcases hk with rfl | rfl
    · exact World.block_lt_of_cell? w _ (hh.1 0 _ rfl)
    · exact World.block_lt_of_cell? w _ (hh.2 0 _ rfl)
theorem rot_and {n : Nat} (h : 1 ≤ n ∧ n ≤ 31) : Value.int .u64 (bits .and .u64 (IntKind.u64.wrap (-((n : Nat) : Int))) 31) = .int .u64 ((32 - n : Nat) : Int) := by
  have e1 : IntKind.u64.wrap (-((n : Nat) : Int)) = ((18446744073709551616 - n : Nat) : Int) := by rw [IntKind.wrap_u64]; omega
  have e2 : (31 : Int) = ((31 : Nat) : Int) := rfl
  rw [e1, e2, u64_and_nat _ _ oM oM]
  have e3 : (18446744073709551616 - n) &&& 31 = (18446744073709551616 - n) % 32 := Nat.and_two_pow_sub_one_eq_mod _ 5
  rw [e3]; congr 1; omega
theorem rot_sub {n : Nat} (h : 1 ≤ n ∧ n ≤ 31) : Value.int .u64 (IntKind.u64.wrap (32 - ((32 - n : Nat) : Int))) = .int .u64 ((n : Nat) : Int) := by
  rw [IntKind.wrap_u64]; congr 1; omega
theorem rot_spec (a : UInt32) (n : Nat) {w : World} (h : 1 ≤ n ∧ n ≤ 31) : Spec Tryz.prog 269 [W4 a, I (-((n : Nat) : Int))] w [] (fun _ : Unit => True) (fun _ => W4 (rr a n)) (fun _ => []) := by
  exact spec_of (n := 17) Tryz.func269 rfl rfl trivial trivial rfl <| s_r <| q_a rfl rfl <| s_n <| s_r <| q_m rfl rfl <| s_q rfl (y_conv rfl rfl rfl) <| s_q rfl ((y_bits rfl rfl sI).cast (rot_and h)) <| q_a rfl rfl <| s_n <| s_r <| q_m rfl rfl <| q_m rfl rfl <| s_q rfl (y_shlW (a := a) (m := 32 - n) rfl rfl oM) <| q_m rfl rfl <| q_m rfl rfl <| s_q rfl ((y_sub rfl rfl).cast (rot_sub h)) <| s_q rfl (y_shrW (a := a) (m := n) rfl rfl oM) <| tk_qe (W4 (rr a n)) rfl rfl rfl (y_orW (a := a <<< UInt32.ofNat (32 - n)) (b := a >>> UInt32.ofNat n) rfl rfl) (congrArg W4 (rr_def a n)) <| q_a rfl rfl <| s_n <| tk_retc <| tk_ret (()) (trivial) (.inl rfl) (r1 rfl rfl) (List.Sublist.refl _)
set_option maxHeartbeats 1000000 in
theorem turn_spec {sb n : Nat} {R : List UInt32} {W : List UInt8} {w : World} (hR : R.length = 8) (hW : W.length = 64) (hg : Ro (Fs [cel sb (R.map W4 ++ (W.map B ++ [IN n])) 217]) w glob)
    (hh : Pre w [cel sb (R.map W4 ++ (W.map B ++ [IN n])) 217]) :
    Spec Tryz.prog 198 [PT sb] w [cel sb (R.map W4 ++ (W.map B ++ [IN n])) 217] (fun _ : Unit => True) (fun _ => .tuple #[])
      (fun _ => [cel sb ((blockF R W).map W4 ++ (W.map B ++ [IN n])) 217]) := by
  refine spec_of (n := 180) Tryz.func198 rfl rfl hh.1 hh.2 rfl ?_
  have h8 := stepsL_len
  refine s_r <| tk_act rfl <| a_allocL (cs := (List.replicate 64 0).map W4) kR rfl fun b2 => s_n <| tk_seq <| s_r <| q_m rfl rfl <| s_n <| tk_block <| tk_R (H1 := []) rfl (congrArg (fun z_ => cel b2 z_ 422) (show (List.replicate 64 0).map W4 = (schedZ W 0).map W4 from by rw [schedZ_0])) <| tk_loop (X := Nat) (fun i => i ≤ 64) (fun i => [(0, PT sb), (2, PT b2), (15, IN i)]) (fun i => [cel b2 ((schedZ W i).map W4) 422, cel sb (R.map W4 ++ (W.map B ++ ([IN n]))) 217]) (fun i => 64 - i) (0) (by first | exact trivial | omega | (dsimp only; omega)) sB ((List.Sublist.refl _)) ?_
  rintro i hI
  try dsimp only at hI ⊢
  have hz : (schedZ W i).length = 64 := schedZ_len oM
  refine s_r <| s_q rfl (y_lss rfl rfl) <| s_n <| tk_seq <| tk_condP rfl (fun ht16 => ?_) (fun ht16 => ?_)
  · refine tk_skip <| tk_then <| tk_seq <| tk_block <| s_r <| q_m rfl rfl <| q_a rfl rfl <| s_n <| tk_seq <| s_r <| q_m rfl rfl <| s_q rfl (y_lss rfl rfl) <| s_n <| tk_condP rfl (fun ht19 => ?_) (fun ht19 => ?_)
    · refine s_r <| q_m rfl rfl <| s_q rfl (y_nilCheck rfl) <| s_q rfl (y_fldN (o := 0) 8 rfl kR) <| q_m rfl rfl <| s_q rfl (y_mulN (a := 4) (b := i) rfl rfl oM) <| s_q rfl (y_cutAlN1 (o := 8) 64 1 (4 * i) rfl rfl kR ⟨rfl, oM⟩) <| q_a rfl rfl <| s_n <| tk_seq <| tk_drawH [cel sb (R.map W4 ++ (W.map B ++ ([IN n]))) 217] [] kR <| s_x 0 rfl (y_move rfl) <| s_x 1 rfl (y_move rfl) <| s_x 2 rfl (y_ixSN 1 (o := 8 + 4 * i) (i := 0) rfl rfl kR oM) <| s_l 3 rfl (fun _ h => kD 1 rfl h) (y_load rfl rfl (hc (o := 8 + 4 * i) (.head _) (gA (k := 8) (i := 4 * i) lenP oM (gM1 (d := 0) lenP)))) <| s_x 4 rfl (y_conv8W (a := W.getD (4 * i) 0) rfl rfl rfl) <| s_x 5 rfl (y_shlW (a := (W.getD (4 * i) 0).toUInt32) (m := 24) rfl rfl dC) <| s_x 6 rfl (y_move rfl) <| s_x 7 rfl (y_ixSN 1 (o := 8 + 4 * i) (i := 1) rfl rfl kR oM) <| s_l 8 rfl (fun _ h => kD 1 rfl h) (y_load rfl rfl (hc (o := 8 + 4 * i + 1) (.head _) (gA (k := 8) (i := 4 * i + 1) lenP oM (gM1 (d := 0) lenP)))) <| s_x 9 rfl (y_conv8W (a := W.getD (4 * i + 1) 0) rfl rfl rfl) <| s_x 10 rfl (y_shlW (a := (W.getD (4 * i + 1) 0).toUInt32) (m := 16) rfl rfl dC) <| s_x 11 rfl (y_orW (a := ((W.getD (4 * i) 0).toUInt32) <<< UInt32.ofNat 24) (b := ((W.getD (4 * i + 1) 0).toUInt32) <<< UInt32.ofNat 16) rfl rfl) <| s_x 12 rfl (y_move rfl) ?_; refine s_x 13 rfl (y_ixSN 1 (o := 8 + 4 * i) (i := 2) rfl rfl kR oM) <| s_l 14 rfl (fun _ h => kD 1 rfl h) (y_load rfl rfl (hc (o := 8 + 4 * i + 2) (.head _) (gA (k := 8) (i := 4 * i + 2) lenP oM (gM1 (d := 0) lenP)))) <| s_x 15 rfl (y_conv8W (a := W.getD (4 * i + 2) 0) rfl rfl rfl) <| s_x 16 rfl (y_shlW (a := (W.getD (4 * i + 2) 0).toUInt32) (m := 8) rfl rfl dC) <| s_x 17 rfl (y_orW (a := (((W.getD (4 * i) 0).toUInt32) <<< UInt32.ofNat 24) ||| (((W.getD (4 * i + 1) 0).toUInt32) <<< UInt32.ofNat 16)) (b := ((W.getD (4 * i + 2) 0).toUInt32) <<< UInt32.ofNat 8) rfl rfl) <| s_x 18 rfl (y_move rfl) <| s_x 19 rfl (y_ixSN 1 (o := 8 + 4 * i) (i := 3) rfl rfl kR oM) <| s_l 20 rfl (fun _ h => kD 1 rfl h) (y_load rfl rfl (hc (o := 8 + 4 * i + 3) (.head _) (gA (k := 8) (i := 4 * i + 3) lenP oM (gM1 (d := 0) lenP)))) <| s_x 21 rfl (y_conv8W (a := W.getD (4 * i + 3) 0) rfl rfl rfl) <| s_x 22 rfl (y_orW (a := ((((W.getD (4 * i) 0).toUInt32) <<< UInt32.ofNat 24) ||| (((W.getD (4 * i + 1) 0).toUInt32) <<< UInt32.ofNat 16)) ||| (((W.getD (4 * i + 2) 0).toUInt32) <<< UInt32.ofNat 8)) (b := (W.getD (4 * i + 3) 0).toUInt32) rfl rfl) <| s_x 23 rfl (y_ixA01 64 (i := i) rfl rfl kR oM) <| tx_a 24 rfl kR rfl <| a_storeE (H1 := []) (o := i) (v := W4 ((((((W.getD (4 * i) 0).toUInt32) <<< UInt32.ofNat 24) ||| (((W.getD (4 * i + 1) 0).toUInt32) <<< UInt32.ofNat 16)) ||| (((W.getD (4 * i + 2) 0).toUInt32) <<< UInt32.ofNat 8)) ||| ((W.getD (4 * i + 3) 0).toUInt32))) (cs' := ((schedZ W i).set i ((((((W.getD (4 * i) 0).toUInt32) <<< UInt32.ofNat 24) ||| (((W.getD (4 * i + 1) 0).toUInt32) <<< UInt32.ofNat 16)) ||| (((W.getD (4 * i + 2) 0).toUInt32) <<< UInt32.ofNat 8)) ||| ((W.getD (4 * i + 3) 0).toUInt32))).map W4) rfl rfl kR rfl rfl sW (sM) <| tk_S (fun _ h => kD 1 rfl h) <| tx_done kR <| tk_then <| tk_exit <| tk_then_exit <| tk_in_hit <| tk_then <| tk_region <| s_q rfl (y_addN (a := i) (b := 1) rfl rfl oM) <| q_m rfl rfl <| tk_nil ?_; exact tk_R (H1 := []) rfl (congrArg (fun z_ => cel b2 z_ 422) (show ((schedZ W i).set i ((((((W.getD (4 * i) 0).toUInt32) <<< UInt32.ofNat 24) ||| (((W.getD (4 * i + 1) 0).toUInt32) <<< UInt32.ofNat 16)) ||| (((W.getD (4 * i + 2) 0).toUInt32) <<< UInt32.ofNat 8)) ||| ((W.getD (4 * i + 3) 0).toUInt32))).map W4 = (schedZ W (i + 1)).map W4 from congrArg (List.map W4) (schedZ_lo oM oM))) <| tk_again (i + 1) (by first | exact trivial | omega | (dsimp only; omega)) (by first | omega | (dsimp only; omega)) sB (List.Sublist.refl _)
    · refine tk_skip <| tk_then <| tk_seq <| tk_drawH [cel b2 ((schedZ W i).map W4) 422, cel sb (R.map W4 ++ (W.map B ++ ([IN n]))) 217] [] kR <| s_x 0 rfl (y_move rfl) <| s_x 1 rfl (y_subN (a := i) (b := 15) rfl rfl oM) <| s_x 2 rfl (y_ixA01 64 (i := i - 15) rfl rfl kR oM) <| s_l 3 rfl (fun _ h => h) (y_load rfl rfl (hc (o := i - 15) (.head _) (gM (d := 0) lenP))) <| s_x 4 rfl (y_move rfl) <| s_x 5 rfl (y_subN (a := i) (b := 2) rfl rfl oM) <| s_x 6 rfl (y_ixA01 64 (i := i - 2) rfl rfl kR oM) <| s_l 7 rfl (fun _ h => h) (y_load rfl rfl (hc (o := i - 2) (.head _) (gM (d := 0) lenP))) <| s_x 8 rfl (y_assign rfl) <| s_x 9 rfl (y_assign rfl) <| tx_done kR <| tk_then <| tk_drawH [cel b2 ((schedZ W i).map W4) 422, cel sb (R.map W4 ++ (W.map B ++ ([IN n]))) 217] [29] kR <| s_x 0 rfl (y_move rfl) <| s_x 1 rfl (y_move rfl) <| s_x 2 rfl (y_subN (a := i) (b := 16) rfl rfl oM) <| s_x 3 rfl (y_ixA01 64 (i := i - 16) rfl rfl kR oM) <| s_l 4 rfl (fun _ h => h) (y_load rfl rfl (hc (o := i - 16) (.head _) (gM (d := 0) lenP))) <| s_x 5 rfl (y_move rfl) <| s_x 6 rfl (y_subN (a := i) (b := 7) rfl rfl oM) ?_; refine s_x 7 rfl (y_ixA01 64 (i := i - 7) rfl rfl kR oM) <| s_l 8 rfl (fun _ h => h) (y_load rfl rfl (hc (o := i - 7) (.head _) (gM (d := 0) lenP))) <| s_x 9 rfl (y_addW (a := (schedZ W i).getD (i - 16) 0) (b := (schedZ W i).getD (i - 7) 0) rfl rfl) <| s_x 10 rfl (y_move rfl) <| s_x 12 rfl (y_move rfl) <| s_x 15 rfl (y_move rfl) <| s_x 16 rfl (y_shrW (a := (schedZ W i).getD (i - 15) 0) (m := 3) rfl rfl dC) <| s_x 19 rfl (y_move rfl) <| s_x 21 rfl (y_move rfl) <| s_x 24 rfl (y_move rfl) <| s_x 25 rfl (y_shrW (a := (schedZ W i).getD (i - 2) 0) (m := 10) rfl rfl dC) <| tx_a 11 rfl kR rfl <| a_callv [] _ rfl kR rfl (fun w' hw' => rot_spec ((schedZ W i).getD (i - 15) 0) 7 dC) rfl fun _ _ => tk_S (fun _ h => h) <| tx_a 13 rfl kR rfl <| a_callv [] _ rfl kR rfl (fun w' hw' => rot_spec ((schedZ W i).getD (i - 15) 0) 18 dC) rfl fun _ _ => tk_S (fun _ h => h) <| s_x 14 rfl (y_xorW (a := rr ((schedZ W i).getD (i - 15) 0) 7) (b := rr ((schedZ W i).getD (i - 15) 0) 18) rfl rfl) <| s_x 17 rfl (y_xorW (a := (rr ((schedZ W i).getD (i - 15) 0) 7) ^^^ (rr ((schedZ W i).getD (i - 15) 0) 18)) (b := ((schedZ W i).getD (i - 15) 0) >>> UInt32.ofNat 3) rfl rfl) <| s_x 18 rfl (y_addW (a := ((schedZ W i).getD (i - 16) 0) + ((schedZ W i).getD (i - 7) 0)) (b := ((rr ((schedZ W i).getD (i - 15) 0) 7) ^^^ (rr ((schedZ W i).getD (i - 15) 0) 18)) ^^^ (((schedZ W i).getD (i - 15) 0) >>> UInt32.ofNat 3)) rfl rfl) <| tx_a 20 rfl kR rfl <| a_callv [] _ rfl kR rfl (fun w' hw' => rot_spec ((schedZ W i).getD (i - 2) 0) 17 dC) rfl fun _ _ => tk_S (fun _ h => h) <| tx_a 22 rfl kR rfl ?_; exact a_callv [] _ rfl kR rfl (fun w' hw' => rot_spec ((schedZ W i).getD (i - 2) 0) 19 dC) rfl fun _ _ => tk_S (fun _ h => h) <| s_x 23 rfl (y_xorW (a := rr ((schedZ W i).getD (i - 2) 0) 17) (b := rr ((schedZ W i).getD (i - 2) 0) 19) rfl rfl) <| s_x 26 rfl (y_xorW (a := (rr ((schedZ W i).getD (i - 2) 0) 17) ^^^ (rr ((schedZ W i).getD (i - 2) 0) 19)) (b := ((schedZ W i).getD (i - 2) 0) >>> UInt32.ofNat 10) rfl rfl) <| s_x 27 rfl (y_addW (a := (((schedZ W i).getD (i - 16) 0) + ((schedZ W i).getD (i - 7) 0)) + (((rr ((schedZ W i).getD (i - 15) 0) 7) ^^^ (rr ((schedZ W i).getD (i - 15) 0) 18)) ^^^ (((schedZ W i).getD (i - 15) 0) >>> UInt32.ofNat 3))) (b := ((rr ((schedZ W i).getD (i - 2) 0) 17) ^^^ (rr ((schedZ W i).getD (i - 2) 0) 19)) ^^^ (((schedZ W i).getD (i - 2) 0) >>> UInt32.ofNat 10)) rfl rfl) <| s_x 28 rfl (y_ixA01 64 (i := i) rfl rfl kR oM) <| tx_x 29 rfl kR rfl rfl <| a_storeE (H1 := []) (o := i) (v := W4 (((((schedZ W i).getD (i - 16) 0) + ((schedZ W i).getD (i - 7) 0)) + (((rr ((schedZ W i).getD (i - 15) 0) 7) ^^^ (rr ((schedZ W i).getD (i - 15) 0) 18)) ^^^ (((schedZ W i).getD (i - 15) 0) >>> UInt32.ofNat 3))) + (((rr ((schedZ W i).getD (i - 2) 0) 17) ^^^ (rr ((schedZ W i).getD (i - 2) 0) 19)) ^^^ (((schedZ W i).getD (i - 2) 0) >>> UInt32.ofNat 10)))) (cs' := ((schedZ W i).set i (((((schedZ W i).getD (i - 16) 0) + ((schedZ W i).getD (i - 7) 0)) + (((rr ((schedZ W i).getD (i - 15) 0) 7) ^^^ (rr ((schedZ W i).getD (i - 15) 0) 18)) ^^^ (((schedZ W i).getD (i - 15) 0) >>> UInt32.ofNat 3))) + (((rr ((schedZ W i).getD (i - 2) 0) 17) ^^^ (rr ((schedZ W i).getD (i - 2) 0) 19)) ^^^ (((schedZ W i).getD (i - 2) 0) >>> UInt32.ofNat 10)))).map W4) rfl rfl kR rfl rfl sW (sM) <| tx_done kR <| tk_in_normal <| tk_then <| tk_region <| s_q rfl (y_addN (a := i) (b := 1) rfl rfl oM) <| q_m rfl rfl <| tk_nil <| tk_R (H1 := []) rfl (congrArg (fun z_ => cel b2 z_ 422) (show ((schedZ W i).set i (((((schedZ W i).getD (i - 16) 0) + ((schedZ W i).getD (i - 7) 0)) + (((rr ((schedZ W i).getD (i - 15) 0) 7) ^^^ (rr ((schedZ W i).getD (i - 15) 0) 18)) ^^^ (((schedZ W i).getD (i - 15) 0) >>> UInt32.ofNat 3))) + (((rr ((schedZ W i).getD (i - 2) 0) 17) ^^^ (rr ((schedZ W i).getD (i - 2) 0) 19)) ^^^ (((schedZ W i).getD (i - 2) 0) >>> UInt32.ofNat 10)))).map W4 = (schedZ W (i + 1)).map W4 from congrArg (List.map W4) (schedZ_hi oM oM))) <| tk_again (i + 1) (by first | exact trivial | omega | (dsimp only; omega)) (by first | omega | (dsimp only; omega)) sB (List.Sublist.refl _)
  · refine tk_R (H1 := []) rfl (congrArg (fun z_ => cel b2 z_ 422) (show (schedZ W i).map W4 = (sched W 64).map W4 from by rw [show i = 64 by omega, schedZ_64])) <| tk_exit <| tk_then_exit <| tk_then_exit <| tk_in_hit <| tk_then <| s_r <| q_m rfl rfl <| s_q rfl (y_nilCheck rfl) <| s_q rfl (y_fld0 (o := 0) rfl kR) <| s_q rfl (y_loadA (vs := R.map W4) 8 rfl kR lenP (hseg (pre := ([] : List Value)) (post := W.map B ++ ([IN n])) (mm 1 rfl) lenP sI)) <| tk_act rfl <| a_allocL (cs := (List.replicate 8 0).map W4) kR rfl fun b7 => tk_act rfl <| a_storeW (H1 := []) (vs := R.map W4) 8 rfl rfl kR rfl ⟨lenP, lenP⟩ oneW <| s_n <| tk_seq <| s_r <| s_q rfl (y_loadA 64 rfl kR lenP (hcw (mm 1 rfl))) <| q_m rfl rfl <| s_n <| tk_block <| tk_R (H1 := []) rfl (congrArg (fun z_ => cel b7 z_ 214) (show R.map W4 = (rounds R stepsL (sched W 64) 0).map W4 from by rw [rounds_0])) <| tk_loop (X := Nat) (fun i => i ≤ 64) (fun i => [(0, PT sb), (7, PT b7), (92, .agg ((sched W 64).map W4).toArray), (93, IN i)]) (fun i => [cel b7 ((rounds R stepsL (sched W 64) i).map W4) 214, cel b2 ((sched W 64).map W4) 422, cel sb (R.map W4 ++ (W.map B ++ ([IN n]))) 217]) (fun i => 64 - i) (0) (by first | exact trivial | omega | (dsimp only; omega)) sB ((List.Sublist.refl _)) ?_
    rintro i hI
    try dsimp only at hI ⊢
    have hv : (rounds R stepsL (sched W 64) i).length = 8 := rounds_len hR i
    have hz : (sched W 64).length = 64 := sched_len _ _
    refine s_r <| s_q rfl (y_lss rfl rfl) <| s_n <| tk_seq <| tk_condP rfl (fun ht94 => ?_) (fun ht94 => ?_)
    · refine tk_skip <| tk_then <| tk_seq <| tk_block <| s_r <| q_m rfl rfl <| s_q rfl (y_ixVM (d0 := 0) (i := i) rfl rfl rfl rfl (fun _ => kR) oM lenP) <| q_a rfl rfl <| q_a rfl rfl <| s_n <| tk_seq <| tk_drawH [cel b7 ((rounds R stepsL (sched W 64) i).map W4) 214, cel b2 ((sched W 64).map W4) 422, cel sb (R.map W4 ++ (W.map B ++ ([IN n]))) 217] [] kR <| s_x 0 rfl (y_ixAN 8 1 (o := 0) (i := 0) rfl rfl kR oM) <| s_l 1 rfl (fun _ h => h) (y_load rfl rfl (hc (o := 0) (.head _) (gM (d := 0) lenP))) <| s_x 2 rfl (y_ixAN 8 1 (o := 0) (i := 4) rfl rfl kR oM) <| s_l 3 rfl (fun _ h => h) (y_load rfl rfl (hc (o := 4) (.head _) (gM (d := 0) lenP))) <| s_x 4 rfl (y_assign rfl) <| s_x 5 rfl (y_assign rfl) <| tx_done kR <| tk_then <| tk_seq <| tk_drawH [cel b7 ((rounds R stepsL (sched W 64) i).map W4) 214, cel b2 ((sched W 64).map W4) 422, cel sb (R.map W4 ++ (W.map B ++ ([IN n]))) 217] [] kR <| s_x 0 rfl (y_ixAN 8 1 (o := 0) (i := 7) rfl rfl kR oM) <| s_l 1 rfl (fun _ h => h) (y_load rfl rfl (hc (o := 7) (.head _) (gM (d := 0) lenP))) ?_; refine s_x 2 rfl (y_move rfl) <| s_x 4 rfl (y_move rfl) <| s_x 7 rfl (y_move rfl) <| s_x 11 rfl (y_ixAN 8 1 (o := 0) (i := 6) rfl rfl kR oM) <| s_l 12 rfl (fun _ h => h) (y_load rfl rfl (hc (o := 6) (.head _) (gM (d := 0) lenP))) <| s_x 13 rfl (y_move rfl) <| s_x 14 rfl (y_ixAN 8 1 (o := 0) (i := 5) rfl rfl kR oM) <| s_l 15 rfl (fun _ h => h) (y_load rfl rfl (hc (o := 5) (.head _) (gM (d := 0) lenP))) <| s_x 16 rfl (y_ixAN 8 1 (o := 0) (i := 6) rfl rfl kR oM) <| s_l 17 rfl (fun _ h => h) (y_load rfl rfl (hc (o := 6) (.head _) (gM (d := 0) lenP))) <| s_x 18 rfl (y_xorW (a := (rounds R stepsL (sched W 64) i).getD 5 0) (b := (rounds R stepsL (sched W 64) i).getD 6 0) rfl rfl) <| s_x 19 rfl (y_andW (a := (rounds R stepsL (sched W 64) i).getD 4 0) (b := ((rounds R stepsL (sched W 64) i).getD 5 0) ^^^ ((rounds R stepsL (sched W 64) i).getD 6 0)) rfl rfl) <| s_x 20 rfl (y_xorW (a := (rounds R stepsL (sched W 64) i).getD 6 0) (b := ((rounds R stepsL (sched W 64) i).getD 4 0) &&& (((rounds R stepsL (sched W 64) i).getD 5 0) ^^^ ((rounds R stepsL (sched W 64) i).getD 6 0))) rfl rfl) <| s_x 22 rfl (y_move rfl) <| s_x 23 rfl (y_ixA01 64 (i := i) rfl rfl kR oM) <| s_l 24 rfl (fun _ h => h) (y_load rfl rfl (fun w hw => (Ro.st (p := glob) hg hw).2 _ _ (gM (d := 0) (by rw [stepsL_len]; omega)))) <| s_x 26 rfl (y_move rfl) <| tx_a 3 rfl kR rfl <| a_callv [] _ rfl kR rfl (fun w' hw' => rot_spec ((rounds R stepsL (sched W 64) i).getD 4 0) 6 dC) rfl fun _ _ => tk_S (fun _ h => h) <| tx_a 5 rfl kR rfl <| a_callv [] _ rfl kR rfl (fun w' hw' => rot_spec ((rounds R stepsL (sched W 64) i).getD 4 0) 11 dC) rfl fun _ _ => tk_S (fun _ h => h) <| s_x 6 rfl (y_xorW (a := rr ((rounds R stepsL (sched W 64) i).getD 4 0) 6) (b := rr ((rounds R stepsL (sched W 64) i).getD 4 0) 11) rfl rfl) ?_; refine tx_a 8 rfl kR rfl <| a_callv [] _ rfl kR rfl (fun w' hw' => rot_spec ((rounds R stepsL (sched W 64) i).getD 4 0) 25 dC) rfl fun _ _ => tk_S (fun _ h => h) <| s_x 9 rfl (y_xorW (a := (rr ((rounds R stepsL (sched W 64) i).getD 4 0) 6) ^^^ (rr ((rounds R stepsL (sched W 64) i).getD 4 0) 11)) (b := rr ((rounds R stepsL (sched W 64) i).getD 4 0) 25) rfl rfl) <| s_x 10 rfl (y_addW (a := (rounds R stepsL (sched W 64) i).getD 7 0) (b := ((rr ((rounds R stepsL (sched W 64) i).getD 4 0) 6) ^^^ (rr ((rounds R stepsL (sched W 64) i).getD 4 0) 11)) ^^^ (rr ((rounds R stepsL (sched W 64) i).getD 4 0) 25)) rfl rfl) <| s_x 21 rfl (y_addW (a := ((rounds R stepsL (sched W 64) i).getD 7 0) + (((rr ((rounds R stepsL (sched W 64) i).getD 4 0) 6) ^^^ (rr ((rounds R stepsL (sched W 64) i).getD 4 0) 11)) ^^^ (rr ((rounds R stepsL (sched W 64) i).getD 4 0) 25))) (b := ((rounds R stepsL (sched W 64) i).getD 6 0) ^^^ (((rounds R stepsL (sched W 64) i).getD 4 0) &&& (((rounds R stepsL (sched W 64) i).getD 5 0) ^^^ ((rounds R stepsL (sched W 64) i).getD 6 0)))) rfl rfl) <| s_x 25 rfl (y_addW (a := (((rounds R stepsL (sched W 64) i).getD 7 0) + (((rr ((rounds R stepsL (sched W 64) i).getD 4 0) 6) ^^^ (rr ((rounds R stepsL (sched W 64) i).getD 4 0) 11)) ^^^ (rr ((rounds R stepsL (sched W 64) i).getD 4 0) 25))) + (((rounds R stepsL (sched W 64) i).getD 6 0) ^^^ (((rounds R stepsL (sched W 64) i).getD 4 0) &&& (((rounds R stepsL (sched W 64) i).getD 5 0) ^^^ ((rounds R stepsL (sched W 64) i).getD 6 0))))) (b := stepsL.getD i 0) rfl rfl) <| s_x 27 rfl (y_addW (a := ((((rounds R stepsL (sched W 64) i).getD 7 0) + (((rr ((rounds R stepsL (sched W 64) i).getD 4 0) 6) ^^^ (rr ((rounds R stepsL (sched W 64) i).getD 4 0) 11)) ^^^ (rr ((rounds R stepsL (sched W 64) i).getD 4 0) 25))) + (((rounds R stepsL (sched W 64) i).getD 6 0) ^^^ (((rounds R stepsL (sched W 64) i).getD 4 0) &&& (((rounds R stepsL (sched W 64) i).getD 5 0) ^^^ ((rounds R stepsL (sched W 64) i).getD 6 0))))) + (stepsL.getD i 0)) (b := (sched W 64).getD i 0) rfl rfl) <| s_x 28 rfl (y_assign rfl) <| tx_done kR <| tk_then <| tk_seq <| tk_drawH [cel b7 ((rounds R stepsL (sched W 64) i).map W4) 214, cel b2 ((sched W 64).map W4) 422, cel sb (R.map W4 ++ (W.map B ++ ([IN n]))) 217] [] kR <| s_x 0 rfl (y_move rfl) <| s_x 2 rfl (y_move rfl) <| s_x 5 rfl (y_move rfl) <| s_x 8 rfl (y_move rfl) <| s_x 9 rfl (y_ixAN 8 1 (o := 0) (i := 1) rfl rfl kR oM) <| s_l 10 rfl (fun _ h => h) (y_load rfl rfl (hc (o := 1) (.head _) (gM (d := 0) lenP))) <| s_x 11 rfl (y_andW (a := (rounds R stepsL (sched W 64) i).getD 0 0) (b := (rounds R stepsL (sched W 64) i).getD 1 0) rfl rfl) ?_; refine s_x 12 rfl (y_ixAN 8 1 (o := 0) (i := 2) rfl rfl kR oM) <| s_l 13 rfl (fun _ h => h) (y_load rfl rfl (hc (o := 2) (.head _) (gM (d := 0) lenP))) <| s_x 14 rfl (y_move rfl) <| s_x 15 rfl (y_ixAN 8 1 (o := 0) (i := 1) rfl rfl kR oM) <| s_l 16 rfl (fun _ h => h) (y_load rfl rfl (hc (o := 1) (.head _) (gM (d := 0) lenP))) <| s_x 17 rfl (y_orW (a := (rounds R stepsL (sched W 64) i).getD 0 0) (b := (rounds R stepsL (sched W 64) i).getD 1 0) rfl rfl) <| s_x 18 rfl (y_andW (a := (rounds R stepsL (sched W 64) i).getD 2 0) (b := ((rounds R stepsL (sched W 64) i).getD 0 0) ||| ((rounds R stepsL (sched W 64) i).getD 1 0)) rfl rfl) <| s_x 19 rfl (y_orW (a := ((rounds R stepsL (sched W 64) i).getD 0 0) &&& ((rounds R stepsL (sched W 64) i).getD 1 0)) (b := ((rounds R stepsL (sched W 64) i).getD 2 0) &&& (((rounds R stepsL (sched W 64) i).getD 0 0) ||| ((rounds R stepsL (sched W 64) i).getD 1 0))) rfl rfl) <| tx_a 1 rfl kR rfl <| a_callv [] _ rfl kR rfl (fun w' hw' => rot_spec ((rounds R stepsL (sched W 64) i).getD 0 0) 2 dC) rfl fun _ _ => tk_S (fun _ h => h) <| tx_a 3 rfl kR rfl <| a_callv [] _ rfl kR rfl (fun w' hw' => rot_spec ((rounds R stepsL (sched W 64) i).getD 0 0) 13 dC) rfl fun _ _ => tk_S (fun _ h => h) <| s_x 4 rfl (y_xorW (a := rr ((rounds R stepsL (sched W 64) i).getD 0 0) 2) (b := rr ((rounds R stepsL (sched W 64) i).getD 0 0) 13) rfl rfl) <| tx_a 6 rfl kR rfl <| a_callv [] _ rfl kR rfl (fun w' hw' => rot_spec ((rounds R stepsL (sched W 64) i).getD 0 0) 22 dC) rfl fun _ _ => tk_S (fun _ h => h) <| s_x 7 rfl (y_xorW (a := (rr ((rounds R stepsL (sched W 64) i).getD 0 0) 2) ^^^ (rr ((rounds R stepsL (sched W 64) i).getD 0 0) 13)) (b := rr ((rounds R stepsL (sched W 64) i).getD 0 0) 22) rfl rfl) <| s_x 20 rfl (y_addW (a := ((rr ((rounds R stepsL (sched W 64) i).getD 0 0) 2) ^^^ (rr ((rounds R stepsL (sched W 64) i).getD 0 0) 13)) ^^^ (rr ((rounds R stepsL (sched W 64) i).getD 0 0) 22)) (b := (((rounds R stepsL (sched W 64) i).getD 0 0) &&& ((rounds R stepsL (sched W 64) i).getD 1 0)) ||| (((rounds R stepsL (sched W 64) i).getD 2 0) &&& (((rounds R stepsL (sched W 64) i).getD 0 0) ||| ((rounds R stepsL (sched W 64) i).getD 1 0)))) rfl rfl) <| s_x 21 rfl (y_assign rfl) <| tx_done kR <| tk_then <| tk_seq ?_; refine tk_drawH [cel b2 ((sched W 64).map W4) 422, cel sb (R.map W4 ++ (W.map B ++ ([IN n]))) 217] [] kR <| s_x 0 rfl (y_cutAlN1 (o := 0) 8 1 1 rfl rfl kR ⟨rfl, oM⟩) <| s_x 1 rfl (y_cutAhN (o := 0) 8 1 7 rfl rfl kR ⟨rfl, oM⟩) <| tx_a 2 rfl kR rfl <| a_copyR (H1 := []) (pre := ((rounds R stepsL (sched W 64) i).take 1).map W4) (mid := ((rounds R stepsL (sched W 64) i).drop 1).map W4) (post := []) (vs := ((rounds R stepsL (sched W 64) i).take 7).map W4) (us := ((rounds R stepsL (sched W 64) i).take 7).map W4) (cs' := ((rounds R stepsL (sched W 64) i).take 1 ++ (rounds R stepsL (sched W 64) i).take 7).map W4) (m := 7) rfl rfl rfl kR rfl rfl (fun w hw => cel_rdE (o := 0) (vs := ((rounds R stepsL (sched W 64) i).take 7).map W4) (hw.mem (.head _)) (by rw [List.drop_zero, List.length_map, List.length_take, hv, List.map_take]; rfl) (by simp [hv]) oM) (by simp [hv]) (by rw [← List.map_take, List.take_take]; rfl) oneW ⟨by simp [hv], by simp [hv]⟩ (by rw [List.append_nil, ← List.map_append, List.take_append_drop]) (by rw [List.append_nil, ← List.map_append]) <| tk_S (fun _ h => kD 1 rfl h) <| tx_done kR <| tk_then <| s_r <| q_m rfl rfl <| q_m rfl rfl <| s_q rfl (y_addW (a := (((((rounds R stepsL (sched W 64) i).getD 7 0) + (((rr ((rounds R stepsL (sched W 64) i).getD 4 0) 6) ^^^ (rr ((rounds R stepsL (sched W 64) i).getD 4 0) 11)) ^^^ (rr ((rounds R stepsL (sched W 64) i).getD 4 0) 25))) + (((rounds R stepsL (sched W 64) i).getD 6 0) ^^^ (((rounds R stepsL (sched W 64) i).getD 4 0) &&& (((rounds R stepsL (sched W 64) i).getD 5 0) ^^^ ((rounds R stepsL (sched W 64) i).getD 6 0))))) + (stepsL.getD i 0)) + ((sched W 64).getD i 0)) (b := (((rr ((rounds R stepsL (sched W 64) i).getD 0 0) 2) ^^^ (rr ((rounds R stepsL (sched W 64) i).getD 0 0) 13)) ^^^ (rr ((rounds R stepsL (sched W 64) i).getD 0 0) 22)) + ((((rounds R stepsL (sched W 64) i).getD 0 0) &&& ((rounds R stepsL (sched W 64) i).getD 1 0)) ||| (((rounds R stepsL (sched W 64) i).getD 2 0) &&& (((rounds R stepsL (sched W 64) i).getD 0 0) ||| ((rounds R stepsL (sched W 64) i).getD 1 0))))) rfl rfl) <| s_q rfl (y_ixAN 8 1 (o := 0) (i := 0) rfl rfl kR oM) <| tk_act rfl <| a_storeE (H1 := []) (o := 0) (v := W4 (((((((rounds R stepsL (sched W 64) i).getD 7 0) + (((rr ((rounds R stepsL (sched W 64) i).getD 4 0) 6) ^^^ (rr ((rounds R stepsL (sched W 64) i).getD 4 0) 11)) ^^^ (rr ((rounds R stepsL (sched W 64) i).getD 4 0) 25))) + (((rounds R stepsL (sched W 64) i).getD 6 0) ^^^ (((rounds R stepsL (sched W 64) i).getD 4 0) &&& (((rounds R stepsL (sched W 64) i).getD 5 0) ^^^ ((rounds R stepsL (sched W 64) i).getD 6 0))))) + (stepsL.getD i 0)) + ((sched W 64).getD i 0)) + ((((rr ((rounds R stepsL (sched W 64) i).getD 0 0) 2) ^^^ (rr ((rounds R stepsL (sched W 64) i).getD 0 0) 13)) ^^^ (rr ((rounds R stepsL (sched W 64) i).getD 0 0) 22)) + ((((rounds R stepsL (sched W 64) i).getD 0 0) &&& ((rounds R stepsL (sched W 64) i).getD 1 0)) ||| (((rounds R stepsL (sched W 64) i).getD 2 0) &&& (((rounds R stepsL (sched W 64) i).getD 0 0) ||| ((rounds R stepsL (sched W 64) i).getD 1 0))))))) (cs' := (((rounds R stepsL (sched W 64) i).take 1 ++ (rounds R stepsL (sched W 64) i).take 7).set 0 (((((((rounds R stepsL (sched W 64) i).getD 7 0) + (((rr ((rounds R stepsL (sched W 64) i).getD 4 0) 6) ^^^ (rr ((rounds R stepsL (sched W 64) i).getD 4 0) 11)) ^^^ (rr ((rounds R stepsL (sched W 64) i).getD 4 0) 25))) + (((rounds R stepsL (sched W 64) i).getD 6 0) ^^^ (((rounds R stepsL (sched W 64) i).getD 4 0) &&& (((rounds R stepsL (sched W 64) i).getD 5 0) ^^^ ((rounds R stepsL (sched W 64) i).getD 6 0))))) + (stepsL.getD i 0)) + ((sched W 64).getD i 0)) + ((((rr ((rounds R stepsL (sched W 64) i).getD 0 0) 2) ^^^ (rr ((rounds R stepsL (sched W 64) i).getD 0 0) 13)) ^^^ (rr ((rounds R stepsL (sched W 64) i).getD 0 0) 22)) + ((((rounds R stepsL (sched W 64) i).getD 0 0) &&& ((rounds R stepsL (sched W 64) i).getD 1 0)) ||| (((rounds R stepsL (sched W 64) i).getD 2 0) &&& (((rounds R stepsL (sched W 64) i).getD 0 0) ||| ((rounds R stepsL (sched W 64) i).getD 1 0))))))).map W4) rfl rfl kR rfl rfl sW (sM) ?_; refine s_n <| tk_region <| s_q rfl (y_ixAN 8 1 (o := 0) (i := 4) rfl rfl kR oM) <| s_q rfl (y_load rfl rfl (hc (o := 4) (.head _) (gM (d := 0) lenP))) <| q_m rfl rfl <| s_q rfl (y_addW (a := (((rounds R stepsL (sched W 64) i).take 1 ++ (rounds R stepsL (sched W 64) i).take 7).set 0 (((((((rounds R stepsL (sched W 64) i).getD 7 0) + (((rr ((rounds R stepsL (sched W 64) i).getD 4 0) 6) ^^^ (rr ((rounds R stepsL (sched W 64) i).getD 4 0) 11)) ^^^ (rr ((rounds R stepsL (sched W 64) i).getD 4 0) 25))) + (((rounds R stepsL (sched W 64) i).getD 6 0) ^^^ (((rounds R stepsL (sched W 64) i).getD 4 0) &&& (((rounds R stepsL (sched W 64) i).getD 5 0) ^^^ ((rounds R stepsL (sched W 64) i).getD 6 0))))) + (stepsL.getD i 0)) + ((sched W 64).getD i 0)) + ((((rr ((rounds R stepsL (sched W 64) i).getD 0 0) 2) ^^^ (rr ((rounds R stepsL (sched W 64) i).getD 0 0) 13)) ^^^ (rr ((rounds R stepsL (sched W 64) i).getD 0 0) 22)) + ((((rounds R stepsL (sched W 64) i).getD 0 0) &&& ((rounds R stepsL (sched W 64) i).getD 1 0)) ||| (((rounds R stepsL (sched W 64) i).getD 2 0) &&& (((rounds R stepsL (sched W 64) i).getD 0 0) ||| ((rounds R stepsL (sched W 64) i).getD 1 0))))))).getD 4 0) (b := (((((rounds R stepsL (sched W 64) i).getD 7 0) + (((rr ((rounds R stepsL (sched W 64) i).getD 4 0) 6) ^^^ (rr ((rounds R stepsL (sched W 64) i).getD 4 0) 11)) ^^^ (rr ((rounds R stepsL (sched W 64) i).getD 4 0) 25))) + (((rounds R stepsL (sched W 64) i).getD 6 0) ^^^ (((rounds R stepsL (sched W 64) i).getD 4 0) &&& (((rounds R stepsL (sched W 64) i).getD 5 0) ^^^ ((rounds R stepsL (sched W 64) i).getD 6 0))))) + (stepsL.getD i 0)) + ((sched W 64).getD i 0)) rfl rfl) <| s_q rfl (y_ixAN 8 1 (o := 0) (i := 4) rfl rfl kR oM) <| tk_act rfl <| a_storeE (H1 := []) (o := 4) (v := W4 (((((rounds R stepsL (sched W 64) i).take 1 ++ (rounds R stepsL (sched W 64) i).take 7).set 0 (((((((rounds R stepsL (sched W 64) i).getD 7 0) + (((rr ((rounds R stepsL (sched W 64) i).getD 4 0) 6) ^^^ (rr ((rounds R stepsL (sched W 64) i).getD 4 0) 11)) ^^^ (rr ((rounds R stepsL (sched W 64) i).getD 4 0) 25))) + (((rounds R stepsL (sched W 64) i).getD 6 0) ^^^ (((rounds R stepsL (sched W 64) i).getD 4 0) &&& (((rounds R stepsL (sched W 64) i).getD 5 0) ^^^ ((rounds R stepsL (sched W 64) i).getD 6 0))))) + (stepsL.getD i 0)) + ((sched W 64).getD i 0)) + ((((rr ((rounds R stepsL (sched W 64) i).getD 0 0) 2) ^^^ (rr ((rounds R stepsL (sched W 64) i).getD 0 0) 13)) ^^^ (rr ((rounds R stepsL (sched W 64) i).getD 0 0) 22)) + ((((rounds R stepsL (sched W 64) i).getD 0 0) &&& ((rounds R stepsL (sched W 64) i).getD 1 0)) ||| (((rounds R stepsL (sched W 64) i).getD 2 0) &&& (((rounds R stepsL (sched W 64) i).getD 0 0) ||| ((rounds R stepsL (sched W 64) i).getD 1 0))))))).getD 4 0) + ((((((rounds R stepsL (sched W 64) i).getD 7 0) + (((rr ((rounds R stepsL (sched W 64) i).getD 4 0) 6) ^^^ (rr ((rounds R stepsL (sched W 64) i).getD 4 0) 11)) ^^^ (rr ((rounds R stepsL (sched W 64) i).getD 4 0) 25))) + (((rounds R stepsL (sched W 64) i).getD 6 0) ^^^ (((rounds R stepsL (sched W 64) i).getD 4 0) &&& (((rounds R stepsL (sched W 64) i).getD 5 0) ^^^ ((rounds R stepsL (sched W 64) i).getD 6 0))))) + (stepsL.getD i 0)) + ((sched W 64).getD i 0)))) (cs' := ((((rounds R stepsL (sched W 64) i).take 1 ++ (rounds R stepsL (sched W 64) i).take 7).set 0 (((((((rounds R stepsL (sched W 64) i).getD 7 0) + (((rr ((rounds R stepsL (sched W 64) i).getD 4 0) 6) ^^^ (rr ((rounds R stepsL (sched W 64) i).getD 4 0) 11)) ^^^ (rr ((rounds R stepsL (sched W 64) i).getD 4 0) 25))) + (((rounds R stepsL (sched W 64) i).getD 6 0) ^^^ (((rounds R stepsL (sched W 64) i).getD 4 0) &&& (((rounds R stepsL (sched W 64) i).getD 5 0) ^^^ ((rounds R stepsL (sched W 64) i).getD 6 0))))) + (stepsL.getD i 0)) + ((sched W 64).getD i 0)) + ((((rr ((rounds R stepsL (sched W 64) i).getD 0 0) 2) ^^^ (rr ((rounds R stepsL (sched W 64) i).getD 0 0) 13)) ^^^ (rr ((rounds R stepsL (sched W 64) i).getD 0 0) 22)) + ((((rounds R stepsL (sched W 64) i).getD 0 0) &&& ((rounds R stepsL (sched W 64) i).getD 1 0)) ||| (((rounds R stepsL (sched W 64) i).getD 2 0) &&& (((rounds R stepsL (sched W 64) i).getD 0 0) ||| ((rounds R stepsL (sched W 64) i).getD 1 0))))))).set 4 (((((rounds R stepsL (sched W 64) i).take 1 ++ (rounds R stepsL (sched W 64) i).take 7).set 0 (((((((rounds R stepsL (sched W 64) i).getD 7 0) + (((rr ((rounds R stepsL (sched W 64) i).getD 4 0) 6) ^^^ (rr ((rounds R stepsL (sched W 64) i).getD 4 0) 11)) ^^^ (rr ((rounds R stepsL (sched W 64) i).getD 4 0) 25))) + (((rounds R stepsL (sched W 64) i).getD 6 0) ^^^ (((rounds R stepsL (sched W 64) i).getD 4 0) &&& (((rounds R stepsL (sched W 64) i).getD 5 0) ^^^ ((rounds R stepsL (sched W 64) i).getD 6 0))))) + (stepsL.getD i 0)) + ((sched W 64).getD i 0)) + ((((rr ((rounds R stepsL (sched W 64) i).getD 0 0) 2) ^^^ (rr ((rounds R stepsL (sched W 64) i).getD 0 0) 13)) ^^^ (rr ((rounds R stepsL (sched W 64) i).getD 0 0) 22)) + ((((rounds R stepsL (sched W 64) i).getD 0 0) &&& ((rounds R stepsL (sched W 64) i).getD 1 0)) ||| (((rounds R stepsL (sched W 64) i).getD 2 0) &&& (((rounds R stepsL (sched W 64) i).getD 0 0) ||| ((rounds R stepsL (sched W 64) i).getD 1 0))))))).getD 4 0) + ((((((rounds R stepsL (sched W 64) i).getD 7 0) + (((rr ((rounds R stepsL (sched W 64) i).getD 4 0) 6) ^^^ (rr ((rounds R stepsL (sched W 64) i).getD 4 0) 11)) ^^^ (rr ((rounds R stepsL (sched W 64) i).getD 4 0) 25))) + (((rounds R stepsL (sched W 64) i).getD 6 0) ^^^ (((rounds R stepsL (sched W 64) i).getD 4 0) &&& (((rounds R stepsL (sched W 64) i).getD 5 0) ^^^ ((rounds R stepsL (sched W 64) i).getD 6 0))))) + (stepsL.getD i 0)) + ((sched W 64).getD i 0)))).map W4) rfl rfl kR rfl rfl sW (sM) ?_; refine tk_nil <| tk_in_normal <| tk_then <| tk_region <| s_q rfl (y_addN (a := i) (b := 1) rfl rfl oM) <| q_m rfl rfl <| tk_nil <| tk_R (H1 := []) rfl (congrArg (fun z_ => cel b7 z_ 214) (show ((((rounds R stepsL (sched W 64) i).take 1 ++ (rounds R stepsL (sched W 64) i).take 7).set 0 (((((((rounds R stepsL (sched W 64) i).getD 7 0) + (((rr ((rounds R stepsL (sched W 64) i).getD 4 0) 6) ^^^ (rr ((rounds R stepsL (sched W 64) i).getD 4 0) 11)) ^^^ (rr ((rounds R stepsL (sched W 64) i).getD 4 0) 25))) + (((rounds R stepsL (sched W 64) i).getD 6 0) ^^^ (((rounds R stepsL (sched W 64) i).getD 4 0) &&& (((rounds R stepsL (sched W 64) i).getD 5 0) ^^^ ((rounds R stepsL (sched W 64) i).getD 6 0))))) + (stepsL.getD i 0)) + ((sched W 64).getD i 0)) + ((((rr ((rounds R stepsL (sched W 64) i).getD 0 0) 2) ^^^ (rr ((rounds R stepsL (sched W 64) i).getD 0 0) 13)) ^^^ (rr ((rounds R stepsL (sched W 64) i).getD 0 0) 22)) + ((((rounds R stepsL (sched W 64) i).getD 0 0) &&& ((rounds R stepsL (sched W 64) i).getD 1 0)) ||| (((rounds R stepsL (sched W 64) i).getD 2 0) &&& (((rounds R stepsL (sched W 64) i).getD 0 0) ||| ((rounds R stepsL (sched W 64) i).getD 1 0))))))).set 4 (((((rounds R stepsL (sched W 64) i).take 1 ++ (rounds R stepsL (sched W 64) i).take 7).set 0 (((((((rounds R stepsL (sched W 64) i).getD 7 0) + (((rr ((rounds R stepsL (sched W 64) i).getD 4 0) 6) ^^^ (rr ((rounds R stepsL (sched W 64) i).getD 4 0) 11)) ^^^ (rr ((rounds R stepsL (sched W 64) i).getD 4 0) 25))) + (((rounds R stepsL (sched W 64) i).getD 6 0) ^^^ (((rounds R stepsL (sched W 64) i).getD 4 0) &&& (((rounds R stepsL (sched W 64) i).getD 5 0) ^^^ ((rounds R stepsL (sched W 64) i).getD 6 0))))) + (stepsL.getD i 0)) + ((sched W 64).getD i 0)) + ((((rr ((rounds R stepsL (sched W 64) i).getD 0 0) 2) ^^^ (rr ((rounds R stepsL (sched W 64) i).getD 0 0) 13)) ^^^ (rr ((rounds R stepsL (sched W 64) i).getD 0 0) 22)) + ((((rounds R stepsL (sched W 64) i).getD 0 0) &&& ((rounds R stepsL (sched W 64) i).getD 1 0)) ||| (((rounds R stepsL (sched W 64) i).getD 2 0) &&& (((rounds R stepsL (sched W 64) i).getD 0 0) ||| ((rounds R stepsL (sched W 64) i).getD 1 0))))))).getD 4 0) + ((((((rounds R stepsL (sched W 64) i).getD 7 0) + (((rr ((rounds R stepsL (sched W 64) i).getD 4 0) 6) ^^^ (rr ((rounds R stepsL (sched W 64) i).getD 4 0) 11)) ^^^ (rr ((rounds R stepsL (sched W 64) i).getD 4 0) 25))) + (((rounds R stepsL (sched W 64) i).getD 6 0) ^^^ (((rounds R stepsL (sched W 64) i).getD 4 0) &&& (((rounds R stepsL (sched W 64) i).getD 5 0) ^^^ ((rounds R stepsL (sched W 64) i).getD 6 0))))) + (stepsL.getD i 0)) + ((sched W 64).getD i 0)))).map W4 = (rounds R stepsL (sched W 64) (i + 1)).map W4 from congrArg (List.map W4) ((rstep_prog (rounds_len hR i) (stepsL.getD i 0) ((sched W 64).getD i 0) rfl rfl).trans rounds_succ.symm))) ?_; exact tk_again (i + 1) (by first | exact trivial | omega | (dsimp only; omega)) (by first | omega | (dsimp only; omega)) sB (List.Sublist.refl _)
    · refine tk_R (H1 := []) rfl (congrArg (fun z_ => cel b7 z_ 214) (show (rounds R stepsL (sched W 64) i).map W4 = (rounds R stepsL (sched W 64) 64).map W4 from by rw [show i = 64 by omega])) <| tk_exit <| tk_then_exit <| tk_then_exit <| tk_in_hit <| tk_then <| s_r <| q_m rfl rfl <| s_n <| tk_block <| tk_R (H1 := [_, _]) rfl (congrArg (fun z_ => cel sb z_ 217) (show R.map W4 ++ (W.map B ++ ([IN n])) = (addI R (rounds R stepsL (sched W 64) 64) 0).map W4 ++ (W.map B ++ ([IN n])) from by rw [addI_0 hR])) <| tk_loop (X := Nat) (fun i => i ≤ 8) (fun i => [(0, PT sb), (7, PT b7), (163, IN i)]) (fun i => [cel b7 ((rounds R stepsL (sched W 64) 64).map W4) 214, cel b2 ((sched W 64).map W4) 422, cel sb ((addI R (rounds R stepsL (sched W 64) 64) i).map W4 ++ (W.map B ++ ([IN n]))) 217]) (fun i => 8 - i) (0) (by first | exact trivial | omega | (dsimp only; omega)) sB ((List.Sublist.refl _)) ?_
      rintro i hI
      try dsimp only at hI ⊢
      have hv : (rounds R stepsL (sched W 64) 64).length = 8 := rounds_len hR 64
      have ha : (addI R (rounds R stepsL (sched W 64) 64) i).length = 8 := addI_len
      refine s_r <| s_q rfl (y_lss rfl rfl) <| s_n <| tk_seq <| tk_condP rfl (fun ht164 => ?_) (fun ht164 => ?_)
      · refine tk_skip <| tk_then <| tk_seq <| tk_block <| s_r <| q_m rfl rfl <| q_a rfl rfl <| s_n <| tk_drawH [cel b7 ((rounds R stepsL (sched W 64) 64).map W4) 214, cel b2 ((sched W 64).map W4) 422, cel sb ((addI R (rounds R stepsL (sched W 64) 64) i).map W4 ++ (W.map B ++ ([IN n]))) 217] [13] kR <| s_x 0 rfl (y_move rfl) <| s_x 1 rfl (y_move rfl) <| s_x 2 rfl (y_nilCheck rfl) <| s_x 3 rfl (y_fld0 (o := 0) rfl kR) <| s_x 4 rfl (y_ixA01 8 (i := i) rfl rfl kR oM) <| s_l 5 rfl (fun _ h => h) (y_load rfl rfl (hc (o := i) (mm 2 rfl) (gM1 (d := 0) lenP))) <| s_x 6 rfl (y_move rfl) <| s_x 7 rfl (y_ixA01 8 (i := i) rfl rfl kR oM) <| s_l 8 rfl (fun _ h => h) (y_load rfl rfl (hc (o := i) (.head _) (gM (d := 0) lenP))) <| s_x 9 rfl (y_addW (a := (addI R (rounds R stepsL (sched W 64) 64) i).getD i 0) (b := (rounds R stepsL (sched W 64) 64).getD i 0) rfl rfl) <| s_x 10 rfl (y_nilCheck rfl) <| s_x 11 rfl (y_fld0 (o := 0) rfl kR) <| s_x 12 rfl (y_ixA01 8 (i := i) rfl rfl kR oM) <| tx_x 13 rfl kR rfl rfl <| a_storeE (H1 := [_, _]) (o := i) (v := W4 (((addI R (rounds R stepsL (sched W 64) 64) i).getD i 0) + ((rounds R stepsL (sched W 64) 64).getD i 0))) (cs' := ((addI R (rounds R stepsL (sched W 64) 64) i).set i (((addI R (rounds R stepsL (sched W 64) 64) i).getD i 0) + ((rounds R stepsL (sched W 64) 64).getD i 0))).map W4 ++ (W.map B ++ ([IN n]))) rfl rfl kR rfl rfl sW (sM1 lenP) ?_; exact tx_done kR <| tk_in_normal <| tk_then <| tk_region <| s_q rfl (y_addN (a := i) (b := 1) rfl rfl oM) <| q_m rfl rfl <| tk_nil <| tk_R (H1 := [_, _]) rfl (congrArg (fun z_ => cel sb z_ 217) (show ((addI R (rounds R stepsL (sched W 64) 64) i).set i (((addI R (rounds R stepsL (sched W 64) 64) i).getD i 0) + ((rounds R stepsL (sched W 64) 64).getD i 0))).map W4 ++ (W.map B ++ ([IN n])) = (addI R (rounds R stepsL (sched W 64) 64) (i + 1)).map W4 ++ (W.map B ++ ([IN n])) from by rw [addI_set oM])) <| tk_again (i + 1) (by first | exact trivial | omega | (dsimp only; omega)) (by first | omega | (dsimp only; omega)) sB (List.Sublist.refl _)
      · exact tk_R (H1 := [_, _]) rfl (congrArg (fun z_ => cel sb z_ 217) (show (addI R (rounds R stepsL (sched W 64) 64) i).map W4 ++ (W.map B ++ ([IN n])) = (blockF R W).map W4 ++ (W.map B ++ ([IN n])) from by rw [show i = 8 by omega, blockF])) <| tk_exit <| tk_then_exit <| tk_then_exit <| tk_in_hit <| tk_ret (()) (trivial) (.inr rfl) (r0 rfl) (.cons _ (.cons _ (List.Sublist.refl _)))
theorem take_spec {sb n : Nat} {R : List UInt32} {W l m : List UInt8} {v : Value} {w : World} (hS : SI l R W) (hv : Ro (Fs [cel sb (R.map W4 ++ (W.map B ++ [IN n])) 217]) w (rdB v m)) (hn : n = l.length) (hb : l.length + m.length < 1152921504606846976)
    (hg : Ro (Fs [cel sb (R.map W4 ++ (W.map B ++ [IN n])) 217]) w glob) (hh : Pre w [cel sb (R.map W4 ++ (W.map B ++ [IN n])) 217]) :
    Spec Tryz.prog 108 [PT sb, v] w [cel sb (R.map W4 ++ (W.map B ++ [IN n])) 217] (fun x : List UInt32 × List UInt8 => SI (l ++ m) x.1 x.2) (fun _ => .tuple #[])
      (fun x => [cel sb (x.1.map W4 ++ (x.2.map B ++ [I ((l.length + m.length : Nat) : Int)])) 217]) := by
  refine spec_of (n := 38) Tryz.func108 rfl rfl hh.1 hh.2 rfl ?_
  subst hn
  have hR80 := hS.1
  have hW640 := hS.2.1
  refine s_r <| q_m rfl rfl <| s_q rfl (y_lenRN (n' := m.length) rfl hv.1 rfl (by first | rfl | (rw [List.length_map]; omega) | simp)) <| q_m rfl rfl <| s_n <| tk_block <| tk_loop (X := Nat × List UInt32 × List UInt8) (fun (j, Rj, Wj) => j ≤ m.length ∧ SI (l ++ m.take j) Rj Wj) (fun (j, Rj, Wj) => [(0, PT sb), (6, v), (7, IN m.length), (8, IN j)]) (fun (j, Rj, Wj) => [cel sb (Rj.map W4 ++ (Wj.map B ++ ([I ((l.length + j : Nat) : Int)]))) 217]) (fun (j, Rj, Wj) => m.length - j) ((0, R, W)) (by dsimp only; exact ⟨Nat.zero_le _, by rw [List.take_zero, List.append_nil]; exact hS⟩) sB ((List.Sublist.refl _)) ?_
  rintro ⟨j, Rj, Wj⟩ hI
  try dsimp only at hI ⊢
  have hR8 := hI.2.1
  have hW64 := hI.2.2.1
  have hwv := hv.1
  refine s_r <| s_q rfl (y_lss rfl rfl) <| s_n <| tk_seq <| tk_condP rfl (fun ht9 => ?_) (fun ht9 => ?_)
  · refine tk_skip <| tk_then <| tk_seq <| tk_block <| s_r <| s_q rfl (y_ixR (j := j) rfl rfl hv.1 lenP kR) <| s_q rfl (y_load rfl rfl (fun w hw => ((fun w hw => Ro.rd hv hw) w hw).cell (gM (d := 0) lenP))) <| q_a rfl rfl <| s_n <| tk_seq <| tk_drawH [cel sb (Rj.map W4 ++ (Wj.map B ++ ([I ((l.length + j : Nat) : Int)]))) 217] [10] kR <| s_x 0 rfl (y_move rfl) <| s_x 1 rfl (y_move rfl) <| s_x 2 rfl (y_nilCheck rfl) <| s_x 3 rfl (y_fldN (o := 0) 72 rfl kR) <| s_l 4 rfl (fun _ h => h) (y_load rfl rfl (hc (o := 72) (.head _) (gA (k := 8) (i := 64) lenP oM (gA (k := 64) (i := 0) lenP oM (rfl))))) <| s_x 5 rfl (y_remN (a := l.length + j) (b := 64) rfl rfl oM) <| s_x 6 rfl (y_move rfl) <| s_x 7 rfl (y_nilCheck rfl) <| s_x 8 rfl (y_fldN (o := 0) 8 rfl kR) <| s_x 9 rfl (y_ixAN1 64 (o := 8) (i := (l.length + j) % 64) rfl rfl kR oM) <| tx_x 10 rfl kR rfl rfl <| a_storeE (H1 := []) (o := 8 + (l.length + j) % 64) (v := B (m.getD j 0)) (cs' := Rj.map W4 ++ ((Wj.set ((l.length + j) % 64) (m.getD j 0)).map B ++ ([I ((l.length + j : Nat) : Int)]))) rfl rfl kR rfl rfl sW (sA (k := 8) (i := (l.length + j) % 64) lenP oM (sM1 lenP)) <| tx_done kR ?_; refine tk_then <| s_r <| q_m rfl rfl <| s_q rfl (y_nilCheck rfl) <| s_q rfl (y_fldN (o := 0) 72 rfl kR) <| s_q rfl (y_load rfl rfl (hc (o := 72) (.head _) (gA (k := 8) (i := 64) lenP oM (gA (k := 64) (i := 0) lenP oM (rfl))))) <| s_q rfl (y_addN (a := l.length + j) (b := 1) rfl rfl oM) <| s_q rfl (y_nilCheck rfl) <| s_q rfl (y_fldN (o := 0) 72 rfl kR) <| tk_act rfl <| a_storeE (H1 := []) (o := 72) (v := I (((l.length + j) + 1 : Nat) : Int)) (cs' := Rj.map W4 ++ ((Wj.set ((l.length + j) % 64) (m.getD j 0)).map B ++ ([I (((l.length + j) + 1 : Nat) : Int)]))) rfl rfl kR rfl rfl sW (sA (k := 8) (i := 64) lenP oM (sA (k := 64) (i := 0) lenP oM (rfl))) <| s_n <| s_r <| q_m rfl rfl <| s_q rfl (y_nilCheck rfl) <| s_q rfl (y_fldN (o := 0) 72 rfl kR) <| s_q rfl (y_load rfl rfl (hc (o := 72) (.head _) (gA (k := 8) (i := 64) lenP oM (gA (k := 64) (i := 0) lenP oM (rfl))))) <| s_q rfl (y_remN (a := (l.length + j) + 1) (b := 64) rfl rfl oM) <| s_q rfl (y_eql rfl rfl) <| s_n <| tk_condP rfl (fun ht34 => ?_) (fun ht34 => ?_)
    · exact tk_region <| q_m rfl rfl <| tk_act rfl <| a_callv [] _ rfl kR rfl (fun w' hw' => turn_spec (R := Rj) (W := Wj.set ((l.length + j) % 64) (m.getD j 0)) (n := (l.length + j) + 1) lenP lenP (hg.call hw') (St.pre hw')) rfl fun _ _ => tk_nil <| tk_in_normal <| tk_then <| tk_region <| s_q rfl (y_addN (a := j) (b := 1) rfl rfl oM) <| q_m rfl rfl <| tk_nil <| tk_again ((j + 1, blockF Rj (Wj.set ((l.length + j) % 64) (m.getD j 0)), Wj.set ((l.length + j) % 64) (m.getD j 0))) (⟨by omega, SI_twrap hI.2 oM oM⟩) (by first | omega | (dsimp only; omega)) sB (List.Sublist.refl _)
    · exact tk_skip <| tk_in_normal <| tk_then <| tk_region <| s_q rfl (y_addN (a := j) (b := 1) rfl rfl oM) <| q_m rfl rfl <| tk_nil <| tk_again ((j + 1, Rj, Wj.set ((l.length + j) % 64) (m.getD j 0))) (⟨by omega, SI_tpush hI.2 oM oM⟩) (by first | omega | (dsimp only; omega)) sB (List.Sublist.refl _)
  · exact tk_exit <| tk_then_exit <| tk_then_exit <| tk_in_hit <| tk_R (H1 := []) rfl (congrArg (fun z_ => cel sb z_ 217) (show Rj.map W4 ++ (Wj.map B ++ ([I ((l.length + j : Nat) : Int)])) = Rj.map W4 ++ (Wj.map B ++ ([I ((l.length + m.length : Nat) : Int)])) from by rw [show j = m.length by omega])) <| tk_ret ((Rj, Wj)) (by have e : j = m.length := oM; have h := hI.2; rw [e, List.take_length] at h; exact h) (.inr rfl) (r0 rfl) (List.Sublist.refl _)
end Go.Proofs.YtnhpghhibcdklaaGreatDoor
set_option linter.unusedSimpArgs false
set_option linter.unusedVariables false
namespace Go.Proofs.YtnhpghhibcdklaaGreatDoor
open Go Go.RowKit
set_option maxRecDepth 100000
attribute [local irreducible] sumL outB keyedL hmKey xorPad xorI takeZ blockF len8 zc
theorem take_snocG {α : Type} {m : List α} {j : Nat} {d : α} (h : j < m.length) : m.take (j + 1) = m.take j ++ [m.getD j d] := by
  rw [List.take_add_one, List.getD_eq_getElem?_getD]; simp [h]
theorem flat_snoc {ps : List Sb} {j : Nat} {d : Sb} (h : j < ps.length) : (ps.take (j + 1)).flatMap Prod.snd = (ps.take j).flatMap Prod.snd ++ (ps.getD j d).2 := by
  rw [take_snocG (d := d) h, List.flatMap_append]; simp
theorem flat_le {ps : List Sb} {i : Nat} (h : i < ps.length) : ((ps.take i).flatMap Prod.snd).length + (ps.getD i dP).2.length ≤ (ps.flatMap Prod.snd).length := by
  have e : ps.flatMap Prod.snd = (ps.take (i + 1)).flatMap Prod.snd ++ (ps.drop (i + 1)).flatMap Prod.snd := by rw [← List.flatMap_append, List.take_append_drop]
  rw [e, flat_snoc (d := dP) h]; simp
theorem same_end {ps : List Sb} {l : List UInt8} {j : Nat} {e : UInt8} (h : e = 0 ↔ ∀ p ∈ ps.take j, p.2 = l) (hj : j = ps.length ∨ ps.length ≤ j) : ((e.toNat : Int) = 0) ↔ ∀ p ∈ ps, p.2 = l := by
  rw [List.take_of_length_le oM] at h
  rw [← h]
  constructor
  · intro h0; exact UInt8.toNat.inj (by simpa using h0)
  · rintro rfl; rfl
theorem end_spec {sb n : Nat} {R : List UInt32} {W l : List UInt8} {w : World} (hS : SI l R W) (hn : n = l.length) (hb : l.length < 1152921504606846000) (hg : Ro (Fs [cel sb (R.map W4 ++ (W.map B ++ [IN n])) 217]) w glob)
    (hh : Pre w [cel sb (R.map W4 ++ (W.map B ++ [IN n])) 217]) :
    Spec Tryz.prog 109 [PT sb] w [cel sb (R.map W4 ++ (W.map B ++ [IN n])) 217] (fun _ : Unit => True) (fun _ => Ag (sumL l)) (fun _ => []) := by
  refine spec_of (n := 56) Tryz.func109 rfl rfl hh.1 hh.2 rfl ?_
  subst hn
  have hR8 := hS.1
  have hW8 := hS.2.1
  refine s_r <| tk_act rfl <| a_allocL (cs := (List.replicate 32 0).map B) kR rfl fun b2 => s_n <| s_r <| q_m rfl rfl <| s_q rfl (y_nilCheck rfl) <| s_q rfl (y_fldN (o := 0) 72 rfl kR) <| s_q rfl (y_load rfl rfl (hc (o := 72) (mm 1 rfl) (gA (k := 8) (i := 64) lenP oM (gA (k := 64) (i := 0) lenP oM (rfl))))) <| s_q rfl (y_convi64 (m := l.length) rfl rfl rfl (wrap_u64 oM)) <| s_q rfl (y_shlU (a := l.length) (m := 3) rfl rfl dC oM) <| q_a rfl rfl <| s_n <| s_r <| q_m rfl rfl <| tk_act rfl <| a_slitN (vs := [B 128]) rfl (List.forall_mem_cons.2 ⟨rfl, (fun _ h => nomatch h)⟩) (EL64) rfl rfl dC fun b14 => tk_act rfl <| tk_ps [2] rfl <| a_callv [] _ rfl kR rfl (fun w' hw' => take_spec (l := l) (m := [128]) (n := l.length) hS (Ro.cel (b := b14) (o := 0) (m := 1) (cp := 1) (vs := [128].map B) hw' (.head _) (rfl) lQ lenP) lenP lenP (hg.call hw') (St.pre hw')) rfl fun ⟨R0, W0⟩ hS0 => ?_
  dsimp only at hS0 ⊢
  refine s_n <| tk_seq <| tk_block <| tk_R (H1 := []) rfl (congrArg (fun z_ => cel sb z_ 217) (show R0.map W4 ++ (W0.map B ++ ([I ((l.length + [128].length : Nat) : Int)])) = R0.map W4 ++ (W0.map B ++ ([I ((l.length + 1 + 0 : Nat) : Int)])) from by simp)) <| tk_loop (X := Nat × List UInt32 × List UInt8) (fun (j, Rj, Wj) => j ≤ zc l.length ∧ SI (l ++ [128] ++ List.replicate j 0) Rj Wj) (fun (j, Rj, Wj) => [(0, PT sb), (2, PT b2), (3, .int .u64 ((l.length * 2 ^ 3 : Nat) : Int))]) (fun (j, Rj, Wj) => [cel sb (Rj.map W4 ++ (Wj.map B ++ ([I ((l.length + 1 + j : Nat) : Int)]))) 217, cel b2 ((List.replicate 32 0).map B) 28]) (fun (j, Rj, Wj) => zc l.length - j) ((0, R0, W0)) (⟨Nat.zero_le _, by simpa using hS0⟩) sB ((.cons_cons _ (.cons _ (List.Sublist.refl _)))) ?_
  rintro ⟨j, Rj, Wj⟩ hI
  try dsimp only at hI ⊢
  have hR8 := hI.2.1
  have hW64 := hI.2.2.1
  have hz := zc_def l.length
  refine tk_seq <| s_r <| q_m rfl rfl <| s_q rfl (y_nilCheck rfl) <| s_q rfl (y_fldN (o := 0) 72 rfl kR) <| s_q rfl (y_load rfl rfl (hc (o := 72) (.head _) (gA (k := 8) (i := 64) lenP oM (gA (k := 64) (i := 0) lenP oM (rfl))))) <| s_q rfl (y_remN (a := l.length + 1 + j) (b := 64) rfl rfl oM) <| s_q rfl (y_neq rfl rfl) <| s_n <| tk_condP rfl (fun ht21 => ?_) (fun ht21 => ?_)
  · refine tk_skip <| tk_then <| tk_block <| tk_region <| q_m rfl rfl <| tk_act rfl <| a_slitN (vs := [B 0]) rfl (List.forall_mem_cons.2 ⟨rfl, (fun _ h => nomatch h)⟩) (EL64) rfl rfl dC fun b23 => tk_act rfl <| tk_ps [1] rfl <| a_callv [] _ rfl kR rfl (fun w' hw' => take_spec (l := l ++ [128] ++ List.replicate j 0) (m := [0]) (n := l.length + 1 + j) hI.2 (Ro.cel (b := b23) (o := 0) (m := 1) (cp := 1) (vs := [0].map B) hw' (.head _) (rfl) lQ lenP) lenP lenP (hg.call hw') (St.pre hw')) rfl fun ⟨R1, W1⟩ hS1 => ?_
    dsimp only at hS1 ⊢
    exact tk_nil <| tk_in_normal <| tk_R (H1 := []) rfl (congrArg (fun z_ => cel sb z_ 217) (show R1.map W4 ++ (W1.map B ++ ([I (((l ++ [128] ++ List.replicate j 0).length + [0].length : Nat) : Int)])) = R1.map W4 ++ (W1.map B ++ ([I ((l.length + 1 + (j + 1) : Nat) : Int)])) from by simp; omega)) <| tk_again ((j + 1, R1, W1)) (⟨by omega, by rw [List.replicate_succ', ← List.append_assoc]; exact hS1⟩) (by have h0 := ht21; dsimp only; omega) sB (.cons_cons _ (.cons _ (List.Sublist.refl _)))
  · refine tk_exit <| tk_then_exit <| tk_then_exit <| tk_in_hit <| tk_then <| tk_seq <| s_r <| q_a rfl rfl <| s_n <| tk_block ?_
    have hj : j = zc l.length := by omega
    refine tk_R (H1 := []) rfl (congrArg (fun z_ => cel sb z_ 217) (show Rj.map W4 ++ (Wj.map B ++ ([I ((l.length + 1 + j : Nat) : Int)])) = Rj.map W4 ++ (Wj.map B ++ ([I ((l.length + 1 + zc l.length + 0 : Nat) : Int)])) from by rw [hj]; rfl)) <| tk_loop (X := Nat × List UInt32 × List UInt8) (fun (j, Rj, Wj) => j ≤ 8 ∧ SI (l ++ [128] ++ List.replicate (zc l.length) 0 ++ len8 l.length j) Rj Wj) (fun (j, Rj, Wj) => [(0, PT sb), (2, PT b2), (3, .int .u64 ((l.length * 2 ^ 3 : Nat) : Int)), (4, I (56 - 8 * (j : Int)))]) (fun (j, Rj, Wj) => [cel sb (Rj.map W4 ++ (Wj.map B ++ ([I ((l.length + 1 + zc l.length + j : Nat) : Int)]))) 217, cel b2 ((List.replicate 32 0).map B) 28]) (fun (j, Rj, Wj) => 8 - j) ((0, Rj, Wj)) (⟨Nat.zero_le _, by have h := hI.2; rw [hj] at h; rw [len8_0, List.append_nil]; exact h⟩) sB ((List.Sublist.refl _)) ?_
    rintro ⟨j, Rj, Wj⟩ hI
    try dsimp only at hI ⊢
    have hR8 := hI.2.1
    have hW64 := hI.2.2.1
    have hz := zc_lt l.length
    refine tk_seq <| s_r <| q_m rfl rfl <| s_q rfl (y_geq rfl rfl) <| s_n <| tk_condP rfl (fun ht26 => ?_) (fun ht26 => ?_)
    · refine tk_skip <| tk_then <| tk_seq <| tk_block <| tk_region <| tk_re 4 (I (56 - 8 * (j : Int))) (I ((56 - 8 * j : Nat) : Int)) rfl (congrArg I oM) <| q_m rfl rfl <| q_m rfl rfl <| q_m rfl rfl <| s_q rfl (y_shrN (a := l.length * 2 ^ 3) (m := 56 - 8 * j) rfl rfl (by simp [IntKind.bits]; omega)) <| s_q rfl (y_convi8 (m := (l.length * 2 ^ 3) / 2 ^ (56 - 8 * j)) rfl rfl rfl) <| tk_act rfl <| a_slitN (vs := [B (UInt8.ofNat ((l.length * 2 ^ 3) / 2 ^ (56 - 8 * j)))]) rfl (List.forall_mem_cons.2 ⟨rfl, (fun _ h => nomatch h)⟩) (EL64) rfl rfl dC fun b34 => tk_act rfl <| tk_ps [1] rfl <| a_callv [] _ rfl kR rfl (fun w' hw' => take_spec (l := l ++ [128] ++ List.replicate (zc l.length) 0 ++ len8 l.length j) (m := [UInt8.ofNat ((l.length * 2 ^ 3) / 2 ^ (56 - 8 * j))]) (n := l.length + 1 + zc l.length + j) hI.2 (Ro.cel (b := b34) (o := 0) (m := 1) (cp := 1) (vs := [UInt8.ofNat ((l.length * 2 ^ 3) / 2 ^ (56 - 8 * j))].map B) hw' (.head _) (rfl) lQ lenP) lenP lenP (hg.call hw') (St.pre hw')) rfl fun ⟨R2, W2⟩ hS2 => ?_
      dsimp only at hS2 ⊢
      exact tk_nil <| tk_in_normal <| tk_then <| tk_region <| tk_re 4 (I ((56 - 8 * j : Nat) : Int)) (I (56 - 8 * (j : Int))) rfl (congrArg I oM) <| q_m rfl rfl <| s_q rfl (y_subI rfl rfl oM) <| q_a rfl rfl <| tk_nil <| tk_re 4 (I ((56 - 8 * (j : Int)) - (8 : Int))) (I (56 - 8 * ((j + 1 : Nat) : Int))) rfl (congrArg I oM) <| tk_R (H1 := []) rfl (congrArg (fun z_ => cel sb z_ 217) (show R2.map W4 ++ (W2.map B ++ ([I (((l ++ [128] ++ List.replicate (zc l.length) 0 ++ len8 l.length j).length + [UInt8.ofNat ((l.length * 2 ^ 3) / 2 ^ (56 - 8 * j))].length : Nat) : Int)])) = R2.map W4 ++ (W2.map B ++ ([I ((l.length + 1 + zc l.length + (j + 1) : Nat) : Int)])) from by simp; omega)) <| tk_again ((j + 1, R2, W2)) (⟨by omega, by rw [← len8_snoc, ← List.append_assoc]; exact hS2⟩) (by dsimp only; omega) sB (.cons_cons _ (.cons _ (List.Sublist.refl _)))
    · have hE : SI (pad l) Rj Wj := by have h := hI.2; rw [show j = 8 by omega] at h; exact h
      refine tk_exit <| tk_then_exit <| tk_then_exit <| tk_in_hit <| tk_then <| s_r <| tk_act rfl <| a_allocL (cs := (List.replicate 32 0).map B) kR rfl fun b5 => s_n <| tk_seq <| s_r <| q_m rfl rfl <| s_n <| tk_block <| tk_R (H1 := []) rfl (congrArg (fun z_ => cel b5 z_ 28) (show (List.replicate 32 0).map B = (takeZ (outB Rj) 32 0).map B from by rw [takeZ_0])) <| tk_loop (X := Nat) (fun i => i ≤ 32) (fun i => [(0, PT sb), (2, PT b2), (5, PT b5), (36, IN i)]) (fun i => [cel b5 ((takeZ (outB Rj) 32 i).map B) 28, cel sb (Rj.map W4 ++ (Wj.map B ++ ([I ((l.length + 1 + zc l.length + j : Nat) : Int)]))) 217, cel b2 ((List.replicate 32 0).map B) 28]) (fun i => 32 - i) (0) (by first | exact trivial | omega | (dsimp only; omega)) sB ((List.Sublist.refl _)) ?_
      rintro i hI
      try dsimp only at hI ⊢
      have hz : (takeZ (outB Rj) 32 i).length = 32 := takeZ_len outB_len oM
      refine s_r <| s_q rfl (y_lss rfl rfl) <| s_n <| tk_seq <| tk_condP rfl (fun ht37 => ?_) (fun ht37 => ?_)
      · refine tk_skip <| tk_then <| tk_seq <| tk_block <| s_r <| q_m rfl rfl <| q_a rfl rfl <| s_n <| tk_region <| q_m rfl rfl <| q_m rfl rfl <| q_m rfl rfl <| s_q rfl (y_quoN (a := i) (b := 4) rfl rfl oM) <| s_q rfl (y_nilCheck rfl) <| s_q rfl (y_fld0 (o := 0) rfl kR) <| s_q rfl (y_ixA01 8 (i := i / 4) rfl rfl kR oM) <| s_q rfl (y_load rfl rfl (hc (o := i / 4) (mm 1 rfl) (gM1 (d := 0) lenP))) <| q_m rfl rfl <| s_q rfl (y_remN (a := i) (b := 4) rfl rfl oM) <| s_q rfl (y_mulN (a := 8) (b := i % 4) rfl rfl oM) <| s_q rfl (y_subN (a := 24) (b := 8 * (i % 4)) rfl rfl oM) <| s_q rfl (y_shrW (a := Rj.getD (i / 4) 0) (m := 24 - (8 * (i % 4))) rfl rfl oM) <| s_q rfl (y_convW8 (a := (Rj.getD (i / 4) 0) >>> UInt32.ofNat (24 - (8 * (i % 4)))) rfl rfl rfl) <| s_q rfl (y_ixA01 32 (i := i) rfl rfl kR oM) ?_; exact tk_act rfl <| a_storeE (H1 := []) (o := i) (v := B (((Rj.getD (i / 4) 0) >>> UInt32.ofNat (24 - (8 * (i % 4)))).toUInt8)) (cs' := ((takeZ (outB Rj) 32 i).set i (((Rj.getD (i / 4) 0) >>> UInt32.ofNat (24 - (8 * (i % 4)))).toUInt8)).map B) rfl rfl kR rfl rfl sW (sM) <| tk_nil <| tk_in_normal <| tk_then <| tk_region <| s_q rfl (y_addN (a := i) (b := 1) rfl rfl oM) <| q_m rfl rfl <| tk_nil <| tk_R (H1 := []) rfl (congrArg (fun z_ => cel b5 z_ 28) (show ((takeZ (outB Rj) 32 i).set i (((Rj.getD (i / 4) 0) >>> UInt32.ofNat (24 - (8 * (i % 4)))).toUInt8)).map B = (takeZ (outB Rj) 32 (i + 1)).map B from congrArg (List.map B) (outZ_set oM))) <| tk_again (i + 1) (by first | exact trivial | omega | (dsimp only; omega)) (by first | omega | (dsimp only; omega)) sB (List.Sublist.refl _)
      · exact tk_R (H1 := []) rfl (congrArg (fun z_ => cel b5 z_ 28) (show (takeZ (outB Rj) 32 i).map B = (sumL l).map B from by rw [show i = 32 by omega, takeZ_all outB_len, sum_end hE])) <| tk_exit <| tk_then_exit <| tk_then_exit <| tk_in_hit <| tk_then <| s_r <| s_q rfl (y_loadA 32 rfl kR lenP (hcw (.head _))) <| tk_act rfl <| a_storeW (H1 := [_, _]) (vs := (sumL l).map B) 32 rfl rfl kR rfl ⟨lenP, lenP⟩ oneB <| s_n <| tk_retc <| tk_ret (()) (trivial) (.inl rfl) (rc (vs := (sumL l).map B) rfl rfl (by simp; kernel_rfl) (hcw (mm 2 rfl))) (List.nil_sublist _)
theorem of_spec {v : Value} {ps : List Sb} {L : List UInt8} {w : World} (hv : Ro (Fs []) w (rd v (ps.map Prod.fst))) (hp : ∀ p ∈ ps, Ro (Fs []) w (rdB p.1 p.2)) (hL : ps.flatMap Prod.snd = L) (hb : L.length < 1152921504606846000) (hn : ps.length < 4611686018427387904) (hg : Ro (Fs []) w glob) :
    Spec Tryz.prog 57 [v] w [] (fun _ : Unit => True) (fun _ => Ag (sumL L)) (fun _ => []) := by
  refine spec_of (n := 18) Tryz.func57 rfl rfl trivial trivial rfl ?_
  have h8 : beginL.length = 8 := rfl
  have hLl : (ps.flatMap Prod.snd).length = L.length := by rw [hL]
  refine s_r <| tk_act rfl <| a_allocL (cs := (List.replicate 32 0).map B) kR rfl fun b2 => s_n <| s_r <| s_q rfl (y_loadA (vs := beginL.map W4) 8 rfl kR rfl (fun w hw j u hj => by rw [add_w, Nat.zero_add]; exact (Ro.st (p := glob) hg hw).1 _ _ hj)) <| s_q rfl (y_build (v := .agg (beginL.map W4 ++ ((List.replicate 64 0).map B ++ ([I 0]))).toArray) (vs := [(0, .agg (beginL.map W4).toArray)]) rfl (fun _ => kR)) <| tk_act rfl <| a_allocL (cs := (List.replicate 8 0).map W4 ++ ((List.replicate 64 0).map B ++ ([I 0]))) kR rfl fun b3 => tk_act rfl <| a_storeW (H1 := []) (vs := beginL.map W4 ++ ((List.replicate 64 0).map B ++ ([I 0]))) 73 rfl rfl kR rfl ⟨lenP, lenP⟩ (List.forall_mem_append.2 ⟨oneW, (List.forall_mem_append.2 ⟨oneB, (List.forall_mem_cons.2 ⟨rfl, (fun _ h => nomatch h)⟩)⟩)⟩) <| s_n <| tk_seq <| s_r <| q_m rfl rfl <| s_q rfl (y_lenRN (n' := ps.length) rfl hv.1 rfl (by first | rfl | (rw [List.length_map]; omega) | simp)) <| q_m rfl rfl <| s_n <| tk_block <| tk_loop (X := Nat × List UInt32 × List UInt8) (fun (j, Rj, Wj) => j ≤ ps.length ∧ SI ((ps.take j).flatMap Prod.snd) Rj Wj) (fun (j, Rj, Wj) => [(2, PT b2), (3, PT b3), (8, v), (9, IN ps.length), (10, IN j)]) (fun (j, Rj, Wj) => [cel b3 (Rj.map W4 ++ (Wj.map B ++ ([I ((((ps.take j).flatMap Prod.snd).length : Nat) : Int)]))) 217, cel b2 ((List.replicate 32 0).map B) 28]) (fun (j, Rj, Wj) => ps.length - j) ((0, beginL, List.replicate 64 0)) (⟨Nat.zero_le _, SI_zero sI⟩) sB ((List.Sublist.refl _)) ?_
  rintro ⟨j, Rj, Wj⟩ hI
  try dsimp only at hI ⊢
  have hR8 := hI.2.1
  have hW64 := hI.2.2.1
  have hfl : ∀ i, i < ps.length → ((ps.take i).flatMap Prod.snd).length + (ps.getD i dP).2.length ≤ (ps.flatMap Prod.snd).length := fun i hi => flat_le hi
  refine s_r <| s_q rfl (y_lss rfl rfl) <| s_n <| tk_seq <| tk_condP rfl (fun ht11 => ?_) (fun ht11 => ?_)
  · refine tk_skip <| tk_then <| tk_seq <| tk_block <| s_r <| s_q rfl (y_ixR (j := j) rfl rfl hv.1 lenP kR) <| s_q rfl (y_load rfl rfl (fun w hw => ((fun w hw => Ro.rd hv hw) w hw).cell (gM (f := Prod.fst) (d := dP) lenP))) <| q_a rfl rfl <| s_n <| tk_region <| q_m rfl rfl ?_
    have hfj := hfl j oM
    refine tk_act rfl <| a_callv [] _ rfl kR rfl (fun w' hw' => take_spec (l := (ps.take j).flatMap Prod.snd) (m := (ps.getD j dP).2) (n := ((ps.take j).flatMap Prod.snd).length) hI.2 (Ro.call (hp _ (getD_mem lenP)) hw') lenP lenP (hg.call hw') (St.pre hw')) rfl fun ⟨R0, W0⟩ hS0 => ?_
    dsimp only at hS0 ⊢
    exact tk_nil <| tk_in_normal <| tk_then <| tk_region <| s_q rfl (y_addN (a := j) (b := 1) rfl rfl oM) <| q_m rfl rfl <| tk_nil <| tk_R (H1 := []) rfl (congrArg (fun z_ => cel b3 z_ 217) (show R0.map W4 ++ (W0.map B ++ ([I ((((ps.take j).flatMap Prod.snd).length + ((ps.getD j dP).2).length : Nat) : Int)])) = R0.map W4 ++ (W0.map B ++ ([I ((((ps.take (j + 1)).flatMap Prod.snd).length : Nat) : Int)])) from by rw [flat_snoc (d := dP) oM, List.length_append])) <| tk_again ((j + 1, R0, W0)) (⟨by omega, by rw [flat_snoc oM]; exact hS0⟩) (by first | omega | (dsimp only; omega)) sB (List.Sublist.refl _)
  · have hE : SI L Rj Wj := by have h := hI.2; rw [show j = ps.length by omega, List.take_length, hL] at h; exact h
    exact tk_R (H1 := []) rfl (congrArg (fun z_ => cel b3 z_ 217) (show Rj.map W4 ++ (Wj.map B ++ ([I ((((ps.take j).flatMap Prod.snd).length : Nat) : Int)])) = Rj.map W4 ++ (Wj.map B ++ ([IN L.length])) from by rw [show j = ps.length by omega, List.take_length, hL])) <| tk_exit <| tk_then_exit <| tk_then_exit <| tk_in_hit <| tk_then <| s_r <| tk_act rfl <| a_callv [] _ rfl kR rfl (fun w' hw' => end_spec (l := L) hE lenP lenP (hg.call hw') (St.pre hw')) rfl fun _ _ => tk_act rfl <| a_storeW (H1 := []) (vs := (sumL L).map B) 32 rfl rfl kR rfl ⟨lenP, lenP⟩ oneB <| s_n <| tk_retc <| tk_ret (()) (trivial) (.inl rfl) (rc (vs := (sumL L).map B) rfl rfl (by simp; kernel_rfl) (hcw (.head _))) (List.nil_sublist _)
theorem keyed_spec {kv v : Value} {k : List UInt8} {ps : List Sb} {L : List UInt8} {w : World} (hk : Ro (Fs []) w (rdB kv k)) (hv : Ro (Fs []) w (rd v (ps.map Prod.fst))) (hp : ∀ p ∈ ps, Ro (Fs []) w (rdB p.1 p.2)) (hL : ps.flatMap Prod.snd = L)
    (hb : k.length < 1099511627776 ∧ L.length < 1099511627776 ∧ ps.length < 1099511627776) (hg : Ro (Fs []) w glob) :
    Spec Tryz.prog 221 [kv, v] w [] (fun _ : Unit => True) (fun _ => Ag (keyedL k L)) (fun _ => []) := by
  refine spec_of (n := 46) Tryz.func221 rfl rfl trivial trivial rfl <| s_r <| tk_act rfl <| a_allocL (cs := (List.replicate 32 0).map B) kR rfl fun b4 => s_n <| tk_seq <| s_r <| q_m rfl rfl <| s_q rfl (y_lenRN (n' := k.length) rfl hk.1 rfl (by first | rfl | (rw [List.length_map]; omega) | simp)) <| s_q rfl (y_gtr rfl rfl) <| s_n <| tk_condP rfl (fun ht12 => ?_) (fun ht12 => ?_)
  · have hk0 : hmKey k = sumL (k) := by unfold hmKey; rw [if_pos oM]
    have hk1 : (sumL (k)).length = 32 := sumL_len
    refine s_r <| q_m rfl rfl <| tk_act rfl <| a_slitN (vs := [kv]) rfl (List.forall_mem_cons.2 ⟨(RdS.one hk.1), (fun _ h => nomatch h)⟩) (EL208) rfl rfl dC fun b14 => tk_act rfl <| a_callv [] _ rfl kR rfl (fun w' hw' => of_spec (ps := [(kv, k)]) (L := k) (Ro.cel (vs := [kv]) hw' (.head _) rS rfl dC) (List.forall_mem_cons.2 ⟨(Ro.call (H0 := []) hk hw'), (fun _ h => nomatch h)⟩) sI lenP lenP (hg.call hw')) rfl fun _ _ => tk_act rfl <| a_allocL (cs := (List.replicate 32 0).map B) kR rfl fun b5 => tk_act rfl <| a_storeW (H1 := []) (vs := (sumL k).map B) 32 rfl rfl kR rfl ⟨lenP, lenP⟩ oneB <| s_n <| tk_region <| s_q rfl (y_cutA (m := 32) (sz := 1) rfl kR) <| q_a rfl rfl <| s_n <| s_r <| tk_act rfl <| a_allocL (cs := (List.replicate 64 0).map B) kR rfl fun b6 => tk_act rfl <| a_allocL (cs := (List.replicate 64 0).map B) kR rfl fun b7 => s_n <| s_r <| s_q rfl (y_cutA (m := 64) (sz := 1) rfl kR) <| q_m rfl rfl ?_; refine tk_act rfl <| a_copyR (H1 := [_]) (pre := []) (mid := (List.replicate (sumL k).length 0).map B) (post := (List.replicate (64 - (sumL k).length) 0).map B) (vs := (sumL k).map B) (us := (sumL k).map B) (cs' := (xorI (hmKey k) 54 0).map B) rfl rfl rfl kR rfl rfl (fun w hw => cel_rdE (o := 0) (m := 32) (cp := 32) (vs := (sumL k).map B) (hw.mem (mm 2 rfl)) (dsW) lQ lenP) (m := (sumL k).length) lenP (by rw [List.take_of_length_le sI]) oneB ⟨by simp, rfl⟩ (by rw [List.nil_append, ← List.map_append, List.replicate_append_replicate]; congr 2; omega) (by rw [xorI_0 hmKey_len, List.map_append, List.nil_append, hk0]) <| s_n <| s_r <| s_q rfl (y_cutA (m := 64) (sz := 1) rfl kR) <| q_m rfl rfl <| tk_act rfl <| a_copyR (H1 := []) (pre := []) (mid := (List.replicate (sumL k).length 0).map B) (post := (List.replicate (64 - (sumL k).length) 0).map B) (vs := (sumL k).map B) (us := (sumL k).map B) (cs' := (xorI (hmKey k) 92 0).map B) rfl rfl rfl kR rfl rfl (fun w hw => cel_rdE (o := 0) (m := 32) (cp := 32) (vs := (sumL k).map B) (hw.mem (mm 2 rfl)) (dsW) lQ lenP) (m := (sumL k).length) lenP (by rw [List.take_of_length_le sI]) oneB ⟨by simp, rfl⟩ (by rw [List.nil_append, ← List.map_append, List.replicate_append_replicate]; congr 2; omega) (by rw [xorI_0 hmKey_len, List.map_append, List.nil_append, hk0]) <| s_n <| tk_seq <| s_r <| q_m rfl rfl <| s_n <| tk_block <| tk_loop (X := Nat) (fun i => i ≤ 64) (fun i => [(1, v), (4, PT b4), (6, PT b6), (7, PT b7), (23, IN i)]) (fun i => [cel b7 ((xorI (hmKey k) 92 i).map B) 215, cel b6 ((xorI (hmKey k) 54 i).map B) 215, cel b5 ((sumL k).map B) 28, cel b14 ([kv]) 64, cel b4 ((List.replicate 32 0).map B) 28]) (fun i => 64 - i) (0) (by first | exact trivial | omega | (dsimp only; omega)) sB ((List.Sublist.refl _)) ?_
    rintro i hI
    try dsimp only at hI ⊢
    have hx1 : (xorI (hmKey k) 54 i).length = 64 := xorI_len
    have hx2 : (xorI (hmKey k) 92 i).length = 64 := xorI_len
    refine s_r <| s_q rfl (y_lss rfl rfl) <| s_n <| tk_seq <| tk_condP rfl (fun ht24 => ?_) (fun ht24 => ?_)
    · refine tk_skip <| tk_then <| tk_seq <| tk_block <| s_r <| q_m rfl rfl <| q_a rfl rfl <| s_n <| s_r <| q_m rfl rfl <| s_q rfl (y_ixA01 64 (i := i) rfl rfl kR oM) <| s_q rfl (y_load rfl rfl (hc (o := i) (mm 1 rfl) (gM (d := 0) lenP))) <| s_q rfl (y_xor8 (a := (xorI (hmKey k) 54 i).getD i 0) (b := 54) rfl rfl) <| s_q rfl (y_ixA01 64 (i := i) rfl rfl kR oM) <| tk_act rfl <| a_storeE (H1 := [_]) (o := i) (v := B (((xorI (hmKey k) 54 i).getD i 0) ^^^ 54)) (cs' := ((xorI (hmKey k) 54 i).set i (((xorI (hmKey k) 54 i).getD i 0) ^^^ 54)).map B) rfl rfl kR rfl rfl sW (sM) <| s_n <| tk_region <| q_m rfl rfl <| s_q rfl (y_ixA01 64 (i := i) rfl rfl kR oM) <| s_q rfl (y_load rfl rfl (hc (o := i) (.head _) (gM (d := 0) lenP))) <| s_q rfl (y_xor8 (a := (xorI (hmKey k) 92 i).getD i 0) (b := 92) rfl rfl) <| s_q rfl (y_ixA01 64 (i := i) rfl rfl kR oM) <| tk_act rfl ?_; exact a_storeE (H1 := []) (o := i) (v := B (((xorI (hmKey k) 92 i).getD i 0) ^^^ 92)) (cs' := ((xorI (hmKey k) 92 i).set i (((xorI (hmKey k) 92 i).getD i 0) ^^^ 92)).map B) rfl rfl kR rfl rfl sW (sM) <| tk_nil <| tk_in_normal <| tk_then <| tk_region <| s_q rfl (y_addN (a := i) (b := 1) rfl rfl oM) <| q_m rfl rfl <| tk_nil <| tk_R (H1 := [_]) rfl (congrArg (fun z_ => cel b6 z_ 215) (show ((xorI (hmKey k) 54 i).set i (((xorI (hmKey k) 54 i).getD i 0) ^^^ 54)).map B = (xorI (hmKey k) 54 (i + 1)).map B from congrArg (List.map B) (xorI_set oM))) <| tk_R (H1 := []) rfl (congrArg (fun z_ => cel b7 z_ 215) (show ((xorI (hmKey k) 92 i).set i (((xorI (hmKey k) 92 i).getD i 0) ^^^ 92)).map B = (xorI (hmKey k) 92 (i + 1)).map B from congrArg (List.map B) (xorI_set oM))) <| tk_again (i + 1) (by first | exact trivial | omega | (dsimp only; omega)) (by first | omega | (dsimp only; omega)) sB (List.Sublist.refl _)
    · refine tk_R (H1 := [_]) rfl (congrArg (fun z_ => cel b6 z_ 215) (show (xorI (hmKey k) 54 i).map B = (xorPad (hmKey k) 54).map B from by rw [show i = 64 by omega, xorI_64])) <| tk_R (H1 := []) rfl (congrArg (fun z_ => cel b7 z_ 215) (show (xorI (hmKey k) 92 i).map B = (xorPad (hmKey k) 92).map B from by rw [show i = 64 by omega, xorI_64])) <| tk_exit <| tk_then_exit <| tk_then_exit <| tk_in_hit <| tk_then <| s_r <| s_q rfl (y_cutA (m := 64) (sz := 1) rfl kR) <| tk_act rfl <| a_slitN (vs := [.slice (some ⟨b6, 0, none⟩) 64 64]) rfl (List.forall_mem_cons.2 ⟨rfl, (fun _ h => nomatch h)⟩) (EL208) rfl rfl dC fun b38 => q_m rfl rfl <| tk_celOwn (H1 := []) (e := 64) (n := 1) rfl sI (by simp [maxLen]) <| tk_act rfl <| a_appendR (H1 := []) (n := 1) (xs := [.slice (some ⟨b6, 0, none⟩) 64 64]) (news := ps.map Prod.fst) rfl rfl EL208 rfl rfl (fun w hw => Ro.rd hv hw) (by intro u hu; obtain ⟨p, hp1, rfl⟩ := List.mem_map.1 hu; exact (hp p hp1).1.one) lenP fun v40 => tk_act rfl <| a_callv [] _ rfl kR rfl (fun w' hw' => of_spec (ps := (.slice (some ⟨b6, 0, none⟩) 64 64, xorPad (hmKey k) 54) :: ps) (L := xorPad (hmKey k) 54 ++ L) (Ro.own (H0 := []) (n := 1 + (ps.map Prod.fst).length) hw' (.head _)) (List.forall_mem_cons.2 ⟨(Ro.cel (H0 := []) (b := b6) (o := 0) (m := 64) (cp := 64) (vs := (xorPad (hmKey k) 54).map B) hw' (mm 2 rfl) (dsW) lQ lenP), fun p hp0 => (hp p hp0).call hw'⟩) (by simp [hL]) lenP sO (hg.call hw')) rfl fun _ _ => tk_act rfl <| a_allocL (cs := (List.replicate 32 0).map B) kR rfl fun b9 => tk_act rfl <| a_storeW (H1 := []) (vs := (sumL (xorPad (hmKey k) 54 ++ L)).map B) 32 rfl rfl kR rfl ⟨lenP, lenP⟩ oneB <| s_n <| tk_seq <| tk_drawH [cel b9 ((sumL (xorPad (hmKey k) 54 ++ L)).map B) 28, own v40 (1 + (ps.map Prod.fst).length) ([.slice (some ⟨b6, 0, none⟩) 64 64] ++ ps.map Prod.fst) 64 1, cel b7 ((xorPad (hmKey k) 92).map B) 215, cel b6 ((xorPad (hmKey k) 54).map B) 215, cel b5 ((sumL k).map B) 28, cel b14 ([kv]) 64] [] kR ?_; exact s_x 0 rfl (y_cutA (m := 64) (sz := 1) rfl kR) <| s_x 1 rfl (y_cutA (m := 32) (sz := 1) rfl kR) <| tx_a 2 rfl kR rfl <| a_slitN (vs := [.slice (some ⟨b7, 0, none⟩) 64 64, .slice (some ⟨b9, 0, none⟩) 32 32]) rfl (List.forall_mem_cons.2 ⟨rfl, (List.forall_mem_cons.2 ⟨rfl, (fun _ h => nomatch h)⟩)⟩) (EL208) rfl rfl dC fun b44 => tk_S (fun _ h => kS [1, 0, 0, 0, 0, 0] rfl h) <| tx_more [cel b44 ([Value.slice (some ⟨b7, 0, none⟩) 64 64, .slice (some ⟨b9, 0, none⟩) 32 32]) 64, cel b9 ((sumL (xorPad (hmKey k) 54 ++ L)).map B) 28, own v40 (1 + (ps.map Prod.fst).length) ([.slice (some ⟨b6, 0, none⟩) 64 64] ++ ps.map Prod.fst) 64 1, cel b7 ((xorPad (hmKey k) 92).map B) 215, cel b6 ((xorPad (hmKey k) 54).map B) 215, cel b5 ((sumL k).map B) 28, cel b14 ([kv]) 64] (fun _ h => kD 1 rfl h) (fun _ h => kS [0, 0, 0, 0, 0, 0, 0] rfl h) <| tx_a 3 rfl kR rfl <| a_callv [] _ rfl kR rfl (fun w' hw' => of_spec (ps := [(.slice (some ⟨b7, 0, none⟩) 64 64, xorPad (hmKey k) 92), (.slice (some ⟨b9, 0, none⟩) 32 32, sumL (xorPad (hmKey k) 54 ++ L))]) (L := (xorPad (hmKey k) 92) ++ (sumL (xorPad (hmKey k) 54 ++ L))) (Ro.cel (vs := [.slice (some ⟨b7, 0, none⟩) 64 64, .slice (some ⟨b9, 0, none⟩) 32 32]) hw' (.head _) rS rfl dC) (List.forall_mem_cons.2 ⟨(Ro.cel (H0 := []) (b := b7) (o := 0) (m := 64) (cp := 64) (vs := (xorPad (hmKey k) 92).map B) hw' (mm 3 rfl) (dsW) lQ lenP), (List.forall_mem_cons.2 ⟨(Ro.cel (H0 := []) (b := b9) (o := 0) (m := 32) (cp := 32) (vs := (sumL (xorPad (hmKey k) 54 ++ L)).map B) hw' (mm 1 rfl) (dsW) lQ lenP), (fun _ h => nomatch h)⟩)⟩) sI lenP lenP (hg.call hw')) rfl fun _ _ => tk_S (fun _ h => kS [0, 0, 0, 0, 0, 0, 0] rfl h) <| tk_re 45 (.agg ((sumL ((xorPad (hmKey k) 92) ++ (sumL (xorPad (hmKey k) 54 ++ L)))).map B).toArray) (.agg ((keyedL k L).map B).toArray) rfl (by simp only [keyedL]) <| tx_a 4 rfl kR rfl <| a_storeW (H1 := [_, _, _, _, _, _, _]) (vs := (keyedL k L).map B) 32 rfl rfl kR rfl ⟨lenP, lenP⟩ oneB <| tk_S (fun _ h => kS [0, 0, 0, 0, 0, 0, 0] rfl h) <| tx_done kR <| tk_then <| tk_retc <| tk_ret (()) (trivial) (.inl rfl) (rc (vs := (keyedL k L).map B) rfl rfl (by simp; kernel_rfl) (hcw (mm 7 rfl))) (List.nil_sublist _)
  · have hk0 : hmKey k = k := by unfold hmKey; rw [if_neg oM]
    refine tk_skip <| tk_then <| s_r <| tk_act rfl <| a_allocL (cs := (List.replicate 64 0).map B) kR rfl fun b6 => tk_act rfl <| a_allocL (cs := (List.replicate 64 0).map B) kR rfl fun b7 => s_n <| s_r <| s_q rfl (y_cutA (m := 64) (sz := 1) rfl kR) <| q_m rfl rfl <| tk_act rfl <| a_copyR (H1 := [_]) (pre := []) (mid := (List.replicate (k).length 0).map B) (post := (List.replicate (64 - (k).length) 0).map B) (vs := (k).map B) (us := (k).map B) (cs' := (xorI (hmKey k) 54 0).map B) rfl rfl rfl kR rfl rfl (fun w hw => Ro.rd hk hw) (m := (k).length) lenP (by rw [List.take_of_length_le sI]) oneB ⟨by simp, rfl⟩ (by rw [List.nil_append, ← List.map_append, List.replicate_append_replicate]; congr 2; omega) (by rw [xorI_0 hmKey_len, List.map_append, List.nil_append, hk0]) <| s_n <| s_r <| s_q rfl (y_cutA (m := 64) (sz := 1) rfl kR) <| q_m rfl rfl <| tk_act rfl <| a_copyR (H1 := []) (pre := []) (mid := (List.replicate (k).length 0).map B) (post := (List.replicate (64 - (k).length) 0).map B) (vs := (k).map B) (us := (k).map B) (cs' := (xorI (hmKey k) 92 0).map B) rfl rfl rfl kR rfl rfl (fun w hw => Ro.rd hk hw) (m := (k).length) lenP (by rw [List.take_of_length_le sI]) oneB ⟨by simp, rfl⟩ (by rw [List.nil_append, ← List.map_append, List.replicate_append_replicate]; congr 2; omega) (by rw [xorI_0 hmKey_len, List.map_append, List.nil_append, hk0]) <| s_n <| tk_seq <| s_r <| q_m rfl rfl <| s_n ?_; refine tk_block <| tk_loop (X := Nat) (fun i => i ≤ 64) (fun i => [(1, v), (4, PT b4), (6, PT b6), (7, PT b7), (23, IN i)]) (fun i => [cel b7 ((xorI (hmKey k) 92 i).map B) 215, cel b6 ((xorI (hmKey k) 54 i).map B) 215, cel b4 ((List.replicate 32 0).map B) 28]) (fun i => 64 - i) (0) (by first | exact trivial | omega | (dsimp only; omega)) sB ((List.Sublist.refl _)) ?_
    rintro i hI
    try dsimp only at hI ⊢
    have hx1 : (xorI (hmKey k) 54 i).length = 64 := xorI_len
    have hx2 : (xorI (hmKey k) 92 i).length = 64 := xorI_len
    refine s_r <| s_q rfl (y_lss rfl rfl) <| s_n <| tk_seq <| tk_condP rfl (fun ht24 => ?_) (fun ht24 => ?_)
    · refine tk_skip <| tk_then <| tk_seq <| tk_block <| s_r <| q_m rfl rfl <| q_a rfl rfl <| s_n <| s_r <| q_m rfl rfl <| s_q rfl (y_ixA01 64 (i := i) rfl rfl kR oM) <| s_q rfl (y_load rfl rfl (hc (o := i) (mm 1 rfl) (gM (d := 0) lenP))) <| s_q rfl (y_xor8 (a := (xorI (hmKey k) 54 i).getD i 0) (b := 54) rfl rfl) <| s_q rfl (y_ixA01 64 (i := i) rfl rfl kR oM) <| tk_act rfl <| a_storeE (H1 := [_]) (o := i) (v := B (((xorI (hmKey k) 54 i).getD i 0) ^^^ 54)) (cs' := ((xorI (hmKey k) 54 i).set i (((xorI (hmKey k) 54 i).getD i 0) ^^^ 54)).map B) rfl rfl kR rfl rfl sW (sM) <| s_n <| tk_region <| q_m rfl rfl <| s_q rfl (y_ixA01 64 (i := i) rfl rfl kR oM) <| s_q rfl (y_load rfl rfl (hc (o := i) (.head _) (gM (d := 0) lenP))) <| s_q rfl (y_xor8 (a := (xorI (hmKey k) 92 i).getD i 0) (b := 92) rfl rfl) <| s_q rfl (y_ixA01 64 (i := i) rfl rfl kR oM) <| tk_act rfl ?_; exact a_storeE (H1 := []) (o := i) (v := B (((xorI (hmKey k) 92 i).getD i 0) ^^^ 92)) (cs' := ((xorI (hmKey k) 92 i).set i (((xorI (hmKey k) 92 i).getD i 0) ^^^ 92)).map B) rfl rfl kR rfl rfl sW (sM) <| tk_nil <| tk_in_normal <| tk_then <| tk_region <| s_q rfl (y_addN (a := i) (b := 1) rfl rfl oM) <| q_m rfl rfl <| tk_nil <| tk_R (H1 := [_]) rfl (congrArg (fun z_ => cel b6 z_ 215) (show ((xorI (hmKey k) 54 i).set i (((xorI (hmKey k) 54 i).getD i 0) ^^^ 54)).map B = (xorI (hmKey k) 54 (i + 1)).map B from congrArg (List.map B) (xorI_set oM))) <| tk_R (H1 := []) rfl (congrArg (fun z_ => cel b7 z_ 215) (show ((xorI (hmKey k) 92 i).set i (((xorI (hmKey k) 92 i).getD i 0) ^^^ 92)).map B = (xorI (hmKey k) 92 (i + 1)).map B from congrArg (List.map B) (xorI_set oM))) <| tk_again (i + 1) (by first | exact trivial | omega | (dsimp only; omega)) (by first | omega | (dsimp only; omega)) sB (List.Sublist.refl _)
    · refine tk_R (H1 := [_]) rfl (congrArg (fun z_ => cel b6 z_ 215) (show (xorI (hmKey k) 54 i).map B = (xorPad (hmKey k) 54).map B from by rw [show i = 64 by omega, xorI_64])) <| tk_R (H1 := []) rfl (congrArg (fun z_ => cel b7 z_ 215) (show (xorI (hmKey k) 92 i).map B = (xorPad (hmKey k) 92).map B from by rw [show i = 64 by omega, xorI_64])) <| tk_exit <| tk_then_exit <| tk_then_exit <| tk_in_hit <| tk_then <| s_r <| s_q rfl (y_cutA (m := 64) (sz := 1) rfl kR) <| tk_act rfl <| a_slitN (vs := [.slice (some ⟨b6, 0, none⟩) 64 64]) rfl (List.forall_mem_cons.2 ⟨rfl, (fun _ h => nomatch h)⟩) (EL208) rfl rfl dC fun b38 => q_m rfl rfl <| tk_celOwn (H1 := []) (e := 64) (n := 1) rfl sI (by simp [maxLen]) <| tk_act rfl <| a_appendR (H1 := []) (n := 1) (xs := [.slice (some ⟨b6, 0, none⟩) 64 64]) (news := ps.map Prod.fst) rfl rfl EL208 rfl rfl (fun w hw => Ro.rd hv hw) (by intro u hu; obtain ⟨p, hp1, rfl⟩ := List.mem_map.1 hu; exact (hp p hp1).1.one) lenP fun v40 => tk_act rfl <| a_callv [] _ rfl kR rfl (fun w' hw' => of_spec (ps := (.slice (some ⟨b6, 0, none⟩) 64 64, xorPad (hmKey k) 54) :: ps) (L := xorPad (hmKey k) 54 ++ L) (Ro.own (H0 := []) (n := 1 + (ps.map Prod.fst).length) hw' (.head _)) (List.forall_mem_cons.2 ⟨(Ro.cel (H0 := []) (b := b6) (o := 0) (m := 64) (cp := 64) (vs := (xorPad (hmKey k) 54).map B) hw' (mm 2 rfl) (dsW) lQ lenP), fun p hp0 => (hp p hp0).call hw'⟩) (by simp [hL]) lenP sO (hg.call hw')) rfl fun _ _ => tk_act rfl <| a_allocL (cs := (List.replicate 32 0).map B) kR rfl fun b9 => tk_act rfl <| a_storeW (H1 := []) (vs := (sumL (xorPad (hmKey k) 54 ++ L)).map B) 32 rfl rfl kR rfl ⟨lenP, lenP⟩ oneB <| s_n <| tk_seq <| tk_drawH [cel b9 ((sumL (xorPad (hmKey k) 54 ++ L)).map B) 28, own v40 (1 + (ps.map Prod.fst).length) ([.slice (some ⟨b6, 0, none⟩) 64 64] ++ ps.map Prod.fst) 64 1, cel b7 ((xorPad (hmKey k) 92).map B) 215, cel b6 ((xorPad (hmKey k) 54).map B) 215] [] kR ?_; exact s_x 0 rfl (y_cutA (m := 64) (sz := 1) rfl kR) <| s_x 1 rfl (y_cutA (m := 32) (sz := 1) rfl kR) <| tx_a 2 rfl kR rfl <| a_slitN (vs := [.slice (some ⟨b7, 0, none⟩) 64 64, .slice (some ⟨b9, 0, none⟩) 32 32]) rfl (List.forall_mem_cons.2 ⟨rfl, (List.forall_mem_cons.2 ⟨rfl, (fun _ h => nomatch h)⟩)⟩) (EL208) rfl rfl dC fun b44 => tk_S (fun _ h => kS [1, 0, 0, 0] rfl h) <| tx_more [cel b44 ([Value.slice (some ⟨b7, 0, none⟩) 64 64, .slice (some ⟨b9, 0, none⟩) 32 32]) 64, cel b9 ((sumL (xorPad (hmKey k) 54 ++ L)).map B) 28, own v40 (1 + (ps.map Prod.fst).length) ([.slice (some ⟨b6, 0, none⟩) 64 64] ++ ps.map Prod.fst) 64 1, cel b7 ((xorPad (hmKey k) 92).map B) 215, cel b6 ((xorPad (hmKey k) 54).map B) 215] (fun _ h => kD 1 rfl h) (fun _ h => kS [0, 0, 0, 0, 0] rfl h) <| tx_a 3 rfl kR rfl <| a_callv [] _ rfl kR rfl (fun w' hw' => of_spec (ps := [(.slice (some ⟨b7, 0, none⟩) 64 64, xorPad (hmKey k) 92), (.slice (some ⟨b9, 0, none⟩) 32 32, sumL (xorPad (hmKey k) 54 ++ L))]) (L := (xorPad (hmKey k) 92) ++ (sumL (xorPad (hmKey k) 54 ++ L))) (Ro.cel (vs := [.slice (some ⟨b7, 0, none⟩) 64 64, .slice (some ⟨b9, 0, none⟩) 32 32]) hw' (.head _) rS rfl dC) (List.forall_mem_cons.2 ⟨(Ro.cel (H0 := []) (b := b7) (o := 0) (m := 64) (cp := 64) (vs := (xorPad (hmKey k) 92).map B) hw' (mm 3 rfl) (dsW) lQ lenP), (List.forall_mem_cons.2 ⟨(Ro.cel (H0 := []) (b := b9) (o := 0) (m := 32) (cp := 32) (vs := (sumL (xorPad (hmKey k) 54 ++ L)).map B) hw' (mm 1 rfl) (dsW) lQ lenP), (fun _ h => nomatch h)⟩)⟩) sI lenP lenP (hg.call hw')) rfl fun _ _ => tk_S (fun _ h => kS [0, 0, 0, 0, 0] rfl h) <| tk_re 45 (.agg ((sumL ((xorPad (hmKey k) 92) ++ (sumL (xorPad (hmKey k) 54 ++ L)))).map B).toArray) (.agg ((keyedL k L).map B).toArray) rfl (by simp only [keyedL]) <| tx_a 4 rfl kR rfl <| a_storeW (H1 := [_, _, _, _, _]) (vs := (keyedL k L).map B) 32 rfl rfl kR rfl ⟨lenP, lenP⟩ oneB <| tk_S (fun _ h => kS [0, 0, 0, 0, 0] rfl h) <| tx_done kR <| tk_then <| tk_retc <| tk_ret (()) (trivial) (.inl rfl) (rc (vs := (keyedL k L).map B) rfl rfl (by simp; kernel_rfl) (hcw (mm 5 rfl))) (List.nil_sublist _)
theorem same_spec {u v : Value} {l : List UInt8} {ps : List Sb} {w : World} (hu : Ro (Fs []) w (rdB u l)) (hv : Ro (Fs []) w (rd v (ps.map Prod.fst))) (hp : ∀ p ∈ ps, Ro (Fs []) w (rdB p.1 p.2)) (hb : l.length < 4611686018427387904 ∧ ps.length < 4611686018427387904) :
    Spec Tryz.prog 128 [u, v] w [] (fun _ : Unit => True) (fun _ => .bool (decide (∀ p ∈ ps, p.2 = l))) (fun _ => []) := by
  refine spec_of (n := 49) Tryz.func128 rfl rfl trivial trivial rfl <| s_r <| q_a rfl rfl <| s_n <| tk_seq <| s_r <| q_m rfl rfl <| s_q rfl (y_lenRN (n' := ps.length) rfl hv.1 rfl (by first | rfl | (rw [List.length_map]; omega) | simp)) <| q_m rfl rfl <| s_n <| tk_block <| tk_loop (X := Nat) (fun j => j ≤ ps.length ∧ ∀ p ∈ ps.take j, p.2.length = l.length) (fun j => [(0, u), (1, v), (12, v), (13, IN ps.length), (14, IN j)]) (fun j => []) (fun j => ps.length - j) (0) (⟨Nat.zero_le _, fun p hp => by simp at hp⟩) sB ((List.Sublist.refl _)) ?_
  rintro j hI
  try dsimp only at hI ⊢
  refine s_r <| s_q rfl (y_lss rfl rfl) <| s_n <| tk_seq <| tk_condP rfl (fun ht15 => ?_) (fun ht15 => ?_)
  · refine tk_skip <| tk_then <| tk_seq <| tk_block <| s_r <| s_q rfl (y_ixR (j := j) rfl rfl hv.1 lenP kR) <| s_q rfl (y_load rfl rfl (fun w hw => ((fun w hw => Ro.rd hv hw) w hw).cell (gM (f := Prod.fst) (d := dP) lenP))) <| q_a rfl rfl <| s_n <| s_r <| q_m rfl rfl <| s_q rfl (y_lenRN (n' := ((ps.getD j dP).2).length) rfl (hp _ (getD_mem lenP)).1 rfl (by first | rfl | (rw [List.length_map]; omega) | simp)) <| q_m rfl rfl <| s_q rfl (y_lenRN (n' := l.length) rfl hu.1 rfl (by first | rfl | (rw [List.length_map]; omega) | simp)) <| s_q rfl (y_neq rfl rfl) <| s_n <| tk_condP rfl (fun ht22 => ?_) (fun ht22 => ?_)
    · exact s_r <| q_a rfl rfl <| s_n <| tk_retc <| tk_in_ret <| tk_then_ret <| tk_then_ret <| tk_in_ret <| tk_then_ret <| tk_re 4 (.bool false) (.bool (decide (∀ p ∈ ps, p.2 = l))) rfl (congrArg Value.bool (Eq.symm (decide_eq_false fun h => ht22 (by rw [h _ (getD_mem oM)])))) <| tk_ret (()) (trivial) (.inl rfl) (r1 rfl rfl) (List.Sublist.refl _)
    · exact tk_skip <| tk_in_normal <| tk_then <| tk_region <| s_q rfl (y_addN (a := j) (b := 1) rfl rfl oM) <| q_m rfl rfl <| tk_nil <| tk_again (j + 1) (⟨by omega, fun p hp0 => by rw [take_snocG (d := dP) oM, List.mem_append, List.mem_singleton] at hp0; rcases hp0 with h | rfl; exact hI.2 p h; omega⟩) (by first | omega | (dsimp only; omega)) sB (List.Sublist.refl _)
  · have hA : ∀ p ∈ ps, p.2.length = l.length := by have h := hI.2; rw [show j = ps.length by omega, List.take_length] at h; exact h
    refine tk_exit <| tk_then_exit <| tk_then_exit <| tk_in_hit <| tk_then <| s_r <| q_a rfl rfl <| s_n <| tk_seq <| s_r <| q_m rfl rfl <| s_q rfl (y_lenRN (n' := ps.length) rfl hv.1 rfl (by first | rfl | (rw [List.length_map]; omega) | simp)) <| q_m rfl rfl <| s_n <| tk_block <| tk_loop (X := Nat × UInt8) (fun (j, e) => j ≤ ps.length ∧ (e = 0 ↔ ∀ p ∈ ps.take j, p.2 = l)) (fun (j, e) => [(0, u), (7, B e), (24, v), (25, IN ps.length), (26, IN j)]) (fun (j, e) => []) (fun (j, e) => ps.length - j) ((0, 0)) (⟨Nat.zero_le _, by simp⟩) sB ((List.Sublist.refl _)) ?_
    rintro ⟨j, e⟩ hI
    try dsimp only at hI ⊢
    have hlen : ∀ i, i < ps.length → (ps.getD i dP).2.length = l.length := fun i hi => hA _ (getD_mem hi)
    refine s_r <| s_q rfl (y_lss rfl rfl) <| s_n <| tk_seq <| tk_condP rfl (fun ht27 => ?_) (fun ht27 => ?_)
    · refine tk_skip <| tk_then <| tk_seq <| tk_block <| s_r <| s_q rfl (y_ixR (j := j) rfl rfl hv.1 lenP kR) <| s_q rfl (y_load rfl rfl (fun w hw => ((fun w hw => Ro.rd hv hw) w hw).cell (gM (f := Prod.fst) (d := dP) lenP))) <| q_a rfl rfl <| s_n <| s_r <| q_m rfl rfl ?_
      have hlj := hlen j oM
      refine s_q rfl (y_lenRN (n' := ((ps.getD j dP).2).length) rfl (hp _ (getD_mem lenP)).1 rfl (by first | rfl | (rw [List.length_map]; omega) | simp)) <| q_m rfl rfl <| s_n <| tk_block <| tk_loop (X := Nat × UInt8) (fun (i, e2) => i ≤ l.length ∧ (e2 = 0 ↔ e = 0 ∧ (ps.getD j dP).2.take i = l.take i)) (fun (i, e2) => [(0, u), (7, B e2), (24, v), (25, IN ps.length), (26, IN j), (30, (ps.getD j dP).1), (31, I ((((ps.getD j dP).2).length : Nat) : Int)), (32, IN i)]) (fun (i, e2) => []) (fun (i, e2) => l.length - i) ((0, e)) (⟨Nat.zero_le _, by simp⟩) sB ((List.Sublist.refl _)) ?_
      rintro ⟨i, e2⟩ hI2
      try dsimp only at hI2 ⊢
      refine s_r <| s_q rfl (y_lss rfl rfl) <| s_n <| tk_seq <| tk_condP rfl (fun ht33 => ?_) (fun ht33 => ?_)
      · refine tk_skip <| tk_then <| tk_seq <| tk_block <| s_r <| q_m rfl rfl <| s_q rfl (y_ixR (j := i) rfl rfl (hp _ (getD_mem lenP)).1 lenP kR) <| s_q rfl (y_load rfl rfl (fun w hw => ((fun w hw => Ro.rd (hp _ (getD_mem lenP)) hw) w hw).cell (gM (d := 0) lenP))) <| q_a rfl rfl <| q_a rfl rfl <| s_n <| tk_region <| q_m rfl rfl <| q_m rfl rfl <| q_m rfl rfl <| q_m rfl rfl <| s_q rfl (y_ixR (j := i) rfl rfl hu.1 lenP kR) <| s_q rfl (y_load rfl rfl (fun w hw => ((fun w hw => Ro.rd hu hw) w hw).cell (gM (d := 0) lenP))) <| s_q rfl (y_xor8 (a := ((ps.getD j dP).2).getD i 0) (b := l.getD i 0) rfl rfl) <| s_q rfl (y_or8 (a := e2) (b := (((ps.getD j dP).2).getD i 0) ^^^ (l.getD i 0)) rfl rfl) <| q_a rfl rfl <| tk_nil <| tk_in_normal <| tk_then ?_; exact tk_region <| s_q rfl (y_addN (a := i) (b := 1) rfl rfl oM) <| q_m rfl rfl <| tk_nil <| tk_again ((i + 1, e2 ||| ((((ps.getD j dP).2).getD i 0) ^^^ (l.getD i 0)))) (⟨by omega, by rw [or_xor_0, take_eq_snoc oM oM, hI2.2, and_assoc]⟩) (by first | omega | (dsimp only; omega)) sB (List.Sublist.refl _)
      · exact tk_exit <| tk_then_exit <| tk_then_exit <| tk_in_hit <| tk_in_normal <| tk_then <| tk_region <| s_q rfl (y_addN (a := j) (b := 1) rfl rfl oM) <| q_m rfl rfl <| tk_nil <| tk_again ((j + 1, e2)) (⟨by omega, by rw [hI2.2, take_snocG (d := dP) oM, show i = l.length by omega, List.take_length, List.take_of_length_le oM, List.forall_mem_append, List.forall_mem_singleton, hI.2]⟩) (by first | omega | (dsimp only; omega)) sB (List.Sublist.refl _)
    · exact tk_exit <| tk_then_exit <| tk_then_exit <| tk_in_hit <| tk_then <| s_r <| q_m rfl rfl <| s_q rfl (y_eql rfl rfl) <| tk_re 48 (.bool (decide ((e.toNat : Int) = ((0 : UInt8).toNat : Int)))) (.bool (decide (∀ p ∈ ps, p.2 = l))) rfl (congrArg Value.bool (decide_eq_decide.2 (same_end hI.2 oM))) <| q_a rfl rfl <| s_n <| tk_retc <| tk_ret (()) (trivial) (.inl rfl) (r1 rfl rfl) (List.Sublist.refl _)
theorem same1_spec {u v u2 : Value} {l m : List UInt8} {w : World} (hu : Ro (Fs []) w (rdB u l)) (hv : Ro (Fs []) w (rd v ([(u2, m)].map Prod.fst))) (hp : ∀ p ∈ [(u2, m)], Ro (Fs []) w (rdB p.1 p.2)) (hb : l.length < 4611686018427387904 ∧ 1 < 4611686018427387904) :
    Spec Tryz.prog 128 [u, v] w [] (fun _ : Unit => True) (fun _ => .bool (decide (m = l))) (fun _ => []) := by
  have h := same_spec hu hv hp (by simpa using hb)
  have e : (decide (∀ p ∈ [(u2, m)], p.2 = l)) = decide (m = l) := decide_eq_decide.2 sI
  rw [e] at h; exact h
end Go.Proofs.YtnhpghhibcdklaaGreatDoor
set_option linter.unusedSimpArgs false
set_option linter.unusedVariables false
namespace Go.Proofs.YtnhpghhibcdklaaGreatDoor
open Go Go.RowKit
set_option maxRecDepth 100000
attribute [local irreducible] sched schedZ rounds rr addI blockF word
theorem right_spec (a : UInt32) (n : Nat) {w : World} (h : 1 ≤ n ∧ n ≤ 31) : Spec Tryz.prog 271 [W4 a, I (n : Int)] w [] (fun _ : Unit => True) (fun _ => W4 (rr a n)) (fun _ => []) := by
  exact spec_of (n := 13) Tryz.func271 rfl rfl trivial trivial rfl <| s_r <| q_a rfl rfl <| s_n <| tk_seq <| tk_drawH [] [] kR <| s_x 0 rfl (y_move rfl) <| s_x 1 rfl (y_move rfl) <| s_x 2 rfl (y_shrW (a := a) (m := n) rfl rfl oM) <| s_x 3 rfl (y_move rfl) <| s_x 4 rfl (y_move rfl) <| s_x 5 rfl (y_subN (a := 32) (b := n) rfl rfl oM) <| s_x 6 rfl (y_shlW (a := a) (m := 32 - n) rfl rfl oM) <| s_x 7 rfl ((y_orW (a := a >>> UInt32.ofNat n) (b := a <<< UInt32.ofNat (32 - n)) rfl rfl).cast (v := _) (u := W4 (rr a n)) (congrArg W4 (rr_def' a n))) <| s_x 8 rfl (y_assign rfl) <| tx_done kR <| tk_then <| tk_retc <| tk_ret (()) (trivial) (.inl rfl) (r1 rfl rfl) (List.Sublist.refl _)
theorem words_spec {w : World} : Spec Tryz.prog 270 [] w [] (fun _ : Nat => True) (fun b => .slice (some ⟨b, 0, none⟩) 64 64) (fun b => [cel b (stepsL.map W4) 213]) := by
  exact spec_of (n := 2) Tryz.func270 rfl rfl trivial trivial rfl <| s_r <| q_a rfl rfl <| s_n <| s_r <| tk_act rfl <| a_slitN (vs := stepsL.map W4) rfl oneW EL345 rfl rfl dC fun b1 => q_a rfl rfl <| s_n <| tk_retc <| tk_ret (b1) (trivial) (.inl rfl) (r1 rfl rfl) (List.Sublist.refl _)
theorem fold_spec {rv bv : Value} {R : List UInt32} {blk : List UInt8} {w : World} (hr : Ro (Fs []) w (rd rv (R.map W4))) (hbk : Ro (Fs []) w (rdB bv blk)) (hR8 : R.length = 8) (hb : blk.length = 64) :
    Spec Tryz.prog 206 [rv, bv] w [] (fun _ : Value => True) (fun v => v) (fun v => [ownM W4 v (blockF R blk) 213]) := by
  refine spec_of (n := 257) Tryz.func206 rfl rfl trivial trivial rfl ?_
  have h8 := stepsL_len
  refine s_r <| q_a rfl rfl <| s_n <| s_r <| tk_act rfl <| a_callv [] _ rfl kR rfl (fun w' hw' => words_spec) rfl fun b18 _ => q_a rfl rfl <| s_n <| s_r <| tk_act rfl <| a_makeM (f := W4) (z := 0) (m := 64) rfl rfl MK345 rfl rfl ⟨lenP, lenP⟩ fun b19 => q_a rfl rfl <| s_n <| tk_seq <| s_r <| q_a rfl rfl <| s_n <| tk_block <| tk_R (H1 := []) rfl (congrArg (fun z_ => cel b19 z_ 213) (show (List.replicate 64 0).map W4 = (schedZ blk 0).map W4 from by rw [schedZ_0])) <| tk_loop (X := Nat) (fun i => i ≤ 64) (fun i => [(0, rv), (1, bv), (4, .slice none 0 0), (5, .slice (some ⟨b18, 0, none⟩) 64 64), (6, .slice (some ⟨b19, 0, none⟩) 64 64), (7, IN i)]) (fun i => [cel b19 ((schedZ blk i).map W4) 213, cel b18 (stepsL.map W4) 213]) (fun i => 64 - i) (0) (by first | exact trivial | omega | (dsimp only; omega)) sB ((List.Sublist.refl _)) ?_
  rintro i hI
  try dsimp only at hI ⊢
  have hz : (schedZ blk i).length = 64 := schedZ_len oM
  refine tk_seq <| s_r <| q_m rfl rfl <| s_q rfl (y_lss rfl rfl) <| s_n <| tk_condP rfl (fun ht21 => ?_) (fun ht21 => ?_)
  · refine tk_skip <| tk_then <| tk_seq <| tk_block <| s_r <| q_m rfl rfl <| s_q rfl (y_lss rfl rfl) <| s_n <| tk_condP rfl (fun ht25 => ?_) (fun ht25 => ?_)
    · refine tk_drawH [cel b18 (stepsL.map W4) 213] [] kR <| s_x 0 rfl (y_move rfl) <| s_x 1 rfl (y_move rfl) <| s_x 2 rfl (y_move rfl) <| s_x 3 rfl (y_move rfl) <| s_x 4 rfl (y_mulN (a := 4) (b := i) rfl rfl oM) <| s_x 5 rfl (y_ixR (j := 4 * i) rfl rfl hbk.1 lenP kR) <| s_l 6 rfl (fun _ h => kD 1 rfl h) (y_load rfl rfl (fun w hw => ((fun w hw => Ro.rd hbk hw) w hw).cell (gM (d := 0) lenP))) <| s_x 7 rfl (y_conv8W (a := blk.getD (4 * i) 0) rfl rfl rfl) <| s_x 8 rfl (y_shlW (a := (blk.getD (4 * i) 0).toUInt32) (m := 24) rfl rfl dC) <| s_x 9 rfl (y_move rfl) <| s_x 10 rfl (y_move rfl) <| s_x 11 rfl (y_mulN (a := 4) (b := i) rfl rfl oM) <| s_x 12 rfl (y_addN (a := 4 * i) (b := 1) rfl rfl oM) <| s_x 13 rfl (y_ixR (j := (4 * i) + 1) rfl rfl hbk.1 lenP kR) <| s_l 14 rfl (fun _ h => kD 1 rfl h) (y_load rfl rfl (fun w hw => ((fun w hw => Ro.rd hbk hw) w hw).cell (gM (d := 0) lenP))) <| s_x 15 rfl (y_conv8W (a := blk.getD ((4 * i) + 1) 0) rfl rfl rfl) <| s_x 16 rfl (y_shlW (a := (blk.getD ((4 * i) + 1) 0).toUInt32) (m := 16) rfl rfl dC) <| s_x 17 rfl (y_addW (a := ((blk.getD (4 * i) 0).toUInt32) <<< UInt32.ofNat 24) (b := ((blk.getD ((4 * i) + 1) 0).toUInt32) <<< UInt32.ofNat 16) rfl rfl) <| s_x 18 rfl (y_move rfl) <| s_x 19 rfl (y_move rfl) <| s_x 20 rfl (y_mulN (a := 4) (b := i) rfl rfl oM) <| s_x 21 rfl (y_addN (a := 4 * i) (b := 2) rfl rfl oM) <| s_x 22 rfl (y_ixR (j := (4 * i) + 2) rfl rfl hbk.1 lenP kR) ?_; refine s_l 23 rfl (fun _ h => kD 1 rfl h) (y_load rfl rfl (fun w hw => ((fun w hw => Ro.rd hbk hw) w hw).cell (gM (d := 0) lenP))) <| s_x 24 rfl (y_conv8W (a := blk.getD ((4 * i) + 2) 0) rfl rfl rfl) <| s_x 25 rfl (y_shlW (a := (blk.getD ((4 * i) + 2) 0).toUInt32) (m := 8) rfl rfl dC) <| s_x 26 rfl (y_addW (a := (((blk.getD (4 * i) 0).toUInt32) <<< UInt32.ofNat 24) + (((blk.getD ((4 * i) + 1) 0).toUInt32) <<< UInt32.ofNat 16)) (b := ((blk.getD ((4 * i) + 2) 0).toUInt32) <<< UInt32.ofNat 8) rfl rfl) <| s_x 27 rfl (y_move rfl) <| s_x 28 rfl (y_move rfl) <| s_x 29 rfl (y_mulN (a := 4) (b := i) rfl rfl oM) <| s_x 30 rfl (y_addN (a := 4 * i) (b := 3) rfl rfl oM) <| s_x 31 rfl (y_ixR (j := (4 * i) + 3) rfl rfl hbk.1 lenP kR) <| s_l 32 rfl (fun _ h => kD 1 rfl h) (y_load rfl rfl (fun w hw => ((fun w hw => Ro.rd hbk hw) w hw).cell (gM (d := 0) lenP))) <| s_x 33 rfl (y_conv8W (a := blk.getD ((4 * i) + 3) 0) rfl rfl rfl) <| s_x 34 rfl (y_addW (a := ((((blk.getD (4 * i) 0).toUInt32) <<< UInt32.ofNat 24) + (((blk.getD ((4 * i) + 1) 0).toUInt32) <<< UInt32.ofNat 16)) + (((blk.getD ((4 * i) + 2) 0).toUInt32) <<< UInt32.ofNat 8)) (b := (blk.getD ((4 * i) + 3) 0).toUInt32) rfl rfl) <| s_x 35 rfl (y_ixS01 (i := i) rfl rfl kR oM) <| tx_a 36 rfl kR rfl <| a_storeE (H1 := []) (o := i) (v := W4 ((((((blk.getD (4 * i) 0).toUInt32) <<< UInt32.ofNat 24) + (((blk.getD ((4 * i) + 1) 0).toUInt32) <<< UInt32.ofNat 16)) + (((blk.getD ((4 * i) + 2) 0).toUInt32) <<< UInt32.ofNat 8)) + ((blk.getD ((4 * i) + 3) 0).toUInt32))) (cs' := ((schedZ blk i).set i ((((((blk.getD (4 * i) 0).toUInt32) <<< UInt32.ofNat 24) + (((blk.getD ((4 * i) + 1) 0).toUInt32) <<< UInt32.ofNat 16)) + (((blk.getD ((4 * i) + 2) 0).toUInt32) <<< UInt32.ofNat 8)) + ((blk.getD ((4 * i) + 3) 0).toUInt32))).map W4) rfl rfl kR rfl rfl sW (sM) <| tk_S (fun _ h => kD 1 rfl h) <| tx_done kR <| tk_in_normal <| tk_then <| tk_region <| q_m rfl rfl <| s_q rfl (y_addN (a := i) (b := 1) rfl rfl oM) <| q_a rfl rfl <| tk_nil ?_; exact tk_R (H1 := []) rfl (congrArg (fun z_ => cel b19 z_ 213) (show ((schedZ blk i).set i ((((((blk.getD (4 * i) 0).toUInt32) <<< UInt32.ofNat 24) + (((blk.getD ((4 * i) + 1) 0).toUInt32) <<< UInt32.ofNat 16)) + (((blk.getD ((4 * i) + 2) 0).toUInt32) <<< UInt32.ofNat 8)) + ((blk.getD ((4 * i) + 3) 0).toUInt32))).map W4 = (schedZ blk (i + 1)).map W4 from congrArg (List.map W4) ((congrArg ((schedZ blk i).set i) (word_add blk i).symm).trans (schedZ_lo oM oM)))) <| tk_again (i + 1) (by first | exact trivial | omega | (dsimp only; omega)) (by first | omega | (dsimp only; omega)) sB (List.Sublist.refl _)
    · refine tk_seq <| tk_drawH [cel b19 ((schedZ blk i).map W4) 213, cel b18 (stepsL.map W4) 213] [] kR <| s_x 0 rfl (y_move rfl) <| s_x 1 rfl (y_move rfl) <| s_x 2 rfl (y_subN (a := i) (b := 15) rfl rfl oM) <| s_x 3 rfl (y_ixS01 (i := i - 15) rfl rfl kR oM) <| s_l 4 rfl (fun _ h => h) (y_load rfl rfl (hc (o := i - 15) (.head _) (gM (d := 0) lenP))) <| s_x 6 rfl (y_move rfl) <| s_x 7 rfl (y_move rfl) <| s_x 8 rfl (y_subN (a := i) (b := 15) rfl rfl oM) <| s_x 9 rfl (y_ixS01 (i := i - 15) rfl rfl kR oM) <| s_l 10 rfl (fun _ h => h) (y_load rfl rfl (hc (o := i - 15) (.head _) (gM (d := 0) lenP))) <| s_x 13 rfl (y_move rfl) <| s_x 14 rfl (y_move rfl) <| s_x 15 rfl (y_subN (a := i) (b := 15) rfl rfl oM) <| s_x 16 rfl (y_ixS01 (i := i - 15) rfl rfl kR oM) <| s_l 17 rfl (fun _ h => h) (y_load rfl rfl (hc (o := i - 15) (.head _) (gM (d := 0) lenP))) <| s_x 18 rfl (y_shrW (a := (schedZ blk i).getD (i - 15) 0) (m := 3) rfl rfl dC) <| tx_a 5 rfl kR rfl <| a_callv [] _ rfl kR rfl (fun w' hw' => right_spec ((schedZ blk i).getD (i - 15) 0) 7 dC) rfl fun _ _ => tk_S (fun _ h => h) <| tx_a 11 rfl kR rfl <| a_callv [] _ rfl kR rfl (fun w' hw' => right_spec ((schedZ blk i).getD (i - 15) 0) 18 dC) rfl fun _ _ => tk_S (fun _ h => h) ?_; refine s_x 12 rfl (y_xorW (a := rr ((schedZ blk i).getD (i - 15) 0) 7) (b := rr ((schedZ blk i).getD (i - 15) 0) 18) rfl rfl) <| s_x 19 rfl (y_xorW (a := (rr ((schedZ blk i).getD (i - 15) 0) 7) ^^^ (rr ((schedZ blk i).getD (i - 15) 0) 18)) (b := ((schedZ blk i).getD (i - 15) 0) >>> UInt32.ofNat 3) rfl rfl) <| s_x 20 rfl (y_assign rfl) <| tx_done kR <| tk_then <| tk_seq <| tk_drawH [cel b19 ((schedZ blk i).map W4) 213, cel b18 (stepsL.map W4) 213] [] kR <| s_x 0 rfl (y_move rfl) <| s_x 1 rfl (y_move rfl) <| s_x 2 rfl (y_subN (a := i) (b := 2) rfl rfl oM) <| s_x 3 rfl (y_ixS01 (i := i - 2) rfl rfl kR oM) <| s_l 4 rfl (fun _ h => h) (y_load rfl rfl (hc (o := i - 2) (.head _) (gM (d := 0) lenP))) <| s_x 6 rfl (y_move rfl) <| s_x 7 rfl (y_move rfl) <| s_x 8 rfl (y_subN (a := i) (b := 2) rfl rfl oM) <| s_x 9 rfl (y_ixS01 (i := i - 2) rfl rfl kR oM) <| s_l 10 rfl (fun _ h => h) (y_load rfl rfl (hc (o := i - 2) (.head _) (gM (d := 0) lenP))) <| s_x 13 rfl (y_move rfl) <| s_x 14 rfl (y_move rfl) <| s_x 15 rfl (y_subN (a := i) (b := 2) rfl rfl oM) <| s_x 16 rfl (y_ixS01 (i := i - 2) rfl rfl kR oM) <| s_l 17 rfl (fun _ h => h) (y_load rfl rfl (hc (o := i - 2) (.head _) (gM (d := 0) lenP))) <| s_x 18 rfl (y_shrW (a := (schedZ blk i).getD (i - 2) 0) (m := 10) rfl rfl dC) <| tx_a 5 rfl kR rfl ?_; refine a_callv [] _ rfl kR rfl (fun w' hw' => right_spec ((schedZ blk i).getD (i - 2) 0) 17 dC) rfl fun _ _ => tk_S (fun _ h => h) <| tx_a 11 rfl kR rfl <| a_callv [] _ rfl kR rfl (fun w' hw' => right_spec ((schedZ blk i).getD (i - 2) 0) 19 dC) rfl fun _ _ => tk_S (fun _ h => h) <| s_x 12 rfl (y_xorW (a := rr ((schedZ blk i).getD (i - 2) 0) 17) (b := rr ((schedZ blk i).getD (i - 2) 0) 19) rfl rfl) <| s_x 19 rfl (y_xorW (a := (rr ((schedZ blk i).getD (i - 2) 0) 17) ^^^ (rr ((schedZ blk i).getD (i - 2) 0) 19)) (b := ((schedZ blk i).getD (i - 2) 0) >>> UInt32.ofNat 10) rfl rfl) <| s_x 20 rfl (y_assign rfl) <| tx_done kR <| tk_then <| tk_drawH [cel b19 ((schedZ blk i).map W4) 213, cel b18 (stepsL.map W4) 213] [18] kR <| s_x 0 rfl (y_move rfl) <| s_x 1 rfl (y_move rfl) <| s_x 2 rfl (y_move rfl) <| s_x 3 rfl (y_move rfl) <| s_x 4 rfl (y_subN (a := i) (b := 16) rfl rfl oM) <| s_x 5 rfl (y_ixS01 (i := i - 16) rfl rfl kR oM) <| s_l 6 rfl (fun _ h => h) (y_load rfl rfl (hc (o := i - 16) (.head _) (gM (d := 0) lenP))) <| s_x 7 rfl (y_move rfl) <| s_x 8 rfl (y_addW (a := (schedZ blk i).getD (i - 16) 0) (b := ((rr ((schedZ blk i).getD (i - 15) 0) 7) ^^^ (rr ((schedZ blk i).getD (i - 15) 0) 18)) ^^^ (((schedZ blk i).getD (i - 15) 0) >>> UInt32.ofNat 3)) rfl rfl) <| s_x 9 rfl (y_move rfl) <| s_x 10 rfl (y_move rfl) <| s_x 11 rfl (y_subN (a := i) (b := 7) rfl rfl oM) <| s_x 12 rfl (y_ixS01 (i := i - 7) rfl rfl kR oM) ?_; exact s_l 13 rfl (fun _ h => h) (y_load rfl rfl (hc (o := i - 7) (.head _) (gM (d := 0) lenP))) <| s_x 14 rfl (y_addW (a := ((schedZ blk i).getD (i - 16) 0) + (((rr ((schedZ blk i).getD (i - 15) 0) 7) ^^^ (rr ((schedZ blk i).getD (i - 15) 0) 18)) ^^^ (((schedZ blk i).getD (i - 15) 0) >>> UInt32.ofNat 3))) (b := (schedZ blk i).getD (i - 7) 0) rfl rfl) <| s_x 15 rfl (y_move rfl) <| s_x 16 rfl (y_addW (a := (((schedZ blk i).getD (i - 16) 0) + (((rr ((schedZ blk i).getD (i - 15) 0) 7) ^^^ (rr ((schedZ blk i).getD (i - 15) 0) 18)) ^^^ (((schedZ blk i).getD (i - 15) 0) >>> UInt32.ofNat 3))) + ((schedZ blk i).getD (i - 7) 0)) (b := ((rr ((schedZ blk i).getD (i - 2) 0) 17) ^^^ (rr ((schedZ blk i).getD (i - 2) 0) 19)) ^^^ (((schedZ blk i).getD (i - 2) 0) >>> UInt32.ofNat 10)) rfl rfl) <| s_x 17 rfl (y_ixS01 (i := i) rfl rfl kR oM) <| tx_x 18 rfl kR rfl rfl <| a_storeE (H1 := []) (o := i) (v := W4 (((((schedZ blk i).getD (i - 16) 0) + (((rr ((schedZ blk i).getD (i - 15) 0) 7) ^^^ (rr ((schedZ blk i).getD (i - 15) 0) 18)) ^^^ (((schedZ blk i).getD (i - 15) 0) >>> UInt32.ofNat 3))) + ((schedZ blk i).getD (i - 7) 0)) + (((rr ((schedZ blk i).getD (i - 2) 0) 17) ^^^ (rr ((schedZ blk i).getD (i - 2) 0) 19)) ^^^ (((schedZ blk i).getD (i - 2) 0) >>> UInt32.ofNat 10)))) (cs' := ((schedZ blk i).set i (((((schedZ blk i).getD (i - 16) 0) + (((rr ((schedZ blk i).getD (i - 15) 0) 7) ^^^ (rr ((schedZ blk i).getD (i - 15) 0) 18)) ^^^ (((schedZ blk i).getD (i - 15) 0) >>> UInt32.ofNat 3))) + ((schedZ blk i).getD (i - 7) 0)) + (((rr ((schedZ blk i).getD (i - 2) 0) 17) ^^^ (rr ((schedZ blk i).getD (i - 2) 0) 19)) ^^^ (((schedZ blk i).getD (i - 2) 0) >>> UInt32.ofNat 10)))).map W4) rfl rfl kR rfl rfl sW (sM) <| tx_done kR <| tk_in_normal <| tk_then <| tk_region <| q_m rfl rfl <| s_q rfl (y_addN (a := i) (b := 1) rfl rfl oM) <| q_a rfl rfl <| tk_nil <| tk_R (H1 := []) rfl (congrArg (fun z_ => cel b19 z_ 213) (show ((schedZ blk i).set i (((((schedZ blk i).getD (i - 16) 0) + (((rr ((schedZ blk i).getD (i - 15) 0) 7) ^^^ (rr ((schedZ blk i).getD (i - 15) 0) 18)) ^^^ (((schedZ blk i).getD (i - 15) 0) >>> UInt32.ofNat 3))) + ((schedZ blk i).getD (i - 7) 0)) + (((rr ((schedZ blk i).getD (i - 2) 0) 17) ^^^ (rr ((schedZ blk i).getD (i - 2) 0) 19)) ^^^ (((schedZ blk i).getD (i - 2) 0) >>> UInt32.ofNat 10)))).map W4 = (schedZ blk (i + 1)).map W4 from congrArg (List.map W4) (schedZ_hi' oM oM))) <| tk_again (i + 1) (by first | exact trivial | omega | (dsimp only; omega)) (by first | omega | (dsimp only; omega)) sB (List.Sublist.refl _)
  · refine tk_R (H1 := []) rfl (congrArg (fun z_ => cel b19 z_ 213) (show (schedZ blk i).map W4 = (sched blk 64).map W4 from by rw [show i = 64 by omega, schedZ_64])) <| tk_exit <| tk_then_exit <| tk_then_exit <| tk_in_hit <| tk_then <| s_r <| tk_act rfl <| a_slit0 EL345 rfl fun v120 => q_m rfl rfl <| tk_act rfl <| a_appM (H1 := []) (f := W4) (l := []) (m := R) rfl rfl EL345 rfl rfl (fun w hw => Ro.rd hr hw) (fun _ => rfl) ⟨lenP, lenP⟩ fun v122 => tk_own1 (.head _) fun hfv122 => q_a rfl rfl <| s_n <| tk_seq <| s_r <| q_a rfl rfl <| s_n <| tk_block <| tk_R (H1 := []) rfl (show own v122 R.length (R.map W4) 213 1 = own v122 ((rounds R stepsL (sched blk 64) 0).length) ((rounds R stepsL (sched blk 64) 0).map W4) 213 1 from ownM_cast rounds_0.symm) <| tk_loop (X := Nat × Value) (fun (i, vv) => i ≤ 64) (fun (i, vv) => [(0, rv), (4, .slice none 0 0), (5, .slice (some ⟨b18, 0, none⟩) 64 64), (6, .slice (some ⟨b19, 0, none⟩) 64 64), (10, vv), (11, IN i)]) (fun (i, vv) => [own vv ((rounds R stepsL (sched blk 64) i).length) ((rounds R stepsL (sched blk 64) i).map W4) 213 1, cel b19 ((sched blk 64).map W4) 213, cel b18 (stepsL.map W4) 213]) (fun (i, vv) => 64 - i) ((0, v122)) (by first | exact trivial | omega | (dsimp only; omega)) sB ((List.Sublist.refl _)) ?_
    rintro ⟨i, vv⟩ hI
    try dsimp only at hI ⊢
    have hR : (rounds R stepsL (sched blk 64) i).length = 8 := rounds_len hR8 i
    have hz : (sched blk 64).length = 64 := sched_len _ _
    refine tk_own1 (.head _) fun hfvv => tk_seq <| s_r <| q_m rfl rfl <| s_q rfl (y_lss rfl rfl) <| s_n <| tk_condP rfl (fun ht124 => ?_) (fun ht124 => ?_)
    · refine tk_skip <| tk_then <| tk_seq <| tk_block <| tk_seq <| tk_drawH [own vv ((rounds R stepsL (sched blk 64) i).length) ((rounds R stepsL (sched blk 64) i).map W4) 213 1, cel b19 ((sched blk 64).map W4) 213, cel b18 (stepsL.map W4) 213] [] kR <| s_x 0 rfl (y_move rfl) <| s_x 1 rfl (y_ixR (j := 4) rfl rfl hfvv.choose_spec lenP kR) <| s_l 2 rfl (fun _ h => h) (y_load rfl rfl (fun w hw => ((fun w hw => own_rdS (hw.mem (.head _))) w hw).cell (gM (d := 0) lenP))) <| s_x 4 rfl (y_move rfl) <| s_x 5 rfl (y_ixR (j := 4) rfl rfl hfvv.choose_spec lenP kR) <| s_l 6 rfl (fun _ h => h) (y_load rfl rfl (fun w hw => ((fun w hw => own_rdS (hw.mem (.head _))) w hw).cell (gM (d := 0) lenP))) <| s_x 9 rfl (y_move rfl) <| s_x 10 rfl (y_ixR (j := 4) rfl rfl hfvv.choose_spec lenP kR) <| s_l 11 rfl (fun _ h => h) (y_load rfl rfl (fun w hw => ((fun w hw => own_rdS (hw.mem (.head _))) w hw).cell (gM (d := 0) lenP))) <| tx_a 3 rfl kR rfl <| a_callv [] _ rfl kR rfl (fun w' hw' => right_spec ((rounds R stepsL (sched blk 64) i).getD 4 0) 6 dC) rfl fun _ _ => tk_S (fun _ h => h) <| tx_a 7 rfl kR rfl <| a_callv [] _ rfl kR rfl (fun w' hw' => right_spec ((rounds R stepsL (sched blk 64) i).getD 4 0) 11 dC) rfl fun _ _ => tk_S (fun _ h => h) <| s_x 8 rfl (y_xorW (a := rr ((rounds R stepsL (sched blk 64) i).getD 4 0) 6) (b := rr ((rounds R stepsL (sched blk 64) i).getD 4 0) 11) rfl rfl) <| tx_a 12 rfl kR rfl <| a_callv [] _ rfl kR rfl (fun w' hw' => right_spec ((rounds R stepsL (sched blk 64) i).getD 4 0) 25 dC) rfl fun _ _ => ?_; refine tk_S (fun _ h => h) <| s_x 13 rfl (y_xorW (a := (rr ((rounds R stepsL (sched blk 64) i).getD 4 0) 6) ^^^ (rr ((rounds R stepsL (sched blk 64) i).getD 4 0) 11)) (b := rr ((rounds R stepsL (sched blk 64) i).getD 4 0) 25) rfl rfl) <| s_x 14 rfl (y_assign rfl) <| tx_done kR <| tk_then <| tk_seq <| tk_drawH [own vv ((rounds R stepsL (sched blk 64) i).length) ((rounds R stepsL (sched blk 64) i).map W4) 213 1, cel b19 ((sched blk 64).map W4) 213, cel b18 (stepsL.map W4) 213] [] kR <| s_x 0 rfl (y_move rfl) <| s_x 1 rfl (y_ixR (j := 0) rfl rfl hfvv.choose_spec lenP kR) <| s_l 2 rfl (fun _ h => h) (y_load rfl rfl (fun w hw => ((fun w hw => own_rdS (hw.mem (.head _))) w hw).cell (gM (d := 0) lenP))) <| s_x 4 rfl (y_move rfl) <| s_x 5 rfl (y_ixR (j := 0) rfl rfl hfvv.choose_spec lenP kR) <| s_l 6 rfl (fun _ h => h) (y_load rfl rfl (fun w hw => ((fun w hw => own_rdS (hw.mem (.head _))) w hw).cell (gM (d := 0) lenP))) <| s_x 9 rfl (y_move rfl) <| s_x 10 rfl (y_ixR (j := 0) rfl rfl hfvv.choose_spec lenP kR) <| s_l 11 rfl (fun _ h => h) (y_load rfl rfl (fun w hw => ((fun w hw => own_rdS (hw.mem (.head _))) w hw).cell (gM (d := 0) lenP))) <| tx_a 3 rfl kR rfl <| a_callv [] _ rfl kR rfl (fun w' hw' => right_spec ((rounds R stepsL (sched blk 64) i).getD 0 0) 2 dC) rfl fun _ _ => tk_S (fun _ h => h) <| tx_a 7 rfl kR rfl <| a_callv [] _ rfl kR rfl (fun w' hw' => right_spec ((rounds R stepsL (sched blk 64) i).getD 0 0) 13 dC) rfl fun _ _ => tk_S (fun _ h => h) <| s_x 8 rfl (y_xorW (a := rr ((rounds R stepsL (sched blk 64) i).getD 0 0) 2) (b := rr ((rounds R stepsL (sched blk 64) i).getD 0 0) 13) rfl rfl) <| tx_a 12 rfl kR rfl ?_; refine a_callv [] _ rfl kR rfl (fun w' hw' => right_spec ((rounds R stepsL (sched blk 64) i).getD 0 0) 22 dC) rfl fun _ _ => tk_S (fun _ h => h) <| s_x 13 rfl (y_xorW (a := (rr ((rounds R stepsL (sched blk 64) i).getD 0 0) 2) ^^^ (rr ((rounds R stepsL (sched blk 64) i).getD 0 0) 13)) (b := rr ((rounds R stepsL (sched blk 64) i).getD 0 0) 22) rfl rfl) <| s_x 14 rfl (y_assign rfl) <| tx_done kR <| tk_then <| tk_seq <| tk_drawH [own vv ((rounds R stepsL (sched blk 64) i).length) ((rounds R stepsL (sched blk 64) i).map W4) 213 1, cel b19 ((sched blk 64).map W4) 213, cel b18 (stepsL.map W4) 213] [] kR <| s_x 0 rfl (y_move rfl) <| s_x 1 rfl (y_ixR (j := 4) rfl rfl hfvv.choose_spec lenP kR) <| s_l 2 rfl (fun _ h => h) (y_load rfl rfl (fun w hw => ((fun w hw => own_rdS (hw.mem (.head _))) w hw).cell (gM (d := 0) lenP))) <| s_x 3 rfl (y_move rfl) <| s_x 4 rfl (y_ixR (j := 5) rfl rfl hfvv.choose_spec lenP kR) <| s_l 5 rfl (fun _ h => h) (y_load rfl rfl (fun w hw => ((fun w hw => own_rdS (hw.mem (.head _))) w hw).cell (gM (d := 0) lenP))) <| s_x 6 rfl (y_andW (a := (rounds R stepsL (sched blk 64) i).getD 4 0) (b := (rounds R stepsL (sched blk 64) i).getD 5 0) rfl rfl) <| s_x 7 rfl (y_move rfl) <| s_x 8 rfl (y_ixR (j := 4) rfl rfl hfvv.choose_spec lenP kR) <| s_l 9 rfl (fun _ h => h) (y_load rfl rfl (fun w hw => ((fun w hw => own_rdS (hw.mem (.head _))) w hw).cell (gM (d := 0) lenP))) <| s_x 10 rfl (y_notW (a := (rounds R stepsL (sched blk 64) i).getD 4 0) rfl) <| s_x 11 rfl (y_move rfl) <| s_x 12 rfl (y_ixR (j := 6) rfl rfl hfvv.choose_spec lenP kR) <| s_l 13 rfl (fun _ h => h) (y_load rfl rfl (fun w hw => ((fun w hw => own_rdS (hw.mem (.head _))) w hw).cell (gM (d := 0) lenP))) <| s_x 14 rfl (y_andW (a := ~~~((rounds R stepsL (sched blk 64) i).getD 4 0)) (b := (rounds R stepsL (sched blk 64) i).getD 6 0) rfl rfl) <| s_x 15 rfl (y_xorW (a := ((rounds R stepsL (sched blk 64) i).getD 4 0) &&& ((rounds R stepsL (sched blk 64) i).getD 5 0)) (b := (~~~((rounds R stepsL (sched blk 64) i).getD 4 0)) &&& ((rounds R stepsL (sched blk 64) i).getD 6 0)) rfl rfl) ?_; refine s_x 16 rfl (y_assign rfl) <| tx_done kR <| tk_then <| tk_seq <| tk_drawH [own vv ((rounds R stepsL (sched blk 64) i).length) ((rounds R stepsL (sched blk 64) i).map W4) 213 1, cel b19 ((sched blk 64).map W4) 213, cel b18 (stepsL.map W4) 213] [] kR <| s_x 0 rfl (y_move rfl) <| s_x 1 rfl (y_ixR (j := 0) rfl rfl hfvv.choose_spec lenP kR) <| s_l 2 rfl (fun _ h => h) (y_load rfl rfl (fun w hw => ((fun w hw => own_rdS (hw.mem (.head _))) w hw).cell (gM (d := 0) lenP))) <| s_x 3 rfl (y_move rfl) <| s_x 4 rfl (y_ixR (j := 1) rfl rfl hfvv.choose_spec lenP kR) <| s_l 5 rfl (fun _ h => h) (y_load rfl rfl (fun w hw => ((fun w hw => own_rdS (hw.mem (.head _))) w hw).cell (gM (d := 0) lenP))) <| s_x 6 rfl (y_andW (a := (rounds R stepsL (sched blk 64) i).getD 0 0) (b := (rounds R stepsL (sched blk 64) i).getD 1 0) rfl rfl) <| s_x 7 rfl (y_move rfl) <| s_x 8 rfl (y_ixR (j := 0) rfl rfl hfvv.choose_spec lenP kR) <| s_l 9 rfl (fun _ h => h) (y_load rfl rfl (fun w hw => ((fun w hw => own_rdS (hw.mem (.head _))) w hw).cell (gM (d := 0) lenP))) <| s_x 10 rfl (y_move rfl) <| s_x 11 rfl (y_ixR (j := 2) rfl rfl hfvv.choose_spec lenP kR) <| s_l 12 rfl (fun _ h => h) (y_load rfl rfl (fun w hw => ((fun w hw => own_rdS (hw.mem (.head _))) w hw).cell (gM (d := 0) lenP))) <| s_x 13 rfl (y_andW (a := (rounds R stepsL (sched blk 64) i).getD 0 0) (b := (rounds R stepsL (sched blk 64) i).getD 2 0) rfl rfl) <| s_x 14 rfl (y_xorW (a := ((rounds R stepsL (sched blk 64) i).getD 0 0) &&& ((rounds R stepsL (sched blk 64) i).getD 1 0)) (b := ((rounds R stepsL (sched blk 64) i).getD 0 0) &&& ((rounds R stepsL (sched blk 64) i).getD 2 0)) rfl rfl) <| s_x 15 rfl (y_move rfl) <| s_x 16 rfl (y_ixR (j := 1) rfl rfl hfvv.choose_spec lenP kR) <| s_l 17 rfl (fun _ h => h) (y_load rfl rfl (fun w hw => ((fun w hw => own_rdS (hw.mem (.head _))) w hw).cell (gM (d := 0) lenP))) <| s_x 18 rfl (y_move rfl) ?_; refine s_x 19 rfl (y_ixR (j := 2) rfl rfl hfvv.choose_spec lenP kR) <| s_l 20 rfl (fun _ h => h) (y_load rfl rfl (fun w hw => ((fun w hw => own_rdS (hw.mem (.head _))) w hw).cell (gM (d := 0) lenP))) <| s_x 21 rfl (y_andW (a := (rounds R stepsL (sched blk 64) i).getD 1 0) (b := (rounds R stepsL (sched blk 64) i).getD 2 0) rfl rfl) <| s_x 22 rfl (y_xorW (a := (((rounds R stepsL (sched blk 64) i).getD 0 0) &&& ((rounds R stepsL (sched blk 64) i).getD 1 0)) ^^^ (((rounds R stepsL (sched blk 64) i).getD 0 0) &&& ((rounds R stepsL (sched blk 64) i).getD 2 0))) (b := ((rounds R stepsL (sched blk 64) i).getD 1 0) &&& ((rounds R stepsL (sched blk 64) i).getD 2 0)) rfl rfl) <| s_x 23 rfl (y_assign rfl) <| tx_done kR <| tk_then <| tk_seq <| tk_drawH [own vv ((rounds R stepsL (sched blk 64) i).length) ((rounds R stepsL (sched blk 64) i).map W4) 213 1, cel b19 ((sched blk 64).map W4) 213, cel b18 (stepsL.map W4) 213] [] kR <| s_x 0 rfl (y_move rfl) <| s_x 1 rfl (y_ixR (j := 7) rfl rfl hfvv.choose_spec lenP kR) <| s_l 2 rfl (fun _ h => h) (y_load rfl rfl (fun w hw => ((fun w hw => own_rdS (hw.mem (.head _))) w hw).cell (gM (d := 0) lenP))) <| s_x 3 rfl (y_move rfl) <| s_x 4 rfl (y_addW (a := (rounds R stepsL (sched blk 64) i).getD 7 0) (b := ((rr ((rounds R stepsL (sched blk 64) i).getD 4 0) 6) ^^^ (rr ((rounds R stepsL (sched blk 64) i).getD 4 0) 11)) ^^^ (rr ((rounds R stepsL (sched blk 64) i).getD 4 0) 25)) rfl rfl) <| s_x 5 rfl (y_move rfl) <| s_x 6 rfl (y_addW (a := ((rounds R stepsL (sched blk 64) i).getD 7 0) + (((rr ((rounds R stepsL (sched blk 64) i).getD 4 0) 6) ^^^ (rr ((rounds R stepsL (sched blk 64) i).getD 4 0) 11)) ^^^ (rr ((rounds R stepsL (sched blk 64) i).getD 4 0) 25))) (b := (((rounds R stepsL (sched blk 64) i).getD 4 0) &&& ((rounds R stepsL (sched blk 64) i).getD 5 0)) ^^^ ((~~~((rounds R stepsL (sched blk 64) i).getD 4 0)) &&& ((rounds R stepsL (sched blk 64) i).getD 6 0))) rfl rfl) <| s_x 7 rfl (y_move rfl) <| s_x 8 rfl (y_move rfl) <| s_x 9 rfl (y_ixS01 (i := i) rfl rfl kR oM) <| s_l 10 rfl (fun _ h => h) (y_load rfl rfl (hc (o := i) (mm 2 rfl) (gM (d := 0) lenP))) <| s_x 11 rfl (y_addW (a := (((rounds R stepsL (sched blk 64) i).getD 7 0) + (((rr ((rounds R stepsL (sched blk 64) i).getD 4 0) 6) ^^^ (rr ((rounds R stepsL (sched blk 64) i).getD 4 0) 11)) ^^^ (rr ((rounds R stepsL (sched blk 64) i).getD 4 0) 25))) + ((((rounds R stepsL (sched blk 64) i).getD 4 0) &&& ((rounds R stepsL (sched blk 64) i).getD 5 0)) ^^^ ((~~~((rounds R stepsL (sched blk 64) i).getD 4 0)) &&& ((rounds R stepsL (sched blk 64) i).getD 6 0)))) (b := stepsL.getD i 0) rfl rfl) ?_; refine s_x 12 rfl (y_move rfl) <| s_x 13 rfl (y_move rfl) <| s_x 14 rfl (y_ixS01 (i := i) rfl rfl kR oM) <| s_l 15 rfl (fun _ h => h) (y_load rfl rfl (hc (o := i) (mm 1 rfl) (gM (d := 0) lenP))) <| s_x 16 rfl (y_addW (a := ((((rounds R stepsL (sched blk 64) i).getD 7 0) + (((rr ((rounds R stepsL (sched blk 64) i).getD 4 0) 6) ^^^ (rr ((rounds R stepsL (sched blk 64) i).getD 4 0) 11)) ^^^ (rr ((rounds R stepsL (sched blk 64) i).getD 4 0) 25))) + ((((rounds R stepsL (sched blk 64) i).getD 4 0) &&& ((rounds R stepsL (sched blk 64) i).getD 5 0)) ^^^ ((~~~((rounds R stepsL (sched blk 64) i).getD 4 0)) &&& ((rounds R stepsL (sched blk 64) i).getD 6 0)))) + (stepsL.getD i 0)) (b := (sched blk 64).getD i 0) rfl rfl) <| s_x 17 rfl (y_assign rfl) <| tx_done kR <| tk_then <| tk_drawH [own vv ((rounds R stepsL (sched blk 64) i).length) ((rounds R stepsL (sched blk 64) i).map W4) 213 1, cel b19 ((sched blk 64).map W4) 213, cel b18 (stepsL.map W4) 213] [] kR <| s_x 0 rfl (y_move rfl) <| s_x 1 rfl (y_move rfl) <| s_x 2 rfl (y_addW (a := (((((rounds R stepsL (sched blk 64) i).getD 7 0) + (((rr ((rounds R stepsL (sched blk 64) i).getD 4 0) 6) ^^^ (rr ((rounds R stepsL (sched blk 64) i).getD 4 0) 11)) ^^^ (rr ((rounds R stepsL (sched blk 64) i).getD 4 0) 25))) + ((((rounds R stepsL (sched blk 64) i).getD 4 0) &&& ((rounds R stepsL (sched blk 64) i).getD 5 0)) ^^^ ((~~~((rounds R stepsL (sched blk 64) i).getD 4 0)) &&& ((rounds R stepsL (sched blk 64) i).getD 6 0)))) + (stepsL.getD i 0)) + ((sched blk 64).getD i 0)) (b := ((rr ((rounds R stepsL (sched blk 64) i).getD 0 0) 2) ^^^ (rr ((rounds R stepsL (sched blk 64) i).getD 0 0) 13)) ^^^ (rr ((rounds R stepsL (sched blk 64) i).getD 0 0) 22)) rfl rfl) <| s_x 3 rfl (y_move rfl) <| s_x 4 rfl (y_addW (a := ((((((rounds R stepsL (sched blk 64) i).getD 7 0) + (((rr ((rounds R stepsL (sched blk 64) i).getD 4 0) 6) ^^^ (rr ((rounds R stepsL (sched blk 64) i).getD 4 0) 11)) ^^^ (rr ((rounds R stepsL (sched blk 64) i).getD 4 0) 25))) + ((((rounds R stepsL (sched blk 64) i).getD 4 0) &&& ((rounds R stepsL (sched blk 64) i).getD 5 0)) ^^^ ((~~~((rounds R stepsL (sched blk 64) i).getD 4 0)) &&& ((rounds R stepsL (sched blk 64) i).getD 6 0)))) + (stepsL.getD i 0)) + ((sched blk 64).getD i 0)) + (((rr ((rounds R stepsL (sched blk 64) i).getD 0 0) 2) ^^^ (rr ((rounds R stepsL (sched blk 64) i).getD 0 0) 13)) ^^^ (rr ((rounds R stepsL (sched blk 64) i).getD 0 0) 22))) (b := ((((rounds R stepsL (sched blk 64) i).getD 0 0) &&& ((rounds R stepsL (sched blk 64) i).getD 1 0)) ^^^ (((rounds R stepsL (sched blk 64) i).getD 0 0) &&& ((rounds R stepsL (sched blk 64) i).getD 2 0))) ^^^ (((rounds R stepsL (sched blk 64) i).getD 1 0) &&& ((rounds R stepsL (sched blk 64) i).getD 2 0))) rfl rfl) ?_; refine s_x 5 rfl (y_move rfl) <| s_x 6 rfl (y_ixR (j := 0) rfl rfl hfvv.choose_spec lenP kR) <| s_l 7 rfl (fun _ h => h) (y_load rfl rfl (fun w hw => ((fun w hw => own_rdS (hw.mem (.head _))) w hw).cell (gM (d := 0) lenP))) <| s_x 8 rfl (y_move rfl) <| s_x 9 rfl (y_ixR (j := 1) rfl rfl hfvv.choose_spec lenP kR) <| s_l 10 rfl (fun _ h => h) (y_load rfl rfl (fun w hw => ((fun w hw => own_rdS (hw.mem (.head _))) w hw).cell (gM (d := 0) lenP))) <| s_x 11 rfl (y_move rfl) <| s_x 12 rfl (y_ixR (j := 2) rfl rfl hfvv.choose_spec lenP kR) <| s_l 13 rfl (fun _ h => h) (y_load rfl rfl (fun w hw => ((fun w hw => own_rdS (hw.mem (.head _))) w hw).cell (gM (d := 0) lenP))) <| s_x 14 rfl (y_move rfl) <| s_x 15 rfl (y_ixR (j := 3) rfl rfl hfvv.choose_spec lenP kR) <| s_l 16 rfl (fun _ h => h) (y_load rfl rfl (fun w hw => ((fun w hw => own_rdS (hw.mem (.head _))) w hw).cell (gM (d := 0) lenP))) <| s_x 17 rfl (y_move rfl) <| s_x 18 rfl (y_addW (a := (rounds R stepsL (sched blk 64) i).getD 3 0) (b := (((((rounds R stepsL (sched blk 64) i).getD 7 0) + (((rr ((rounds R stepsL (sched blk 64) i).getD 4 0) 6) ^^^ (rr ((rounds R stepsL (sched blk 64) i).getD 4 0) 11)) ^^^ (rr ((rounds R stepsL (sched blk 64) i).getD 4 0) 25))) + ((((rounds R stepsL (sched blk 64) i).getD 4 0) &&& ((rounds R stepsL (sched blk 64) i).getD 5 0)) ^^^ ((~~~((rounds R stepsL (sched blk 64) i).getD 4 0)) &&& ((rounds R stepsL (sched blk 64) i).getD 6 0)))) + (stepsL.getD i 0)) + ((sched blk 64).getD i 0)) rfl rfl) <| s_x 19 rfl (y_move rfl) <| s_x 20 rfl (y_ixR (j := 4) rfl rfl hfvv.choose_spec lenP kR) <| s_l 21 rfl (fun _ h => h) (y_load rfl rfl (fun w hw => ((fun w hw => own_rdS (hw.mem (.head _))) w hw).cell (gM (d := 0) lenP))) <| s_x 22 rfl (y_move rfl) <| s_x 23 rfl (y_ixR (j := 5) rfl rfl hfvv.choose_spec lenP kR) <| s_l 24 rfl (fun _ h => h) (y_load rfl rfl (fun w hw => ((fun w hw => own_rdS (hw.mem (.head _))) w hw).cell (gM (d := 0) lenP))) <| s_x 25 rfl (y_move rfl) <| s_x 26 rfl (y_ixR (j := 6) rfl rfl hfvv.choose_spec lenP kR) <| s_l 27 rfl (fun _ h => h) (y_load rfl rfl (fun w hw => ((fun w hw => own_rdS (hw.mem (.head _))) w hw).cell (gM (d := 0) lenP))) <| tx_a 28 rfl kR rfl ?_; refine a_slitN (vs := [W4 ((((((((rounds R stepsL (sched blk 64) i).getD 7 0) + (((rr ((rounds R stepsL (sched blk 64) i).getD 4 0) 6) ^^^ (rr ((rounds R stepsL (sched blk 64) i).getD 4 0) 11)) ^^^ (rr ((rounds R stepsL (sched blk 64) i).getD 4 0) 25))) + ((((rounds R stepsL (sched blk 64) i).getD 4 0) &&& ((rounds R stepsL (sched blk 64) i).getD 5 0)) ^^^ ((~~~((rounds R stepsL (sched blk 64) i).getD 4 0)) &&& ((rounds R stepsL (sched blk 64) i).getD 6 0)))) + (stepsL.getD i 0)) + ((sched blk 64).getD i 0)) + (((rr ((rounds R stepsL (sched blk 64) i).getD 0 0) 2) ^^^ (rr ((rounds R stepsL (sched blk 64) i).getD 0 0) 13)) ^^^ (rr ((rounds R stepsL (sched blk 64) i).getD 0 0) 22))) + (((((rounds R stepsL (sched blk 64) i).getD 0 0) &&& ((rounds R stepsL (sched blk 64) i).getD 1 0)) ^^^ (((rounds R stepsL (sched blk 64) i).getD 0 0) &&& ((rounds R stepsL (sched blk 64) i).getD 2 0))) ^^^ (((rounds R stepsL (sched blk 64) i).getD 1 0) &&& ((rounds R stepsL (sched blk 64) i).getD 2 0)))), W4 ((rounds R stepsL (sched blk 64) i).getD 0 0), W4 ((rounds R stepsL (sched blk 64) i).getD 1 0), W4 ((rounds R stepsL (sched blk 64) i).getD 2 0), W4 (((rounds R stepsL (sched blk 64) i).getD 3 0) + ((((((rounds R stepsL (sched blk 64) i).getD 7 0) + (((rr ((rounds R stepsL (sched blk 64) i).getD 4 0) 6) ^^^ (rr ((rounds R stepsL (sched blk 64) i).getD 4 0) 11)) ^^^ (rr ((rounds R stepsL (sched blk 64) i).getD 4 0) 25))) + ((((rounds R stepsL (sched blk 64) i).getD 4 0) &&& ((rounds R stepsL (sched blk 64) i).getD 5 0)) ^^^ ((~~~((rounds R stepsL (sched blk 64) i).getD 4 0)) &&& ((rounds R stepsL (sched blk 64) i).getD 6 0)))) + (stepsL.getD i 0)) + ((sched blk 64).getD i 0))), W4 ((rounds R stepsL (sched blk 64) i).getD 4 0), W4 ((rounds R stepsL (sched blk 64) i).getD 5 0), W4 ((rounds R stepsL (sched blk 64) i).getD 6 0)]) rfl (List.forall_mem_cons.2 ⟨rfl, (List.forall_mem_cons.2 ⟨rfl, (List.forall_mem_cons.2 ⟨rfl, (List.forall_mem_cons.2 ⟨rfl, (List.forall_mem_cons.2 ⟨rfl, (List.forall_mem_cons.2 ⟨rfl, (List.forall_mem_cons.2 ⟨rfl, (List.forall_mem_cons.2 ⟨rfl, (fun _ h => nomatch h)⟩)⟩)⟩)⟩)⟩)⟩)⟩)⟩) (EL345) rfl rfl dC fun b239 => tk_S (fun _ h => kD 1 rfl h) <| s_x 29 rfl (y_assign rfl) <| tx_done kR <| tk_in_normal <| tk_then <| tk_region <| q_m rfl rfl <| s_q rfl (y_addN (a := i) (b := 1) rfl rfl oM) <| q_a rfl rfl <| tk_nil <| tk_H [cel b239 ((rounds R stepsL (sched blk 64) (i + 1)).map W4) 213, own vv ((rounds R stepsL (sched blk 64) i).length) ((rounds R stepsL (sched blk 64) i).map W4) 213 1, cel b19 ((sched blk 64).map W4) 213, cel b18 (stepsL.map W4) 213] (congrArg (fun z => [cel b239 z 213, own vv ((rounds R stepsL (sched blk 64) i).length) ((rounds R stepsL (sched blk 64) i).map W4) 213 1, cel b19 ((sched blk 64).map W4) 213, cel b18 (stepsL.map W4) 213]) (show [W4 ((((((((rounds R stepsL (sched blk 64) i).getD 7 0) + (((rr ((rounds R stepsL (sched blk 64) i).getD 4 0) 6) ^^^ (rr ((rounds R stepsL (sched blk 64) i).getD 4 0) 11)) ^^^ (rr ((rounds R stepsL (sched blk 64) i).getD 4 0) 25))) + ((((rounds R stepsL (sched blk 64) i).getD 4 0) &&& ((rounds R stepsL (sched blk 64) i).getD 5 0)) ^^^ ((~~~((rounds R stepsL (sched blk 64) i).getD 4 0)) &&& ((rounds R stepsL (sched blk 64) i).getD 6 0)))) + (stepsL.getD i 0)) + ((sched blk 64).getD i 0)) + (((rr ((rounds R stepsL (sched blk 64) i).getD 0 0) 2) ^^^ (rr ((rounds R stepsL (sched blk 64) i).getD 0 0) 13)) ^^^ (rr ((rounds R stepsL (sched blk 64) i).getD 0 0) 22))) + (((((rounds R stepsL (sched blk 64) i).getD 0 0) &&& ((rounds R stepsL (sched blk 64) i).getD 1 0)) ^^^ (((rounds R stepsL (sched blk 64) i).getD 0 0) &&& ((rounds R stepsL (sched blk 64) i).getD 2 0))) ^^^ (((rounds R stepsL (sched blk 64) i).getD 1 0) &&& ((rounds R stepsL (sched blk 64) i).getD 2 0)))), W4 ((rounds R stepsL (sched blk 64) i).getD 0 0), W4 ((rounds R stepsL (sched blk 64) i).getD 1 0), W4 ((rounds R stepsL (sched blk 64) i).getD 2 0), W4 (((rounds R stepsL (sched blk 64) i).getD 3 0) + ((((((rounds R stepsL (sched blk 64) i).getD 7 0) + (((rr ((rounds R stepsL (sched blk 64) i).getD 4 0) 6) ^^^ (rr ((rounds R stepsL (sched blk 64) i).getD 4 0) 11)) ^^^ (rr ((rounds R stepsL (sched blk 64) i).getD 4 0) 25))) + ((((rounds R stepsL (sched blk 64) i).getD 4 0) &&& ((rounds R stepsL (sched blk 64) i).getD 5 0)) ^^^ ((~~~((rounds R stepsL (sched blk 64) i).getD 4 0)) &&& ((rounds R stepsL (sched blk 64) i).getD 6 0)))) + (stepsL.getD i 0)) + ((sched blk 64).getD i 0))), W4 ((rounds R stepsL (sched blk 64) i).getD 4 0), W4 ((rounds R stepsL (sched blk 64) i).getD 5 0), W4 ((rounds R stepsL (sched blk 64) i).getD 6 0)] = (rounds R stepsL (sched blk 64) (i + 1)).map W4 from congrArg (List.map W4) ((rstep_ref (rounds R stepsL (sched blk 64) i) (stepsL.getD i 0) ((sched blk 64).getD i 0) rfl rfl rfl rfl rfl).trans rounds_succ.symm))) ?_; exact tk_celM (H1 := []) (T := 213) (f := W4) (l := rounds R stepsL (sched blk 64) (i + 1)) rfl (rounds_len hR8 (i + 1)) dC <| tk_again ((i + 1, .slice (some ⟨b239, 0, none⟩) 8 8)) (by first | exact trivial | omega | (dsimp only; omega)) (by first | omega | (dsimp only; omega)) sB (.cons_cons _ (.cons _ (List.Sublist.refl _)))
    · refine tk_exit <| tk_then_exit <| tk_then_exit <| tk_in_hit <| tk_then <| tk_seq <| s_r <| q_a rfl rfl <| s_n <| tk_block <| tk_R (H1 := []) rfl (show own vv ((rounds R stepsL (sched blk 64) i).length) ((rounds R stepsL (sched blk 64) i).map W4) 213 1 = own vv ((addI (rounds R stepsL (sched blk 64) 64) R 0).length) ((addI (rounds R stepsL (sched blk 64) 64) R 0).map W4) 213 1 from ownM_cast (by rw [show i = 64 by omega, addI_0 (rounds_len hR8 64)])) <| tk_loop (X := Nat) (fun i => i ≤ 8) (fun i => [(0, rv), (4, .slice none 0 0), (10, vv), (17, IN i)]) (fun i => [own vv ((addI (rounds R stepsL (sched blk 64) 64) R i).length) ((addI (rounds R stepsL (sched blk 64) 64) R i).map W4) 213 1, cel b19 ((sched blk 64).map W4) 213, cel b18 (stepsL.map W4) 213]) (fun i => 8 - i) (0) (by first | exact trivial | omega | (dsimp only; omega)) sB ((List.Sublist.refl _)) ?_
      rintro i hI
      try dsimp only at hI ⊢
      have ha : (addI (rounds R stepsL (sched blk 64) 64) R i).length = 8 := addI_len
      refine tk_own1 (.head _) fun hfvv => tk_seq <| s_r <| q_m rfl rfl <| s_q rfl (y_lss rfl rfl) <| s_n <| tk_condP rfl (fun ht241 => ?_) (fun ht241 => ?_)
      · refine tk_skip <| tk_then <| tk_seq <| tk_block <| tk_drawH [own vv ((addI (rounds R stepsL (sched blk 64) 64) R i).length) ((addI (rounds R stepsL (sched blk 64) 64) R i).map W4) 213 1, cel b19 ((sched blk 64).map W4) 213, cel b18 (stepsL.map W4) 213] [12] kR <| s_x 0 rfl (y_move rfl) <| s_x 1 rfl (y_move rfl) <| s_x 2 rfl (y_move rfl) <| s_x 3 rfl (y_move rfl) <| s_x 4 rfl (y_ixR (j := i) rfl rfl hfvv.choose_spec lenP kR) <| s_l 5 rfl (fun _ h => h) (y_load rfl rfl (fun w hw => ((fun w hw => own_rdS (hw.mem (.head _))) w hw).cell (gM (d := 0) lenP))) <| s_x 6 rfl (y_move rfl) <| s_x 7 rfl (y_move rfl) <| s_x 8 rfl (y_ixR (j := i) rfl rfl hr.1 lenP kR) <| s_l 9 rfl (fun _ h => h) (y_load rfl rfl (fun w hw => ((fun w hw => Ro.rd hr hw) w hw).cell (gM (d := 0) lenP))) <| s_x 10 rfl (y_addW (a := (addI (rounds R stepsL (sched blk 64) 64) R i).getD i 0) (b := R.getD i 0) rfl rfl) <| s_x 11 rfl (y_ixR (j := i) rfl rfl hfvv.choose_spec lenP kR) <| tx_x 12 rfl kR rfl rfl <| a_storeM (H1 := []) (f := W4) (l := addI (rounds R stepsL (sched blk 64) 64) R i) (i := i) (q := ((addI (rounds R stepsL (sched blk 64) 64) R i).getD i 0) + (R.getD i 0)) rfl rfl rfl kR rfl lenP <| tx_done kR <| tk_in_normal <| tk_then <| tk_region <| q_m rfl rfl ?_; exact s_q rfl (y_addN (a := i) (b := 1) rfl rfl oM) <| q_a rfl rfl <| tk_nil <| tk_R (H1 := []) rfl (show own vv (((addI (rounds R stepsL (sched blk 64) 64) R i).set i (((addI (rounds R stepsL (sched blk 64) 64) R i).getD i 0) + (R.getD i 0))).length) (((addI (rounds R stepsL (sched blk 64) 64) R i).set i (((addI (rounds R stepsL (sched blk 64) 64) R i).getD i 0) + (R.getD i 0))).map W4) 213 1 = own vv ((addI (rounds R stepsL (sched blk 64) 64) R (i + 1)).length) ((addI (rounds R stepsL (sched blk 64) 64) R (i + 1)).map W4) 213 1 from ownM_cast (addI_set oM)) <| tk_again (i + 1) (by first | exact trivial | omega | (dsimp only; omega)) (by first | omega | (dsimp only; omega)) sB (List.Sublist.refl _)
      · exact tk_exit <| tk_then_exit <| tk_then_exit <| tk_in_hit <| tk_then <| s_r <| q_m rfl rfl <| q_a rfl rfl <| s_n <| tk_retc <| tk_R (H1 := []) rfl (show own vv ((addI (rounds R stepsL (sched blk 64) 64) R i).length) ((addI (rounds R stepsL (sched blk 64) 64) R i).map W4) 213 1 = own vv ((blockF R blk).length) ((blockF R blk).map W4) 213 1 from ownM_cast (by rw [show i = 8 by omega, addI_comm, blockF])) <| tk_ret (vv) (trivial) (.inl rfl) (r1 rfl rfl) (.cons_cons _ (List.nil_sublist _))
end Go.Proofs.YtnhpghhibcdklaaGreatDoor
set_option linter.unusedSimpArgs false
set_option linter.unusedVariables false
namespace Go.Proofs.YtnhpghhibcdklaaGreatDoor
open Go Go.RowKit
set_option maxRecDepth 100000
attribute [local irreducible] sumL outB keyedL hmKey xorPad takeZ blockF len8 zc pad
theorem rof_spec {l : List UInt8} {w : World} (hb : l.length < 70368744177664) : Spec Tryz.prog 118 [Str l] w [] (fun _ : Unit => True) (fun _ => Str (sumL l)) (fun _ => []) := by
  refine spec_of (n := 77) Tryz.func118 rfl rfl trivial trivial rfl ?_
  obtain ⟨np, hnp, hnp0⟩ := pad_len l
  have hz := zc_def l.length
  have hpl : (pad l).length = l.length + 1 + zc l.length + 8 := by simp [pad]; omega
  refine s_r <| q_a rfl rfl <| s_n <| s_r <| q_m rfl rfl <| tk_act rfl <| a_s2bO (l := l) rfl rfl rfl rfl rfl (by simp only [maxLen]; first | omega | (simp; done) | (simp; omega)) fun v10 => tk_own1 (.head _) fun hfv10 => tk_act rfl <| a_slitN (vs := [B 128]) rfl (List.forall_mem_cons.2 ⟨rfl, (fun _ h => nomatch h)⟩) (EL64) rfl rfl dC fun b11 => tk_act rfl <| a_appM (H1 := [_]) (f := B) (l := l) (m := [128]) rfl rfl EL64 rfl rfl (fun w hw => cel_rdE (o := 0) (m := 1) (cp := 1) (vs := [128].map B) (hw.mem (.head _)) (rfl) lQ lenP) (fun _ => rfl) ⟨lenP, lenP⟩ fun v12 => tk_own1 (mm 1 rfl) fun hfv12 => q_a rfl rfl <| s_n <| tk_seq <| tk_block <| tk_R (H1 := [_]) rfl (show ownB v12 (l ++ [128]) 5 = ownB v12 (l ++ [128] ++ List.replicate 0 0) 5 from ownM_cast sI) <| tk_loop (X := Nat × Value) (fun (j, vb) => j ≤ zc l.length) (fun (j, vb) => [(0, Str l), (2, Str []), (3, vb)]) (fun (j, vb) => [cel b11 ([B 128]) 5, ownB vb (l ++ [128] ++ List.replicate j 0) 5]) (fun (j, vb) => zc l.length - j) ((0, v12)) (Nat.zero_le _) sB ((List.Sublist.refl _)) ?_
  rintro ⟨j, vb⟩ hI
  try dsimp only at hI ⊢
  have hlen : (l ++ [128] ++ List.replicate j 0).length = l.length + 1 + j := by simp; omega
  refine tk_own1 (mm 1 rfl) fun hfb => tk_seq <| s_r <| q_m rfl rfl <| s_q rfl (y_lenRN (n' := (l ++ [128] ++ List.replicate j 0).length) rfl hfb.choose_spec rfl (by first | rfl | (rw [List.length_map]; omega) | simp)) <| s_q rfl (y_remN (a := (l ++ [128] ++ List.replicate j 0).length) (b := 64) rfl rfl oM) <| s_q rfl (y_neq rfl rfl) <| s_n <| tk_condP rfl (fun ht16 => ?_) (fun ht16 => ?_)
  · exact tk_skip <| tk_then <| tk_block <| tk_region <| q_m rfl rfl <| tk_act rfl <| a_slitN (vs := [B 0]) rfl (List.forall_mem_cons.2 ⟨rfl, (fun _ h => nomatch h)⟩) (EL64) rfl rfl dC fun b18 => tk_act rfl <| a_appM (H1 := [_, _]) (f := B) (l := l ++ [128] ++ List.replicate j 0) (m := [0]) rfl rfl EL64 rfl rfl (fun w hw => cel_rdE (o := 0) (m := 1) (cp := 1) (vs := [0].map B) (hw.mem (.head _)) (rfl) lQ lenP) (fun _ => rfl) ⟨lenP, lenP⟩ fun v19 => tk_own1 (mm 2 rfl) fun hfv19 => q_a rfl rfl <| tk_nil <| tk_in_normal <| tk_R (H1 := [_, _]) rfl (show ownB v19 (l ++ [128] ++ List.replicate j 0 ++ [0]) 5 = ownB v19 (l ++ [128] ++ List.replicate (j + 1) 0) 5 from ownM_cast (by rw [List.replicate_succ', ← List.append_assoc])) <| tk_again ((j + 1, v19)) (by have h0 := ht16; dsimp only; omega) (by have h0 := ht16; dsimp only; omega) sB (.cons _ (List.Sublist.refl _))
  · refine tk_exit <| tk_then_exit <| tk_then_exit <| tk_in_hit <| tk_then <| s_r <| q_m rfl rfl <| s_q rfl (y_lenStr (l := l) rfl rfl) <| s_q rfl (y_convi64 (m := l.length) rfl rfl rfl (wrap_u64 oM)) <| s_q rfl (y_mulU (a := l.length) (b := 8) rfl rfl oM) <| q_a rfl rfl <| s_n <| tk_seq <| s_r <| q_a rfl rfl <| s_n <| tk_block ?_
    have hj : j = zc l.length := by omega
    refine tk_R (H1 := [_]) rfl (show ownB vb (l ++ [128] ++ List.replicate j 0) 5 = ownB vb (l ++ [128] ++ List.replicate (zc l.length) 0 ++ len8 l.length 0) 5 from ownM_cast (by rw [hj, len8_0, List.append_nil])) <| tk_loop (X := Nat × Value) (fun (j, vb) => j ≤ 8) (fun (j, vb) => [(2, Str []), (3, vb), (4, .int .u64 ((l.length * 8 : Nat) : Int)), (5, I (56 - 8 * (j : Int)))]) (fun (j, vb) => [cel b11 ([B 128]) 5, ownB vb (l ++ [128] ++ List.replicate (zc l.length) 0 ++ len8 l.length j) 5]) (fun (j, vb) => 8 - j) ((0, vb)) (Nat.zero_le _) sB ((List.Sublist.refl _)) ?_
    rintro ⟨j, vb⟩ hI
    try dsimp only at hI ⊢
    have hlen : (l ++ [128] ++ List.replicate (zc l.length) 0 ++ len8 l.length j).length = l.length + 1 + zc l.length + j := by simp; omega
    refine tk_own1 (mm 1 rfl) fun hfb => tk_seq <| s_r <| q_m rfl rfl <| s_q rfl (y_geq rfl rfl) <| s_n <| tk_condP rfl (fun ht25 => ?_) (fun ht25 => ?_)
    · refine tk_skip <| tk_then <| tk_seq <| tk_block <| tk_region <| tk_re 5 (I (56 - 8 * (j : Int))) (I ((56 - 8 * j : Nat) : Int)) rfl (congrArg I oM) <| q_m rfl rfl <| q_m rfl rfl <| q_m rfl rfl <| s_q rfl (y_shrN (a := l.length * 8) (m := 56 - 8 * j) rfl rfl (by simp [IntKind.bits]; omega)) <| s_q rfl (y_convi8 (m := (l.length * 8) / 2 ^ (56 - 8 * j)) rfl rfl rfl) <| tk_act rfl <| a_slitN (vs := [B (UInt8.ofNat ((l.length * 8) / 2 ^ (56 - 8 * j)))]) rfl (List.forall_mem_cons.2 ⟨rfl, (fun _ h => nomatch h)⟩) (EL64) rfl rfl dC fun b33 => tk_act rfl <| a_appM (H1 := [_, _]) (f := B) (l := l ++ [128] ++ List.replicate (zc l.length) 0 ++ len8 l.length j) (m := [UInt8.ofNat ((l.length * 8) / 2 ^ (56 - 8 * j))]) rfl rfl EL64 rfl rfl (fun w hw => cel_rdE (o := 0) (m := 1) (cp := 1) (vs := [UInt8.ofNat ((l.length * 8) / 2 ^ (56 - 8 * j))].map B) (hw.mem (.head _)) (rfl) lQ lenP) (fun _ => rfl) ⟨lenP, lenP⟩ fun v34 => tk_own1 (mm 2 rfl) fun hfv34 => q_a rfl rfl <| tk_nil <| tk_in_normal <| tk_then <| tk_region <| tk_re 5 (I ((56 - 8 * j : Nat) : Int)) (I (56 - 8 * (j : Int))) rfl (congrArg I oM) <| q_m rfl rfl <| s_q rfl (y_subI rfl rfl oM) ?_; exact q_a rfl rfl <| tk_nil <| tk_re 5 (I ((56 - 8 * (j : Int)) - (8 : Int))) (I (56 - 8 * ((j + 1 : Nat) : Int))) rfl (congrArg I oM) <| tk_R (H1 := [_, _]) rfl (show ownB v34 (l ++ [128] ++ List.replicate (zc l.length) 0 ++ len8 l.length j ++ [UInt8.ofNat ((l.length * 8) / 2 ^ (56 - 8 * j))]) 5 = ownB v34 (l ++ [128] ++ List.replicate (zc l.length) 0 ++ len8 l.length (j + 1)) 5 from ownM_cast (by rw [← len8_snoc, ← List.append_assoc]; rfl)) <| tk_again ((j + 1, v34)) (by dsimp only; omega) (by dsimp only; omega) sB (.cons _ (List.Sublist.refl _))
    · refine tk_R (H1 := [_]) rfl (show ownB vb (l ++ [128] ++ List.replicate (zc l.length) 0 ++ len8 l.length j) 5 = ownB vb (pad l) 5 from ownM_cast (by rw [show j = 8 by omega]; exact pad_def)) <| tk_own1 (mm 1 rfl) fun hfb => tk_exit <| tk_then_exit <| tk_then_exit <| tk_in_hit <| tk_then <| s_r <| tk_act rfl <| a_slitN (vs := [W4 1779033703, W4 3144134277, W4 1013904242, W4 2773480762, W4 1359893119, W4 2600822924, W4 528734635, W4 1541459225]) rfl (List.forall_mem_cons.2 ⟨rfl, (List.forall_mem_cons.2 ⟨rfl, (List.forall_mem_cons.2 ⟨rfl, (List.forall_mem_cons.2 ⟨rfl, (List.forall_mem_cons.2 ⟨rfl, (List.forall_mem_cons.2 ⟨rfl, (List.forall_mem_cons.2 ⟨rfl, (List.forall_mem_cons.2 ⟨rfl, (fun _ h => nomatch h)⟩)⟩)⟩)⟩)⟩)⟩)⟩)⟩) (EL345) rfl rfl dC fun b35 => q_a rfl rfl <| s_n <| tk_seq <| tk_block <| tk_H [cel b35 (beginL.map W4) 213, cel b11 ([B 128]) 5, ownB vb (pad l) 5] (congrArg (fun z => [cel b35 z 213, cel b11 ([B 128]) 5, ownB vb (pad l) 5]) (show [W4 1779033703, W4 3144134277, W4 1013904242, W4 2773480762, W4 1359893119, W4 2600822924, W4 528734635, W4 1541459225] = beginL.map W4 from rfl)) <| tk_celM (H1 := []) (T := 213) (f := W4) (l := beginL) rfl rfl dC <| tk_R (H1 := []) rfl (show own ((.slice (some ⟨b35, 0, none⟩) 8 8)) beginL.length (beginL.map W4) 213 1 = own ((.slice (some ⟨b35, 0, none⟩) 8 8)) ((foldB beginL ((pad l).take (64 * 0))).length) ((foldB beginL ((pad l).take (64 * 0))).map W4) 213 1 from ownM_cast (by rw [Nat.mul_zero, List.take_zero, foldB_lt sI])) <| tk_loop (X := Nat × Value × Value) (fun (j, vr, vp) => 64 * j ≤ (pad l).length ∧ ∀ w, RdB w vb (pad l) → RdB w vp ((pad l).drop (64 * j))) (fun (j, vr, vp) => [(2, Str []), (3, vp), (6, vr)]) (fun (j, vr, vp) => [own vr ((foldB beginL ((pad l).take (64 * j))).length) ((foldB beginL ((pad l).take (64 * j))).map W4) 213 1, cel b11 ([B 128]) 5, ownB vb (pad l) 5]) (fun (j, vr, vp) => (pad l).length - 64 * j) ((0, .slice (some ⟨b35, 0, none⟩) 8 8, vb)) (⟨Nat.zero_le _, fun w h => h⟩) sB ((List.Sublist.refl _)) ?_
      rintro ⟨j, vr, vp⟩ hI
      try dsimp only at hI ⊢
      have hdl : ((pad l).drop (64 * j)).length = (pad l).length - 64 * j := List.length_drop
      have hf8 : (foldB beginL ((pad l).take (64 * j))).length = 8 := foldB_len rfl j _ sO
      refine tk_own1 (.head _) fun hfr => tk_seq <| s_r <| q_m rfl rfl <| s_q rfl (y_lenRN (n' := ((pad l).drop (64 * j)).length) rfl (hI.2 _ hfb.choose_spec) rfl (by first | rfl | (rw [List.length_map]; omega) | simp)) <| s_q rfl (y_gtr rfl rfl) <| s_n <| tk_condP rfl (fun ht38 => ?_) (fun ht38 => ?_)
      · exact tk_skip <| tk_then <| tk_block <| s_r <| q_m rfl rfl <| q_m rfl rfl <| s_q rfl (y_cutRBh (l := (pad l).drop (64 * j)) 64 rfl rfl (hI.2 _ hfb.choose_spec) kR lenP rfl) <| tk_act rfl <| a_callv [] _ rfl kR rfl (fun w' hw' => fold_spec (R := foldB beginL ((pad l).take (64 * j))) (blk := ((pad l).drop (64 * j)).take 64) (Ro.own (H0 := []) hw' (.head _)) (Ro.cutBh (Ro.nil (hI.2 _ (own_rdS (hw'.mem (mm 2 rfl))))) (hi := 64) lenP) lenP lenP) rfl fun v42 _ => q_a rfl rfl <| s_n <| tk_region <| q_m rfl rfl <| s_q rfl (y_cutRBl (l := (pad l).drop (64 * j)) 64 rfl rfl (hI.2 _ hfb.choose_spec) kR lenP rfl) <| q_a rfl rfl <| tk_nil <| tk_in_normal <| tk_R (H1 := []) rfl (show own v42 ((blockF (foldB beginL ((pad l).take (64 * j))) (((pad l).drop (64 * j)).take 64)).length) ((blockF (foldB beginL ((pad l).take (64 * j))) (((pad l).drop (64 * j)).take 64)).map W4) 213 1 = own v42 ((foldB beginL ((pad l).take (64 * (j + 1)))).length) ((foldB beginL ((pad l).take (64 * (j + 1)))).map W4) 213 1 from ownM_cast (foldB_next (by have h0 := ht38; rw [List.length_drop] at h0; omega))) <| tk_again ((j + 1, v42, cutR vp 64 ((pad l).drop (64 * j)).length)) (⟨by have h0 := ht38; rw [List.length_drop] at h0; omega, fun w h => by have h1 := RdS.cutBl (lo := 64) (hI.2 w h) lenP; rw [List.drop_drop] at h1; exact h1⟩) (by have h0 := ht38; rw [List.length_drop] at h0; dsimp only; omega) sB (.cons_cons _ (.cons _ (List.Sublist.refl _)))
      · refine tk_exit <| tk_then_exit <| tk_then_exit <| tk_in_hit <| tk_then <| s_r <| q_a rfl rfl <| s_n <| tk_seq <| s_r <| q_a rfl rfl <| s_n <| tk_block ?_
        have hj : (pad l).take (64 * j) = pad l := by rw [List.take_of_length_le]; have h0 := ht38; rw [List.length_drop] at h0; omega
        refine tk_R (H1 := []) rfl (show own vr ((foldB beginL ((pad l).take (64 * j))).length) ((foldB beginL ((pad l).take (64 * j))).map W4) 213 1 = own vr ((foldB beginL (pad l)).length) ((foldB beginL (pad l)).map W4) 213 1 from ownM_cast (by rw [hj])) <| tk_ownM0 (f := B) 5 <| tk_loop (X := Nat × Value) (fun (i, vo) => i ≤ 8) (fun (i, vo) => [(2, Str []), (6, vr), (7, vo), (8, IN i)]) (fun (i, vo) => [ownB vo ((outB (foldB beginL (pad l))).take (4 * i)) 5, own vr ((foldB beginL (pad l)).length) ((foldB beginL (pad l)).map W4) 213 1, cel b11 ([B 128]) 5, ownB vb (pad l) 5]) (fun (i, vo) => 8 - i) ((0, .slice none 0 0)) (Nat.zero_le _) sB ((List.Sublist.refl _)) ?_
        rintro ⟨i, vo⟩ hI
        try dsimp only at hI ⊢
        have hf8 : (foldB beginL (pad l)).length = 8 := foldB_len rfl np _ hnp
        have hol : ((outB (foldB beginL (pad l))).take (4 * i)).length ≤ 32 := by simp; omega
        refine tk_own1 (.head _) fun hfo => tk_own1 (mm 1 rfl) fun hfr => tk_seq <| s_r <| q_m rfl rfl <| s_q rfl (y_lss rfl rfl) <| s_n <| tk_condP rfl (fun ht46 => ?_) (fun ht46 => ?_)
        · refine tk_skip <| tk_then <| tk_seq <| tk_block <| tk_drawH [own vr ((foldB beginL (pad l)).length) ((foldB beginL (pad l)).map W4) 213 1, cel b11 ([B 128]) 5, ownB vb (pad l) 5] [] kR <| s_x 0 rfl (y_move rfl) <| s_x 1 rfl (y_move rfl) <| s_x 2 rfl (y_move rfl) <| s_x 3 rfl (y_ixR (j := i) rfl rfl hfr.choose_spec lenP kR) <| s_l 4 rfl (fun _ h => kD 1 rfl h) (y_load rfl rfl (fun w hw => ((fun w hw => own_rdS (hw.mem (.head _))) w hw).cell (gM (d := 0) lenP))) <| s_x 5 rfl (y_shrW (a := (foldB beginL (pad l)).getD i 0) (m := 24) rfl rfl dC) <| s_x 6 rfl (y_convW8 (a := ((foldB beginL (pad l)).getD i 0) >>> UInt32.ofNat 24) rfl rfl rfl) <| s_x 7 rfl (y_move rfl) <| s_x 8 rfl (y_move rfl) <| s_x 9 rfl (y_ixR (j := i) rfl rfl hfr.choose_spec lenP kR) <| s_l 10 rfl (fun _ h => kD 1 rfl h) (y_load rfl rfl (fun w hw => ((fun w hw => own_rdS (hw.mem (.head _))) w hw).cell (gM (d := 0) lenP))) <| s_x 11 rfl (y_shrW (a := (foldB beginL (pad l)).getD i 0) (m := 16) rfl rfl dC) <| s_x 12 rfl (y_convW8 (a := ((foldB beginL (pad l)).getD i 0) >>> UInt32.ofNat 16) rfl rfl rfl) <| s_x 13 rfl (y_move rfl) <| s_x 14 rfl (y_move rfl) <| s_x 15 rfl (y_ixR (j := i) rfl rfl hfr.choose_spec lenP kR) <| s_l 16 rfl (fun _ h => kD 1 rfl h) (y_load rfl rfl (fun w hw => ((fun w hw => own_rdS (hw.mem (.head _))) w hw).cell (gM (d := 0) lenP))) <| s_x 17 rfl (y_shrW (a := (foldB beginL (pad l)).getD i 0) (m := 8) rfl rfl dC) <| s_x 18 rfl (y_convW8 (a := ((foldB beginL (pad l)).getD i 0) >>> UInt32.ofNat 8) rfl rfl rfl) ?_; refine s_x 19 rfl (y_move rfl) <| s_x 20 rfl (y_move rfl) <| s_x 21 rfl (y_ixR (j := i) rfl rfl hfr.choose_spec lenP kR) <| s_l 22 rfl (fun _ h => kD 1 rfl h) (y_load rfl rfl (fun w hw => ((fun w hw => own_rdS (hw.mem (.head _))) w hw).cell (gM (d := 0) lenP))) <| s_x 23 rfl (y_convW8 (a := (foldB beginL (pad l)).getD i 0) rfl rfl rfl) <| tx_a 24 rfl kR rfl <| a_slitN (vs := [B ((((foldB beginL (pad l)).getD i 0) >>> UInt32.ofNat 24).toUInt8), B ((((foldB beginL (pad l)).getD i 0) >>> UInt32.ofNat 16).toUInt8), B ((((foldB beginL (pad l)).getD i 0) >>> UInt32.ofNat 8).toUInt8), B (((foldB beginL (pad l)).getD i 0).toUInt8)]) rfl (List.forall_mem_cons.2 ⟨rfl, (List.forall_mem_cons.2 ⟨rfl, (List.forall_mem_cons.2 ⟨rfl, (List.forall_mem_cons.2 ⟨rfl, (fun _ h => nomatch h)⟩)⟩)⟩)⟩) (EL64) rfl rfl dC fun b73 => tk_S (fun _ h => kD 2 rfl h) <| tx_more [cel b73 ([B ((((foldB beginL (pad l)).getD i 0) >>> UInt32.ofNat 24).toUInt8), B ((((foldB beginL (pad l)).getD i 0) >>> UInt32.ofNat 16).toUInt8), B ((((foldB beginL (pad l)).getD i 0) >>> UInt32.ofNat 8).toUInt8), B (((foldB beginL (pad l)).getD i 0).toUInt8)]) 5, own vr ((foldB beginL (pad l)).length) ((foldB beginL (pad l)).map W4) 213 1, cel b11 ([B 128]) 5, ownB vb (pad l) 5] (fun _ h => kD 1 rfl h) (fun _ h => kT [0] 1 rfl h) <| tx_a 25 rfl kR rfl <| a_appM (H1 := [_]) (f := B) (l := (outB (foldB beginL (pad l))).take (4 * i)) (m := [(((foldB beginL (pad l)).getD i 0) >>> UInt32.ofNat 24).toUInt8, (((foldB beginL (pad l)).getD i 0) >>> UInt32.ofNat 16).toUInt8, (((foldB beginL (pad l)).getD i 0) >>> UInt32.ofNat 8).toUInt8, ((foldB beginL (pad l)).getD i 0).toUInt8]) rfl rfl EL64 rfl rfl (fun w hw => cel_rdE (o := 0) (m := 4) (cp := 4) (vs := [(((foldB beginL (pad l)).getD i 0) >>> UInt32.ofNat 24).toUInt8, (((foldB beginL (pad l)).getD i 0) >>> UInt32.ofNat 16).toUInt8, (((foldB beginL (pad l)).getD i 0) >>> UInt32.ofNat 8).toUInt8, ((foldB beginL (pad l)).getD i 0).toUInt8].map B) (hw.mem (.head _)) (rfl) lQ lenP) (fun _ => rfl) ⟨lenP, lenP⟩ fun v74 => tk_own1 (mm 1 rfl) fun hfv74 => tk_S (fun _ h => kT [0] 1 rfl h) <| s_x 26 rfl (y_assign rfl) <| tx_done kR <| tk_in_normal <| tk_then <| tk_region <| q_m rfl rfl <| s_q rfl (y_addN (a := i) (b := 1) rfl rfl oM) <| q_a rfl rfl <| tk_nil <| tk_R (H1 := [_]) rfl (show ownB v74 (((outB (foldB beginL (pad l))).take (4 * i)) ++ [(((foldB beginL (pad l)).getD i 0) >>> UInt32.ofNat 24).toUInt8, (((foldB beginL (pad l)).getD i 0) >>> UInt32.ofNat 16).toUInt8, (((foldB beginL (pad l)).getD i 0) >>> UInt32.ofNat 8).toUInt8, ((foldB beginL (pad l)).getD i 0).toUInt8]) 5 = ownB v74 ((outB (foldB beginL (pad l))).take (4 * (i + 1))) 5 from ownM_cast (outB_snoc oM)) ?_; exact tk_again ((i + 1, v74)) (by dsimp only; omega) (by first | omega | (dsimp only; omega)) sB (.cons _ (List.Sublist.refl _))
        · exact tk_R (H1 := []) rfl (show ownB vo ((outB (foldB beginL (pad l))).take (4 * i)) 5 = ownB vo (sumL l) 5 from ownM_cast (by rw [show i = 8 by omega]; exact out_all)) <| tk_exit <| tk_then_exit <| tk_then_exit <| tk_in_hit <| tk_then <| s_r <| q_m rfl rfl <| s_q rfl (y_str (l := sumL l) rfl rfl rfl rfl (fun w hw => own_rdS (hw.mem (.head _)))) <| q_a rfl rfl <| s_n <| tk_retc <| tk_ret (()) (trivial) (.inl rfl) (r1 rfl rfl) (List.nil_sublist _)
theorem rkeyed_spec {k l : List UInt8} {w : World} (hk : k.length < 1099511627776) (hb : l.length < 1099511627776) : Spec Tryz.prog 201 [Str k, Str l] w [] (fun _ : Unit => True) (fun _ => Str (keyedL k l)) (fun _ => []) := by
  refine spec_of (n := 60) Tryz.func201 rfl rfl trivial trivial rfl ?_
  have hk64 : (hmKey k).length ≤ 64 := hmKey_len
  refine s_r <| q_a rfl rfl <| s_n <| tk_seqI (X := Unit) (fun _ => True) (fun _ => [(0, Str (hmKey k)), (1, Str l), (4, Str [])]) (fun _ => []) ?_ ?_
  · refine s_r <| q_m rfl rfl <| s_q rfl (y_lenStr (l := k) rfl rfl) <| s_q rfl (y_gtr rfl rfl) <| s_n <| tk_condP rfl (fun ht10 => ?_) (fun ht10 => ?_)
    · have hk0 : hmKey k = sumL k := by unfold hmKey; rw [if_pos oM]
      exact tk_region <| q_m rfl rfl <| tk_act rfl <| a_callv [] _ rfl kR rfl (fun w' hw' => rof_spec (l := k) lenP) rfl fun _ _ => q_a rfl rfl <| tk_nil <| tk_re 0 (Str (sumL k)) (Str (hmKey k)) rfl (by rw [hk0]) <| tk_to (()) (by first | exact trivial | omega | (dsimp only; omega)) sB (List.Sublist.refl _)
    · have hk0 : hmKey k = k := by unfold hmKey; rw [if_neg oM]
      exact tk_skip <| tk_re 0 (Str k) (Str (hmKey k)) rfl (by rw [hk0]) <| tk_to (()) (by first | exact trivial | omega | (dsimp only; omega)) sB (List.Sublist.refl _)
  · rintro _ hI
    try dsimp only at hI ⊢
    refine tk_seqI (X := Nat × Nat) (fun (b13, b14) => True) (fun (b13, b14) => [(0, Str (hmKey k)), (1, Str l), (4, Str []), (5, .slice (some ⟨b13, 0, none⟩) 64 64), (6, .slice (some ⟨b14, 0, none⟩) 64 64)]) (fun (b13, b14) => [cel b13 ((List.replicate 64 0).map B) 5, cel b14 ((List.replicate 64 0).map B) 5]) ?_ ?_
    · refine tk_drawH [] [] kR <| tx_all (is := [0, 1]) kR rfl ⟨⟨_, rfl, rfl, ?_⟩, ⟨_, rfl, rfl, ?_⟩, trivial⟩
      · exact a_makeM (f := B) (z := 0) (m := 64) rfl rfl MK64 rfl rfl ⟨lenP, lenP⟩ fun b13 => tk_S (fun _ h => kS [] rfl h) <| s_x 2 rfl (y_assign rfl) <| tx_a 1 rfl kR rfl <| a_makeM (f := B) (z := 0) (m := 64) rfl rfl MK64 rfl rfl ⟨lenP, lenP⟩ fun b14 => tk_S (fun _ h => kS [] rfl h) <| s_x 3 rfl (y_assign rfl) <| tx_done kR <| tk_ps [1] rfl <| tk_to ((b13, b14)) (by first | exact trivial | omega | (dsimp only; omega)) sB (List.Sublist.refl _)
      · exact a_makeM (f := B) (z := 0) (m := 64) rfl rfl MK64 rfl rfl ⟨lenP, lenP⟩ fun b14 => tk_S (fun _ h => kS [] rfl h) <| tx_a 0 rfl kR rfl <| a_makeM (f := B) (z := 0) (m := 64) rfl rfl MK64 rfl rfl ⟨lenP, lenP⟩ fun b13 => tk_S (fun _ h => kS [] rfl h) <| s_x 2 rfl (y_assign rfl) <| s_x 3 rfl (y_assign rfl) <| tx_done kR <| tk_to ((b13, b14)) (by first | exact trivial | omega | (dsimp only; omega)) sB (List.Sublist.refl _)
    · rintro ⟨b13, b14⟩ hI
      try dsimp only at hI ⊢
      refine tk_seq <| s_r <| q_a rfl rfl <| s_n <| tk_block <| tk_R (H1 := []) rfl (congrArg (fun z_ => cel b13 z_ 5) (show (List.replicate 64 0).map B = (takeZ (xorPad (hmKey k) 54) 64 0).map B from by rw [takeZ_0])) <| tk_R (H1 := [_]) rfl (congrArg (fun z_ => cel b14 z_ 5) (show (List.replicate 64 0).map B = (takeZ (xorPad (hmKey k) 92) 64 0).map B from by rw [takeZ_0])) <| tk_loop (X := Nat) (fun i => i ≤ 64) (fun i => [(0, Str (hmKey k)), (1, Str l), (4, Str []), (5, .slice (some ⟨b13, 0, none⟩) 64 64), (6, .slice (some ⟨b14, 0, none⟩) 64 64), (7, IN i)]) (fun i => [cel b13 ((takeZ (xorPad (hmKey k) 54) 64 i).map B) 5, cel b14 ((takeZ (xorPad (hmKey k) 92) 64 i).map B) 5]) (fun i => 64 - i) (0) (by first | exact trivial | omega | (dsimp only; omega)) sB ((List.Sublist.refl _)) ?_
      rintro i hI
      try dsimp only at hI ⊢
      have hz1 : (takeZ (xorPad (hmKey k) 54) 64 i).length = 64 := takeZ_len xorPad_len oM
      have hz2 : (takeZ (xorPad (hmKey k) 92) 64 i).length = 64 := takeZ_len xorPad_len oM
      refine tk_seq <| s_r <| q_m rfl rfl <| s_q rfl (y_lss rfl rfl) <| s_n <| tk_condP rfl (fun ht16 => ?_) (fun ht16 => ?_)
      · refine tk_skip <| tk_then <| tk_seq <| tk_block <| tk_seq <| s_r <| q_m rfl rfl <| q_m rfl rfl <| s_q rfl (y_lenStr (l := hmKey k) rfl rfl) <| s_q rfl (y_lss rfl rfl) <| s_n <| tk_condP rfl (fun ht22 => ?_) (fun ht22 => ?_)
        · refine tk_drawH [] [] kR <| s_x 0 rfl (y_move rfl) <| s_x 1 rfl (y_move rfl) <| s_x 2 rfl (y_move rfl) <| s_x 3 rfl (y_move rfl) <| s_x 4 rfl (y_move rfl) <| s_x 5 rfl (y_move rfl) <| s_x 6 rfl (y_ixT (l := hmKey k) (i := i) rfl rfl rfl ⟨rfl, lenP⟩) <| s_x 7 rfl (y_move rfl) <| s_x 8 rfl (y_move rfl) <| s_x 9 rfl (y_ixT (l := hmKey k) (i := i) rfl rfl rfl ⟨rfl, lenP⟩) <| s_x 10 rfl (y_ixS01 (i := i) rfl rfl kR oM) <| tx_a 11 rfl kR rfl <| a_storeE (H1 := []) (o := i) (v := B ((hmKey k).getD i 0)) (cs' := ((takeZ (xorPad (hmKey k) 54) 64 i).set i ((hmKey k).getD i 0)).map B) rfl rfl kR rfl rfl sW (sM) <| tk_S (fun _ h => kS [] rfl h) <| s_x 12 rfl (y_ixS01 (i := i) rfl rfl kR oM) <| tx_a 13 rfl kR rfl <| a_storeE (H1 := [_]) (o := i) (v := B ((hmKey k).getD i 0)) (cs' := ((takeZ (xorPad (hmKey k) 92) 64 i).set i ((hmKey k).getD i 0)).map B) rfl rfl kR rfl rfl sW (sM) <| tk_S (fun _ h => kS [] rfl h) <| tx_done kR <| tk_then <| tk_drawH [cel b13 (((takeZ (xorPad (hmKey k) 54) 64 i).set i ((hmKey k).getD i 0)).map B) 5, cel b14 (((takeZ (xorPad (hmKey k) 92) 64 i).set i ((hmKey k).getD i 0)).map B) 5] [15, 17] kR <| s_x 0 rfl (y_move rfl) <| s_x 1 rfl (y_move rfl) ?_; refine s_x 2 rfl (y_move rfl) <| s_x 3 rfl (y_move rfl) <| s_x 4 rfl (y_move rfl) <| s_x 5 rfl (y_move rfl) <| s_x 6 rfl (y_ixS01 (i := i) rfl rfl kR oM) <| s_l 7 rfl (fun _ h => h) (y_load rfl rfl (hc (o := i) (.head _) (gM (d := 0) lenP))) <| s_x 8 rfl (y_xor8 (a := ((takeZ (xorPad (hmKey k) 54) 64 i).set i ((hmKey k).getD i 0)).getD i 0) (b := 54) rfl rfl) <| s_x 9 rfl (y_move rfl) <| s_x 10 rfl (y_move rfl) <| s_x 11 rfl (y_ixS01 (i := i) rfl rfl kR oM) <| s_l 12 rfl (fun _ h => h) (y_load rfl rfl (hc (o := i) (mm 1 rfl) (gM (d := 0) lenP))) <| s_x 13 rfl (y_xor8 (a := ((takeZ (xorPad (hmKey k) 92) 64 i).set i ((hmKey k).getD i 0)).getD i 0) (b := 92) rfl rfl) <| s_x 14 rfl (y_ixS01 (i := i) rfl rfl kR oM) <| tx_x 15 rfl kR rfl rfl <| a_storeE (H1 := []) (o := i) (v := B ((((takeZ (xorPad (hmKey k) 54) 64 i).set i ((hmKey k).getD i 0)).getD i 0) ^^^ 54)) (cs' := (((takeZ (xorPad (hmKey k) 54) 64 i).set i ((hmKey k).getD i 0)).set i ((((takeZ (xorPad (hmKey k) 54) 64 i).set i ((hmKey k).getD i 0)).getD i 0) ^^^ 54)).map B) rfl rfl kR rfl rfl sW (sM) <| s_x 16 rfl (y_ixS01 (i := i) rfl rfl kR oM) <| tx_x 17 rfl kR rfl rfl <| a_storeE (H1 := [_]) (o := i) (v := B ((((takeZ (xorPad (hmKey k) 92) 64 i).set i ((hmKey k).getD i 0)).getD i 0) ^^^ 92)) (cs' := (((takeZ (xorPad (hmKey k) 92) 64 i).set i ((hmKey k).getD i 0)).set i ((((takeZ (xorPad (hmKey k) 92) 64 i).set i ((hmKey k).getD i 0)).getD i 0) ^^^ 92)).map B) rfl rfl kR rfl rfl sW (sM) <| tx_done kR <| tk_in_normal <| tk_then <| tk_region <| q_m rfl rfl <| s_q rfl (y_addN (a := i) (b := 1) rfl rfl oM) ?_; exact q_a rfl rfl <| tk_nil <| tk_R (H1 := []) rfl (congrArg (fun z_ => cel b13 z_ 5) (show (((takeZ (xorPad (hmKey k) 54) 64 i).set i ((hmKey k).getD i 0)).set i ((((takeZ (xorPad (hmKey k) 54) 64 i).set i ((hmKey k).getD i 0)).getD i 0) ^^^ 54)).map B = (takeZ (xorPad (hmKey k) 54) 64 (i + 1)).map B from congrArg (List.map B) (padT oM))) <| tk_R (H1 := [_]) rfl (congrArg (fun z_ => cel b14 z_ 5) (show (((takeZ (xorPad (hmKey k) 92) 64 i).set i ((hmKey k).getD i 0)).set i ((((takeZ (xorPad (hmKey k) 92) 64 i).set i ((hmKey k).getD i 0)).getD i 0) ^^^ 92)).map B = (takeZ (xorPad (hmKey k) 92) 64 (i + 1)).map B from congrArg (List.map B) (padT oM))) <| tk_again (i + 1) (by first | exact trivial | omega | (dsimp only; omega)) (by first | omega | (dsimp only; omega)) sB (List.Sublist.refl _)
        · refine tk_skip <| tk_then <| tk_drawH [cel b13 ((takeZ (xorPad (hmKey k) 54) 64 i).map B) 5, cel b14 ((takeZ (xorPad (hmKey k) 92) 64 i).map B) 5] [15, 17] kR <| s_x 0 rfl (y_move rfl) <| s_x 1 rfl (y_move rfl) <| s_x 2 rfl (y_move rfl) <| s_x 3 rfl (y_move rfl) <| s_x 4 rfl (y_move rfl) <| s_x 5 rfl (y_move rfl) <| s_x 6 rfl (y_ixS01 (i := i) rfl rfl kR oM) <| s_l 7 rfl (fun _ h => h) (y_load rfl rfl (hc (o := i) (.head _) (gM (d := 0) lenP))) <| s_x 8 rfl (y_xor8 (a := (takeZ (xorPad (hmKey k) 54) 64 i).getD i 0) (b := 54) rfl rfl) <| s_x 9 rfl (y_move rfl) <| s_x 10 rfl (y_move rfl) <| s_x 11 rfl (y_ixS01 (i := i) rfl rfl kR oM) <| s_l 12 rfl (fun _ h => h) (y_load rfl rfl (hc (o := i) (mm 1 rfl) (gM (d := 0) lenP))) <| s_x 13 rfl (y_xor8 (a := (takeZ (xorPad (hmKey k) 92) 64 i).getD i 0) (b := 92) rfl rfl) <| s_x 14 rfl (y_ixS01 (i := i) rfl rfl kR oM) <| tx_x 15 rfl kR rfl rfl <| a_storeE (H1 := []) (o := i) (v := B (((takeZ (xorPad (hmKey k) 54) 64 i).getD i 0) ^^^ 54)) (cs' := ((takeZ (xorPad (hmKey k) 54) 64 i).set i (((takeZ (xorPad (hmKey k) 54) 64 i).getD i 0) ^^^ 54)).map B) rfl rfl kR rfl rfl sW (sM) <| s_x 16 rfl (y_ixS01 (i := i) rfl rfl kR oM) <| tx_x 17 rfl kR rfl rfl <| a_storeE (H1 := [_]) (o := i) (v := B (((takeZ (xorPad (hmKey k) 92) 64 i).getD i 0) ^^^ 92)) (cs' := ((takeZ (xorPad (hmKey k) 92) 64 i).set i (((takeZ (xorPad (hmKey k) 92) 64 i).getD i 0) ^^^ 92)).map B) rfl rfl kR rfl rfl sW (sM) <| tx_done kR ?_; exact tk_in_normal <| tk_then <| tk_region <| q_m rfl rfl <| s_q rfl (y_addN (a := i) (b := 1) rfl rfl oM) <| q_a rfl rfl <| tk_nil <| tk_R (H1 := []) rfl (congrArg (fun z_ => cel b13 z_ 5) (show ((takeZ (xorPad (hmKey k) 54) 64 i).set i (((takeZ (xorPad (hmKey k) 54) 64 i).getD i 0) ^^^ 54)).map B = (takeZ (xorPad (hmKey k) 54) 64 (i + 1)).map B from congrArg (List.map B) (padF oM oM))) <| tk_R (H1 := [_]) rfl (congrArg (fun z_ => cel b14 z_ 5) (show ((takeZ (xorPad (hmKey k) 92) 64 i).set i (((takeZ (xorPad (hmKey k) 92) 64 i).getD i 0) ^^^ 92)).map B = (takeZ (xorPad (hmKey k) 92) 64 (i + 1)).map B from congrArg (List.map B) (padF oM oM))) <| tk_again (i + 1) (by first | exact trivial | omega | (dsimp only; omega)) (by first | omega | (dsimp only; omega)) sB (List.Sublist.refl _)
      · refine tk_R (H1 := []) rfl (congrArg (fun z_ => cel b13 z_ 5) (show (takeZ (xorPad (hmKey k) 54) 64 i).map B = (xorPad (hmKey k) 54).map B from by rw [show i = 64 by omega, takeZ_all xorPad_len])) <| tk_R (H1 := [_]) rfl (congrArg (fun z_ => cel b14 z_ 5) (show (takeZ (xorPad (hmKey k) 92) 64 i).map B = (xorPad (hmKey k) 92).map B from by rw [show i = 64 by omega, takeZ_all xorPad_len])) <| tk_exit <| tk_then_exit <| tk_then_exit <| tk_in_hit <| tk_then <| tk_seq <| tk_drawH [cel b13 ((xorPad (hmKey k) 54).map B) 5, cel b14 ((xorPad (hmKey k) 92).map B) 5] [] kR <| s_x 0 rfl (y_move rfl) <| s_l 1 rfl (fun _ h => h) (y_str (l := xorPad (hmKey k) 92) rfl rfl rfl rfl (fun w hw => cel_rdE (o := 0) (m := 64) (cp := 64) (vs := (xorPad (hmKey k) 92).map B) (hw.mem (mm 1 rfl)) (dsW) lQ lenP)) <| s_x 2 rfl (y_move rfl) <| s_l 3 rfl (fun _ h => h) (y_str (l := xorPad (hmKey k) 54) rfl rfl rfl rfl (fun w hw => cel_rdE (o := 0) (m := 64) (cp := 64) (vs := (xorPad (hmKey k) 54).map B) (hw.mem (.head _)) (dsW) lQ lenP)) <| s_x 4 rfl (y_move rfl) <| s_x 5 rfl (y_catT (l := xorPad (hmKey k) 54) (m := l) rfl rfl lenP) <| tx_a 6 rfl kR rfl <| a_callv [] _ rfl kR rfl (fun w' hw' => rof_spec (l := (xorPad (hmKey k) 54) ++ l) lenP) rfl fun _ _ => tk_S (fun _ h => h) <| s_x 7 rfl (y_catT (l := xorPad (hmKey k) 92) (m := sumL ((xorPad (hmKey k) 54) ++ l)) rfl rfl lenP) <| tx_a 8 rfl kR rfl <| a_callv [] _ rfl kR rfl (fun w' hw' => rof_spec (l := (xorPad (hmKey k) 92) ++ (sumL ((xorPad (hmKey k) 54) ++ l))) lenP) rfl fun _ _ => tk_S (fun _ h => h) <| s_x 9 rfl ((y_assign rfl).cast (v := _) (u := Str (keyedL k l)) (by simp only [keyedL])) <| tx_done kR ?_; exact tk_then <| tk_retc <| tk_ret (()) (trivial) (.inl rfl) (r1 rfl rfl) (List.nil_sublist _)
end Go.Proofs.YtnhpghhibcdklaaGreatDoor
set_option linter.unusedSimpArgs false
set_option linter.unusedVariables false
namespace Go.Proofs.YtnhpghhibcdklaaGreatDoor
open Go Go.ChangeShapes Go.WideShapes Go.ChangeAt Go.RowKit
set_option maxRecDepth 100000
theorem Tryz.own : ownKnob Tryz.prog.godebug = none := by kernel_rfl
theorem Tryz.laidOut : laidOutB Tryz.prog = true := by kernel_rfl
/-- a laid row of words -/
theorem words_cell {W : World} {nm : String} {g t e n fuel : Nat} {cs : Array Value} {p : List MemPlace} {l : List UInt32} {d : DataW Unit} (hg : Tryz.prog.globalNamed nm = some g) (hv : W.var? Tryz.prog nm = some cs)
    (hd : DataW.trod (fun _ => ()) Tryz.prog W 0 (fun _ => true) false fuel t cs.toList = some (d, p)) (ht : Tryz.prog.underlying t = some (.array n e)) (he : Tryz.prog.underlying e = some (.int .u32)) (c5 : Tryz.prog.cellsOf e = 1)
    (hl : d = .agg (l.map fun x => .lit (.int .u32 (x.toNat : Int)))) (hn : l.length = n) : ∀ (j : Nat) (v : Value), (l.map W4)[j]? = some v → W.cell? ⟨g, j, none⟩ = some v := by
  intro j v hj
  have hjl : j < l.length := by have := (List.getElem?_eq_some_iff.1 hj).1; simpa using this
  subst hl
  obtain ⟨xs, m, _, ex, _, hx, hel⟩ := DataW.trod_array ht hd
  have hE := hel j (by omega)
  rw [c5, Nat.mul_one, List.getElem?_eq_getElem (by omega)] at hE
  obtain ⟨z, e1, e2, _⟩ := DataW.trod_int he hE
  have e3 : (xs.map (·.1)) = l.map fun x => .lit (.int .u32 (x.toNat : Int)) := (DataW.agg.inj (Prod.mk.inj ex).1).symm
  have e4 : (xs.map (·.1))[j]? = (l.map fun x => (DataW.lit (.int .u32 (x.toNat : Int)) : DataW Unit))[j]? := by rw [e3]
  rw [List.getElem?_map, List.getElem?_map, List.getElem?_eq_getElem (by omega : j < xs.length), List.getElem?_eq_getElem hjl, e2] at e4
  have hz : z = ((l[j]).toNat : Int) := by
    simp only [Option.map_some, Option.some.injEq, DataW.lit.injEq, Lit.int.injEq, true_and] at e4
    exact e4
  have e5 : v = .int .u32 z := by
    rw [List.getElem?_map, List.getElem?_eq_getElem hjl] at hj
    simp only [Option.map_some, Option.some.injEq] at hj
    rw [← hj, hz]
  rw [World.var?_cell hg hv j, e5]
  have h0 : ((cs.toList.drop j).take 1)[0]? = some (.int .u32 z) := by rw [e1]; rfl
  simpa using h0
/-- cells one behind the other -/
theorem cut_cat {cs : List Value} {o k n : Nat} (h : o + k = n) : (cs.drop o).take k ++ cs.drop n = cs.drop o := by
  subst h; have := List.take_append_drop k (cs.drop o); rwa [List.drop_drop] at this
theorem cut_end {cs : List Value} {o k : Nat} (h : cs.length = o + k) : cs.drop o = (cs.drop o).take k := (List.take_of_length_le (by simp; omega)).symm
end Go.Proofs.YtnhpghhibcdklaaGreatDoor
set_option linter.unusedSimpArgs false
set_option linter.unusedVariables false
namespace Go.Proofs.YtnhpghhibcdklaaGreatDoor.Cip
def twice8 (x : UInt8) : UInt8 := UInt8.ofNat (x.toNat * 2 ^ 1) ^^^ (-(UInt8.ofNat (x.toNat / 2 ^ 7)) &&& 27)
def fwd : List UInt8 := [
  0x63, 0x7c, 0x77, 0x7b, 0xf2, 0x6b, 0x6f, 0xc5, 0x30, 0x01, 0x67, 0x2b, 0xfe, 0xd7, 0xab, 0x76,
  0xca, 0x82, 0xc9, 0x7d, 0xfa, 0x59, 0x47, 0xf0, 0xad, 0xd4, 0xa2, 0xaf, 0x9c, 0xa4, 0x72, 0xc0,
  0xb7, 0xfd, 0x93, 0x26, 0x36, 0x3f, 0xf7, 0xcc, 0x34, 0xa5, 0xe5, 0xf1, 0x71, 0xd8, 0x31, 0x15,
  0x04, 0xc7, 0x23, 0xc3, 0x18, 0x96, 0x05, 0x9a, 0x07, 0x12, 0x80, 0xe2, 0xeb, 0x27, 0xb2, 0x75,
  0x09, 0x83, 0x2c, 0x1a, 0x1b, 0x6e, 0x5a, 0xa0, 0x52, 0x3b, 0xd6, 0xb3, 0x29, 0xe3, 0x2f, 0x84,
  0x53, 0xd1, 0x00, 0xed, 0x20, 0xfc, 0xb1, 0x5b, 0x6a, 0xcb, 0xbe, 0x39, 0x4a, 0x4c, 0x58, 0xcf,
  0xd0, 0xef, 0xaa, 0xfb, 0x43, 0x4d, 0x33, 0x85, 0x45, 0xf9, 0x02, 0x7f, 0x50, 0x3c, 0x9f, 0xa8,
  0x51, 0xa3, 0x40, 0x8f, 0x92, 0x9d, 0x38, 0xf5, 0xbc, 0xb6, 0xda, 0x21, 0x10, 0xff, 0xf3, 0xd2,
  0xcd, 0x0c, 0x13, 0xec, 0x5f, 0x97, 0x44, 0x17, 0xc4, 0xa7, 0x7e, 0x3d, 0x64, 0x5d, 0x19, 0x73,
  0x60, 0x81, 0x4f, 0xdc, 0x22, 0x2a, 0x90, 0x88, 0x46, 0xee, 0xb8, 0x14, 0xde, 0x5e, 0x0b, 0xdb,
  0xe0, 0x32, 0x3a, 0x0a, 0x49, 0x06, 0x24, 0x5c, 0xc2, 0xd3, 0xac, 0x62, 0x91, 0x95, 0xe4, 0x79,
  0xe7, 0xc8, 0x37, 0x6d, 0x8d, 0xd5, 0x4e, 0xa9, 0x6c, 0x56, 0xf4, 0xea, 0x65, 0x7a, 0xae, 0x08,
  0xba, 0x78, 0x25, 0x2e, 0x1c, 0xa6, 0xb4, 0xc6, 0xe8, 0xdd, 0x74, 0x1f, 0x4b, 0xbd, 0x8b, 0x8a,
  0x70, 0x3e, 0xb5, 0x66, 0x48, 0x03, 0xf6, 0x0e, 0x61, 0x35, 0x57, 0xb9, 0x86, 0xc1, 0x1d, 0x9e,
  0xe1, 0xf8, 0x98, 0x11, 0x69, 0xd9, 0x8e, 0x94, 0x9b, 0x1e, 0x87, 0xe9, 0xce, 0x55, 0x28, 0xdf,
  0x8c, 0xa1, 0x89, 0x0d, 0xbf, 0xe6, 0x42, 0x68, 0x41, 0x99, 0x2d, 0x0f, 0xb0, 0x54, 0xbb, 0x16]
theorem fwd_len : fwd.length = 256 := by kernel_rfl
def sbox (b : UInt8) : UInt8 := fwd.getD b.toNat 0
def addTo (K : List UInt8) (r : Nat) (V : List UInt8) : Nat → List UInt8
  | 0 => V
  | k + 1 => (addTo K r V k).set k ((addTo K r V k).getD k 0 ^^^ K.getD (16 * r + k) 0)
theorem addTo_succ {K : List UInt8} {r : Nat} {V : List UInt8} {k : Nat} : addTo K r V (k + 1) = (addTo K r V k).set k ((addTo K r V k).getD k 0 ^^^ K.getD (16 * r + k) 0) := rfl
@[simp] theorem addTo_len {K : List UInt8} {r : Nat} {V : List UInt8} {k : Nat} : (addTo K r V k).length = V.length := by
  induction k with
  | zero => rfl
  | succ k ih => rw [addTo_succ]; simp [ih]
def shTo (V : List UInt8) : Nat → List UInt8
  | 0 => List.replicate 16 0
  | k + 1 => (shTo V k).set k (sbox (V.getD ((k + k % 4 * 4) % 16) 0))
theorem shTo_succ {V : List UInt8} {k : Nat} : shTo V (k + 1) = (shTo V k).set k (sbox (V.getD ((k + k % 4 * 4) % 16) 0)) := rfl
@[simp] theorem shTo_len {V : List UInt8} {k : Nat} : (shTo V k).length = 16 := by
  induction k with
  | zero => rfl
  | succ k ih => rw [shTo_succ]; simp [ih]
def mix1 (V : List UInt8) (c : Nat) : List UInt8 :=
  let a := V.getD c 0; let b := V.getD (c + 1) 0; let d := V.getD (c + 2) 0; let e := V.getD (c + 3) 0
  let all := a ^^^ b ^^^ d ^^^ e
  let V1 := V.set c (V.getD c 0 ^^^ (all ^^^ twice8 (a ^^^ b)))
  let V2 := V1.set (c + 1) (V1.getD (c + 1) 0 ^^^ (all ^^^ twice8 (b ^^^ d)))
  let V3 := V2.set (c + 2) (V2.getD (c + 2) 0 ^^^ (all ^^^ twice8 (d ^^^ e)))
  V3.set (c + 3) (V3.getD (c + 3) 0 ^^^ (all ^^^ twice8 (e ^^^ a)))
def mixTo (V : List UInt8) : Nat → List UInt8
  | 0 => V
  | k + 1 => mix1 (mixTo V k) (4 * k)
@[simp] theorem mix1_len {V : List UInt8} {c : Nat} : (mix1 V c).length = V.length := by simp [mix1]
@[simp] theorem mixTo_len {V : List UInt8} {k : Nat} : (mixTo V k).length = V.length := by
  induction k with
  | zero => rfl
  | succ k ih => simp [mixTo, ih]
def turnTo (K V : List UInt8) : Nat → List UInt8
  | 0 => addTo K 0 V 16
  | r + 1 => addTo K (r + 1) (if r + 1 < 14 then mixTo (shTo (turnTo K V r) 16) 4 else shTo (turnTo K V r) 16) 16
@[simp] theorem turnTo_len {K V : List UInt8} {r : Nat} (h : V.length = 16) : (turnTo K V r).length = 16 := by
  cases r with
  | zero => simp [turnTo, h]
  | succ r => simp only [turnTo, addTo_len]; split <;> simp
/-- AES-256's turn of a block by the round keys -/
def turn (K V : List UInt8) : List UInt8 := turnTo K V 14
/-! ## the round keys -/
def initTo (b : List UInt8) (i : Nat) : List UInt8 := b.take (i * 4) ++ List.replicate (240 - i * 4) 0
@[simp] theorem initTo_len {b : List UInt8} {i : Nat} (hb : b.length = 32) (hi : i ≤ 8) : (initTo b i).length = 240 := by simp [initTo]; omega
theorem initTo_succ {b : List UInt8} {i : Nat} (hb : b.length = 32) (hi : i < 8) : initTo b (i + 1) = (initTo b i).take (i * 4) ++ (b.drop (i * 4)).take 4 ++ (initTo b i).drop (i * 4 + 4) := by
  have e1 : (b.take (i * 4)).length = i * 4 := by simp; omega
  have e2 : b.take ((i + 1) * 4) = b.take (i * 4) ++ (b.drop (i * 4)).take 4 := by
    rw [show (i + 1) * 4 = i * 4 + 4 by omega, List.take_add]
  have e3 : (initTo b i).take (i * 4) = b.take (i * 4) := by
    simp only [initTo]; rw [List.take_append_of_le_length (by omega), List.take_take, Nat.min_self]
  have e4 : (initTo b i).drop (i * 4 + 4) = List.replicate (240 - (i + 1) * 4) 0 := by
    simp only [initTo]; rw [List.drop_append, List.drop_eq_nil_of_le (by omega), e1, List.drop_replicate, List.nil_append]
    congr 1; omega
  rw [e3, e4]; simp only [initTo, e2]
def subTo (T : List UInt8) : Nat → List UInt8
  | 0 => T
  | j + 1 => (subTo T j).set j (sbox ((subTo T j).getD j 0))
@[simp] theorem subTo_len {T : List UInt8} {j : Nat} : (subTo T j).length = T.length := by
  induction j with
  | zero => rfl
  | succ j ih => simp [subTo, ih]
def word (W : List UInt8) (i : Nat) : List UInt8 := (W.drop (i * 4)).take 4
@[simp] theorem word_len {W : List UInt8} {i : Nat} (h : W.length = 240) (hi : i < 60) : (word W i).length = 4 := by simp [word, h]; omega
def tvA (t : List UInt8) (con : UInt8) : List UInt8 := [sbox (t.getD 1 0) ^^^ con, sbox (t.getD 2 0), sbox (t.getD 3 0), sbox (t.getD 0 0)]
/-- what is put to the word eight words ahead; n: the word's number less 8 -/
def tv (W : List UInt8) (n : Nat) (con : UInt8) : List UInt8 :=
  let t := word W (n + 7)
  if n % 8 = 0 then tvA t con else if n % 8 = 4 then subTo t 4 else t
def putTo (W : List UInt8) (n : Nat) (T : List UInt8) : Nat → List UInt8
  | 0 => W
  | j + 1 => (putTo W n T j).set ((n + 8) * 4 + j) ((putTo W n T j).getD (n * 4 + j) 0 ^^^ T.getD j 0)
@[simp] theorem putTo_len {W : List UInt8} {n : Nat} {T : List UInt8} {j : Nat} : (putTo W n T j).length = W.length := by
  induction j with
  | zero => rfl
  | succ j ih => simp [putTo, ih]
def conN (con : UInt8) (n : Nat) : UInt8 := if n % 8 = 0 then UInt8.ofNat (con.toNat * 2 ^ 1) else con
def expW (b : List UInt8) : Nat → List UInt8 × UInt8
  | 0 => (initTo b 8, 1)
  | n + 1 => (putTo (expW b n).1 n (tv (expW b n).1 n (expW b n).2) 4, conN (expW b n).2 n)
@[simp] theorem expW_len {b : List UInt8} {n : Nat} (hb : b.length = 32) : (expW b n).1.length = 240 := by
  induction n with
  | zero => exact initTo_len hb (by omega)
  | succ n ih => simp [expW, ih]
def keyW (b : List UInt8) : List UInt8 := (expW b 52).1
@[simp] theorem keyW_len {b : List UInt8} (hb : b.length = 32) : (keyW b).length = 240 := expW_len hb

/-! ## a flow's blocks -/
/-- the carry goes from the last byte to the first; k bytes are done -/
def plusTo (N : List UInt8) (n : Nat) : Nat → List UInt8 × Nat
  | 0 => (N, n)
  | k + 1 => let p := plusTo N n k
    if p.2 = 0 then p else (p.1.set (15 - k) (UInt8.ofNat (p.2 + (p.1.getD (15 - k) 0).toNat)), (p.2 + (p.1.getD (15 - k) 0).toNat) / 2 ^ 8)
@[simp] theorem plusTo_len {N : List UInt8} {n k : Nat} : (plusTo N n k).1.length = N.length := by
  induction k with
  | zero => rfl
  | succ k ih => simp only [plusTo]; split <;> simp [ih]
theorem plusTo_lt {N : List UInt8} {n k : Nat} (h : n < 2 ^ 63) : (plusTo N n k).2 < 2 ^ 63 := by
  induction k with
  | zero => exact h
  | succ k ih =>
    simp only [plusTo]; split
    · exact ih
    · have := ((plusTo N n k).1.getD (15 - k) 0).toNat_lt
      simp only; omega
theorem plusTo_done {N : List UInt8} {n k : Nat} (h : (plusTo N n k).2 = 0) (m : Nat) : plusTo N n (k + m) = plusTo N n k := by
  induction m with
  | zero => rfl
  | succ m ih => rw [← Nat.add_assoc]; simp only [plusTo]; rw [ih, if_pos h]
def plus (N : List UInt8) (n : Nat) : List UInt8 := (plusTo N n 16).1
@[simp] theorem plus_len {N : List UInt8} {n : Nat} : (plus N n).length = N.length := plusTo_len
theorem plus_at {N : List UInt8} {n k : Nat} (hk : k ≤ 16) (h : (plusTo N n k).2 = 0 ∨ k = 16) : plus N n = (plusTo N n k).1 := by
  rcases h with h | rfl
  · have := plusTo_done h (16 - k)
    rw [show k + (16 - k) = 16 by omega] at this
    rw [plus, this]
  · rfl
@[simp] theorem turn_len {K V : List UInt8} (h : V.length = 16) : (turn K V).length = 16 := turnTo_len h
/-- byte i of the flow of key words K and number N -/
def flowB (K N : List UInt8) (i : Nat) : UInt8 := (turn K (plus N (i / 16))).getD (i % 16) 0
/-- bytes from place at on -/
def hideL (K N : List UInt8) (at_ : Nat) (l : List UInt8) : List UInt8 := (List.range l.length).map fun i => l.getD i 0 ^^^ flowB K N (at_ + i)
@[simp] theorem hideL_len {K N : List UInt8} {at_ : Nat} {l : List UInt8} : (hideL K N at_ l).length = l.length := by simp [hideL]
@[simp] theorem hideL_nil {K N : List UInt8} {at_ : Nat} : hideL K N at_ [] = [] := rfl
theorem hideL_snoc {K N : List UInt8} {at_ : Nat} {l : List UInt8} {x : UInt8} : hideL K N at_ (l ++ [x]) = hideL K N at_ l ++ [x ^^^ flowB K N (at_ + l.length)] := by
  simp only [hideL, List.length_append, List.length_singleton, List.range_succ, List.map_append, List.map_cons, List.map_nil]
  congr 1
  · refine List.map_congr_left fun i hi => ?_
    have : i < l.length := List.mem_range.1 hi
    simp [List.getD_eq_getElem?_getD, List.getElem?_append_left this]
  · simp [List.getD_eq_getElem?_getD]
theorem flat_succ {α : Type} {Ps : List (α × List UInt8)} {i : Nat} {p : α × List UInt8} (h : Ps[i]? = some p) : (Ps.take (i + 1)).flatMap Prod.snd = (Ps.take i).flatMap Prod.snd ++ p.2 := by
  rw [List.take_add_one, h, List.flatMap_append]; simp
theorem flat_le {α : Type} {Ps : List (α × List UInt8)} {i : Nat} {p : α × List UInt8} (h : Ps[i]? = some p) : ((Ps.take i).flatMap Prod.snd).length + p.2.length ≤ (Ps.flatMap Prod.snd).length := by
  have e : Ps.flatMap Prod.snd = (Ps.take (i + 1)).flatMap Prod.snd ++ (Ps.drop (i + 1)).flatMap Prod.snd := by rw [← List.flatMap_append, List.take_append_drop]
  rw [e, flat_succ h]; simp
end Go.Proofs.YtnhpghhibcdklaaGreatDoor.Cip
set_option linter.unusedSimpArgs false
set_option linter.unusedVariables false
namespace Go.Proofs.YtnhpghhibcdklaaGreatDoor.Cip
end Go.Proofs.YtnhpghhibcdklaaGreatDoor.Cip
set_option linter.unusedSimpArgs false
set_option linter.unusedVariables false
namespace Go.Proofs.YtnhpghhibcdklaaGreatDoor.Cip
def tmA (a b : Nat) : Nat → Nat
  | 0 => 0
  | i + 1 => bif Nat.beq (b / 2 ^ i % 2) 1 then tmA a b i ^^^ a * 2 ^ i else tmA a b i
def tmB (p : Nat) : Nat → Nat
  | 0 => p
  | k + 1 => bif Nat.beq (tmB p k / 2 ^ (14 - k) % 2) 1 then tmB p k ^^^ 283 * 2 ^ (6 - k) else tmB p k
def timesN (a b : Nat) : Nat := tmB (tmA a b 8) 7
def invTo (x : Nat) : Nat → Nat → Nat
  | 0, _ => 0
  | f + 1, y => bif Nat.beq (timesN x y) 1 then y else invTo x f (y + 1)
def invN (x : Nat) : Nat := bif Nat.beq x 0 then 0 else invTo x 255 1
def bit1 (v i : Nat) : Nat := (v / 2 ^ i ^^^ v / 2 ^ ((i + 4) % 8) ^^^ v / 2 ^ ((i + 5) % 8) ^^^ v / 2 ^ ((i + 6) % 8) ^^^ v / 2 ^ ((i + 7) % 8) ^^^ 99 / 2 ^ i) % 2
def mixN (v : Nat) : Nat → Nat
  | 0 => 0
  | i + 1 => mixN v i + bit1 v i * 2 ^ i
def boxN (x : Nat) : Nat := mixN (invN x) 8
theorem times_tw : ((List.range 256).all fun a => Nat.beq (timesN a 2) (twice8 (UInt8.ofNat a)).toNat && Nat.beq (timesN a 3) (twice8 (UInt8.ofNat a) ^^^ UInt8.ofNat a).toNat) = true := by kernel_rfl
theorem times2 (a : UInt8) : timesN a.toNat 2 = (twice8 a).toNat := by
  have h := List.all_eq_true.1 times_tw a.toNat (List.mem_range.2 a.toNat_lt)
  simp only [Bool.and_eq_true, UInt8.ofNat_toNat] at h
  exact Nat.eq_of_beq_eq_true h.1
theorem times3 (a : UInt8) : timesN a.toNat 3 = (twice8 a ^^^ a).toNat := by
  have h := List.all_eq_true.1 times_tw a.toNat (List.mem_range.2 a.toNat_lt)
  simp only [Bool.and_eq_true, UInt8.ofNat_toNat] at h
  exact Nat.eq_of_beq_eq_true h.2
theorem xor_lt {a b : Nat} (k : Nat) (ha : a < 2 ^ k) (hb : b < 2 ^ k) : a ^^^ b < 2 ^ k := Nat.xor_lt_two_pow ha hb
theorem tmA_lt {a b k : Nat} (ha : a < 256) (hk : k ≤ 8) : tmA a b k < 65536 := by
  induction k with
  | zero => simp [tmA]
  | succ k ih =>
    simp only [tmA]
    have h1 : 2 ^ k ≤ 2 ^ 7 := Nat.pow_le_pow_right (by decide) (by omega)
    have h2 : a * 2 ^ k < 65536 := by
      have : a * 2 ^ k ≤ 255 * 2 ^ 7 := Nat.mul_le_mul (by omega) h1
      omega
    cases Nat.beq (b / 2 ^ k % 2) 1 with
    | true => exact xor_lt 16 (ih (by omega)) h2
    | false => exact ih (by omega)
theorem tmB_lt {p k : Nat} (hp : p < 65536) (hk : k ≤ 7) : tmB p k < 65536 := by
  induction k with
  | zero => exact hp
  | succ k ih =>
    simp only [tmB]
    have h1 : 2 ^ (6 - k) ≤ 2 ^ 6 := Nat.pow_le_pow_right (by decide) (by omega)
    have h2 : 283 * 2 ^ (6 - k) < 65536 := by omega
    cases Nat.beq (tmB p k / 2 ^ (14 - k) % 2) 1 with
    | true => exact xor_lt 16 (ih (by omega)) h2
    | false => exact ih (by omega)
theorem tmA_on {a b k : Nat} (h : b / 2 ^ k % 2 = 1) : tmA a b (k + 1) = tmA a b k ^^^ a * 2 ^ k := by simp only [tmA]; rw [h]; rfl
theorem tmA_off {a b k : Nat} (h : ¬ b / 2 ^ k % 2 = 1) : tmA a b (k + 1) = tmA a b k := by
  simp only [tmA]; rw [show b / 2 ^ k % 2 = 0 by omega]; rfl
theorem tmB_on {p k : Nat} (h : tmB p k / 2 ^ (14 - k) % 2 = 1) : tmB p (k + 1) = tmB p k ^^^ 283 * 2 ^ (6 - k) := by simp only [tmB]; rw [h]; rfl
theorem tmB_off {p k : Nat} (h : ¬ tmB p k / 2 ^ (14 - k) % 2 = 1) : tmB p (k + 1) = tmB p k := by
  simp only [tmB]; rw [show tmB p k / 2 ^ (14 - k) % 2 = 0 by omega]; rfl
theorem mixN_lt {v i : Nat} : mixN v i < 2 ^ i := by
  induction i with
  | zero => simp [mixN]
  | succ i ih =>
    have h1 : bit1 v i ≤ 1 := by simp only [bit1]; omega
    have h2 : bit1 v i * 2 ^ i ≤ 1 * 2 ^ i := Nat.mul_le_mul_right _ h1
    rw [Nat.pow_succ]; simp only [mixN]; omega
theorem invTo_lt {x : Nat} : ∀ {f y : Nat}, f + y ≤ 256 → invTo x f y < 256
  | 0, _, _ => by simp [invTo]
  | f + 1, y, h => by
    simp only [invTo]
    cases Nat.beq (timesN x y) 1 with
    | true => show y < 256; omega
    | false => exact invTo_lt (f := f) (y := y + 1) (by omega)
theorem invN_lt {x : Nat} : invN x < 256 := by
  unfold invN
  cases Nat.beq x 0 with
  | true => show 0 < 256; decide
  | false => exact invTo_lt (by omega)
end Go.Proofs.YtnhpghhibcdklaaGreatDoor.Cip
set_option linter.unusedSimpArgs false
set_option linter.unusedVariables false
namespace Go.Proofs.YtnhpghhibcdklaaGreatDoor.Cip
theorem getD_set_self {l : List UInt8} {i : Nat} {v : UInt8} (h : i < l.length) : (l.set i v).getD i 0 = v := by rw [List.getD_eq_getElem?_getD, List.getElem?_set_self h]; rfl
theorem getD_set_ne {l : List UInt8} {i j : Nat} {v : UInt8} (h : i ≠ j) : (l.set i v).getD j 0 = l.getD j 0 := by rw [List.getD_eq_getElem?_getD, List.getElem?_set_ne h, ← List.getD_eq_getElem?_getD]
theorem getD_take {l : List UInt8} {n j : Nat} (h : j < n) : (l.take n).getD j 0 = l.getD j 0 := by rw [List.getD_eq_getElem?_getD, List.getElem?_take, if_pos h, ← List.getD_eq_getElem?_getD]
theorem getD_drop {l : List UInt8} {n j : Nat} : (l.drop n).getD j 0 = l.getD (n + j) 0 := by rw [List.getD_eq_getElem?_getD, List.getElem?_drop, ← List.getD_eq_getElem?_getD]
theorem word_at {W : List UInt8} {i j : Nat} (hj : j < 4) : (word W i).getD j 0 = W.getD (i * 4 + j) 0 := by rw [word, getD_take hj, getD_drop]
theorem subTo_at {T : List UInt8} {j m : Nat} (hm : m < T.length) : (subTo T j).getD m 0 = if m < j then sbox (T.getD m 0) else T.getD m 0 := by
  induction j with
  | zero => simp [subTo]
  | succ j ih =>
    simp only [subTo]
    by_cases e : m = j
    · subst e
      rw [getD_set_self (by simpa using hm), if_pos (by omega), ih, if_neg (by omega)]
    · rw [getD_set_ne (fun h => e h.symm), ih]
      by_cases h : m < j
      · rw [if_pos h, if_pos (by omega)]
      · rw [if_neg h, if_neg (by omega)]
theorem tv_at0 {W : List UInt8} {n j : Nat} {con : UInt8} (h : n % 8 = 0) (hj : j < 4) (hj0 : j ≠ 0) : (tv W n con).getD j 0 = sbox (W.getD ((n + 7) * 4 + (j + 1) % 4) 0) := by
  simp only [tv]; rw [if_pos h]
  simp only [tvA, word_at (show 1 < 4 by decide), word_at (show 2 < 4 by decide), word_at (show 3 < 4 by decide), word_at (show 0 < 4 by decide)]
  match j, hj, hj0 with
  | 1, _, _ => rfl
  | 2, _, _ => rfl
  | 3, _, _ => rfl
theorem tv_at00 {W : List UInt8} {n : Nat} {con : UInt8} (h : n % 8 = 0) : (tv W n con).getD 0 0 = sbox (W.getD ((n + 7) * 4 + 1) 0) ^^^ con := by
  simp only [tv]; rw [if_pos h]
  simp only [tvA, word_at (show 1 < 4 by decide)]; rfl
theorem tv_at4 {W : List UInt8} {n j : Nat} {con : UInt8} (h0 : ¬ n % 8 = 0) (h : n % 8 = 4) (hj : j < 4) (hn : n < 52) (hW : W.length = 240) : (tv W n con).getD j 0 = sbox (W.getD ((n + 7) * 4 + j) 0) := by
  simp only [tv]; rw [if_neg h0, if_pos h, subTo_at (by rw [word_len hW (by omega)]; exact hj), if_pos hj, word_at hj]
theorem tv_atx {W : List UInt8} {n j : Nat} {con : UInt8} (h0 : ¬ n % 8 = 0) (h : ¬ n % 8 = 4) (hj : j < 4) : (tv W n con).getD j 0 = W.getD ((n + 7) * 4 + j) 0 := by
  simp only [tv]; rw [if_neg h0, if_neg h, word_at hj]
theorem putTo_low {W T : List UInt8} {n j m : Nat} (h : m < (n + 8) * 4) : (putTo W n T j).getD m 0 = W.getD m 0 := by
  induction j with
  | zero => rfl
  | succ j ih => simp only [putTo]; rw [getD_set_ne (by omega), ih]
/-- the round keys while word i is made, j bytes of it done -/
def inW (b : List UInt8) (i j : Nat) : List UInt8 :=
  if i < 8 then b.take (i * 4 + j) ++ List.replicate (240 - (i * 4 + j)) 0 else putTo (expW b (i - 8)).1 (i - 8) (tv (expW b (i - 8)).1 (i - 8) (expW b (i - 8)).2) j
def refW (b : List UInt8) (i : Nat) : List UInt8 × UInt8 := if i ≤ 8 then (initTo b i, 1) else expW b (i - 8)
theorem refW_lo {b : List UInt8} {i : Nat} (h : i ≤ 8) : refW b i = (initTo b i, 1) := if_pos h
theorem refW_hi {b : List UInt8} {n : Nat} : refW b (n + 8) = expW b n := by
  unfold refW
  split
  · have : n = 0 := by omega
    subst this; rfl
  · rw [Nat.add_sub_cancel]
theorem inW_hi {b : List UInt8} {n j : Nat} : inW b (n + 8) j = putTo (expW b n).1 n (tv (expW b n).1 n (expW b n).2) j := by
  unfold inW; rw [if_neg (by omega), Nat.add_sub_cancel]
theorem inW_lo {b : List UInt8} {i j : Nat} (h : i < 8) : inW b i j = b.take (i * 4 + j) ++ List.replicate (240 - (i * 4 + j)) 0 := if_pos h
theorem inW_zero {b : List UInt8} {i : Nat} : inW b i 0 = (refW b i).1 := by
  rcases Nat.lt_or_ge i 8 with h | h
  · rw [inW_lo h, refW_lo (by omega)]; rfl
  · obtain ⟨n, rfl⟩ : ∃ n, i = n + 8 := ⟨i - 8, by omega⟩
    rw [inW_hi, refW_hi]; rfl
theorem inW_four {b : List UInt8} {i : Nat} : inW b i 4 = (refW b (i + 1)).1 := by
  rcases Nat.lt_or_ge i 8 with h | h
  · rw [inW_lo h, refW_lo (by omega), show i * 4 + 4 = (i + 1) * 4 by omega]; rfl
  · obtain ⟨n, rfl⟩ : ∃ n, i = n + 8 := ⟨i - 8, by omega⟩
    rw [inW_hi, show n + 8 + 1 = (n + 1) + 8 by omega, refW_hi]; rfl
theorem inW_len {b : List UInt8} {i j : Nat} (hb : b.length = 32) (hj : j ≤ 4) : (inW b i j).length = 240 := by
  rcases Nat.lt_or_ge i 8 with h | h
  · rw [inW_lo h]; simp; omega
  · obtain ⟨n, rfl⟩ : ∃ n, i = n + 8 := ⟨i - 8, by omega⟩
    rw [inW_hi]; simp [hb]
theorem inW_lo_succ {b : List UInt8} {i j : Nat} (hb : b.length = 32) (h : i < 8) (hj : j < 4) : inW b i (j + 1) = (inW b i j).set (i * 4 + j) (b.getD (i * 4 + j) 0) := by
  rw [inW_lo h, inW_lo h]
  have e1 : b.take (i * 4 + (j + 1)) = b.take (i * 4 + j) ++ [b.getD (i * 4 + j) 0] := by
    rw [← Nat.add_assoc, List.take_add_one, List.getElem?_eq_getElem (by omega), List.getD_eq_getElem?_getD, List.getElem?_eq_getElem (by omega)]; rfl
  have e2 : List.replicate (240 - (i * 4 + j)) (0 : UInt8) = 0 :: List.replicate (240 - (i * 4 + (j + 1))) 0 := by
    rw [show 240 - (i * 4 + j) = (240 - (i * 4 + (j + 1))) + 1 by omega]; rfl
  have hl : (b.take (i * 4 + j)).length = i * 4 + j := by simp; omega
  rw [e1, e2, List.set_append_right _ _ (by omega), hl]
  simp
theorem inW_hi_succ {b : List UInt8} {n j : Nat} : inW b (n + 8) (j + 1) = (inW b (n + 8) j).set ((n + 8) * 4 + j) ((inW b (n + 8) j).getD (n * 4 + j) 0 ^^^ (tv (expW b n).1 n (expW b n).2).getD j 0) := by
  rw [inW_hi, inW_hi]; rfl
theorem inW_low {b : List UInt8} {n j m : Nat} (h : m < (n + 8) * 4) : (inW b (n + 8) j).getD m 0 = (expW b n).1.getD m 0 := by rw [inW_hi, putTo_low h]
theorem ref0 {b : List UInt8} : refW b 0 = (List.replicate 240 0, 1) := by rw [refW_lo (by omega)]; simp [initTo]
theorem ref60 {b : List UInt8} : (refW b 60).1 = keyW b := by rw [show 60 = 52 + 8 from rfl, refW_hi]; rfl
def conS : Nat → UInt8
  | 0 => 1
  | n + 1 => conN (conS n) n
theorem exp_con {b : List UInt8} {n : Nat} : (expW b n).2 = conS n := by
  induction n with
  | zero => rfl
  | succ n ih => simp only [expW, conS, ih]
theorem conS_all : ((List.range 52).all fun n => !(Nat.beq (n % 8) 0) || Nat.beq (timesN (conS n).toNat 2) (conS (n + 1)).toNat) = true := by kernel_rfl
theorem con_twice {b : List UInt8} {n : Nat} (hn : n < 52) (h : n % 8 = 0) : timesN (expW b n).2.toNat 2 = (expW b (n + 1)).2.toNat := by
  rw [exp_con, exp_con]
  have := List.all_eq_true.1 conS_all n (List.mem_range.2 hn)
  rw [h] at this
  exact Nat.eq_of_beq_eq_true (by simpa using this)
theorem con_same {b : List UInt8} {n : Nat} (h : ¬ n % 8 = 0) : (expW b (n + 1)).2 = (expW b n).2 := by
  rw [exp_con, exp_con]; simp only [conS, conN]; rw [if_neg h]
theorem sbox_at (u : UInt8) : fwd[u.toNat]? = some (sbox u) := by
  have := u.toNat_lt
  rw [List.getElem?_eq_getElem (by rw [fwd_len]; omega), sbox, List.getD_eq_getElem?_getD, List.getElem?_eq_getElem (by rw [fwd_len]; omega)]; rfl
end Go.Proofs.YtnhpghhibcdklaaGreatDoor.Cip
set_option linter.unusedSimpArgs false
set_option linter.unusedVariables false
namespace Go.Proofs.YtnhpghhibcdklaaGreatDoor.Cip
def tw (n : Nat) : Nat := bif Nat.ble 128 n then (n * 2 - 256) ^^^ 27 else n * 2
theorem tw_all : ((List.range 256).all fun a => Nat.beq (twice8 (UInt8.ofNat a)).toNat (tw a)) = true := by kernel_rfl
theorem tw_lin : ((List.range 256).all fun a => (List.range 256).all fun b => Nat.beq (tw (a ^^^ b)) (tw a ^^^ tw b)) = true := by kernel_rfl
theorem twice_tw (a : UInt8) : (twice8 a).toNat = tw a.toNat := by
  have h := List.all_eq_true.1 tw_all a.toNat (List.mem_range.2 a.toNat_lt)
  simp only [UInt8.ofNat_toNat] at h
  exact Nat.eq_of_beq_eq_true h
theorem twice_xor (a b : UInt8) : twice8 (a ^^^ b) = twice8 a ^^^ twice8 b := by
  apply UInt8.toNat_inj.1
  rw [UInt8.toNat_xor, twice_tw, twice_tw, twice_tw, UInt8.toNat_xor]
  exact Nat.eq_of_beq_eq_true (List.all_eq_true.1 (List.all_eq_true.1 tw_lin a.toNat (List.mem_range.2 a.toNat_lt)) b.toNat (List.mem_range.2 b.toNat_lt))
theorem xc (x y : UInt8) : x ^^^ (x ^^^ y) = y := by rw [← UInt8.xor_assoc, UInt8.xor_self, UInt8.zero_xor]
theorem xlc (x y z : UInt8) : x ^^^ (y ^^^ z) = y ^^^ (x ^^^ z) := by rw [← UInt8.xor_assoc, UInt8.xor_comm x y, UInt8.xor_assoc]
theorem mixb (a b d e : UInt8) : a ^^^ (a ^^^ b ^^^ d ^^^ e ^^^ twice8 (a ^^^ b)) = twice8 a ^^^ (twice8 b ^^^ b) ^^^ d ^^^ e := by
  rw [twice_xor]; simp only [UInt8.xor_assoc, xc]
  generalize twice8 a = p; generalize twice8 b = q
  simp only [UInt8.xor_assoc, UInt8.xor_comm, xlc]
/-- the reference's mixing: byte i -/
def mxb (U : List UInt8) (i : Nat) : UInt8 :=
  let c := i / 4 * 4; let r := i % 4
  twice8 (U.getD (c + r) 0) ^^^ (twice8 (U.getD (c + (r + 1) % 4) 0) ^^^ U.getD (c + (r + 1) % 4) 0) ^^^ U.getD (c + (r + 2) % 4) 0 ^^^ U.getD (c + (r + 3) % 4) 0
def mxTo (U : List UInt8) : Nat → List UInt8
  | 0 => U
  | k + 1 => (mxTo U k).set k (mxb U k)
@[simp] theorem mxTo_len {U : List UInt8} {k : Nat} : (mxTo U k).length = U.length := by
  induction k with
  | zero => rfl
  | succ k ih => simp [mxTo, ih]
def adTo (K : List UInt8) (r : Nat) (T S : List UInt8) : Nat → List UInt8
  | 0 => S
  | k + 1 => (adTo K r T S k).set k (T.getD k 0 ^^^ K.getD (16 * r + k) 0)
@[simp] theorem adTo_len {K T S : List UInt8} {r k : Nat} : (adTo K r T S k).length = S.length := by
  induction k with
  | zero => rfl
  | succ k ih => simp [adTo, ih]
theorem adTo_at {K T S : List UInt8} {r k m : Nat} (hm : m < S.length) : (adTo K r T S k).getD m 0 = if m < k then T.getD m 0 ^^^ K.getD (16 * r + m) 0 else S.getD m 0 := by
  induction k with
  | zero => simp [adTo]
  | succ k ih =>
    simp only [adTo]
    by_cases e : m = k
    · subst e; rw [getD_set_self (by simpa using hm), if_pos (by omega)]
    · rw [getD_set_ne (fun h => e h.symm), ih]
      by_cases h : m < k
      · rw [if_pos h, if_pos (by omega)]
      · rw [if_neg h, if_neg (by omega)]
theorem addTo_at {K V : List UInt8} {r k m : Nat} (hm : m < V.length) : (addTo K r V k).getD m 0 = if m < k then V.getD m 0 ^^^ K.getD (16 * r + m) 0 else V.getD m 0 := by
  induction k with
  | zero => simp [addTo]
  | succ k ih =>
    simp only [addTo]
    by_cases e : m = k
    · subst e; rw [getD_set_self (by simpa using hm), if_pos (by omega), ih, if_neg (by omega)]
    · rw [getD_set_ne (fun h => e h.symm), ih]
      by_cases h : m < k
      · rw [if_pos h, if_pos (by omega)]
      · rw [if_neg h, if_neg (by omega)]
theorem ext_getD {l m : List UInt8} (h : l.length = m.length) (hg : ∀ i, i < l.length → l.getD i 0 = m.getD i 0) : l = m := by
  apply List.ext_getElem h
  intro i h1 h2
  have := hg i h1
  rw [List.getD_eq_getElem?_getD, List.getD_eq_getElem?_getD, List.getElem?_eq_getElem h1, List.getElem?_eq_getElem h2] at this
  exact this
theorem ad_eq {K T S : List UInt8} {r : Nat} (hT : T.length = 16) (hS : S.length = 16) : adTo K r T S 16 = addTo K r T 16 := by
  apply ext_getD (by simp [hT, hS])
  intro i hi
  rw [adTo_len] at hi
  rw [adTo_at hi, addTo_at (by omega), if_pos (by omega), if_pos (by omega)]
theorem list16' {l : List UInt8} (h : l.length = 16) : ∃ a0 a1 a2 a3 a4 a5 a6 a7 a8 a9 a10 a11 a12 a13 a14 a15, l = [a0, a1, a2, a3, a4, a5, a6, a7, a8, a9, a10, a11, a12, a13, a14, a15] := by
  match l, h with
  | [a0, a1, a2, a3, a4, a5, a6, a7, a8, a9, a10, a11, a12, a13, a14, a15], _ => exact ⟨a0, a1, a2, a3, a4, a5, a6, a7, a8, a9, a10, a11, a12, a13, a14, a15, rfl⟩
theorem mixb1 (a b d e : UInt8) : b ^^^ (a ^^^ b ^^^ d ^^^ e ^^^ twice8 (b ^^^ d)) = twice8 b ^^^ (twice8 d ^^^ d) ^^^ e ^^^ a := by
  rw [← mixb b d e a]; congr 2; simp only [UInt8.xor_assoc, UInt8.xor_comm, xlc]
theorem mixb2 (a b d e : UInt8) : d ^^^ (a ^^^ b ^^^ d ^^^ e ^^^ twice8 (d ^^^ e)) = twice8 d ^^^ (twice8 e ^^^ e) ^^^ a ^^^ b := by
  rw [← mixb d e a b]; congr 2; simp only [UInt8.xor_assoc, UInt8.xor_comm, xlc]
theorem mixb3 (a b d e : UInt8) : e ^^^ (a ^^^ b ^^^ d ^^^ e ^^^ twice8 (e ^^^ a)) = twice8 e ^^^ (twice8 a ^^^ a) ^^^ b ^^^ d := by
  rw [← mixb e a b d]; congr 2; simp only [UInt8.xor_assoc, UInt8.xor_comm, xlc]
theorem mx_eq {U : List UInt8} (h : U.length = 16) : mxTo U 16 = mixTo U 4 := by
  obtain ⟨a0, a1, a2, a3, a4, a5, a6, a7, a8, a9, a10, a11, a12, a13, a14, a15, rfl⟩ := list16' h
  have e1 : mxTo [a0, a1, a2, a3, a4, a5, a6, a7, a8, a9, a10, a11, a12, a13, a14, a15] 16 =
    [twice8 a0 ^^^ (twice8 a1 ^^^ a1) ^^^ a2 ^^^ a3, twice8 a1 ^^^ (twice8 a2 ^^^ a2) ^^^ a3 ^^^ a0, twice8 a2 ^^^ (twice8 a3 ^^^ a3) ^^^ a0 ^^^ a1, twice8 a3 ^^^ (twice8 a0 ^^^ a0) ^^^ a1 ^^^ a2,
     twice8 a4 ^^^ (twice8 a5 ^^^ a5) ^^^ a6 ^^^ a7, twice8 a5 ^^^ (twice8 a6 ^^^ a6) ^^^ a7 ^^^ a4, twice8 a6 ^^^ (twice8 a7 ^^^ a7) ^^^ a4 ^^^ a5, twice8 a7 ^^^ (twice8 a4 ^^^ a4) ^^^ a5 ^^^ a6,
     twice8 a8 ^^^ (twice8 a9 ^^^ a9) ^^^ a10 ^^^ a11, twice8 a9 ^^^ (twice8 a10 ^^^ a10) ^^^ a11 ^^^ a8, twice8 a10 ^^^ (twice8 a11 ^^^ a11) ^^^ a8 ^^^ a9, twice8 a11 ^^^ (twice8 a8 ^^^ a8) ^^^ a9 ^^^ a10,
     twice8 a12 ^^^ (twice8 a13 ^^^ a13) ^^^ a14 ^^^ a15, twice8 a13 ^^^ (twice8 a14 ^^^ a14) ^^^ a15 ^^^ a12, twice8 a14 ^^^ (twice8 a15 ^^^ a15) ^^^ a12 ^^^ a13, twice8 a15 ^^^ (twice8 a12 ^^^ a12) ^^^ a13 ^^^ a14] := by kernel_rfl
  have e2 : mixTo [a0, a1, a2, a3, a4, a5, a6, a7, a8, a9, a10, a11, a12, a13, a14, a15] 4 =
    [a0 ^^^ (a0 ^^^ a1 ^^^ a2 ^^^ a3 ^^^ twice8 (a0 ^^^ a1)), a1 ^^^ (a0 ^^^ a1 ^^^ a2 ^^^ a3 ^^^ twice8 (a1 ^^^ a2)), a2 ^^^ (a0 ^^^ a1 ^^^ a2 ^^^ a3 ^^^ twice8 (a2 ^^^ a3)), a3 ^^^ (a0 ^^^ a1 ^^^ a2 ^^^ a3 ^^^ twice8 (a3 ^^^ a0)),
     a4 ^^^ (a4 ^^^ a5 ^^^ a6 ^^^ a7 ^^^ twice8 (a4 ^^^ a5)), a5 ^^^ (a4 ^^^ a5 ^^^ a6 ^^^ a7 ^^^ twice8 (a5 ^^^ a6)), a6 ^^^ (a4 ^^^ a5 ^^^ a6 ^^^ a7 ^^^ twice8 (a6 ^^^ a7)), a7 ^^^ (a4 ^^^ a5 ^^^ a6 ^^^ a7 ^^^ twice8 (a7 ^^^ a4)),
     a8 ^^^ (a8 ^^^ a9 ^^^ a10 ^^^ a11 ^^^ twice8 (a8 ^^^ a9)), a9 ^^^ (a8 ^^^ a9 ^^^ a10 ^^^ a11 ^^^ twice8 (a9 ^^^ a10)), a10 ^^^ (a8 ^^^ a9 ^^^ a10 ^^^ a11 ^^^ twice8 (a10 ^^^ a11)), a11 ^^^ (a8 ^^^ a9 ^^^ a10 ^^^ a11 ^^^ twice8 (a11 ^^^ a8)),
     a12 ^^^ (a12 ^^^ a13 ^^^ a14 ^^^ a15 ^^^ twice8 (a12 ^^^ a13)), a13 ^^^ (a12 ^^^ a13 ^^^ a14 ^^^ a15 ^^^ twice8 (a13 ^^^ a14)), a14 ^^^ (a12 ^^^ a13 ^^^ a14 ^^^ a15 ^^^ twice8 (a14 ^^^ a15)), a15 ^^^ (a12 ^^^ a13 ^^^ a14 ^^^ a15 ^^^ twice8 (a15 ^^^ a12))] := by kernel_rfl
  rw [e1, e2]; simp only [mixb, mixb1, mixb2, mixb3]
/-- the reference's rounds -/
def rfTo (K V : List UInt8) : Nat → List UInt8
  | 0 => addTo K 0 V 16
  | r + 1 => adTo K (r + 1) (if r + 1 < 14 then mxTo (shTo (rfTo K V r) 16) 16 else shTo (rfTo K V r) 16) (rfTo K V r) 16
theorem rf_eq {K V : List UInt8} (hV : V.length = 16) : ∀ r, rfTo K V r = turnTo K V r
  | 0 => rfl
  | r + 1 => by
    have ih := rf_eq (K := K) hV r
    have hl : (turnTo K V r).length = 16 := turnTo_len hV
    simp only [rfTo, turnTo, ih]
    rw [ad_eq (by split <;> simp) hl, mx_eq (by simp)]
theorem rf14 {K V : List UInt8} (hV : V.length = 16) : rfTo K V 14 = turn K V := rf_eq hV 14
theorem rf_len {K V : List UInt8} (hV : V.length = 16) (r : Nat) : (rfTo K V r).length = 16 := by rw [rf_eq hV]; exact turnTo_len hV
end Go.Proofs.YtnhpghhibcdklaaGreatDoor.Cip
set_option linter.unusedSimpArgs false
set_option linter.unusedVariables false
namespace Go.Proofs.YtnhpghhibcdklaaGreatDoor.Cip
theorem hideL_at {K N l : List UInt8} {a i : Nat} (h : i < l.length) : (hideL K N a l).getD i 0 = l.getD i 0 ^^^ flowB K N (a + i) := by
  unfold hideL
  rw [List.getD_eq_getElem?_getD, List.getElem?_map, List.getElem?_range h]; rfl
theorem hideL_twice {K N l : List UInt8} {a : Nat} : hideL K N a (hideL K N a l) = l := by
  apply ext_getD (by simp)
  intro i hi
  rw [hideL_len, hideL_len] at hi
  rw [hideL_at (by rw [hideL_len]; exact hi), hideL_at hi, UInt8.xor_assoc, UInt8.xor_self, UInt8.xor_zero]
end Go.Proofs.YtnhpghhibcdklaaGreatDoor.Cip
set_option linter.unusedSimpArgs false
set_option linter.unusedVariables false
namespace Go.Proofs.YtnhpghhibcdklaaGreatDoor
def hidL (hk N l : List UInt8) : List UInt8 := Cip.hideL (Cip.keyW hk) N 0 l
@[simp] theorem hidL_len {hk N l : List UInt8} : (hidL hk N l).length = l.length := by simp [hidL]
theorem hidL_def {hk N l : List UInt8} : Cip.hideL (Cip.keyW hk) N 0 l = hidL hk N l := rfl
def markL (mk : List UInt8) (kind : UInt8) (name N h : List UInt8) : List UInt8 := keyedL mk ([kind, UInt8.ofNat name.length] ++ name ++ N ++ h)
@[simp] theorem markL_len {mk name N h : List UInt8} {kind : UInt8} : (markL mk kind name N h).length = 32 := by simp [markL]
theorem markL_def {mk name N h : List UInt8} {kind : UInt8} : keyedL mk ([kind, UInt8.ofNat name.length] ++ name ++ N ++ h) = markL mk kind name N h := rfl
def sealL (hk mk : List UInt8) (kind : UInt8) (name N l : List UInt8) : List UInt8 := N ++ hidL hk N l ++ markL mk kind name N (hidL hk N l)
theorem sealL_def {hk mk : List UInt8} {kind : UInt8} {name N l : List UInt8} : N ++ hidL hk N l ++ markL mk kind name N (hidL hk N l) = sealL hk mk kind name N l := rfl
theorem sealL_len {hk mk name N l : List UInt8} {kind : UInt8} (hN : N.length = 16) : (sealL hk mk kind name N l).length = l.length + 48 := by simp [sealL, hN]; omega
def sealF (hk mk : List UInt8) (kind : UInt8) (name N l : List UInt8) : List UInt8 × Nat :=
  if 255 < name.length then ([], 5) else if 1048576 < l.length then ([], 4) else (sealL hk mk kind name N l, 0)
theorem sealF_name {hk mk name N l : List UInt8} {kind : UInt8} (h : 255 < name.length) : sealF hk mk kind name N l = ([], 5) := by rw [sealF, if_pos h]
theorem sealF_big {hk mk name N l : List UInt8} {kind : UInt8} (h : ¬ 255 < name.length) (h2 : 1048576 < l.length) : sealF hk mk kind name N l = ([], 4) := by rw [sealF, if_neg h, if_pos h2]
theorem sealF_ok {hk mk name N l : List UInt8} {kind : UInt8} (h : ¬ 255 < name.length) (h2 : ¬ 1048576 < l.length) : sealF hk mk kind name N l = (sealL hk mk kind name N l, 0) := by rw [sealF, if_neg h, if_neg h2]
def openF (hk mk : List UInt8) (kind : UInt8) (name b : List UInt8) : List UInt8 × Nat :=
  if 255 < name.length then ([], 5) else if b.length < 48 ∨ 1048624 < b.length then ([], 10)
  else if markL mk kind name (b.take 16) ((b.drop 16).take (b.length - 32 - 16)) = b.drop (b.length - 32) then (hidL hk (b.take 16) ((b.drop 16).take (b.length - 32 - 16)), 0) else ([], 10)
theorem openF_name {hk mk name b : List UInt8} {kind : UInt8} (h : 255 < name.length) : openF hk mk kind name b = ([], 5) := by rw [openF, if_pos h]
theorem openF_len {hk mk name b : List UInt8} {kind : UInt8} (h : ¬ 255 < name.length) (h2 : b.length < 48 ∨ 1048624 < b.length) : openF hk mk kind name b = ([], 10) := by rw [openF, if_neg h, if_pos h2]
theorem openF_no {hk mk name b : List UInt8} {kind : UInt8} (h : ¬ 255 < name.length) (h2 : ¬ (b.length < 48 ∨ 1048624 < b.length)) (h3 : ¬ markL mk kind name (b.take 16) ((b.drop 16).take (b.length - 32 - 16)) = b.drop (b.length - 32)) : openF hk mk kind name b = ([], 10) := by rw [openF, if_neg h, if_neg h2, if_neg h3]
theorem openF_ok {hk mk name b : List UInt8} {kind : UInt8} (h : ¬ 255 < name.length) (h2 : ¬ (b.length < 48 ∨ 1048624 < b.length)) (h3 : markL mk kind name (b.take 16) ((b.drop 16).take (b.length - 32 - 16)) = b.drop (b.length - 32)) :
    openF hk mk kind name b = (hidL hk (b.take 16) ((b.drop 16).take (b.length - 32 - 16)), 0) := by rw [openF, if_neg h, if_neg h2, if_pos h3]
theorem hid_twice {hk N l : List UInt8} : hidL hk N (hidL hk N l) = l := Cip.hideL_twice
theorem seal_cut {hk mk name N l : List UInt8} {kind : UInt8} (hN : N.length = 16) : (sealL hk mk kind name N l).take 16 = N ∧ ((sealL hk mk kind name N l).drop 16).take ((sealL hk mk kind name N l).length - 32 - 16) = hidL hk N l ∧
    (sealL hk mk kind name N l).drop ((sealL hk mk kind name N l).length - 32) = markL mk kind name N (hidL hk N l) := by
  have hl : (sealL hk mk kind name N l).length = l.length + 48 := sealL_len hN
  rw [hl]
  unfold sealL
  refine ⟨?_, ?_, ?_⟩
  · rw [List.append_assoc, List.take_left' hN]
  · rw [List.append_assoc, List.drop_left' hN, List.take_left' (by simp)]
  · rw [List.drop_left' (by simp [hN]; omega)]
theorem open_seal {hk mk name N l : List UInt8} {kind : UInt8} (hN : N.length = 16) (hn : ¬ 255 < name.length) (hl : ¬ 1048576 < l.length) : openF hk mk kind name (sealL hk mk kind name N l) = (l, 0) := by
  obtain ⟨h1, h2, h3⟩ := seal_cut (hk := hk) (mk := mk) (name := name) (N := N) (l := l) (kind := kind) hN
  rw [openF_ok hn (by rw [sealL_len hN]; omega) (by rw [h1, h2, h3]), h1, h2, hid_twice]
end Go.Proofs.YtnhpghhibcdklaaGreatDoor
set_option linter.unusedSimpArgs false
set_option linter.unusedVariables false
namespace Go.Proofs.YtnhpghhibcdklaaGreatDoor
open Go
/-- a, its first j bytes crossed with b's -/
def xz (a b : List UInt8) (j : Nat) : List UInt8 := (List.range 32).map fun i => if i < j then a.getD i 0 ^^^ b.getD i 0 else a.getD i 0
@[simp] theorem xz_len {a b : List UInt8} {j : Nat} : (xz a b j).length = 32 := by simp [xz]
/-- the stretched word -/
def strL (w s : List UInt8) : Nat → List UInt8
  | 0 => keyedL w s
  | n + 1 => xz (strL w s n) (keyedL w (strL w s n)) 32
@[simp] theorem strL_len {w s : List UInt8} {n : Nat} : (strL w s n).length = 32 := by cases n <;> simp [strL]
/-- byte j of a number, the greatest first -/
def beB (n j : Nat) : UInt8 := UInt8.ofNat (n / 2 ^ (56 - 8 * j))
def bej (n j : Nat) : List UInt8 := (List.range j).map (beB n)
theorem bej_0 {n : Nat} : bej n 0 = [] := rfl
theorem bej_snoc {n j : Nat} : bej n j ++ [beB n j] = bej n (j + 1) := by simp [bej, List.range_succ]
@[simp] theorem bej_len {n j : Nat} : (bej n j).length = j := by simp [bej]
def be8 (n : Nat) : List UInt8 := bej n 8
theorem be8_def {n : Nat} : bej n 8 = be8 n := rfl
@[simp] theorem be8_len {n : Nat} : (be8 n).length = 8 := bej_len
/-- the first c blocks of a tape that begins with b -/
def tapeL (b : List UInt8) : Nat → List UInt8
  | 0 => []
  | c + 1 => tapeL b c ++ sumL (b ++ be8 c)
@[simp] theorem tapeL_len {b : List UInt8} : ∀ {c : Nat}, (tapeL b c).length = 32 * c
  | 0 => rfl
  | c + 1 => by rw [tapeL, List.length_append, tapeL_len, sumL_len]; omega
theorem tapeL_0 {b : List UInt8} : tapeL b 0 = [] := rfl
theorem tapeL_succ {b : List UInt8} {c : Nat} : tapeL b c ++ sumL (b ++ be8 c) = tapeL b (c + 1) := rfl
theorem tapeL_pre {b : List UInt8} {c : Nat} : ∀ d, tapeL b c <+: tapeL b (c + d)
  | 0 => List.prefix_refl _
  | d + 1 => (tapeL_pre d).trans ⟨_, tapeL_succ⟩
/-- n bytes of the tape, from its byte p on -/
def tapeN (b : List UInt8) (p n : Nat) : List UInt8 := ((tapeL b (p + n)).drop p).take n
theorem tapeN_eq {b : List UInt8} {c p n : Nat} (h : p + n ≤ 32 * c) : ((tapeL b c).drop p).take n = tapeN b p n := by
  have e : ∀ {x y : List UInt8}, x <+: y → p + n ≤ x.length → (x.drop p).take n = (y.drop p).take n := by
    rintro x y ⟨z, rfl⟩ hx
    rw [List.drop_append_of_le_length (by omega), List.take_append_of_le_length (by simp; omega)]
  unfold tapeN
  rcases Nat.le_total c (p + n) with h1 | h1
  · obtain ⟨d, hd⟩ := Nat.exists_eq_add_of_le h1
    rw [hd]; exact e (tapeL_pre d) (by simpa using h)
  · obtain ⟨d, hd⟩ := Nat.exists_eq_add_of_le h1
    have h2 := e (tapeL_pre (b := b) (c := p + n) d) (by simp; omega)
    rw [hd]; exact h2.symm
@[simp] theorem tapeN_len {b : List UInt8} {p n : Nat} : (tapeN b p n).length = n := by simp [tapeN]; omega
/-- what is left of the tape's blocks from p on grows by a block -/
theorem tape_more {b : List UInt8} {c p : Nat} (h : p ≤ 32 * c) : (tapeL b c).drop p ++ sumL (b ++ be8 c) = (tapeL b (c + 1)).drop p := by
  rw [← tapeL_succ, List.drop_append_of_le_length (by simpa using h)]
end Go.Proofs.YtnhpghhibcdklaaGreatDoor
set_option linter.unusedSimpArgs false
set_option linter.unusedVariables false
namespace Go.Proofs.YtnhpghhibcdklaaGreatDoor
open Go
def digL : List UInt8 := [48, 49, 50, 51, 52, 53, 54, 55, 56, 57, 97, 98, 99, 100, 101, 102]
def hexL (l : List UInt8) : List UInt8 := l.flatMap fun x => [digL.getD (x.toNat / 16) 0, digL.getD (x.toNat % 16) 0]
@[simp] theorem hexL_len {l : List UInt8} : (hexL l).length = 2 * l.length := by
  induction l with
  | nil => rfl
  | cons x l ih => simp only [hexL, List.flatMap_cons, List.length_append, List.length_cons, List.length_nil] at ih ⊢; omega
theorem hexL_0 {l : List UInt8} : hexL (l.take 0) = [] := rfl
theorem hexL_take {l : List UInt8} {i : Nat} (h : i < l.length) : hexL (l.take i) ++ [digL.getD ((l.getD i 0).toNat / 16) 0, digL.getD ((l.getD i 0).toNat % 16) 0] = hexL (l.take (i + 1)) := by
  have e : l.getD i 0 = l[i] := by rw [List.getD_eq_getElem?_getD, List.getElem?_eq_getElem h]; rfl
  rw [e, List.take_add_one, List.getElem?_eq_getElem h]
  simp only [hexL, List.flatMap_append, Option.toList, List.flatMap_cons, List.flatMap_nil, List.append_nil]
def numL (n : Nat) : List UInt8 := if n < 128 then [UInt8.ofNat n] else UInt8.ofNat (n % 128 + 128) :: numL (n / 128)
termination_by n
theorem numL_lt {n : Nat} (h : n < 128) : numL n = [UInt8.ofNat n] := by rw [numL, if_pos h]
theorem numL_ge {n : Nat} (h : ¬ n < 128) : numL n = UInt8.ofNat (n % 128 + 128) :: numL (n / 128) := by rw [numL, if_neg h]
theorem numL_len : ∀ (k : Nat) {n : Nat}, n < 128 ^ (k + 1) → (numL n).length ≤ k + 1
  | 0, n, h => by rw [numL_lt (by simpa using h)]; simp
  | k + 1, n, h => by
    by_cases h1 : n < 128
    · rw [numL_lt h1]; simp
    · rw [numL_ge h1, List.length_cons]
      have : n / 128 < 128 ^ (k + 1) := by rw [Nat.div_lt_iff_lt_mul (by decide)]; rw [Nat.pow_succ] at h; exact h
      have := numL_len k this; omega
/-- what is written, what is left -/
theorem numL_step {a : List UInt8} {n : Nat} (h : ¬ n < 128) : (a ++ [UInt8.ofNat n ||| 128]) ++ numL (n / 128) = a ++ numL n := by
  have e : UInt8.ofNat n ||| 128 = UInt8.ofNat (n % 128 + 128) := by
    apply UInt8.toNat_inj.1
    rw [UInt8.toNat_or, UInt8.toNat_ofNat', UInt8.toNat_ofNat']
    rw [show n % 2 ^ 8 = n % 256 by rfl, show (n % 128 + 128) % 2 ^ 8 = n % 128 + 128 by omega]
    have h2 : n % 128 = n % 256 % 128 := by omega
    rw [h2]
    have h3 : n % 256 < 256 := by omega
    generalize n % 256 = m at h3
    have : ∀ m, m < 256 → m ||| (128 : UInt8).toNat = m % 128 + 128 := by decide +kernel
    exact this m h3
  rw [numL_ge h, e]; simp
/-- a blob of a pack -/
structure Ent where
  id : List UInt8
  kind : Nat
  off : Nat
  len : Nat
  h : id.length = 32
deriving DecidableEq
theorem mapB_inj {l m : List UInt8} (h : l.map B = m.map B) : l = m := List.map_inj_right (fun a b hab => by
  have h3 : (a.toNat : Int) = b.toNat := by simpa [B] using hab
  exact UInt8.toNat.inj (by omega)) |>.1 h
structure WSt where
  b : List UInt8
  l : List Ent
  p : Nat
def idF (nk : List UInt8) (kind : UInt8) (b : List UInt8) : List UInt8 := keyedL nk (kind :: b)
@[simp] theorem idF_len {nk b : List UInt8} {kind : UInt8} : (idF nk kind b).length = 32 := by simp [idF]
def nameL (b : List UInt8) : List UInt8 := [112, 47] ++ (hexL (sumL b)).take 40
@[simp] theorem nameL_len {b : List UInt8} : (nameL b).length = 42 := by simp [nameL]
/-- a writer's state is in order -/
structure WOk (s : WSt) : Prop where
  n : s.l.length ≤ 1000
  b : s.b.length ≤ 900000
  each : ∀ e ∈ s.l, 1 ≤ e.kind ∧ e.kind ≤ 2 ∧ e.off < 1048576 ∧ 48 ≤ e.len ∧ e.len < 1048576
structure Ring3 where
  h : List UInt8
  m : List UInt8
  n : List UInt8
structure ROk (r : Ring3) : Prop where
  h : r.h.length = 32
  m : r.m.length = 32
  n : r.n.length = 32
section
variable {r : Ring3} {bg : List UInt8} {s : WSt} {kind : Int} {b : List UInt8}
end
end Go.Proofs.YtnhpghhibcdklaaGreatDoor
set_option linter.unusedSimpArgs false
set_option linter.unusedVariables false
/- Owned slices of wider elements: read by index, appended to, made of a literal. Own work for this project; no program in sight. -/
namespace Go.Proofs.YtnhpghhibcdklaaGreatDoor
open Go Go.RowKit
abbrev ownA {α : Type} (f : α → List Value) (k : Nat) (v : Value) (l : List α) (T : TypeId) : Res := own v l.length (l.flatMap f) T k
theorem ownA_cast {α : Type} {f : α → List Value} {k : Nat} {v : Value} {l m : List α} {T : TypeId} (h : l = m) : ownA f k v l T = ownA f k v m T := by rw [h]
/-- the cells of a slice of n elements can be read -/
def RdC (w : World) (v : Value) (n : Nat) (xs : List Value) : Prop := (v = .slice none 0 0 ∧ n = 0 ∧ xs = []) ∨ ∃ ad cap, v = .slice (some ad) n cap ∧ n ≤ cap ∧ ∀ j u, xs[j]? = some u → w.cell? (ad.add j) = some u
theorem own_rdC {w : World} {v : Value} {n k : Nat} {xs : List Value} {T : TypeId} (h : (own v n xs T k).holds w) : RdC w v n xs := by
  rcases own_cells h with ⟨rfl, rfl, rfl⟩ | ⟨g, o, cap, rfl, hc, _, hr⟩
  · exact .inl ⟨rfl, rfl, rfl⟩
  · exact .inr ⟨⟨g, o, none⟩, cap, rfl, hc, fun j u hj => by rw [add_w]; exact hr j u hj⟩
theorem RdC.cell {w : World} {v : Value} {n : Nat} {xs : List Value} (h : RdC w v n xs) {j : Nat} {u : Value} (hj : xs[j]? = some u) : w.cell? ((adOf v).add j) = some u := by
  rcases h with ⟨rfl, _, rfl⟩ | ⟨ad, cap, rfl, _, hc⟩
  · cases hj
  · exact hc j u hj
theorem RdC.one {w : World} {v : Value} {n : Nat} {xs : List Value} (h : RdC w v n xs) : v.oneCell' = true := by
  rcases h with ⟨rfl, _⟩ | ⟨ad, cap, rfl, _⟩ <;> rfl
theorem RdC.cells {w : World} {v : Value} {n : Nat} {xs : List Value} (h : RdC w v n xs) : v.cells = #[v] := by
  rcases h with ⟨rfl, _⟩ | ⟨ad, cap, rfl, _⟩ <;> rfl
theorem RdC.form {w : World} {v : Value} {n : Nat} {xs : List Value} (h : RdC w v n xs) : ∃ ad, v = .slice ad n (cpOf v) ∧ (0 < n → ad = some (adOf v)) := by
  rcases h with ⟨rfl, rfl, _⟩ | ⟨ad, cap, rfl, _⟩
  · exact ⟨none, rfl, fun h => absurd h (by omega)⟩
  · exact ⟨some ad, rfl, fun _ => rfl⟩
/-- the cells of a slice, as a piece -/
def rdC (v : Value) (n : Nat) (xs : List Value) : Res where
  fp k := xs ≠ [] ∧ (adOf v).block = k
  holds w := RdC w v n xs
  loc w w' h hr := by
    rcases hr with hr | ⟨ad, cp, rfl, hc, hr⟩
    · exact .inl hr
    · refine .inr ⟨ad, cp, rfl, hc, fun j u hj => ?_⟩
      have hb : (ad.add j).block = ad.block := by cases j <;> simp [Addr.add]
      have hne : xs ≠ [] := fun e => by subst e; cases hj
      have := h ad.block ⟨hne, rfl⟩
      have h2 := hr j u hj
      simp only [World.cell?, hb] at h2 ⊢
      rw [this]; exact h2
  bnd w hr k hk := by
    obtain ⟨hne, rfl⟩ := hk
    cases xs with
    | nil => exact (hne rfl).elim
    | cons u us =>
      have h0 := hr.cell (j := 0) (u := u) rfl
      rw [show (adOf v).add 0 = adOf v by simp [Addr.add]] at h0
      exact World.block_lt_of_cell? w _ h0
theorem Ro.rdC {c : Cx} {v : Value} {n : Nat} {xs : List Value} {w : World} {H : List Res} (h : Ro c.E c.w0 (YtnhpghhibcdklaaGreatDoor.rdC v n xs)) (hw : St c w H) : RdC w v n xs := h.st hw
section
variable {α : Type} {f : α → List Value} {k : Nat} {d0 : α}
theorem flat_get (hf : ∀ a, (f a).length = k) : ∀ {l : List α} {i j : Nat}, i < l.length → j < k → (l.flatMap f)[i * k + j]? = (f (l.getD i d0))[j]?
  | [], _, _, h, _ => absurd h (by simp)
  | a :: l, 0, j, _, hj => by
    simp only [List.flatMap_cons, Nat.zero_mul, Nat.zero_add, List.getD_cons_zero]
    rw [List.getElem?_append_left (by rw [hf]; exact hj)]
  | a :: l, i + 1, j, h, hj => by
    simp only [List.flatMap_cons, List.getD_cons_succ]
    rw [List.getElem?_append_right (by rw [hf, Nat.add_mul]; omega), hf, show (i + 1) * k + j - k = i * k + j by rw [Nat.add_mul]; omega]
    exact flat_get hf (by simpa using h) hj
theorem flat_len (hf : ∀ a, (f a).length = k) {l : List α} : (l.flatMap f).length = l.length * k := by
  induction l with
  | nil => simp
  | cons a l ih => rw [List.flatMap_cons, List.length_append, hf, ih, List.length_cons, Nat.add_mul]; omega
/-- some cells of an element -/
theorem flat_part (hf : ∀ a, (f a).length = k) {l : List α} {i o : Nat} {vs : List Value} (hi : i < l.length) (hv : ((f (l.getD i d0)).drop o).take vs.length = vs) {w : World} {v : Value} {n : Nat} (h : RdC w v n (l.flatMap f)) :
    ∀ j u, vs[j]? = some u → w.cell? (((adOf v).add (i * k + o)).add j) = some u := fun j u hj => by
  have hj1 : j < vs.length := (List.getElem?_eq_some_iff.1 hj).1
  have hlen : vs.length ≤ (f (l.getD i d0)).length - o := by have := congrArg List.length hv; rw [List.length_take, List.length_drop] at this; omega
  rw [Deep.add_add]
  refine h.cell ?_
  rw [show i * k + o + j = i * k + (o + j) by omega, flat_get (d0 := d0) hf hi (by rw [hf] at hlen; omega)]
  rw [← hv, List.getElem?_take, if_pos hj1, List.getElem?_drop] at hj
  exact hj
theorem RdC.part {l : List α} {i o : Nat} {w : World} {v : Value} {n : Nat} (h : RdC w v n (l.flatMap f)) (hf : ∀ a, (f a).length = k) (hi : i < l.length) {bs : List UInt8} {m : Nat} (hv : ((f (l.getD i d0)).drop o).take m = bs.map B ∧ bs.length = m) :
    RdB w (.slice (some ((adOf v).add (i * k + o))) m m) bs :=
  .inr ⟨(adOf v).add (i * k + o), m, by simp [hv.2], by simp [hv.2], fun j u hj => flat_part (d0 := d0) hf hi (vs := bs.map B) (by rw [List.length_map, hv.2]; exact hv.1) h j u hj⟩
end
section
variable {P : Program} {n : Nat} {S : World → Prop} {L : Sl} {dst : Option Tmp} {rty : TypeId} {pos : String} {af : Array Edge} {gd : Option (Nat × Bool)}
  {t t' : TypeId} {x y z : Operand} {v u : Value} {α : Type} {f : α → List Value} {l : List α} {d0 : α}
theorem y_lenE {w0 : World} {m : Nat} {xs : List Value} {e : TypeId} (hx : ev L x = some v) (hv : RdC w0 v m xs) (ht : P.underlying t = some (.slice e)) :
    Y P n S L ⟨dst, .call { callee := .builtin .len, args := #[x], argTypes := #[t] }, rty, pos, af, gd⟩ (I (m : Int)) := by
  obtain ⟨ad, hf, _⟩ := hv.form
  rw [hf] at hx
  exact y_lenS hx ht
theorem y_ixE {w0 : World} {i k m : Nat} {kk : IntKind} {xs : List Value} (hx : ev L x = some v) (hy : ev L y = some (.int kk (i : Int))) (hv : RdC w0 v m xs) (hi : i < m) (ht : sliB P t k = true) :
    Y P n S L ⟨dst, .indexAddr t x y, rty, pos, af, gd⟩ (.pointer (some ((adOf v).add (i * k + 0)))) := by
  obtain ⟨ad, hf, h2⟩ := hv.form
  rw [h2 (by omega)] at hf
  rw [hf] at hx
  refine (y_ixS hx hy ht (by omega)).cast ?_
  rw [Int.toNat_natCast, Nat.add_zero]
theorem y_fldE {o off fi : Nat} (hx : ev L x = some (.pointer (some ((adOf v).add o)))) (ht : fldB P t fi off = true) :
    Y P n S L ⟨dst, .fieldAddr t x fi, rty, pos, af, gd⟩ (.pointer (some ((adOf v).add (o + off)))) := (y_fld hx ht).cast (by rw [Deep.add_add])
theorem y_loadE {i k o : Nat} (m : Nat) {vs : List Value} (hx : ev L x = some (.pointer (some ((adOf v).add (i * k + o))))) (ht : agB P t m = true) (hk : vs.length = m) (hf : ∀ a, (f a).length = k) (hi : i < l.length) (hv : ((f (l.getD i d0)).drop o).take m = vs)
    (hS : ∀ w, S w → RdC w v l.length (l.flatMap f)) : Y P n S L ⟨dst, .load t x, rty, pos, af, gd⟩ (.agg vs.toArray) :=
  y_loadA m hx ht hk (fun w hw => flat_part (d0 := d0) hf hi (by rw [hk]; exact hv) (hS w hw))
theorem y_loadE1 {i k o : Nat} (hx : ev L x = some (.pointer (some ((adOf v).add (i * k + o))))) (ht : scB P t = true) (hf : ∀ a, (f a).length = k) (hi : i < l.length) (hv : (f (l.getD i d0))[o]? = some u)
    (hS : ∀ w, S w → RdC w v l.length (l.flatMap f)) : Y P n S L ⟨dst, .load t x, rty, pos, af, gd⟩ u :=
  y_load hx ht (fun w hw => by
    refine (hS w hw).cell ?_
    rw [flat_get (d0 := d0) hf hi (by have := (List.getElem?_eq_some_iff.1 hv).1; rw [hf] at this; exact this)]
    exact hv)
end
section
variable {c : Cx} {L : Sl} {H : List Res} {P : Program} {Q : Exit → Act → World → Prop} {K : Act → World → Prop} {d : Nat} {rty : TypeId} {pos : String} {af : Array Edge} {gd : Option (Nat × Bool)} {t t' : TypeId} {x y : Operand} {v : Value} {α : Type} {f : α → List Value}
theorem tk_ownA {xs : List Value} {m k : Nat} {T : TypeId} (hm : own v m xs T k ∈ H) (h : (∃ w0, RdC w0 v m xs) → TK c K L H) : TK c K L H := tk_form (fun w hw => ⟨w, own_rdC (hw.mem hm)⟩) h
theorem tk_ownA0 (k : Nat) (T : TypeId) (h : TK c K L (ownA f k (.slice none 0 0) [] T :: H)) : TK c K L H := fun a w ha hw =>
  h a w ha (St.new (N := [own (.slice none 0 0) 0 [] T k]) hw (Fo.refl _ _) ⟨own_nil, trivial⟩ ⟨fun _ _ h => h, trivial⟩ (fun k hk => by
    rcases hk with hk | hk
    · cases hk
    · exact hk.elim))
/-- append of one element out of a row of its own -/
theorem a_appE {H1 H2 : List Res} {l : List α} {e : α} {T T' : TypeId} {k bytes b : Nat} (hx : ev L x = some v) (hy : ev L y = some (.slice (some ⟨b, 0, none⟩) 1 1)) (he : elB P t T k bytes) (hn : Nat.blt d c.n = true)
    (hH : H = H1 ++ ownA f k v l T :: H2) (hb : cel b (f e) T' ∈ H) (hk : (f e).length = k) (h1 : ∀ u ∈ f e, u.oneCell' = true) (hl : l.length + 1 ≤ 16777216) (hy1 : (l.length + 1) * bytes ≤ 140737488355328) (h : ∀ v', TK c K ((d, v') :: L) (H1 ++ ownA f k v' (l ++ [e]) T :: H2)) :
    TK c (fun a w => (⟨some d, .call { callee := .builtin .append, args := #[x, y], argTypes := #[t, t] }, rty, pos, af, gd⟩ : Oper).wp P a w K Q) L H :=
  a_append (n := l.length) (m := 1) (xs := l.flatMap f) (news := f e) hx hy he hn hH (by rw [hk, Nat.one_mul]) (fun w hw j u hj => by rw [add_w, Nat.zero_add]; exact cel_cell (hw.mem hb) hj) h1 ⟨by omega, hy1⟩
    (fun v' => by have := h v'; simp only [ownA, List.length_append, List.length_singleton, List.flatMap_append, List.flatMap_singleton] at this; exact this)
theorem run_slitE {w : World} {e : TypeId} {bytes k : Nat} {cs : List Value} (he : elB P t e k bytes) (hk : cs.length = k) (hs : k ≤ 16777216) :
    (Instr.buildSlice t 1 #[(0, .agg cs.toArray)]).run P w = .ok (.slice (some ⟨w.heap.size, 0, none⟩) 1 1) { w with heap := w.heap.push (.cells cs.toArray e) } := by
  obtain ⟨ht, i, z, hi, hz, hzs, rfl, _, h0⟩ := he
  have hv : (Value.agg cs.toArray).cells = cs.toArray := rfl
  have h2 : ¬ (2 ^ 24 < 1 * i.size) := by omega
  have h3 : ¬ (i.size = 0) := by omega
  have h4 := foldl_set 0 cs 0 ((Array.range (1 * i.size)).map (z.cells[· % z.cells.size]!)) (by simp [hk])
  have h5 : cs.toArray.zipIdx.foldl (fun cs (p : Value × Nat) => cs.setIfInBounds (0 * i.size + p.2) p.1) ((Array.range (1 * i.size)).map (z.cells[· % z.cells.size]!)) = cs.toArray := by
    rw [← Array.foldl_toList, Array.toList_zipIdx, Nat.zero_mul]
    refine h4.trans ?_
    rw [List.drop_of_length_le (by simp; omega)]; simp
  have h6 : Instr.fill (fun j => some (j * i.size, i.size)) ((Array.range (1 * i.size)).map (z.cells[· % z.cells.size]!)) [(0, .agg cs.toArray)] = some cs.toArray := by
    simp only [Instr.fill, hv]
    rw [if_neg (by simp; omega)]
    exact congrArg some h5
  simp only [Instr.buildSlice, Sem.run_bind, run_underlying ht, Result.andThen_ok, Go.sizeOf, typeInfo]
  simp [hi, zeroValue, typeInfo, hz, newRow, h3]
  rw [Nat.one_mul] at h6
  rw [if_neg (by omega), h6]; rfl
theorem a_slitE {o : Operand} {e : TypeId} {bytes k : Nat} {cs : List Value} (hx : ev L o = some (.agg cs.toArray)) (he : elB P t e k bytes) (hk : cs.length = k) (hs : k ≤ 16777216) (hn : Nat.blt d c.n = true)
    (h : ∀ b, TK c K ((d, .slice (some ⟨b, 0, none⟩) 1 1) :: L) (cel b cs e :: H)) :
    TK c (fun a w => (⟨some d, .buildSlice t 1 #[(0, o)], rty, pos, af, gd⟩ : Oper).wp P a w K Q) L H :=
  a_slit (xs := [(0, o)]) (vs := [(0, .agg cs.toArray)]) (by simp [evp, hx]) hn (fun _ => run_slitE he hk hs) h
/-- s[:m] of an owned slice is owned -/
theorem tk_ownTake {β : Type} {g : β → Value} {H1 H2 : List Res} {l : List β} (m : Nat) {T : TypeId} (hH : H = H1 ++ ownM g v l T :: H2) (hm : m ≤ l.length) (h : TK c K L (H1 ++ ownM g (cutR v 0 m) (l.take m) T :: H2)) : TK c K L H := fun a w ha hw => by
  subst hH
  have h0 := hw.mem (r := ownM g v l T) (by simp)
  have h1 : (ownM g (cutR v 0 m) (l.take m) T).holds w ∧ ∀ k, (cutR v 0 m).ownBlock = some k → v.ownBlock = some k := by
    obtain ⟨h1, h2⟩ := h0
    rcases h2 with ⟨rfl, h0⟩ | ⟨b, o, cap, cur, fr, T', rfl, hg, hf, hc, hcm, hcs, ht⟩
    · have : l = [] := List.eq_nil_of_length_eq_zero h0
      subst this
      obtain rfl : m = 0 := by simpa using hm
      refine ⟨⟨by simp, .inl ⟨by simp [cutR, cutAd], rfl⟩⟩, fun k hk => by simp [cutR, cutAd, Value.ownBlock] at hk⟩
    · have e : cutR (.slice (some ⟨b, o, none⟩) l.length cap) 0 m = .slice (some ⟨b, o, none⟩) m cap := by
        simp only [cutR, cutAd]
        split
        · simp [*]
        · simp [Addr.add]
      rw [e]
      refine ⟨⟨by simp, .inr ⟨b, o, cap, cur, fr, T', by rw [List.length_take, Nat.min_eq_left hm], hg, hf, by rw [List.length_take]; omega, hcm, hcs, ?_⟩⟩, fun k hk => by simpa [Value.ownBlock] using hk⟩
      rw [Nat.mul_one] at ht ⊢
      rw [List.length_take, Nat.min_eq_left hm, List.map_take, ← ht, List.take_take, Nat.min_eq_left hm]
  exact h a w ha (St.perm (St.turn (N := [ownM g (cutR v 0 m) (l.take m) T]) hw (Fo.refl _ _) ⟨h1.1, trivial⟩ ⟨fun _ _ h => h, trivial⟩ (fun k hk => by
    rcases hk with hk | hk
    · exact .inl (h1.2 k hk)
    · exact hk.elim)) perm_mid)
/-- append(nil, make([]byte, n)...) -/
theorem a_appZ {tn e : TypeId} {n : Nat} {kn : IntKind} (hx : ev L x = some (.slice none 0 0)) (hy : ev L y = some (I (n : Int))) (he : mkB P t e (B 0) 1) (htn : P.underlying tn = some (.int kn)) (h0 : 0 < n) (h48 : n ≤ 281474976710656) (hn : Nat.blt d c.n = true)
    (h : ∀ v, TK c K ((d, v) :: L) (ownB v (List.replicate n 0) e :: H)) :
    TK c (fun a w => (⟨some d, .call { callee := .builtin .append, args := #[x, y], argTypes := #[t, tn] }, rty, pos, af, gd⟩ : Oper).wp P a w K Q) L H := fun a w ha hw => by
  have h1 := ha.ev hx; have h2 := ha.ev hy
  obtain ⟨ht, i, hi, hz, hs, hb⟩ := he
  have hr := Lib.run_append_nil_zeros (P := P) w t tn rty e i (B 0) .i64 kn ht htn hi hz n h0 (by omega) (by omega) (by rw [hb]; omega)
  have e1 : (execOp a.eval (⟨some d, .call { callee := .builtin .append, args := #[x, y], argTypes := #[t, tn] }, rty, pos, af, gd⟩ : Oper)).run P w = .ok (.value (.slice (some ⟨w.heap.size, 0, none⟩) n (grownCap w n 0 e))) (w.drew.alloc (.cells (Builtin.zeroCells (B 0).cells n ++ Builtin.zeroCells (B 0).cells (grownCap w n 0 e - n)) e)) := by
    simp [execOp, resolve, h1, h2, invoke, builtin, hr]
  change Oper.upon P _ a K Q ((execOp a.eval _).run P w)
  rw [e1, Oper.upon_value]
  have hge := grownCap_ge w n 0 e
  have hcm := grownCap_le_maxLen w n 0 e (by simp only [maxLen]; omega)
  have hz0 : ∀ m, (Builtin.zeroCells (B 0).cells m).toList = (List.replicate m (0 : UInt8)).map B := fun m => by
    simp only [Builtin.zeroCells, Value.cells]
    apply List.ext_getElem
    · simp
    · intro i h1 h2
      simp
      rw [show i % 1 = 0 by omega]; rfl
  refine h _ _ _ (ha.put hn _) (St.new (w' := w.drew.alloc (.cells (Builtin.zeroCells (B 0).cells n ++ Builtin.zeroCells (B 0).cells (grownCap w n 0 e - n)) e)) (N := [ownB (.slice (some ⟨w.heap.size, 0, none⟩) n (grownCap w n 0 e)) (List.replicate n 0) e]) hw ⟨rfl, rfl, rfl, by simp, fun k hk _ => Below.heap_alloc w.drew _ k hk⟩
    ⟨⟨by simp, .inr ⟨w.heap.size, 0, _, _, (0, 0), e, by simp, heap_alloc_new w.drew _, .inr rfl, by simpa using hge, hcm, ?_, ?_⟩⟩, trivial⟩ ⟨fun _ _ h => h, trivial⟩ (fun k hk => ?_))
  · rw [← Array.length_toList, Array.toList_append, hz0, hz0]; simp; omega
  · rw [Array.toList_append, hz0, hz0, Nat.mul_one, List.drop_zero, List.take_left' (by simp)]
  · rcases hk with hk | hk
    · have : some w.heap.size = some k := hk
      cases this; exact Nat.le_refl _
    · exact hk.elim
end
/-! ### a struct's value built of its first parts -/
theorem fillP1 {zs a cs : List Value} {n : Nat} {pl : List (Nat × Nat)} (ha : a.length = n) (hz : n ≤ zs.length) (e : a ++ zs.drop n = cs) : fillL ((0, n) :: pl) zs [(0, a)] = some cs := by
  subst ha; subst e
  simp only [fillL, List.getElem?_cons_zero]
  rw [if_pos ⟨trivial, by omega⟩]; simp
theorem fillP2 {zs a b cs : List Value} {n m : Nat} {pl : List (Nat × Nat)} (ha : a.length = n) (hb : b.length = m) (hz : n + m ≤ zs.length) (e : a ++ b ++ zs.drop (n + m) = cs) : fillL ((0, n) :: (n, m) :: pl) zs [(0, a), (1, b)] = some cs := by
  subst ha; subst hb; subst e
  simp only [fillL, List.getElem?_cons_zero, List.getElem?_cons_succ]
  have h2 : zs.take 0 ++ a ++ zs.drop (0 + a.length) = a ++ zs.drop a.length := by simp
  rw [if_pos ⟨trivial, by omega⟩, h2, if_pos ⟨trivial, by simp; omega⟩, List.take_left, ← List.drop_drop]
  congr 2
  rw [← List.drop_drop, List.drop_left]
section
variable {L : Sl} {P : Program} {n : Nat} {S : World → Prop}
theorem rcc {fn : Func} {p b o p2 b2 o2 : Nat} {ty ty2 : TypeId} {vs vs2 : List Value} (h : fn.results = #[.cell p ty, .cell p2 ty2]) (hp : lk p L = some (.pointer (some ⟨b, o, none⟩))) (ht : agB P ty vs.length = true)
    (hc : ∀ w, S w → ∀ (j : Nat) (u : Value), vs[j]? = some u → w.cell? ((⟨b, o, none⟩ : Addr).add j) = some u)
    (hp2 : lk p2 L = some (.pointer (some ⟨b2, o2, none⟩))) (ht2 : agB P ty2 vs2.length = true)
    (hc2 : ∀ w, S w → ∀ (j : Nat) (u : Value), vs2[j]? = some u → w.cell? ((⟨b2, o2, none⟩ : Addr).add j) = some u) :
    ∀ a w, Agr n a L → S w → (results fn a.tmps).run P w = .ok (.tuple #[.agg vs.toArray, .agg vs2.toArray]) w := fun a w ha hs => by
  have e1 := cell_run ha hp ht (hc w hs)
  have e3 := cell_run ha hp2 ht2 (hc2 w hs)
  have e4 : (results fn a.tmps) = (do let v ← (do loadVar ty (← asAddr (a.tmps.getD p undef))); let v2 ← (do loadVar ty2 (← asAddr (a.tmps.getD p2 undef))); pure (.tuple #[v, v2])) := by
    unfold results; rw [h]; simp
  rw [e4, Sem.run_bind, e1]
  show (do let v2 ← (do loadVar ty2 (← asAddr (a.tmps.getD p2 undef))); pure (Value.tuple #[.agg vs.toArray, v2])).run P w = _
  rw [Sem.run_bind, e3]
  rfl
theorem r4 {fn : Func} {p q r s : Nat} {v u x y : Value} (h : fn.results = #[.tmp p, .tmp q, .tmp r, .tmp s]) (hv : lk p L = some v) (hu : lk q L = some u) (hx : lk r L = some x) (hy : lk s L = some y) :
    ∀ a w, Agr n a L → S w → (results fn a.tmps).run P w = .ok (.tuple #[v, u, x, y]) w := fun a w ha _ => by
  have e1 : a.tmps.getD p undef = v := by rw [Array.getD_eq_getD_getElem?, ha.at_ p v hv]; rfl
  have e2 : a.tmps.getD q undef = u := by rw [Array.getD_eq_getD_getElem?, ha.at_ q u hu]; rfl
  have e3 : a.tmps.getD r undef = x := by rw [Array.getD_eq_getD_getElem?, ha.at_ r x hx]; rfl
  have e4 : a.tmps.getD s undef = y := by rw [Array.getD_eq_getD_getElem?, ha.at_ s y hy]; rfl
  have e5 : (results fn a.tmps) = pure (.tuple #[a.tmps.getD p undef, a.tmps.getD q undef, a.tmps.getD r undef, a.tmps.getD s undef]) := by
    unfold results; rw [h]; simp
  rw [e5, e1, e2, e3, e4]; rfl
theorem r3 {fn : Func} {p q r : Nat} {v u x : Value} (h : fn.results = #[.tmp p, .tmp q, .tmp r]) (hv : lk p L = some v) (hu : lk q L = some u) (hx : lk r L = some x) :
    ∀ a w, Agr n a L → S w → (results fn a.tmps).run P w = .ok (.tuple #[v, u, x]) w := fun a w ha _ => by
  have e1 : a.tmps.getD p undef = v := by rw [Array.getD_eq_getD_getElem?, ha.at_ p v hv]; rfl
  have e2 : a.tmps.getD q undef = u := by rw [Array.getD_eq_getD_getElem?, ha.at_ q u hu]; rfl
  have e3 : a.tmps.getD r undef = x := by rw [Array.getD_eq_getD_getElem?, ha.at_ r x hx]; rfl
  have e5 : (results fn a.tmps) = pure (.tuple #[a.tmps.getD p undef, a.tmps.getD q undef, a.tmps.getD r undef]) := by
    unfold results; rw [h]; simp
  rw [e5, e1, e2, e3]; rfl
end
section
variable {P : Program} {n : Nat} {S : World → Prop} {L : Sl} {dst : Option Tmp} {rty : TypeId} {pos : String} {af : Array Edge} {gd : Option (Nat × Bool)}
  {t t' : TypeId} {x y z : Operand}
theorem y_capNil {e : TypeId} (hx : ev L x = some (.slice none 0 0)) (ht : P.underlying t = some (.slice e)) : Y P n S L ⟨dst, .call { callee := .builtin .cap, args := #[x], argTypes := #[t] }, rty, pos, af, gd⟩ (I ((0 : Nat) : Int)) := fun q w ha _ => by
  have h1 := ha.ev hx
  simp [execOp, resolve, h1, invoke, builtin, Builtin.cap_, underlying, ht, goInt]
end
end Go.Proofs.YtnhpghhibcdklaaGreatDoor

set_option linter.unusedSimpArgs false
set_option linter.unusedVariables false
/- Maps of one's own, keyed by arrays of bytes, all true. Own work for this project; no program in sight. -/
namespace Go.Proofs.YtnhpghhibcdklaaGreatDoor
open Go Go.RowKit
section
variable {P : Program} {w : World} {kt e : TypeId} {ki : IntKind} {n : Nat}
end
section
variable {P : Program} {n : Nat} {S : World → Prop} {L : Sl} {dst : Option Tmp} {rty : TypeId} {pos : String} {af : Array Edge} {gd : Option (Nat × Bool)}
  {t t' : TypeId} {x y z : Operand}
end
section
variable {c : Cx} {L : Sl} {H : List Res} {P : Program} {Q : Exit → Act → World → Prop} {K : Act → World → Prop} {d : Nat} {rty : TypeId} {pos : String} {af : Array Edge} {gd : Option (Nat × Bool)} {t t' : TypeId} {x y z : Operand}
end
section
variable {P : Program} {n : Nat} {S : World → Prop} {L : Sl} {dst : Option Tmp} {rty : TypeId} {pos : String} {af : Array Edge} {gd : Option (Nat × Bool)}
  {t t' : TypeId} {x y z : Operand}
theorem i64_or_nat (a b : Nat) (ha : a < 4611686018427387904) (hb : b < 4611686018427387904) : bits .or .i64 (a : Int) (b : Int) = ((a ||| b : Nat) : Int) := by
  have hx : a ||| b < 2 ^ 62 := Nat.or_lt_two_pow (by omega) (by omega)
  show IntKind.i64.wrap ((BitVec.ofInt 64 (a : Int) ||| BitVec.ofInt 64 (b : Int)).toNat : Int) = _
  rw [BitVec.toNat_or, ofInt_64 a (by omega), ofInt_64 b (by omega), wrap_in (by omega) (by omega)]
theorem y_orN {a b : Nat} (hx : ev L x = some (I (a : Int))) (hy : ev L y = some (I (b : Int))) (h : a < 4611686018427387904 ∧ b < 4611686018427387904) : Y P n S L ⟨dst, .binOp .or t x y t', rty, pos, af, gd⟩ (I ((a ||| b : Nat) : Int)) :=
  (y_bits hx hy (by simp)).cast (by rw [i64_or_nat _ _ h.1 h.2])
end
end Go.Proofs.YtnhpghhibcdklaaGreatDoor

/- Many pieces as one; strings in order. Own work for this project; no program in sight. -/
namespace Go.Proofs.YtnhpghhibcdklaaGreatDoor
open Go Go.RowKit
/-- many pieces as one -/
def bag (ps : List Res) : Res where
  fp := Fs ps
  holds w := Hs w ps
  loc _ _ h hr := Hs.loc h hr
  bnd _ hr k hk := Fs.bnd hr k hk
theorem bag_cast {ps qs : List Res} (h : ps = qs) : bag ps = bag qs := by rw [h]
theorem Ro.outB {c : Cx} {p q : Res} {ps : List Res} {w : World} {H0 Hr : List Res} (hw : St c w (H0 ++ Hr)) (hb : bag ps ∈ Hr) (hq : q ∈ ps) (h : q.holds w → p.holds w) (hf : ∀ k, p.fp k → q.fp k) : Ro (Fs H0) w p :=
  Ro.out hw hb (fun hb => h (Hs.mem hb q hq)) (fun k hk => Fs.of_mem hq (hf k hk))
section
variable {c : Cx} {L : Sl} {H : List Res} {K : Act → World → Prop} {r : Res} {ps : List Res}
theorem tk_bag0 (h : TK c K L (bag [] :: H)) : TK c K L H := fun a w ha hw => h a w ha ⟨hw.fr, ⟨trivial, hw.hs⟩, ⟨fun _ h => h.elim, hw.dj⟩, fun k hk => hw.own k (hk.resolve_left (fun h => h.elim))⟩
theorem tk_bag (h : TK c K L (bag (ps ++ [r]) :: H)) : TK c K L (r :: bag ps :: H) := fun a w ha hw => by
  have e : ∀ k, Fs (ps ++ [r]) k ↔ (Fs ps k ∨ r.fp k) := fun k => by rw [Fs_append]; simp [Fs]
  refine h a w ha ⟨hw.fr, ⟨?_, hw.hs.2.2⟩, ⟨fun k hk hf => ?_, hw.dj.2.2⟩, fun k hk => hw.own k ?_⟩
  · exact Hs_append.2 ⟨hw.hs.2.1, hw.hs.1, trivial⟩
  · rcases (e k).1 hk with h1 | h1
    · exact hw.dj.2.1 k h1 hf
    · exact hw.dj.1 k h1 (.inr hf)
  · rcases hk with hk | hk
    · rcases (e k).1 hk with h1 | h1
      · exact .inr (.inl h1)
      · exact .inl h1
    · exact .inr (.inr hk)
end
theorem cutR_0 {ad : Option Addr} {n cap m : Nat} : cutR (.slice ad n cap) 0 m = .slice ad m cap := by
  simp only [cutR, cutAd, Nat.sub_zero, Nat.zero_mul]
  split
  · rfl
  · cases ad <;> simp [Addr.add]
theorem RdC.take {w : World} {v : Value} {n m : Nat} {xs : List Value} (h : RdC w v n xs) (k : Nat) (hm : m ≤ n) : RdC w (cutR v 0 m) m (xs.take (m * k)) := by
  rcases h with ⟨rfl, rfl, rfl⟩ | ⟨ad, cap, rfl, hc, hr⟩
  · obtain rfl : m = 0 := by omega
    exact .inl ⟨cutR_0, rfl, by simp⟩
  · refine .inr ⟨ad, cap, cutR_0, by omega, fun j u hj => hr j u ?_⟩
    rw [List.getElem?_take] at hj
    split at hj
    · exact hj
    · cases hj
theorem flat_take {α : Type} {f : α → List Value} {k : Nat} (hf : ∀ a, (f a).length = k) : ∀ {l : List α} {m : Nat}, m ≤ l.length → (l.flatMap f).take (m * k) = (l.take m).flatMap f
  | [], m, h => by simp
  | a :: l, 0, h => by simp
  | a :: l, m + 1, h => by
    rw [List.take_succ_cons, List.flatMap_cons, List.flatMap_cons, Nat.add_mul, Nat.one_mul, Nat.add_comm (m * k) k]
    have e : (f a).length = k := hf a
    rw [← e, List.take_length_add_append, e, flat_take hf (by simpa using h)]
theorem notdec (p : Prop) [Decidable p] : Value.bool (!decide p) = Value.bool (decide (¬ p)) := by simp
theorem oneBo {l : List Bool} : ∀ u ∈ l.map bo, u.oneCell' = true := by
  intro u hu
  obtain ⟨a, _, rfl⟩ := List.mem_map.1 hu
  rfl
def strLe (l m : List UInt8) : Bool := Op.bytesLess l m || decide (l = m)
section
variable {P : Program} {n : Nat} {S : World → Prop} {L : Sl} {dst : Option Tmp} {rty : TypeId} {pos : String} {af : Array Edge} {gd : Option (Nat × Bool)}
  {t t' : TypeId} {x y z : Operand}
theorem y_cutE {k' : IntKind} {ih : Int} {xh : Operand} {w0 : World} {v : Value} {N sz : Nat} {xs : List Value} (m : Nat) (hx : ev L x = some v) (hh : ev L xh = some (.int k' ih)) (hv : RdC w0 v N xs) (ht : sliB P t sz = true) (hm : m ≤ N) (e2 : ih = (m : Int) := by rfl) :
    Y P n S L ⟨dst, .slice t x none (some xh) none, rty, pos, af, gd⟩ (cutR v 0 m) := by
  obtain ⟨ad, hf, h2⟩ := hv.form
  have hc : N ≤ cpOf v := by
    rcases hv with ⟨rfl, rfl, _⟩ | ⟨ad, cap, rfl, h, _⟩
    · exact Nat.zero_le _
    · exact h
  have hx' := hx
  rw [hf] at hx'
  subst e2
  refine (y_cutSh hx' hh ht (by omega)).cast ?_
  rw [Int.toNat_natCast]
  exact (cutR_0.symm.trans (by rw [← hf]))
end
end Go.Proofs.YtnhpghhibcdklaaGreatDoor

/- Maps of one's own, keyed by strings, of whatever values. Own work for this project; no program in sight. -/
namespace Go.Proofs.YtnhpghhibcdklaaGreatDoor
open Go Go.RowKit Go.MapKept
abbrev KV := List (List UInt8 × Value)
def getS (kv : KV) (k : List UInt8) : Option Value := (kv.find? (fun p => decide (p.1 = k))).map Prod.snd
def putS (kv : KV) (k : List UInt8) (v : Value) : KV := kv.map (fun p => if p.1 = k then (k, v) else p)
def setS (kv : KV) (k : List UInt8) (v : Value) : KV := if (getS kv k).isSome then putS kv k v else kv ++ [(k, v)]
def ents (es : List MapEntry) : List (Value × Value) := es.map (fun e => (e.key, e.val))
def kvV (kv : KV) : List (Value × Value) := kv.map (fun p => (Str p.1, p.2))
theorem str_inj {k l : List UInt8} (h : Str k = Str l) : k = l := by simpa [Str] using h
theorem getS_none {kv : KV} {k : List UInt8} (h : getS kv k = none) : ∀ p ∈ kv, p.1 ≠ k := fun p hp e => by
  unfold getS at h
  rw [Option.map_eq_none_iff, List.find?_eq_none] at h
  exact h p hp (by simp [e])
theorem putS_id {kv : KV} {k : List UInt8} {v : Value} (h : ∀ p ∈ kv, p.1 ≠ k) : putS kv k v = kv := by
  unfold putS
  induction kv with
  | nil => rfl
  | cons p kv ih => rw [List.map_cons, if_neg (h p (by simp)), ih (fun q hq => h q (by simp [hq]))]
theorem ba_beq (k l : List UInt8) : ((⟨k.toArray⟩ : ByteArray) == ⟨l.toArray⟩) = decide (k = l) := by
  show ((⟨k.toArray⟩ : ByteArray).data == (⟨l.toArray⟩ : ByteArray).data) = _
  rw [Bool.eq_iff_iff, beq_iff_eq]; simp
theorem same_str {k l : List UInt8} : Instr.sameNow .string (Str k) (Str l) = some (decide (k = l)) := by
  exact congrArg some (ba_beq k l)
theorem findNow_none {k : List UInt8} : ∀ (es : List MapEntry) (kv : KV) (i : Nat), ents es = kvV kv → getS kv k = none → Instr.findNow .string (Str k) es i = some none
  | [], [], _, _, _ => rfl
  | x :: es, p :: kv, i, h, hg => by
    simp only [ents, kvV, List.map_cons, List.cons.injEq, Prod.mk.injEq] at h
    have hp := getS_none hg
    have h1 : Instr.sameNow .string (Str k) x.key = some false := by rw [h.1.1, same_str, decide_eq_false (fun e => hp p (by simp) e.symm)]
    simp only [Instr.findNow, h1]
    refine findNow_none es kv (i + 1) h.2 ?_
    unfold getS; rw [Option.map_eq_none_iff, List.find?_eq_none]
    intro q hq; simp [hp q (by simp [hq])]
  | [], _ :: _, _, h, _ => by cases h
  | _ :: _, [], _, h, _ => by cases h
theorem findNow_some {k : List UInt8} {v v' : Value} : ∀ (es : List MapEntry) (kv : KV) (i : Nat), ents es = kvV kv → getS kv k = some v → ∃ j, Instr.findNow .string (Str k) es i = some (some (i + j, v)) ∧ (es[j]?).map (·.key) = some (Str k) ∧
    ((es.map (·.key)).Nodup → ∀ f : MapEntry → MapEntry, (∀ e, e.key = Str k → (f e).key = Str k ∧ (f e).val = v') → ents (es.modify j f) = kvV (putS kv k v'))
  | [], [], _, _, h => by cases h
  | x :: es, p :: kv, i, h, hg => by
    simp only [ents, kvV, List.map_cons, List.cons.injEq, Prod.mk.injEq] at h
    by_cases hk : p.1 = k
    · have h1 : Instr.sameNow .string (Str k) x.key = some true := by rw [h.1.1, same_str, decide_eq_true hk.symm]
      have h2 : v = p.2 := by simpa [getS, hk] using hg.symm
      refine ⟨0, by simp only [Instr.findNow, h1]; rw [h.1.2, h2]; rfl, by rw [List.getElem?_cons_zero]; simp [h.1.1, hk], fun hnd f hf => ?_⟩
      have h3 : ∀ q ∈ kv, q.1 ≠ k := fun q hq e => by
        have : Str q.1 ∈ es.map (·.key) := by
          have h4 : (Str q.1, q.2) ∈ kvV kv := List.mem_map.2 ⟨q, hq, rfl⟩
          rw [show kvV kv = ents es from h.2.symm] at h4
          obtain ⟨y, hy, e2⟩ := List.mem_map.1 h4
          exact List.mem_map.2 ⟨y, hy, congrArg Prod.fst e2⟩
        rw [List.map_cons, List.nodup_cons] at hnd
        exact hnd.1 (by rw [h.1.1, hk, ← e]; exact this)
      have hx : x.key = Str k := by rw [h.1.1, hk]
      rw [List.modify_zero_cons]
      have e4 : ents es = kvV kv := h.2
      unfold putS
      rw [List.map_cons, if_pos hk]
      show ((f x).key, (f x).val) :: ents es = (Str k, v') :: kvV (putS kv k v')
      rw [putS_id h3, e4, (hf x hx).1, (hf x hx).2]
    · have h1 : Instr.sameNow .string (Str k) x.key = some false := by rw [h.1.1, same_str, decide_eq_false (fun e => hk e.symm)]
      have hg' : getS kv k = some v := by simpa [getS, hk] using hg
      obtain ⟨j, h3, h4, h5⟩ := findNow_some (v' := v') es kv (i + 1) h.2 hg'
      refine ⟨j + 1, by simp only [Instr.findNow, h1]; rw [h3]; congr 3; omega, by rw [List.getElem?_cons_succ]; exact h4, fun hnd f hf => ?_⟩
      rw [List.map_cons, List.nodup_cons] at hnd
      rw [List.modify_succ_cons]
      have h6 := h5 hnd.2 f hf
      unfold putS
      rw [List.map_cons, if_neg hk]
      show (x.key, x.val) :: ents (es.modify j f) = (Str p.1, p.2) :: kvV (putS kv k v')
      rw [h6, h.1.1, h.1.2]
  | [], _ :: _, _, h, _ => by cases h
  | _ :: _, [], _, h, _ => by cases h
/-- block b is a map that holds this -/
def mapS (b : Nat) (kv : KV) : Res where
  fp k := k = b
  holds w := ∃ es clock, w.heap[b]? = some (.map es clock) ∧ ents es.toList = kvV kv ∧ Stamped es clock
  loc w w' h := by
    rintro ⟨es, clock, h1, h2⟩
    exact ⟨es, clock, (h b rfl).trans h1, h2⟩
  bnd w := by
    rintro ⟨es, clock, h1, h2⟩ k rfl
    exact (Array.getElem?_eq_some_iff.1 h1).1
theorem mapS_cast {b : Nat} {kv kv' : KV} (h : kv = kv') : mapS b kv = mapS b kv' := by rw [h]
section
variable {P : Program} {n : Nat} {S : World → Prop} {L : Sl} {dst : Option Tmp} {rty : TypeId} {pos : String} {af : Array Edge} {gd : Option (Nat × Bool)}
  {t t' : TypeId} {x y z : Operand}
theorem run_checkStr {w : World} {kt : TypeId} {em : Bool} {k : List UInt8} (ht : P.underlying kt = some .string) : (Instr.checkKey em 10000 kt (Str k)).run P w = .ok () w := by
  rw [Instr.checkKey, Sem.run_bind, run_underlying ht]; rfl
theorem run_findStr {w : World} {kt : TypeId} {k : List UInt8} {es : List MapEntry} {r : Option (Nat × Value)} (ht : P.underlying kt = some .string) (h : Instr.findNow .string (Str k) es 0 = some r) : (Instr.findKey kt (Str k) es).run P w = .ok r w := by
  simp [Instr.findKey, run_underlying ht, h]
/-- m[k], and whether it is there -/
theorem y_getS {b : Nat} {kt vt : TypeId} {kv : KV} {k : List UInt8} {zv : Value} (hx : ev L x = some (.map (some b))) (hy : ev L y = some (Str k)) (hm : P.underlying t = some (.map kt vt)) (ht : P.underlying kt = some .string)
    (hz : ∀ w, (zeroValue vt).run P w = .ok zv w) (hS : ∀ w, S w → (mapS b kv).holds w) : Y P n S L ⟨dst, .lookup t x y false, rty, pos, af, gd⟩ ((getS kv k).getD zv) := fun a w ha hw => by
  have h1 := ha.ev hx; have h2 := ha.ev hy
  obtain ⟨es, clock, hb, hes, _⟩ := hS w hw
  have hgo : (getObj b).run P w = .ok (.map es clock) w := by simp [getObj, Sem.run, hb]
  have hck := run_checkStr (P := P) (w := w) (em := es.isEmpty) (k := k) ht
  cases hc : getS kv k with
  | none =>
    have hj := run_findStr (P := P) (w := w) ht (findNow_none es.toList kv 0 hes hc)
    simp [execOp, h1, h2, Instr.lookup, run_underlying hm, hgo, hck, hj, hz w]
  | some v =>
    obtain ⟨j, hj, _⟩ := findNow_some (v' := v) es.toList kv 0 hes hc
    have hj := run_findStr (P := P) (w := w) ht hj
    simp [execOp, h1, h2, Instr.lookup, run_underlying hm, hgo, hck, hj]
theorem y_getSok {b : Nat} {kt vt : TypeId} {kv : KV} {k : List UInt8} {zv : Value} (hx : ev L x = some (.map (some b))) (hy : ev L y = some (Str k)) (hm : P.underlying t = some (.map kt vt)) (ht : P.underlying kt = some .string)
    (hz : ∀ w, (zeroValue vt).run P w = .ok zv w) (hS : ∀ w, S w → (mapS b kv).holds w) : Y P n S L ⟨dst, .lookup t x y true, rty, pos, af, gd⟩ (.tuple #[(getS kv k).getD zv, .bool (getS kv k).isSome]) := fun a w ha hw => by
  have h1 := ha.ev hx; have h2 := ha.ev hy
  obtain ⟨es, clock, hb, hes, _⟩ := hS w hw
  have hgo : (getObj b).run P w = .ok (.map es clock) w := by simp [getObj, Sem.run, hb]
  have hck := run_checkStr (P := P) (w := w) (em := es.isEmpty) (k := k) ht
  cases hc : getS kv k with
  | none =>
    have hj := run_findStr (P := P) (w := w) ht (findNow_none es.toList kv 0 hes hc)
    simp [execOp, h1, h2, Instr.lookup, run_underlying hm, hgo, hck, hj, hz w]
  | some v =>
    obtain ⟨j, hj, _⟩ := findNow_some (v' := v) es.toList kv 0 hes hc
    have hj := run_findStr (P := P) (w := w) ht hj
    simp [execOp, h1, h2, Instr.lookup, run_underlying hm, hgo, hck, hj]
end
section
variable {c : Cx} {L : Sl} {H : List Res} {P : Program} {Q : Exit → Act → World → Prop} {K : Act → World → Prop} {d : Nat} {rty : TypeId} {pos : String} {af : Array Edge} {gd : Option (Nat × Bool)} {t t' : TypeId} {x y z : Operand}
theorem a_makeMapS (hn : Nat.blt d c.n = true) (h : ∀ b, TK c K ((d, .map (some b)) :: L) (mapS b [] :: H)) :
    TK c (fun a w => (⟨some d, .makeMap t none, rty, pos, af, gd⟩ : Oper).wp P a w K Q) L H := fun a w ha hw => by
  have e : (execOp a.eval (⟨some d, .makeMap t none, rty, pos, af, gd⟩ : Oper)).run P w = .ok (.value (.map (some w.heap.size))) { w with heap := w.heap.push (.map #[] 0) } := by
    simp [execOp, Instr.makeMap, newObj]
    rfl
  change Oper.upon P _ a K Q ((execOp a.eval _).run P w)
  rw [e, Oper.upon_value]
  refine h w.heap.size _ _ (ha.put hn _) (St.new (w' := { w with heap := w.heap.push (.map #[] 0) }) (N := [mapS w.heap.size []]) hw ⟨rfl, rfl, rfl, by simp, fun k hk _ => by simp [Array.getElem?_push, Nat.ne_of_lt hk]⟩ ⟨⟨#[], 0, by simp, rfl, stamped_empty 0⟩, trivial⟩ ⟨fun _ _ h => h, trivial⟩ (fun k hk => ?_))
  rcases hk with hk | hk
  · have : k = w.heap.size := hk
    omega
  · exact hk.elim
theorem a_setS {H1 H2 : List Res} {b : Nat} {kt vt : TypeId} {kv : KV} {k : List UInt8} {v : Value} (hx : ev L x = some (.map (some b))) (hy : ev L y = some (Str k)) (hv : ev L z = some v) (hm : P.underlying t = some (.map kt vt)) (ht : P.underlying kt = some .string)
    (hH : H = H1 ++ mapS b kv :: H2) (h : TK c K L (H1 ++ mapS b (setS kv k v) :: H2)) :
    TK c (fun a w => (⟨none, .mapUpdate t x y z, rty, pos, af, gd⟩ : Oper).wp P a w K Q) L H := fun a w ha hw => by
  subst hH
  have h1 := ha.ev hx; have h2 := ha.ev hy; have h3 := ha.ev hv
  obtain ⟨es, clock, hb, hes, hst⟩ := hw.mem (r := mapS b kv) (by simp)
  have hck := run_checkStr (P := P) (w := w) (em := false) (k := k) ht
  have hlt := (Array.getElem?_eq_some_iff.1 hb).1
  have hgo : (getObj b).run P w = .ok (.map es clock) w := by simp [getObj, Sem.run, hb]
  have hso : ∀ o : Obj, (setObj b o).run P w = .ok () { w with heap := w.heap.setIfInBounds b o } := fun o => by simp [setObj, Sem.run, hb]
  have key : ∃ es' clock', (execOp a.eval (⟨none, .mapUpdate t x y z, rty, pos, af, gd⟩ : Oper)).run P w = .ok .skip { w with heap := w.heap.setIfInBounds b (.map es' clock') } ∧ ents es'.toList = kvV (setS kv k v) ∧ Stamped es' clock' := by
    cases hc : getS kv k with
    | none =>
      have hj := run_findStr (P := P) (w := w) ht (findNow_none es.toList kv 0 hes hc)
      refine ⟨es.push { key := Str k, val := v, born := clock }, clock + 1, ?_, ?_, stamped_push hst (fun e he heq => ?_)⟩
      · simp [execOp, h1, h2, h3, Instr.mapUpdate, run_underlying hm, hgo, hck, hj, hso]
      · simp only [setS, hc, Option.isSome_none, Bool.false_eq_true, if_false, Array.toList_push, ents, kvV, List.map_append, List.map_cons, List.map_nil] at hes ⊢
        rw [hes]
      · have : (e.key, e.val) ∈ ents es.toList := List.mem_map.2 ⟨e, he, rfl⟩
        rw [hes] at this
        obtain ⟨p, hp, e2⟩ := List.mem_map.1 this
        have e3 : Str p.1 = e.key := congrArg Prod.fst e2
        exact getS_none hc p hp (str_inj (by rw [e3, heq]))
    | some u =>
      obtain ⟨j, hj, hkey, hmod⟩ := findNow_some (v' := v) es.toList kv 0 hes hc
      have hj := run_findStr (P := P) (w := w) ht hj
      rw [Nat.zero_add] at hj
      have hkey2 : (es[j]?).map (·.key) = some (Str k) := by rw [← Array.getElem?_toList]; exact hkey
      have hstay : (Instr.keyThatStays (Str k) (Str k)).run P w = .ok (Str k) w := by
        have : Instr.sameBits 10000 (Str k) (Str k) = true := by simp only [Instr.sameBits]; rw [ba_beq]; simp
        simp [Instr.keyThatStays, this]
      refine ⟨es.modify j fun e => { e with key := Str k, val := v }, clock, ?_, ?_, stamped_modify hst j _ (fun e _ => rfl) ?_⟩
      · simp [execOp, h1, h2, h3, Instr.mapUpdate, run_underlying hm, hgo, hck, hj, hso, hkey2, hstay]
      · simp only [setS, hc, Option.isSome_some, if_true]
        rw [Array.toList_modify]
        exact hmod hst.2.2 _ (fun e _ => ⟨rfl, rfl⟩)
      · intro e _ he
        rw [he] at hkey2
        simpa using hkey2.symm
  obtain ⟨es', clock', e1, he2, hst2⟩ := key
  change Oper.upon P _ a K Q ((execOp a.eval _).run P w)
  rw [e1, Oper.upon_skip]
  refine h _ _ (ha.putNone _) (St.perm (St.turn (w' := { w with heap := w.heap.setIfInBounds b (.map es' clock') }) (N := [mapS b (setS kv k v)]) hw ⟨rfl, rfl, rfl, by simp, fun k hk hne => ?_⟩ ⟨⟨es', clock', by simp [hlt], he2, hst2⟩, trivial⟩ ⟨fun _ _ h => h, trivial⟩ ?_) perm_mid)
  · have hne' : ¬ b = k := fun e => hne e.symm
    simp [Array.getElem?_setIfInBounds, hne']
  · intro k hk
    rcases hk with hk | hk
    · exact .inl hk
    · exact hk.elim
end
end Go.Proofs.YtnhpghhibcdklaaGreatDoor

set_option linter.unusedSimpArgs false
set_option linter.unusedVariables false
namespace Go.Proofs.YtnhpghhibcdklaaGreatDoor
open Go
/-- an entry as it may be handed in -/
structure Eni where
  id : List UInt8
  kind : Int
  off : Int
  len : Int
  h : id.length = 32
deriving DecidableEq
def dEni : Eni := ⟨List.replicate 32 0, 0, 0, 0, rfl⟩
/-- a pack as it lies in memory: its name, its entries' slice, what that holds -/
structure Pk where
  name : List UInt8
  v : Value
  es : List Eni
def dPk : Pk := ⟨[], .slice none 0 0, []⟩
/-! ### names -/
def signB (c : UInt8) : Bool := decide (97 ≤ c.toNat ∧ c.toNat ≤ 122) || decide (48 ≤ c.toNat ∧ c.toNat ≤ 57) || decide (c.toNat = 45) || decide (c.toNat = 47)
def isNm (s : List UInt8) : Prop := s.all signB = true ∧ 1 ≤ s.length ∧ s.length ≤ 64
instance (s : List UInt8) : Decidable (isNm s) := by unfold isNm; infer_instance
def riseAt (l : List (List UInt8)) (i : Nat) : Prop := isNm (l.getD i []) ∧ (i = 0 ∨ strLe (l.getD i []) (l.getD (i - 1) []) = false)
instance (l : List (List UInt8)) (i : Nat) : Decidable (riseAt l i) := by unfold riseAt; infer_instance
def rises (l : List (List UInt8)) : Prop := ∀ i, i < l.length → riseAt l i
instance (l : List (List UInt8)) : Decidable (rises l) := by unfold rises; infer_instance
/-! ### a pack in form -/
def finE (es : List Eni) (i : Nat) : Int := if i = 0 then 0 else (es.getD (i - 1) dEni).off + (es.getD (i - 1) dEni).len
def idsE (es : List Eni) (i : Nat) : List (List UInt8) := (es.take i).map Eni.id
def goodE (es : List Eni) (i : Nat) : Prop := ((es.getD i dEni).kind = 1 ∨ (es.getD i dEni).kind = 2) ∧ finE es i ≤ (es.getD i dEni).off ∧ (es.getD i dEni).off ≤ 1048576 ∧ 48 ≤ (es.getD i dEni).len ∧ (es.getD i dEni).len ≤ 1048576 - (es.getD i dEni).off ∧ (es.getD i dEni).id ∉ idsE es i
instance (es : List Eni) (i : Nat) : Decidable (goodE es i) := by unfold goodE; infer_instance
def headN (n : List UInt8) (es : List Eni) : Prop := (2 ≤ n.length ∧ n.take 2 = [112, 47]) ∧ isNm n ∧ 1 ≤ es.length ∧ es.length ≤ 1000
instance (n : List UInt8) (es : List Eni) : Decidable (headN n es) := by unfold headN; infer_instance
def rightP (n : List UInt8) (es : List Eni) : Prop := headN n es ∧ ∀ i, i < es.length → goodE es i
instance (n : List UInt8) (es : List Eni) : Decidable (rightP n es) := by unfold rightP; infer_instance
def rightF (l : List Pk) (old : List (List UInt8)) : Prop := (l.length ≤ 1000 ∧ old.length ≤ 1000) ∧ (∀ i, i < l.length → rightP (l.getD i dPk).name (l.getD i dPk).es) ∧ rises (l.map Pk.name) ∧ rises old
instance (l : List Pk) (old : List (List UInt8)) : Decidable (rightF l old) := by unfold rightF; infer_instance
/-! ### a file's bytes -/
def textL (s : List UInt8) : List UInt8 := numL s.length ++ s
/-! ### few -/
end Go.Proofs.YtnhpghhibcdklaaGreatDoor
