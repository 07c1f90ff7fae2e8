/- Sums of bytes on lists: rounds, blocks, padding, sums with a key. Plain Lean, no program in sight. -/
import Derived.KernelRfl
set_option linter.unusedSimpArgs false
set_option linter.unusedVariables false
namespace Go.Proofs.YtfofkjajlfphjaaDoor
def rr (x : UInt32) (n : Nat) : UInt32 := x >>> UInt32.ofNat n ||| x <<< UInt32.ofNat (32 - n)
theorem rr_def (x : UInt32) (n : Nat) : x <<< UInt32.ofNat (32 - n) ||| x >>> UInt32.ofNat n = rr x n := UInt32.or_comm _ _
theorem rr_def' (x : UInt32) (n : Nat) : x >>> UInt32.ofNat n ||| x <<< UInt32.ofNat (32 - n) = rr x n := rfl
def word (l : List UInt8) (i : Nat) : UInt32 :=
  (l.getD (4 * i) 0).toUInt32 <<< UInt32.ofNat 24 ||| (l.getD (4 * i + 1) 0).toUInt32 <<< UInt32.ofNat 16 ||| (l.getD (4 * i + 2) 0).toUInt32 <<< UInt32.ofNat 8 ||| (l.getD (4 * i + 3) 0).toUInt32
theorem or_add (a b k : Nat) (h : b < 2 ^ k) : a * 2 ^ k ||| b = a * 2 ^ k + b := by
  rw [← Nat.shiftLeft_eq, ← Nat.shiftLeft_add_eq_or_of_lt h]
theorem word_nat {a b c d : Nat} (ha : a < 256) (hb : b < 256) (hc : c < 256) (hd : d < 256) :
    a * 16777216 % 4294967296 ||| b * 65536 % 4294967296 ||| c * 256 % 4294967296 ||| d = (((a * 16777216 % 4294967296 + b * 65536 % 4294967296) % 4294967296 + c * 256 % 4294967296) % 4294967296 + d) % 4294967296 := by
  have m1 : a * 16777216 % 4294967296 = a * 16777216 := Nat.mod_eq_of_lt (by omega)
  have m2 : b * 65536 % 4294967296 = b * 65536 := Nat.mod_eq_of_lt (by omega)
  have m3 : c * 256 % 4294967296 = c * 256 := Nat.mod_eq_of_lt (by omega)
  have o1 : a * 16777216 ||| b * 65536 = (a * 256 + b) * 65536 := by
    have := or_add a (b * 65536) 24 (by simp; omega)
    rw [show (2 : Nat) ^ 24 = 16777216 from rfl] at this
    rw [this]; omega
  have o2 : (a * 256 + b) * 65536 ||| c * 256 = ((a * 256 + b) * 256 + c) * 256 := by
    have := or_add (a * 256 + b) (c * 256) 16 (by simp; omega)
    rw [show (2 : Nat) ^ 16 = 65536 from rfl] at this
    rw [this]; omega
  have o3 : ((a * 256 + b) * 256 + c) * 256 ||| d = ((a * 256 + b) * 256 + c) * 256 + d := by
    have := or_add ((a * 256 + b) * 256 + c) d 8 (by simp; omega)
    rw [show (2 : Nat) ^ 8 = 256 from rfl] at this
    exact this
  rw [m1, m2, m3, o1, o2, o3]
  omega
theorem word_add (l : List UInt8) (i : Nat) : word l i =
    (l.getD (4 * i) 0).toUInt32 <<< UInt32.ofNat 24 + (l.getD (4 * i + 1) 0).toUInt32 <<< UInt32.ofNat 16 + (l.getD (4 * i + 2) 0).toUInt32 <<< UInt32.ofNat 8 + (l.getD (4 * i + 3) 0).toUInt32 := by
  unfold word
  generalize l.getD (4 * i) 0 = a
  generalize l.getD (4 * i + 1) 0 = b
  generalize l.getD (4 * i + 2) 0 = c
  generalize l.getD (4 * i + 3) 0 = d
  have ha := a.toNat_lt; have hb := b.toNat_lt; have hc := c.toNat_lt; have hd := d.toNat_lt
  have e24 : (UInt32.ofNat 24).toNat % 32 = 24 := by decide
  have e16 : (UInt32.ofNat 16).toNat % 32 = 16 := by decide
  have e8 : (UInt32.ofNat 8).toNat % 32 = 8 := by decide
  apply UInt32.toNat.inj
  simp only [UInt32.toNat_or, UInt32.toNat_add, UInt32.toNat_shiftLeft, e24, e16, e8, UInt8.toNat_toUInt32, Nat.shiftLeft_eq]
  exact word_nat ha hb hc hd
def nextW (l : List UInt8) (ws : List UInt32) (i : Nat) : UInt32 := if i < 16 then word l i else
  ws.getD (i - 16) 0 + ws.getD (i - 7) 0 + (rr (ws.getD (i - 15) 0) 7 ^^^ rr (ws.getD (i - 15) 0) 18 ^^^ ws.getD (i - 15) 0 >>> UInt32.ofNat 3) + (rr (ws.getD (i - 2) 0) 17 ^^^ rr (ws.getD (i - 2) 0) 19 ^^^ ws.getD (i - 2) 0 >>> UInt32.ofNat 10)
def sched (l : List UInt8) : Nat → List UInt32
  | 0 => []
  | k + 1 => sched l k ++ [nextW l (sched l k) k]
@[simp] theorem sched_len (l : List UInt8) : ∀ k, (sched l k).length = k
  | 0 => rfl
  | k + 1 => by simp [sched, sched_len l k]
def schedZ (l : List UInt8) (k : Nat) : List UInt32 := sched l k ++ List.replicate (64 - k) 0
theorem schedZ_len {l : List UInt8} {k : Nat} (h : k ≤ 64) : (schedZ l k).length = 64 := by simp [schedZ]; omega
theorem schedZ_0 {l : List UInt8} : schedZ l 0 = List.replicate 64 0 := rfl
theorem schedZ_64 {l : List UInt8} : schedZ l 64 = sched l 64 := by simp [schedZ]
theorem schedZ_get {l : List UInt8} {k j : Nat} (h : j < k) : (schedZ l k).getD j 0 = (sched l k).getD j 0 := by
  unfold schedZ; rw [List.getD_eq_getElem?_getD, List.getElem?_append_left (by simpa using h), ← List.getD_eq_getElem?_getD]
theorem schedZ_set {l : List UInt8} {k : Nat} (h : k < 64) : (schedZ l k).set k (nextW l (sched l k) k) = schedZ l (k + 1) := by
  unfold schedZ
  rw [List.set_append_right _ _ (by simp)]
  have e : 64 - k = (64 - (k + 1)) + 1 := by omega
  rw [sched_len, Nat.sub_self, e, List.replicate_succ, List.set_cons_zero, sched, List.append_assoc]; rfl
theorem schedZ_lo {l : List UInt8} {k : Nat} (h : k < 64) (h1 : k < 16) : (schedZ l k).set k (word l k) = schedZ l (k + 1) := by
  rw [← schedZ_set h, nextW, if_pos h1]
theorem schedZ_hi {l : List UInt8} {k : Nat} (h : k < 64) (h1 : ¬ k < 16) :
    (schedZ l k).set k ((schedZ l k).getD (k - 16) 0 + (schedZ l k).getD (k - 7) 0 + (rr ((schedZ l k).getD (k - 15) 0) 7 ^^^ rr ((schedZ l k).getD (k - 15) 0) 18 ^^^ (schedZ l k).getD (k - 15) 0 >>> UInt32.ofNat 3) + (rr ((schedZ l k).getD (k - 2) 0) 17 ^^^ rr ((schedZ l k).getD (k - 2) 0) 19 ^^^ (schedZ l k).getD (k - 2) 0 >>> UInt32.ofNat 10)) = schedZ l (k + 1) := by
  rw [← schedZ_set h, nextW, if_neg h1, schedZ_get (show k - 16 < k by omega), schedZ_get (show k - 7 < k by omega), schedZ_get (show k - 15 < k by omega), schedZ_get (show k - 2 < k by omega)]
theorem u32_rc (a b c : UInt32) : a + b + c = a + c + b := by rw [UInt32.add_assoc, UInt32.add_comm b c, ← UInt32.add_assoc]
theorem schedZ_hi' {l : List UInt8} {k : Nat} (h : k < 64) (h1 : ¬ k < 16) :
    (schedZ l k).set k ((schedZ l k).getD (k - 16) 0 + (rr ((schedZ l k).getD (k - 15) 0) 7 ^^^ rr ((schedZ l k).getD (k - 15) 0) 18 ^^^ (schedZ l k).getD (k - 15) 0 >>> UInt32.ofNat 3) + (schedZ l k).getD (k - 7) 0 + (rr ((schedZ l k).getD (k - 2) 0) 17 ^^^ rr ((schedZ l k).getD (k - 2) 0) 19 ^^^ (schedZ l k).getD (k - 2) 0 >>> UInt32.ofNat 10)) = schedZ l (k + 1) := by
  rw [← schedZ_hi h h1, u32_rc ((schedZ l k).getD (k - 16) 0)]
/-- a round -/
def tOf (v : List UInt32) (k w : UInt32) : UInt32 := v.getD 7 0 + (rr (v.getD 4 0) 6 ^^^ rr (v.getD 4 0) 11 ^^^ rr (v.getD 4 0) 25) + (v.getD 6 0 ^^^ (v.getD 4 0 &&& (v.getD 5 0 ^^^ v.getD 6 0))) + k + w
def uOf (v : List UInt32) : UInt32 := (rr (v.getD 0 0) 2 ^^^ rr (v.getD 0 0) 13 ^^^ rr (v.getD 0 0) 22) + (v.getD 0 0 &&& v.getD 1 0 ||| v.getD 2 0 &&& (v.getD 0 0 ||| v.getD 1 0))
def rstep (v : List UInt32) (k w : UInt32) : List UInt32 := [tOf v k w + uOf v, v.getD 0 0, v.getD 1 0, v.getD 2 0, v.getD 3 0 + tOf v k w, v.getD 4 0, v.getD 5 0, v.getD 6 0]
theorem u32_ext {a b : UInt32} (h : ∀ i, i < 32 → a.toBitVec.getLsbD i = b.toBitVec.getLsbD i) : a = b := UInt32.eq_of_toBitVec_eq (BitVec.eq_of_getLsbD_eq h)
theorem choose_eq (a b c : UInt32) : a &&& b ^^^ ~~~ a &&& c = c ^^^ a &&& (b ^^^ c) := u32_ext fun i hi => by
  simp only [UInt32.toBitVec_and, UInt32.toBitVec_xor, UInt32.toBitVec_not, BitVec.getLsbD_and, BitVec.getLsbD_xor, BitVec.getLsbD_not, hi, decide_true, Bool.true_and]
  cases a.toBitVec.getLsbD i <;> cases b.toBitVec.getLsbD i <;> cases c.toBitVec.getLsbD i <;> rfl
theorem most_eq (a b c : UInt32) : a &&& b ^^^ a &&& c ^^^ b &&& c = a &&& b ||| c &&& (a ||| b) := u32_ext fun i _ => by
  simp only [UInt32.toBitVec_and, UInt32.toBitVec_xor, UInt32.toBitVec_or, BitVec.getLsbD_and, BitVec.getLsbD_xor, BitVec.getLsbD_or]
  cases a.toBitVec.getLsbD i <;> cases b.toBitVec.getLsbD i <;> cases c.toBitVec.getLsbD i <;> rfl
/-- a round as the other one has it -/
theorem rstep_ref (v : List UInt32) (k w : UInt32) {s t ch mo x : UInt32} (hs : s = rr (v.getD 4 0) 6 ^^^ rr (v.getD 4 0) 11 ^^^ rr (v.getD 4 0) 25) (ht : t = rr (v.getD 0 0) 2 ^^^ rr (v.getD 0 0) 13 ^^^ rr (v.getD 0 0) 22)
    (hch : ch = v.getD 4 0 &&& v.getD 5 0 ^^^ ~~~ v.getD 4 0 &&& v.getD 6 0) (hmo : mo = v.getD 0 0 &&& v.getD 1 0 ^^^ v.getD 0 0 &&& v.getD 2 0 ^^^ v.getD 1 0 &&& v.getD 2 0) (hx : x = v.getD 7 0 + s + ch + k + w) :
    [x + t + mo, v.getD 0 0, v.getD 1 0, v.getD 2 0, v.getD 3 0 + x, v.getD 4 0, v.getD 5 0, v.getD 6 0] = rstep v k w := by
  have e1 : x = tOf v k w := by rw [hx, hs, hch, choose_eq]; rfl
  have e2 : t + mo = uOf v := by rw [ht, hmo, most_eq]; rfl
  rw [UInt32.add_assoc, e1, e2]; rfl
theorem rstep_len (v : List UInt32) (k w : UInt32) : (rstep v k w).length = 8 := rfl
def rounds (r ks ws : List UInt32) : Nat → List UInt32
  | 0 => r
  | n + 1 => rstep (rounds r ks ws n) (ks.getD n 0) (ws.getD n 0)
theorem rounds_0 {r ks ws : List UInt32} : rounds r ks ws 0 = r := rfl
theorem rounds_succ {r ks ws : List UInt32} {n : Nat} : rounds r ks ws (n + 1) = rstep (rounds r ks ws n) (ks.getD n 0) (ws.getD n 0) := rfl
theorem rstep_prog {v : List UInt32} (h : v.length = 8) (k w : UInt32) {t u : UInt32} (ht : t = tOf v k w) (hu : u = uOf v) :
    ((v.take 1 ++ v.take 7).set 0 (t + u)).set 4 (((v.take 1 ++ v.take 7).set 0 (t + u)).getD 4 0 + t) = rstep v k w := by
  subst ht; subst hu
  match v, h with
  | [_, _, _, _, _, _, _, _], _ => rfl
theorem rounds_len {r ks ws : List UInt32} (h : r.length = 8) : ∀ n, (rounds r ks ws n).length = 8
  | 0 => h
  | _ + 1 => rfl
def stepsL : List UInt32 := [0x428a2f98, 0x71374491, 0xb5c0fbcf, 0xe9b5dba5, 0x3956c25b, 0x59f111f1, 0x923f82a4, 0xab1c5ed5,
  0xd807aa98, 0x12835b01, 0x243185be, 0x550c7dc3, 0x72be5d74, 0x80deb1fe, 0x9bdc06a7, 0xc19bf174,
  0xe49b69c1, 0xefbe4786, 0x0fc19dc6, 0x240ca1cc, 0x2de92c6f, 0x4a7484aa, 0x5cb0a9dc, 0x76f988da,
  0x983e5152, 0xa831c66d, 0xb00327c8, 0xbf597fc7, 0xc6e00bf3, 0xd5a79147, 0x06ca6351, 0x14292967,
  0x27b70a85, 0x2e1b2138, 0x4d2c6dfc, 0x53380d13, 0x650a7354, 0x766a0abb, 0x81c2c92e, 0x92722c85,
  0xa2bfe8a1, 0xa81a664b, 0xc24b8b70, 0xc76c51a3, 0xd192e819, 0xd6990624, 0xf40e3585, 0x106aa070,
  0x19a4c116, 0x1e376c08, 0x2748774c, 0x34b0bcb5, 0x391c0cb3, 0x4ed8aa4a, 0x5b9cca4f, 0x682e6ff3,
  0x748f82ee, 0x78a5636f, 0x84c87814, 0x8cc70208, 0x90befffa, 0xa4506ceb, 0xbef9a3f7, 0xc67178f2]
def beginL : List UInt32 := [0x6a09e667, 0xbb67ae85, 0x3c6ef372, 0xa54ff53a, 0x510e527f, 0x9b05688c, 0x1f83d9ab, 0x5be0cd19]
/-- the first i words of r have v's added -/
def addI (r v : List UInt32) (i : Nat) : List UInt32 := (List.range 8).map fun j => if j < i then r.getD j 0 + v.getD j 0 else r.getD j 0
@[simp] theorem addI_len {r v : List UInt32} {i : Nat} : (addI r v i).length = 8 := by simp [addI]
theorem range_getD {α : Type} (l : List α) (d : α) : (List.range l.length).map (fun j => l.getD j d) = l := by
  apply List.ext_getElem (by simp)
  intro i h1 h2
  simp [List.getD_eq_getElem?_getD, h2]
theorem addI_0 {r v : List UInt32} (h : r.length = 8) : addI r v 0 = r := by
  have := range_getD r 0
  rw [h] at this
  simpa [addI] using this
theorem addI_get {r v : List UInt32} {i j : Nat} (h : j < 8) : (addI r v i).getD j 0 = if j < i then r.getD j 0 + v.getD j 0 else r.getD j 0 := by
  rw [addI, List.getD_eq_getElem?_getD, List.getElem?_map, List.getElem?_range h]; rfl
theorem addI_set {r v : List UInt32} {i : Nat} (h : i < 8) : (addI r v i).set i ((addI r v i).getD i 0 + v.getD i 0) = addI r v (i + 1) := by
  rw [addI_get h, if_neg (Nat.lt_irrefl _)]
  apply List.ext_getElem (by simp)
  intro j h1 h2
  rw [List.getElem_set]
  simp only [addI, List.getElem_map, List.getElem_range]
  split
  · subst_vars; rw [if_pos (by omega)]
  · by_cases c : j < i
    · rw [if_pos c, if_pos (by omega)]
    · rw [if_neg c, if_neg (by omega)]
theorem addI_set' {r v : List UInt32} {i : Nat} (h : i < 8) : (addI r v i).set i (v.getD i 0 + (addI r v i).getD i 0) = addI r v (i + 1) := by rw [UInt32.add_comm, addI_set h]
theorem addI_comm {r v : List UInt32} : addI r v 8 = addI v r 8 := by
  apply List.ext_getElem (by simp)
  intro j h1 h2
  simp only [addI_len] at h1
  simp only [addI, List.getElem_map, List.getElem_range, if_pos h1]
  rw [UInt32.add_comm]
def blockF (r : List UInt32) (l : List UInt8) : List UInt32 := addI r (rounds r stepsL (sched l 64) 64) 8
@[simp] theorem blockF_len {r : List UInt32} {l : List UInt8} : (blockF r l).length = 8 := by simp [blockF]
def foldB (r : List UInt32) (l : List UInt8) : List UInt32 := if _h : 64 ≤ l.length then foldB (blockF r (l.take 64)) (l.drop 64) else r
termination_by l.length
decreasing_by simp; omega
theorem foldB_lt {r : List UInt32} {l : List UInt8} (h : l.length < 64) : foldB r l = r := by rw [foldB, dif_neg (by omega)]
theorem foldB_ge {r : List UInt32} {l : List UInt8} (h : 64 ≤ l.length) : foldB r l = foldB (blockF r (l.take 64)) (l.drop 64) := by rw [foldB, dif_pos h]
theorem foldB_one {r : List UInt32} {l : List UInt8} (h : l.length = 64) : foldB r l = blockF r l := by
  rw [foldB_ge (by omega), foldB_lt (by simp; omega), List.take_of_length_le (by omega)]
theorem foldB_app (m : List UInt8) : ∀ (n : Nat) (r : List UInt32) (l : List UInt8), l.length = 64 * n → foldB r (l ++ m) = foldB (foldB r l) m
  | 0, r, l, h => by
    have : l = [] := List.eq_nil_of_length_eq_zero (by omega)
    subst this; rw [foldB_lt (l := []) (by simp)]; rfl
  | n + 1, r, l, h => by
    rw [foldB_ge (l := l ++ m) (by simp; omega), foldB_ge (l := l) (by omega), List.take_append_of_le_length (by omega), List.drop_append_of_le_length (by omega)]
    exact foldB_app m n _ _ (by simp; omega)
theorem foldB_len {r : List UInt32} (hr : r.length = 8) : ∀ (n : Nat) (l : List UInt8), l.length = 64 * n → (foldB r l).length = 8
  | 0, l, h => by rw [foldB_lt (by omega)]; exact hr
  | n + 1, l, h => by
    have e : l = l.take (64 * n) ++ l.drop (64 * n) := (List.take_append_drop _ _).symm
    rw [e, foldB_app _ n _ _ (by simp; omega), foldB_one (by simp; omega)]; simp
/-- what a state holds when bytes l are taken -/
def SI (l : List UInt8) (R : List UInt32) (W : List UInt8) : Prop := R.length = 8 ∧ W.length = 64 ∧ R = foldB beginL (l.take (64 * (l.length / 64))) ∧ W.take (l.length % 64) = l.drop (64 * (l.length / 64))
theorem SI_zero {W : List UInt8} (h : W.length = 64) : SI [] beginL W := ⟨rfl, h, by rw [foldB_lt (by simp)], by simp⟩
theorem set_take {α : Type} {W : List α} {i : Nat} {x : α} (h : i < W.length) : (W.set i x).take (i + 1) = W.take i ++ [x] := by
  rw [List.take_add_one, List.take_set_of_le (Nat.le_refl _)]
  simp [h]
theorem SI_push {l : List UInt8} {R : List UInt32} {W : List UInt8} {x : UInt8} (h : SI l R W) (hn : ¬ (l.length + 1) % 64 = 0) : SI (l ++ [x]) R (W.set (l.length % 64) x) := by
  obtain ⟨h1, h2, h3, h4⟩ := h
  have e1 : (l.length + 1) / 64 = l.length / 64 := by omega
  have e2 : (l.length + 1) % 64 = l.length % 64 + 1 := by omega
  refine ⟨h1, by simpa using h2, ?_, ?_⟩
  · rw [List.length_append, List.length_singleton, e1, List.take_append_of_le_length (by omega)]; exact h3
  · rw [List.length_append, List.length_singleton, e1, e2, set_take (by omega), h4, List.drop_append_of_le_length (by omega)]
theorem SI_wrap {l : List UInt8} {R : List UInt32} {W : List UInt8} {x : UInt8} (h : SI l R W) (hn : (l.length + 1) % 64 = 0) : SI (l ++ [x]) (blockF R (W.set (l.length % 64) x)) (W.set (l.length % 64) x) := by
  obtain ⟨h1, h2, h3, h4⟩ := h
  have e1 : 64 * ((l.length + 1) / 64) = l.length + 1 := by omega
  have e2 : l.length % 64 = 63 := by omega
  have e3 : W.set (l.length % 64) x = l.drop (64 * (l.length / 64)) ++ [x] := by
    rw [← h4, ← set_take (by omega), List.take_of_length_le (by simp; omega)]
  refine ⟨by simp, by simpa using h2, ?_, ?_⟩
  · rw [List.length_append, List.length_singleton, e1, List.take_of_length_le (by simp)]
    have e4 : l ++ [x] = l.take (64 * (l.length / 64)) ++ (l.drop (64 * (l.length / 64)) ++ [x]) := by rw [← List.append_assoc, List.take_append_drop]
    rw [e4, foldB_app _ (l.length / 64) _ _ (by simp; omega), ← h3, foldB_one (by simp; omega), e3]
  · rw [List.length_append, List.length_singleton, hn, e1]; simp
theorem take_snocD {m : List UInt8} {j : Nat} (h : j < m.length) : m.take (j + 1) = m.take j ++ [m.getD j 0] := by
  rw [List.take_add_one, List.getD_eq_getElem?_getD]; simp [h]
theorem SI_tpush {l m : List UInt8} {R : List UInt32} {W : List UInt8} {j : Nat} (h : SI (l ++ m.take j) R W) (hj : j < m.length) (hn : ¬ (l.length + j + 1) % 64 = 0) : SI (l ++ m.take (j + 1)) R (W.set ((l.length + j) % 64) (m.getD j 0)) := by
  have e : (l ++ m.take j).length = l.length + j := by simp; omega
  have := SI_push (x := m.getD j 0) h (by rw [e]; exact hn)
  rw [e, List.append_assoc, ← take_snocD hj] at this; exact this
theorem SI_twrap {l m : List UInt8} {R : List UInt32} {W : List UInt8} {j : Nat} (h : SI (l ++ m.take j) R W) (hj : j < m.length) (hn : (l.length + j + 1) % 64 = 0) : SI (l ++ m.take (j + 1)) (blockF R (W.set ((l.length + j) % 64) (m.getD j 0))) (W.set ((l.length + j) % 64) (m.getD j 0)) := by
  have e : (l ++ m.take j).length = l.length + j := by simp; omega
  have := SI_wrap (x := m.getD j 0) h (by rw [e]; exact hn)
  rw [e, List.append_assoc, ← take_snocD hj] at this; exact this
/-- the end of a text: a byte, noughts, its length -/
def zc (n : Nat) : Nat := (119 - n % 64) % 64
theorem zc_def (n : Nat) : zc n = (119 - n % 64) % 64 := rfl
theorem zc_lt (n : Nat) : zc n < 64 := Nat.mod_lt _ (by decide)
def lenB (n j : Nat) : UInt8 := UInt8.ofNat (n * 8 / 2 ^ (56 - 8 * j))
def len8 (n j : Nat) : List UInt8 := (List.range j).map (lenB n)
theorem len8_0 {n : Nat} : len8 n 0 = [] := rfl
theorem len8_snoc {n j : Nat} : len8 n j ++ [lenB n j] = len8 n (j + 1) := by simp [len8, List.range_succ]
@[simp] theorem len8_len {n j : Nat} : (len8 n j).length = j := by simp [len8]
def pad (l : List UInt8) : List UInt8 := l ++ [128] ++ List.replicate (zc l.length) 0 ++ len8 l.length 8
theorem pad_len (l : List UInt8) : ∃ n, (pad l).length = 64 * n ∧ 0 < n := by
  refine ⟨(l.length + 9 + zc l.length) / 64, ?_, ?_⟩
  · simp [pad, zc]; omega
  · simp [zc]; omega
def outB (R : List UInt32) : List UInt8 := (List.range 32).map fun i => (R.getD (i / 4) 0 >>> UInt32.ofNat (24 - 8 * (i % 4))).toUInt8
@[simp] theorem outB_len {R : List UInt32} : (outB R).length = 32 := by simp [outB]
def sumL (l : List UInt8) : List UInt8 := outB (foldB beginL (pad l))
@[simp] theorem sumL_len {l : List UInt8} : (sumL l).length = 32 := by simp [sumL]
def hmKey (k : List UInt8) : List UInt8 := if 64 < k.length then sumL k else k
theorem hmKey_len {k : List UInt8} : (hmKey k).length ≤ 64 := by
  unfold hmKey; split
  · simp
  · omega
def xorPad (k : List UInt8) (c : UInt8) : List UInt8 := (List.range 64).map fun i => k.getD i 0 ^^^ c
@[simp] theorem xorPad_len {k : List UInt8} {c : UInt8} : (xorPad k c).length = 64 := by simp [xorPad]
def keyedL (k m : List UInt8) : List UInt8 := sumL (xorPad (hmKey k) 0x5C ++ sumL (xorPad (hmKey k) 0x36 ++ m))
@[simp] theorem keyedL_len {k m : List UInt8} : (keyedL k m).length = 32 := by simp [keyedL]
/-- the first i bytes of l, and noughts -/
def takeZ (l : List UInt8) (n i : Nat) : List UInt8 := l.take i ++ List.replicate (n - i) 0
theorem takeZ_len {l : List UInt8} {n i : Nat} (h : l.length = n) (hi : i ≤ n) : (takeZ l n i).length = n := by simp [takeZ]; omega
theorem takeZ_0 {l : List UInt8} {n : Nat} : takeZ l n 0 = List.replicate n 0 := by simp [takeZ]
theorem takeZ_all {l : List UInt8} {n : Nat} (h : l.length = n) : takeZ l n n = l := by simp [takeZ, ← h]
theorem takeZ_set {l : List UInt8} {n i : Nat} (h : l.length = n) (hi : i < n) : (takeZ l n i).set i (l.getD i 0) = takeZ l n (i + 1) := by
  have e : n - i = (n - (i + 1)) + 1 := by omega
  have e2 : (l.take i).length = i := by simp; omega
  unfold takeZ
  rw [List.set_append_right _ _ (by omega), e2, Nat.sub_self, e, List.replicate_succ, List.set_cons_zero, take_snocD (by omega), List.append_assoc]; rfl
theorem takeZ_getD {l : List UInt8} {n i : Nat} (h : l.length = n) (hi : i < n) : (takeZ l n i).getD i 0 = 0 := by
  have e2 : (l.take i).length = i := by simp; omega
  unfold takeZ
  rw [List.getD_eq_getElem?_getD, List.getElem?_append_right (by omega), e2, Nat.sub_self, List.getElem?_replicate]
  split <;> rfl
theorem outB_get {R : List UInt32} {i : Nat} (h : i < 32) : (outB R).getD i 0 = (R.getD (i / 4) 0 >>> UInt32.ofNat (24 - 8 * (i % 4))).toUInt8 := by
  unfold outB; rw [List.getD_eq_getElem?_getD, List.getElem?_map, List.getElem?_range h]; rfl
theorem outZ_set {R : List UInt32} {i : Nat} (h : i < 32) : (takeZ (outB R) 32 i).set i (R.getD (i / 4) 0 >>> UInt32.ofNat (24 - 8 * (i % 4))).toUInt8 = takeZ (outB R) 32 (i + 1) := by rw [← outB_get h, takeZ_set outB_len h]
theorem sum_end {l : List UInt8} {R : List UInt32} {W : List UInt8} (h : SI (pad l) R W) : outB R = sumL l := by
  obtain ⟨n, hn, _⟩ := pad_len l
  unfold sumL
  rw [h.2.2.1, List.take_of_length_le (by omega)]
/-- the first i bytes of k, filled with noughts, have c put in -/
def xorI (k : List UInt8) (c : UInt8) (i : Nat) : List UInt8 := (List.range 64).map fun j => if j < i then k.getD j 0 ^^^ c else k.getD j 0
@[simp] theorem xorI_len {k : List UInt8} {c : UInt8} {i : Nat} : (xorI k c i).length = 64 := by simp [xorI]
theorem xorI_0 {k : List UInt8} {c : UInt8} (h : k.length ≤ 64) : xorI k c 0 = k ++ List.replicate (64 - k.length) 0 := by
  apply List.ext_getElem (by simp; omega)
  intro j h1 h2
  simp only [xorI_len] at h1
  simp only [xorI, List.getElem_map, List.getElem_range, Nat.not_lt_zero, if_false]
  rw [List.getD_eq_getElem?_getD]
  by_cases hj : j < k.length
  · rw [List.getElem_append_left hj, List.getElem?_eq_getElem hj]; rfl
  · rw [List.getElem_append_right (by omega), List.getElem?_eq_none (by omega)]; simp
theorem xorI_get {k : List UInt8} {c : UInt8} {i j : Nat} (h : j < 64) : (xorI k c i).getD j 0 = if j < i then k.getD j 0 ^^^ c else k.getD j 0 := by
  rw [xorI, List.getD_eq_getElem?_getD, List.getElem?_map, List.getElem?_range h]; rfl
theorem xorI_set {k : List UInt8} {c : UInt8} {i : Nat} (h : i < 64) : (xorI k c i).set i ((xorI k c i).getD i 0 ^^^ c) = xorI k c (i + 1) := by
  rw [xorI_get h, if_neg (Nat.lt_irrefl _)]
  apply List.ext_getElem (by simp)
  intro j h1 h2
  rw [List.getElem_set]
  simp only [xorI, List.getElem_map, List.getElem_range]
  split
  · subst_vars; rw [if_pos (by omega)]
  · by_cases c : j < i
    · rw [if_pos c, if_pos (by omega)]
    · rw [if_neg c, if_neg (by omega)]
theorem xorI_64 {k : List UInt8} {c : UInt8} : xorI k c 64 = xorPad k c := by
  apply List.ext_getElem (by simp)
  intro j h1 h2
  simp only [xorI_len] at h1
  simp only [xorI, xorPad, List.getElem_map, List.getElem_range, if_pos h1]
theorem foldB_next {r : List UInt32} {p : List UInt8} {j : Nat} (h : 64 * (j + 1) ≤ p.length) : blockF (foldB r (p.take (64 * j))) ((p.drop (64 * j)).take 64) = foldB r (p.take (64 * (j + 1))) := by
  have e : p.take (64 * (j + 1)) = p.take (64 * j) ++ (p.drop (64 * j)).take 64 := by rw [Nat.mul_succ, List.take_add]
  rw [e, foldB_app _ j _ _ (by simp; omega)]
  exact (foldB_one (by simp; omega)).symm
theorem outB_snoc {R : List UInt32} {i : Nat} (h : i < 8) : (outB R).take (4 * i) ++ [(R.getD i 0 >>> UInt32.ofNat 24).toUInt8, (R.getD i 0 >>> UInt32.ofNat 16).toUInt8, (R.getD i 0 >>> UInt32.ofNat 8).toUInt8, (R.getD i 0).toUInt8] = (outB R).take (4 * (i + 1)) := by
  have g : ∀ j, j < 4 → (outB R).getD (4 * i + j) 0 = (R.getD i 0 >>> UInt32.ofNat (24 - 8 * j)).toUInt8 := fun j hj => by
    rw [outB_get (by omega)]
    have e1 : (4 * i + j) / 4 = i := by omega
    have e2 : (4 * i + j) % 4 = j := by omega
    rw [e1, e2]
  have s : ∀ k, k < 32 → (outB R).take (k + 1) = (outB R).take k ++ [(outB R).getD k 0] := fun k hk => take_snocD (by simpa using hk)
  have h0 := g 0 (by omega); have h1 := g 1 (by omega); have h2 := g 2 (by omega); have h3 := g 3 (by omega)
  have e3 : R.getD i 0 >>> UInt32.ofNat (24 - 8 * 3) = R.getD i 0 := by
    apply UInt32.toNat.inj; simp [UInt32.toNat_shiftRight]
  rw [e3] at h3
  rw [show 4 * (i + 1) = 4 * i + 3 + 1 from rfl, s _ (by omega), s _ (by omega), s _ (by omega), s _ (by omega)]
  rw [Nat.add_zero] at h0
  rw [h0, h1, h2, h3]; simp
theorem pad_def {l : List UInt8} : l ++ [128] ++ List.replicate (zc l.length) 0 ++ len8 l.length 8 = pad l := rfl
theorem sum_def {l : List UInt8} : outB (foldB beginL (pad l)) = sumL l := rfl
theorem out_all {l : List UInt8} : (outB (foldB beginL (pad l))).take (4 * 8) = sumL l := by rw [List.take_of_length_le (by simp), sum_def]
theorem xorPad_get {k : List UInt8} {c : UInt8} {i : Nat} (h : i < 64) : (xorPad k c).getD i 0 = k.getD i 0 ^^^ c := by
  unfold xorPad; rw [List.getD_eq_getElem?_getD, List.getElem?_map, List.getElem?_range h]; rfl
theorem padT {k : List UInt8} {c : UInt8} {i : Nat} (h : i < 64) : ((takeZ (xorPad k c) 64 i).set i (k.getD i 0)).set i (((takeZ (xorPad k c) 64 i).set i (k.getD i 0)).getD i 0 ^^^ c) = takeZ (xorPad k c) 64 (i + 1) := by
  have hl : i < (takeZ (xorPad k c) 64 i).length := by rw [takeZ_len xorPad_len (by omega)]; exact h
  have e : ((takeZ (xorPad k c) 64 i).set i (k.getD i 0)).getD i 0 = k.getD i 0 := by rw [List.getD_eq_getElem?_getD, List.getElem?_set_self hl]; rfl
  rw [e, List.set_set, ← xorPad_get h, takeZ_set xorPad_len h]
theorem padF {k : List UInt8} {c : UInt8} {i : Nat} (h : i < 64) (hk : k.length ≤ i) : (takeZ (xorPad k c) 64 i).set i ((takeZ (xorPad k c) 64 i).getD i 0 ^^^ c) = takeZ (xorPad k c) 64 (i + 1) := by
  have e : k.getD i 0 = 0 := by rw [List.getD_eq_getElem?_getD, List.getElem?_eq_none hk]; rfl
  rw [takeZ_getD xorPad_len h, ← e, ← xorPad_get h, takeZ_set xorPad_len h]
theorem or_xor_0 (a x y : UInt8) : a ||| (x ^^^ y) = 0 ↔ a = 0 ∧ x = y := by
  constructor
  · intro h
    have h1 := congrArg UInt8.toNat h
    rw [UInt8.toNat_or, UInt8.toNat_xor] at h1
    have h2 := Nat.or_eq_zero_iff.1 h1
    refine ⟨UInt8.toNat.inj h2.1, UInt8.toNat.inj ?_⟩
    have := h2.2
    exact Nat.eq_of_testBit_eq fun i => by
      have h3 := congrArg (fun n => Nat.testBit n i) this
      simp only [Nat.testBit_xor, Nat.zero_testBit] at h3
      cases ha : Nat.testBit x.toNat i <;> cases hb : Nat.testBit y.toNat i <;> simp [ha, hb] at h3 ⊢
  · rintro ⟨rfl, rfl⟩; simp
theorem take_eq_snoc {l m : List UInt8} {i : Nat} (hl : i < l.length) (hm : i < m.length) : (l.take (i + 1) = m.take (i + 1)) ↔ (l.take i = m.take i ∧ l.getD i 0 = m.getD i 0) := by
  rw [take_snocD hl, take_snocD hm]
  constructor
  · intro h
    have := List.append_inj' h rfl
    exact ⟨this.1, by simpa using this.2⟩
  · rintro ⟨h1, h2⟩; rw [h1, h2]
end Go.Proofs.YtfofkjajlfphjaaDoor
