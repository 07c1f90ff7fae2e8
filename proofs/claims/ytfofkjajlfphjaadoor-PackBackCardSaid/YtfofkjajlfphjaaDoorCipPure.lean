/- cipher: what its functions compute, as plain Lean functions on bytes. No program in sight. -/
import Derived.KernelRfl
set_option linter.unusedSimpArgs false
set_option linter.unusedVariables false
namespace Go.Proofs.YtfofkjajlfphjaaDoor.Cip
def twice8 (x : UInt8) : UInt8 := UInt8.ofNat (x.toNat * 2 ^ 1) ^^^ (-(UInt8.ofNat (x.toNat / 2 ^ 7)) &&& 27)
def fwd : List UInt8 := [
  0x63, 0x7c, 0x77, 0x7b, 0xf2, 0x6b, 0x6f, 0xc5, 0x30, 0x01, 0x67, 0x2b, 0xfe, 0xd7, 0xab, 0x76,
  0xca, 0x82, 0xc9, 0x7d, 0xfa, 0x59, 0x47, 0xf0, 0xad, 0xd4, 0xa2, 0xaf, 0x9c, 0xa4, 0x72, 0xc0,
  0xb7, 0xfd, 0x93, 0x26, 0x36, 0x3f, 0xf7, 0xcc, 0x34, 0xa5, 0xe5, 0xf1, 0x71, 0xd8, 0x31, 0x15,
  0x04, 0xc7, 0x23, 0xc3, 0x18, 0x96, 0x05, 0x9a, 0x07, 0x12, 0x80, 0xe2, 0xeb, 0x27, 0xb2, 0x75,
  0x09, 0x83, 0x2c, 0x1a, 0x1b, 0x6e, 0x5a, 0xa0, 0x52, 0x3b, 0xd6, 0xb3, 0x29, 0xe3, 0x2f, 0x84,
  0x53, 0xd1, 0x00, 0xed, 0x20, 0xfc, 0xb1, 0x5b, 0x6a, 0xcb, 0xbe, 0x39, 0x4a, 0x4c, 0x58, 0xcf,
  0xd0, 0xef, 0xaa, 0xfb, 0x43, 0x4d, 0x33, 0x85, 0x45, 0xf9, 0x02, 0x7f, 0x50, 0x3c, 0x9f, 0xa8,
  0x51, 0xa3, 0x40, 0x8f, 0x92, 0x9d, 0x38, 0xf5, 0xbc, 0xb6, 0xda, 0x21, 0x10, 0xff, 0xf3, 0xd2,
  0xcd, 0x0c, 0x13, 0xec, 0x5f, 0x97, 0x44, 0x17, 0xc4, 0xa7, 0x7e, 0x3d, 0x64, 0x5d, 0x19, 0x73,
  0x60, 0x81, 0x4f, 0xdc, 0x22, 0x2a, 0x90, 0x88, 0x46, 0xee, 0xb8, 0x14, 0xde, 0x5e, 0x0b, 0xdb,
  0xe0, 0x32, 0x3a, 0x0a, 0x49, 0x06, 0x24, 0x5c, 0xc2, 0xd3, 0xac, 0x62, 0x91, 0x95, 0xe4, 0x79,
  0xe7, 0xc8, 0x37, 0x6d, 0x8d, 0xd5, 0x4e, 0xa9, 0x6c, 0x56, 0xf4, 0xea, 0x65, 0x7a, 0xae, 0x08,
  0xba, 0x78, 0x25, 0x2e, 0x1c, 0xa6, 0xb4, 0xc6, 0xe8, 0xdd, 0x74, 0x1f, 0x4b, 0xbd, 0x8b, 0x8a,
  0x70, 0x3e, 0xb5, 0x66, 0x48, 0x03, 0xf6, 0x0e, 0x61, 0x35, 0x57, 0xb9, 0x86, 0xc1, 0x1d, 0x9e,
  0xe1, 0xf8, 0x98, 0x11, 0x69, 0xd9, 0x8e, 0x94, 0x9b, 0x1e, 0x87, 0xe9, 0xce, 0x55, 0x28, 0xdf,
  0x8c, 0xa1, 0x89, 0x0d, 0xbf, 0xe6, 0x42, 0x68, 0x41, 0x99, 0x2d, 0x0f, 0xb0, 0x54, 0xbb, 0x16]
theorem fwd_len : fwd.length = 256 := by kernel_rfl
def sbox (b : UInt8) : UInt8 := fwd.getD b.toNat 0
def addTo (K : List UInt8) (r : Nat) (V : List UInt8) : Nat → List UInt8
  | 0 => V
  | k + 1 => (addTo K r V k).set k ((addTo K r V k).getD k 0 ^^^ K.getD (16 * r + k) 0)
theorem addTo_succ {K : List UInt8} {r : Nat} {V : List UInt8} {k : Nat} : addTo K r V (k + 1) = (addTo K r V k).set k ((addTo K r V k).getD k 0 ^^^ K.getD (16 * r + k) 0) := rfl
@[simp] theorem addTo_len {K : List UInt8} {r : Nat} {V : List UInt8} {k : Nat} : (addTo K r V k).length = V.length := by
  induction k with
  | zero => rfl
  | succ k ih => rw [addTo_succ]; simp [ih]
def shTo (V : List UInt8) : Nat → List UInt8
  | 0 => List.replicate 16 0
  | k + 1 => (shTo V k).set k (sbox (V.getD ((k + k % 4 * 4) % 16) 0))
theorem shTo_succ {V : List UInt8} {k : Nat} : shTo V (k + 1) = (shTo V k).set k (sbox (V.getD ((k + k % 4 * 4) % 16) 0)) := rfl
@[simp] theorem shTo_len {V : List UInt8} {k : Nat} : (shTo V k).length = 16 := by
  induction k with
  | zero => rfl
  | succ k ih => rw [shTo_succ]; simp [ih]
def mix1 (V : List UInt8) (c : Nat) : List UInt8 :=
  let a := V.getD c 0; let b := V.getD (c + 1) 0; let d := V.getD (c + 2) 0; let e := V.getD (c + 3) 0
  let all := a ^^^ b ^^^ d ^^^ e
  let V1 := V.set c (V.getD c 0 ^^^ (all ^^^ twice8 (a ^^^ b)))
  let V2 := V1.set (c + 1) (V1.getD (c + 1) 0 ^^^ (all ^^^ twice8 (b ^^^ d)))
  let V3 := V2.set (c + 2) (V2.getD (c + 2) 0 ^^^ (all ^^^ twice8 (d ^^^ e)))
  V3.set (c + 3) (V3.getD (c + 3) 0 ^^^ (all ^^^ twice8 (e ^^^ a)))
def mixTo (V : List UInt8) : Nat → List UInt8
  | 0 => V
  | k + 1 => mix1 (mixTo V k) (4 * k)
@[simp] theorem mix1_len {V : List UInt8} {c : Nat} : (mix1 V c).length = V.length := by simp [mix1]
@[simp] theorem mixTo_len {V : List UInt8} {k : Nat} : (mixTo V k).length = V.length := by
  induction k with
  | zero => rfl
  | succ k ih => simp [mixTo, ih]
def turnTo (K V : List UInt8) : Nat → List UInt8
  | 0 => addTo K 0 V 16
  | r + 1 => addTo K (r + 1) (if r + 1 < 14 then mixTo (shTo (turnTo K V r) 16) 4 else shTo (turnTo K V r) 16) 16
@[simp] theorem turnTo_len {K V : List UInt8} {r : Nat} (h : V.length = 16) : (turnTo K V r).length = 16 := by
  cases r with
  | zero => simp [turnTo, h]
  | succ r => simp only [turnTo, addTo_len]; split <;> simp
/-- AES-256's turn of a block by the round keys -/
def turn (K V : List UInt8) : List UInt8 := turnTo K V 14
/-! ## the round keys -/
def initTo (b : List UInt8) (i : Nat) : List UInt8 := b.take (i * 4) ++ List.replicate (240 - i * 4) 0
@[simp] theorem initTo_len {b : List UInt8} {i : Nat} (hb : b.length = 32) (hi : i ≤ 8) : (initTo b i).length = 240 := by simp [initTo]; omega
theorem initTo_succ {b : List UInt8} {i : Nat} (hb : b.length = 32) (hi : i < 8) : initTo b (i + 1) = (initTo b i).take (i * 4) ++ (b.drop (i * 4)).take 4 ++ (initTo b i).drop (i * 4 + 4) := by
  have e1 : (b.take (i * 4)).length = i * 4 := by simp; omega
  have e2 : b.take ((i + 1) * 4) = b.take (i * 4) ++ (b.drop (i * 4)).take 4 := by
    rw [show (i + 1) * 4 = i * 4 + 4 by omega, List.take_add]
  have e3 : (initTo b i).take (i * 4) = b.take (i * 4) := by
    simp only [initTo]; rw [List.take_append_of_le_length (by omega), List.take_take, Nat.min_self]
  have e4 : (initTo b i).drop (i * 4 + 4) = List.replicate (240 - (i + 1) * 4) 0 := by
    simp only [initTo]; rw [List.drop_append, List.drop_eq_nil_of_le (by omega), e1, List.drop_replicate, List.nil_append]
    congr 1; omega
  rw [e3, e4]; simp only [initTo, e2]
def subTo (T : List UInt8) : Nat → List UInt8
  | 0 => T
  | j + 1 => (subTo T j).set j (sbox ((subTo T j).getD j 0))
@[simp] theorem subTo_len {T : List UInt8} {j : Nat} : (subTo T j).length = T.length := by
  induction j with
  | zero => rfl
  | succ j ih => simp [subTo, ih]
def word (W : List UInt8) (i : Nat) : List UInt8 := (W.drop (i * 4)).take 4
@[simp] theorem word_len {W : List UInt8} {i : Nat} (h : W.length = 240) (hi : i < 60) : (word W i).length = 4 := by simp [word, h]; omega
def tvA (t : List UInt8) (con : UInt8) : List UInt8 := [sbox (t.getD 1 0) ^^^ con, sbox (t.getD 2 0), sbox (t.getD 3 0), sbox (t.getD 0 0)]
/-- what is put to the word eight words ahead; n: the word's number less 8 -/
def tv (W : List UInt8) (n : Nat) (con : UInt8) : List UInt8 :=
  let t := word W (n + 7)
  if n % 8 = 0 then tvA t con else if n % 8 = 4 then subTo t 4 else t
def putTo (W : List UInt8) (n : Nat) (T : List UInt8) : Nat → List UInt8
  | 0 => W
  | j + 1 => (putTo W n T j).set ((n + 8) * 4 + j) ((putTo W n T j).getD (n * 4 + j) 0 ^^^ T.getD j 0)
@[simp] theorem putTo_len {W : List UInt8} {n : Nat} {T : List UInt8} {j : Nat} : (putTo W n T j).length = W.length := by
  induction j with
  | zero => rfl
  | succ j ih => simp [putTo, ih]
def conN (con : UInt8) (n : Nat) : UInt8 := if n % 8 = 0 then UInt8.ofNat (con.toNat * 2 ^ 1) else con
def expW (b : List UInt8) : Nat → List UInt8 × UInt8
  | 0 => (initTo b 8, 1)
  | n + 1 => (putTo (expW b n).1 n (tv (expW b n).1 n (expW b n).2) 4, conN (expW b n).2 n)
@[simp] theorem expW_len {b : List UInt8} {n : Nat} (hb : b.length = 32) : (expW b n).1.length = 240 := by
  induction n with
  | zero => exact initTo_len hb (by omega)
  | succ n ih => simp [expW, ih]
def keyW (b : List UInt8) : List UInt8 := (expW b 52).1
@[simp] theorem keyW_len {b : List UInt8} (hb : b.length = 32) : (keyW b).length = 240 := expW_len hb

/-! ## a flow's blocks -/
/-- the carry goes from the last byte to the first; k bytes are done -/
def plusTo (N : List UInt8) (n : Nat) : Nat → List UInt8 × Nat
  | 0 => (N, n)
  | k + 1 => let p := plusTo N n k
    if p.2 = 0 then p else (p.1.set (15 - k) (UInt8.ofNat (p.2 + (p.1.getD (15 - k) 0).toNat)), (p.2 + (p.1.getD (15 - k) 0).toNat) / 2 ^ 8)
@[simp] theorem plusTo_len {N : List UInt8} {n k : Nat} : (plusTo N n k).1.length = N.length := by
  induction k with
  | zero => rfl
  | succ k ih => simp only [plusTo]; split <;> simp [ih]
theorem plusTo_lt {N : List UInt8} {n k : Nat} (h : n < 2 ^ 63) : (plusTo N n k).2 < 2 ^ 63 := by
  induction k with
  | zero => exact h
  | succ k ih =>
    simp only [plusTo]; split
    · exact ih
    · have := ((plusTo N n k).1.getD (15 - k) 0).toNat_lt
      simp only; omega
theorem plusTo_done {N : List UInt8} {n k : Nat} (h : (plusTo N n k).2 = 0) (m : Nat) : plusTo N n (k + m) = plusTo N n k := by
  induction m with
  | zero => rfl
  | succ m ih => rw [← Nat.add_assoc]; simp only [plusTo]; rw [ih, if_pos h]
def plus (N : List UInt8) (n : Nat) : List UInt8 := (plusTo N n 16).1
@[simp] theorem plus_len {N : List UInt8} {n : Nat} : (plus N n).length = N.length := plusTo_len
theorem plus_at {N : List UInt8} {n k : Nat} (hk : k ≤ 16) (h : (plusTo N n k).2 = 0 ∨ k = 16) : plus N n = (plusTo N n k).1 := by
  rcases h with h | rfl
  · have := plusTo_done h (16 - k)
    rw [show k + (16 - k) = 16 by omega] at this
    rw [plus, this]
  · rfl
@[simp] theorem turn_len {K V : List UInt8} (h : V.length = 16) : (turn K V).length = 16 := turnTo_len h
/-- byte i of the flow of key words K and number N -/
def flowB (K N : List UInt8) (i : Nat) : UInt8 := (turn K (plus N (i / 16))).getD (i % 16) 0
/-- bytes from place at on -/
def hideL (K N : List UInt8) (at_ : Nat) (l : List UInt8) : List UInt8 := (List.range l.length).map fun i => l.getD i 0 ^^^ flowB K N (at_ + i)
@[simp] theorem hideL_len {K N : List UInt8} {at_ : Nat} {l : List UInt8} : (hideL K N at_ l).length = l.length := by simp [hideL]
@[simp] theorem hideL_nil {K N : List UInt8} {at_ : Nat} : hideL K N at_ [] = [] := rfl
theorem hideL_snoc {K N : List UInt8} {at_ : Nat} {l : List UInt8} {x : UInt8} : hideL K N at_ (l ++ [x]) = hideL K N at_ l ++ [x ^^^ flowB K N (at_ + l.length)] := by
  simp only [hideL, List.length_append, List.length_singleton, List.range_succ, List.map_append, List.map_cons, List.map_nil]
  congr 1
  · refine List.map_congr_left fun i hi => ?_
    have : i < l.length := List.mem_range.1 hi
    simp [List.getD_eq_getElem?_getD, List.getElem?_append_left this]
  · simp [List.getD_eq_getElem?_getD]
theorem flat_succ {α : Type} {Ps : List (α × List UInt8)} {i : Nat} {p : α × List UInt8} (h : Ps[i]? = some p) : (Ps.take (i + 1)).flatMap Prod.snd = (Ps.take i).flatMap Prod.snd ++ p.2 := by
  rw [List.take_add_one, h, List.flatMap_append]; simp
theorem flat_le {α : Type} {Ps : List (α × List UInt8)} {i : Nat} {p : α × List UInt8} (h : Ps[i]? = some p) : ((Ps.take i).flatMap Prod.snd).length + p.2.length ≤ (Ps.flatMap Prod.snd).length := by
  have e : Ps.flatMap Prod.snd = (Ps.take (i + 1)).flatMap Prod.snd ++ (Ps.drop (i + 1)).flatMap Prod.snd := by rw [← List.flatMap_append, List.take_append_drop]
  rw [e, flat_succ h]; simp
end Go.Proofs.YtfofkjajlfphjaaDoor.Cip
