/- SHA-256 over many zero blocks, as the kernel reckons it fast. Own work. -/
import Derived.Test.YtfofkjajlfphjaaDoorNatSha
import Derived.KernelRfl
set_option linter.unusedSimpArgs false
set_option linter.unusedVariables false
namespace Go.Proofs.YtfofkjajlfphjaaDoor
open Go
set_option maxRecDepth 100000
def kZ : List Nat := [1116352408, 1899447441, 3049323471, 3921009573, 961987163, 1508970993, 2453635748, 2870763221, 3624381080, 310598401, 607225278, 1426881987, 1925078388, 2162078206, 2614888103, 3248222580, 3835390401, 4022224774, 264347078, 604807628, 770255983, 1249150122, 1555081692, 1996064986, 2554220882, 2821834349, 2952996808, 3210313671, 3336571891, 3584528711, 113926993, 338241895, 666307205, 773529912, 1294757372, 1396182291, 1695183700, 1986661051, 2177026350, 2456956037, 2730485921, 2820302411, 3259730800, 3345764771, 3516065817, 3600352804, 4094571909, 275423344, 430227734, 506948616, 659060556, 883997877, 958139571, 1322822218, 1537002063, 1747873779, 1955562222, 2024104815, 2227730452, 2361852424, 2428436474, 2756734187, 3204031479, 3329325298]
theorem kZ_is : kN = kZ := by decide +kernel
def goZ : List Nat → Nat → Nat → Nat → Nat → Nat → Nat → Nat → Nat → (Nat → Nat → Nat → Nat → Nat → Nat → Nat → Nat → List Nat) → List Nat
  | [], a, b, c, d, e, f, g, h, k => k a b c d e f g h
  | t :: ks, a, b, c, d, e, f, g, h, k =>
      st (Nat.mul e 4294967297) fun X =>
      st (Nat.mul a 4294967297) fun Y =>
      st (Nat.add (Nat.add (Nat.add h t) (Nat.mod (Nat.xor (Nat.xor (Nat.shiftRight X 6) (Nat.shiftRight X 11)) (Nat.shiftRight X 25)) 4294967296)) (Nat.xor g (Nat.land e (Nat.xor f g)))) fun T =>
      st (Nat.mod (Nat.add (Nat.add T (Nat.mod (Nat.xor (Nat.xor (Nat.shiftRight Y 2) (Nat.shiftRight Y 13)) (Nat.shiftRight Y 22)) 4294967296)) (Nat.lor (Nat.land a b) (Nat.land c (Nat.lor a b)))) 4294967296) fun a' =>
      st (Nat.mod (Nat.add d T) 4294967296) fun e' =>
      goZ ks a' a b c e' e f g k
def blkZ : List Nat → List Nat
  | [a, b, c, d, e, f, g, h] => goZ kZ a b c d e f g h fun a' b' c' d' e' f' g' h' =>
      st (Nat.mod (Nat.add a a') 4294967296) fun a => st (Nat.mod (Nat.add b b') 4294967296) fun b => st (Nat.mod (Nat.add c c') 4294967296) fun c => st (Nat.mod (Nat.add d d') 4294967296) fun d => st (Nat.mod (Nat.add e e') 4294967296) fun e => st (Nat.mod (Nat.add f f') 4294967296) fun f => st (Nat.mod (Nat.add g g') 4294967296) fun g => st (Nat.mod (Nat.add h h') 4294967296) fun h => [a, b, c, d, e, f, g, h]
  | _ => []
def itZ : Nat → List Nat → List Nat
  | 0, r => r
  | n + 1, r => itZ n (blkZ r)
theorem itZ_add : ∀ (m n : Nat) (r : List Nat), itZ (m + n) r = itZ n (itZ m r)
  | 0, n, r => by rw [Nat.zero_add]; rfl
  | m + 1, n, r => by rw [show m + 1 + n = (m + n) + 1 by omega]; exact itZ_add m n (blkZ r)
theorem rot_lem (x p q k : Nat) (hk : q = 2 ^ k) (hpq : p * q = 4294967296) (hp : 0 < p) (hq : 0 < q) (e1 : x * q % 4294967296 = (x % p) * q) (hx : x / p < q) (e3 : x * 4294967297 / p = 4294967296 * (x / p) + ((x % p) * q + x / p)) (e4 : (x % p) * q + x / p < 4294967296) : (x * 4294967297 / p) % 4294967296 = (x / p) ||| (x * q % 4294967296) := by
  rw [e1, e3, Nat.mul_add_mod, Nat.mod_eq_of_lt e4, Nat.or_comm, hk, or_add _ _ k (by rw [← hk]; exact hx)]
theorem rot2 (x : Nat) (hx : x < 4294967296) : (Nat.shiftRight (x * 4294967297) 2) % 4294967296 = rN x 2 := by
  show ((x * 4294967297) >>> 2) % 4294967296 = _
  rw [rN, M32, Nat.shiftRight_eq_div_pow, Nat.shiftRight_eq_div_pow, Nat.shiftLeft_eq]
  exact rot_lem x (2 ^ 2) (2 ^ (32 - 2)) 30 rfl rfl (by decide) (by decide) (by omega) (by omega) (by omega) (by omega)
theorem rot6 (x : Nat) (hx : x < 4294967296) : (Nat.shiftRight (x * 4294967297) 6) % 4294967296 = rN x 6 := by
  show ((x * 4294967297) >>> 6) % 4294967296 = _
  rw [rN, M32, Nat.shiftRight_eq_div_pow, Nat.shiftRight_eq_div_pow, Nat.shiftLeft_eq]
  exact rot_lem x (2 ^ 6) (2 ^ (32 - 6)) 26 rfl rfl (by decide) (by decide) (by omega) (by omega) (by omega) (by omega)
theorem rot11 (x : Nat) (hx : x < 4294967296) : (Nat.shiftRight (x * 4294967297) 11) % 4294967296 = rN x 11 := by
  show ((x * 4294967297) >>> 11) % 4294967296 = _
  rw [rN, M32, Nat.shiftRight_eq_div_pow, Nat.shiftRight_eq_div_pow, Nat.shiftLeft_eq]
  exact rot_lem x (2 ^ 11) (2 ^ (32 - 11)) 21 rfl rfl (by decide) (by decide) (by omega) (by omega) (by omega) (by omega)
theorem rot13 (x : Nat) (hx : x < 4294967296) : (Nat.shiftRight (x * 4294967297) 13) % 4294967296 = rN x 13 := by
  show ((x * 4294967297) >>> 13) % 4294967296 = _
  rw [rN, M32, Nat.shiftRight_eq_div_pow, Nat.shiftRight_eq_div_pow, Nat.shiftLeft_eq]
  exact rot_lem x (2 ^ 13) (2 ^ (32 - 13)) 19 rfl rfl (by decide) (by decide) (by omega) (by omega) (by omega) (by omega)
theorem rot22 (x : Nat) (hx : x < 4294967296) : (Nat.shiftRight (x * 4294967297) 22) % 4294967296 = rN x 22 := by
  show ((x * 4294967297) >>> 22) % 4294967296 = _
  rw [rN, M32, Nat.shiftRight_eq_div_pow, Nat.shiftRight_eq_div_pow, Nat.shiftLeft_eq]
  exact rot_lem x (2 ^ 22) (2 ^ (32 - 22)) 10 rfl rfl (by decide) (by decide) (by omega) (by omega) (by omega) (by omega)
theorem rot25 (x : Nat) (hx : x < 4294967296) : (Nat.shiftRight (x * 4294967297) 25) % 4294967296 = rN x 25 := by
  show ((x * 4294967297) >>> 25) % 4294967296 = _
  rw [rN, M32, Nat.shiftRight_eq_div_pow, Nat.shiftRight_eq_div_pow, Nat.shiftLeft_eq]
  exact rot_lem x (2 ^ 25) (2 ^ (32 - 25)) 7 rfl rfl (by decide) (by decide) (by omega) (by omega) (by omega) (by omega)
theorem xor_mod3 (a b c : Nat) : (Nat.xor (Nat.xor a b) c) % 4294967296 = (a % 4294967296) ^^^ (b % 4294967296) ^^^ (c % 4294967296) := by
  show (a ^^^ b ^^^ c) % 2 ^ 32 = _
  rw [Nat.xor_mod_two_pow, Nat.xor_mod_two_pow]
theorem s1_eq (e : Nat) (he : e < 4294967296) : (Nat.xor (Nat.xor (Nat.shiftRight (e * 4294967297) 6) (Nat.shiftRight (e * 4294967297) 11)) (Nat.shiftRight (e * 4294967297) 25)) % 4294967296 = rN e 6 ^^^ rN e 11 ^^^ rN e 25 := by
  rw [xor_mod3, rot6 e he, rot11 e he, rot25 e he]
theorem s0_eq (e : Nat) (he : e < 4294967296) : (Nat.xor (Nat.xor (Nat.shiftRight (e * 4294967297) 2) (Nat.shiftRight (e * 4294967297) 13)) (Nat.shiftRight (e * 4294967297) 22)) % 4294967296 = rN e 2 ^^^ rN e 13 ^^^ rN e 22 := by
  rw [xor_mod3, rot2 e he, rot13 e he, rot22 e he]
def Z16 : List Nat := [0, 0, 0, 0, 0, 0, 0, 0, 0, 0, 0, 0, 0, 0, 0, 0]
theorem goZ_eq : ∀ (ks : List Nat) (a b c d e f g h : Nat) (k : Nat → Nat → Nat → Nat → Nat → Nat → Nat → Nat → List Nat), a < 4294967296 → e < 4294967296 → ∃ a' b' c' d' e' f' g' h', goN ks Z16 a b c d e f g h = [a', b', c', d', e', f', g', h'] ∧ goZ ks a b c d e f g h k = k a' b' c' d' e' f' g' h'
  | [], a, b, c, d, e, f, g, h, k, _, _ => ⟨a, b, c, d, e, f, g, h, by rw [goN], rfl⟩
  | t :: ks, a, b, c, d, e, f, g, h, k, ha, he => by
    have hw : ((0 : Nat) + (rN 0 7 ^^^ rN 0 18 ^^^ (0 >>> 3)) + 0 + (rN 0 17 ^^^ rN 0 19 ^^^ (0 >>> 10))) % M32 = 0 := by decide
    obtain ⟨A, hA⟩ : ∃ A, A = ((h + (rN e 6 ^^^ rN e 11 ^^^ rN e 25) + (g ^^^ (e &&& (f ^^^ g))) + t + 0) % M32 + (rN a 2 ^^^ rN a 13 ^^^ rN a 22) + (a &&& b ||| c &&& (a ||| b))) % M32 := ⟨_, rfl⟩
    obtain ⟨E, hE⟩ : ∃ E, E = (d + (h + (rN e 6 ^^^ rN e 11 ^^^ rN e 25) + (g ^^^ (e &&& (f ^^^ g))) + t + 0) % M32) % M32 := ⟨_, rfl⟩
    have hA2 : A < 4294967296 := by rw [hA]; exact Nat.mod_lt _ (by decide)
    have hE2 : E < 4294967296 := by rw [hE]; exact Nat.mod_lt _ (by decide)
    obtain ⟨a', b', c', d', e', f', g', h', h1, h2⟩ := goZ_eq ks A a b c E e f g k hA2 hE2
    refine ⟨a', b', c', d', e', f', g', h', ?_, ?_⟩
    · rw [← h1, hA, hE]
      simp only [goN, Z16, st_eq, hw]
    · rw [← h2]
      simp only [goZ, st_eq]
      show goZ ks ((((h + t + (Nat.xor (Nat.xor (Nat.shiftRight (e * 4294967297) 6) (Nat.shiftRight (e * 4294967297) 11)) (Nat.shiftRight (e * 4294967297) 25)) % 4294967296 + (g ^^^ (e &&& (f ^^^ g))))) + (Nat.xor (Nat.xor (Nat.shiftRight (a * 4294967297) 2) (Nat.shiftRight (a * 4294967297) 13)) (Nat.shiftRight (a * 4294967297) 22)) % 4294967296 + (a &&& b ||| c &&& (a ||| b))) % 4294967296) a b c ((d + (h + t + (Nat.xor (Nat.xor (Nat.shiftRight (e * 4294967297) 6) (Nat.shiftRight (e * 4294967297) 11)) (Nat.shiftRight (e * 4294967297) 25)) % 4294967296 + (g ^^^ (e &&& (f ^^^ g))))) % 4294967296) e f g k = goZ ks A a b c E e f g k
      rw [s1_eq e he, s0_eq a ha, hA, hE]
      congr 1
      · simp only [M32]; omega
      · simp only [M32]; omega
theorem blkZ_eq {r : List Nat} (h8 : r.length = 8) (hb : ∀ x ∈ r, x < 4294967296) : blkN r Z16 = blkZ r := by
  match r, h8 with
  | [a, b, c, d, e, f, g, h], _ =>
    obtain ⟨a', b', c', d', e', f', g', h', h1, h2⟩ := goZ_eq kZ a b c d e f g h (fun a' b' c' d' e' f' g' h' => st (Nat.mod (Nat.add a a') 4294967296) fun a => st (Nat.mod (Nat.add b b') 4294967296) fun b => st (Nat.mod (Nat.add c c') 4294967296) fun c => st (Nat.mod (Nat.add d d') 4294967296) fun d => st (Nat.mod (Nat.add e e') 4294967296) fun e => st (Nat.mod (Nat.add f f') 4294967296) fun f => st (Nat.mod (Nat.add g g') 4294967296) fun g => st (Nat.mod (Nat.add h h') 4294967296) fun h => [a, b, c, d, e, f, g, h]) (hb a (by simp)) (hb e (by simp))
    rw [blkZ, h2, blkN, kZ_is, h1]
    simp only [st_eq]
    rfl
theorem lt32 (l : List UInt32) : ∀ x ∈ l.map UInt32.toNat, x < 4294967296 := fun x hx => by
  obtain ⟨u, _, rfl⟩ := List.mem_map.1 hx
  exact u.toNat_lt
theorem zwords : ((List.range 16).map fun i => (word (List.replicate 64 0) i).toNat) = Z16 := by decide +kernel
theorem fold_zero : ∀ (n : Nat) (r : List UInt32), r.length = 8 → (foldB r (List.replicate (64 * n) 0)).map UInt32.toNat = itZ n (r.map UInt32.toNat)
  | 0, r, _ => by rw [foldB_lt (by simp)]; rfl
  | n + 1, r, h8 => by
    have e : List.replicate (64 * (n + 1)) (0 : UInt8) = List.replicate 64 0 ++ List.replicate (64 * n) 0 := by rw [List.replicate_append_replicate]; congr 1; omega
    rw [e, foldB_app _ 1 _ _ (by simp), foldB_one (l := List.replicate 64 0) (by simp), fold_zero n _ blockF_len, blk_nat _ _ h8, zwords, blkZ_eq (by simpa using h8) (lt32 r)]
    rfl
/-- a text: two blocks, many noughts, a rest -/
theorem sum_zero {P m t : List UInt8} {n r nb L : Nat} (hP : P.length = 128) (hm : m = P ++ (List.replicate (64 * n) 0 ++ (List.replicate r 0 ++ t))) (hL : 128 + 64 * n + r + t.length = L) (hnb : r + t.length + 1 + zc L + 8 = 64 * nb) :
    sumL m = outN (foldN nb (itZ n (foldN 2 (beginL.map UInt32.toNat) P)) (List.replicate r 0 ++ t ++ [128] ++ List.replicate (zc L) 0 ++ len8 L 8)) := by
  have hml : m.length = L := by rw [hm]; simp; omega
  have hp : pad m = P ++ (List.replicate (64 * n) 0 ++ (List.replicate r 0 ++ t ++ [128] ++ List.replicate (zc L) 0 ++ len8 L 8)) := by
    rw [pad, hml, hm]; simp only [List.append_assoc]
  have h1 : (foldB beginL P).length = 8 := foldB_len rfl 2 _ (by omega)
  have h2 : (foldB (foldB beginL P) (List.replicate (64 * n) 0)).length = 8 := foldB_len h1 n _ (by simp)
  rw [sumL, out_nat, hp, foldB_app _ 2 _ _ (by omega), foldB_app _ n _ _ (by simp), fold_nat nb _ _ h2 (by simp; omega), fold_zero n _ h1, fold_nat 2 _ _ rfl (by omega)]
theorem zmsg {Q t : List UInt8} {k : UInt8} {N n r : Nat} (h : N = 63 + (64 * n + r)) : Q ++ (k :: (List.replicate N 0 ++ t)) = (Q ++ (k :: List.replicate 63 0)) ++ (List.replicate (64 * n) 0 ++ (List.replicate r 0 ++ t)) := by
  subst h
  rw [← List.replicate_append_replicate, ← List.replicate_append_replicate]
  simp only [List.append_assoc, List.cons_append]
theorem zmsg0 {Q : List UInt8} {k : UInt8} {N n r : Nat} (h : N = 63 + (64 * n + r)) : Q ++ (k :: List.replicate N 0) = (Q ++ (k :: List.replicate 63 0)) ++ (List.replicate (64 * n) 0 ++ (List.replicate r 0 ++ [])) :=
  (congrArg (fun l => Q ++ (k :: l)) (List.append_nil _).symm).trans (zmsg h)
end Go.Proofs.YtfofkjajlfphjaaDoor
