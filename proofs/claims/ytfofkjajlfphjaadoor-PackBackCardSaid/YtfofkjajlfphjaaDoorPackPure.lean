/- pack: plain functions: digits, numbers, entries, a writer's calls. Own work. -/
import Derived.Test.YtfofkjajlfphjaaDoorKeyPure
import Derived.Test.YtfofkjajlfphjaaDoorWaxPure
import Derived.Test.YtfofkjajlfphjaaDoorEngOne
set_option linter.unusedSimpArgs false
set_option linter.unusedVariables false
namespace Go.Proofs.YtfofkjajlfphjaaDoor
open Go
def digL : List UInt8 := [48, 49, 50, 51, 52, 53, 54, 55, 56, 57, 97, 98, 99, 100, 101, 102]
def hexL (l : List UInt8) : List UInt8 := l.flatMap fun x => [digL.getD (x.toNat / 16) 0, digL.getD (x.toNat % 16) 0]
@[simp] theorem hexL_len {l : List UInt8} : (hexL l).length = 2 * l.length := by
  induction l with
  | nil => rfl
  | cons x l ih => simp only [hexL, List.flatMap_cons, List.length_append, List.length_cons, List.length_nil] at ih ⊢; omega
theorem hexL_0 {l : List UInt8} : hexL (l.take 0) = [] := rfl
theorem hexL_take {l : List UInt8} {i : Nat} (h : i < l.length) : hexL (l.take i) ++ [digL.getD ((l.getD i 0).toNat / 16) 0, digL.getD ((l.getD i 0).toNat % 16) 0] = hexL (l.take (i + 1)) := by
  have e : l.getD i 0 = l[i] := by rw [List.getD_eq_getElem?_getD, List.getElem?_eq_getElem h]; rfl
  rw [e, List.take_add_one, List.getElem?_eq_getElem h]
  simp only [hexL, List.flatMap_append, Option.toList, List.flatMap_cons, List.flatMap_nil, List.append_nil]
def numL (n : Nat) : List UInt8 := if n < 128 then [UInt8.ofNat n] else UInt8.ofNat (n % 128 + 128) :: numL (n / 128)
termination_by n
theorem numL_lt {n : Nat} (h : n < 128) : numL n = [UInt8.ofNat n] := by rw [numL, if_pos h]
theorem numL_ge {n : Nat} (h : ¬ n < 128) : numL n = UInt8.ofNat (n % 128 + 128) :: numL (n / 128) := by rw [numL, if_neg h]
theorem numL_pos {n : Nat} : 1 ≤ (numL n).length := by rw [numL]; split <;> simp
theorem numL_len : ∀ (k : Nat) {n : Nat}, n < 128 ^ (k + 1) → (numL n).length ≤ k + 1
  | 0, n, h => by rw [numL_lt (by simpa using h)]; simp
  | k + 1, n, h => by
    by_cases h1 : n < 128
    · rw [numL_lt h1]; simp
    · rw [numL_ge h1, List.length_cons]
      have : n / 128 < 128 ^ (k + 1) := by rw [Nat.div_lt_iff_lt_mul (by decide)]; rw [Nat.pow_succ] at h; exact h
      have := numL_len k this; omega
/-- what is written, what is left -/
theorem numL_step {a : List UInt8} {n : Nat} (h : ¬ n < 128) : (a ++ [UInt8.ofNat n ||| 128]) ++ numL (n / 128) = a ++ numL n := by
  have e : UInt8.ofNat n ||| 128 = UInt8.ofNat (n % 128 + 128) := by
    apply UInt8.toNat_inj.1
    rw [UInt8.toNat_or, UInt8.toNat_ofNat', UInt8.toNat_ofNat']
    rw [show n % 2 ^ 8 = n % 256 by rfl, show (n % 128 + 128) % 2 ^ 8 = n % 128 + 128 by omega]
    have h2 : n % 128 = n % 256 % 128 := by omega
    rw [h2]
    have h3 : n % 256 < 256 := by omega
    generalize n % 256 = m at h3
    have : ∀ m, m < 256 → m ||| (128 : UInt8).toNat = m % 128 + 128 := by decide +kernel
    exact this m h3
  rw [numL_ge h, e]; simp
/-- a blob of a pack -/
structure Ent where
  id : List UInt8
  kind : Nat
  off : Nat
  len : Nat
  h : id.length = 32
deriving DecidableEq
def dEnt : Ent := ⟨List.replicate 32 0, 0, 0, 0, rfl⟩
def entC (e : Ent) : List Value := e.id.map B ++ [I ((e.kind : Nat) : Int), I ((e.off : Nat) : Int), I ((e.len : Nat) : Int)]
theorem entC_len (e : Ent) : (entC e).length = 35 := by simp [entC, e.h]
theorem ent_all (e : Ent) : ((entC e).drop 0).take 35 = e.id.map B ++ [I ((e.kind : Nat) : Int), I ((e.off : Nat) : Int), I ((e.len : Nat) : Int)] := by
  rw [List.drop_zero, List.take_of_length_le (Nat.le_of_eq (entC_len e))]; rfl
theorem ent_id (e : Ent) : ((entC e).drop 0).take 32 = e.id.map B := by rw [List.drop_zero]; exact List.take_left' (by simp [e.h])
theorem ent_at (e : Ent) (j : Nat) : (entC e)[32 + j]? = [I ((e.kind : Nat) : Int), I ((e.off : Nat) : Int), I ((e.len : Nat) : Int)][j]? := by
  rw [entC, List.getElem?_append_right (by simp [e.h])]; simp [e.h]
theorem ent_k (e : Ent) : (entC e)[32]? = some (I ((e.kind : Nat) : Int)) := ent_at e 0
theorem ent_o (e : Ent) : (entC e)[33]? = some (I ((e.off : Nat) : Int)) := ent_at e 1
theorem ent_l (e : Ent) : (entC e)[34]? = some (I ((e.len : Nat) : Int)) := ent_at e 2
theorem mapB_inj {l m : List UInt8} (h : l.map B = m.map B) : l = m := List.map_inj_right (fun a b hab => by
  have h3 : (a.toNat : Int) = b.toNat := by simpa [B] using hab
  exact UInt8.toNat.inj (by omega)) |>.1 h
theorem entC_inj {a b : Ent} : a.id.map B ++ [I ((a.kind : Nat) : Int), I ((a.off : Nat) : Int), I ((a.len : Nat) : Int)] = b.id.map B ++ [I ((b.kind : Nat) : Int), I ((b.off : Nat) : Int), I ((b.len : Nat) : Int)] ↔ a = b := by
  refine ⟨fun h => ?_, fun h => by rw [h]⟩
  have h2 := List.append_inj h (by simp [a.h, b.h])
  obtain ⟨ia, ka, oa, la, ha⟩ := a; obtain ⟨ib, kb, ob, lb, hb⟩ := b
  have h3 := mapB_inj h2.1
  have h4 := h2.2
  simp [I] at h3 h4
  obtain ⟨h5, h6, h7⟩ := h4
  have e5 : ka = kb := by omega
  have e6 : oa = ob := by omega
  have e7 : la = lb := by omega
  subst h3; subst e5; subst e6; subst e7; rfl
structure WSt where
  b : List UInt8
  l : List Ent
  p : Nat
def idF (nk : List UInt8) (kind : UInt8) (b : List UInt8) : List UInt8 := keyedL nk (kind :: b)
@[simp] theorem idF_len {nk b : List UInt8} {kind : UInt8} : (idF nk kind b).length = 32 := by simp [idF]
def four (n : Nat) : List UInt8 := [UInt8.ofNat (n / 2 ^ 24), UInt8.ofNat (n / 2 ^ 16), UInt8.ofNat (n / 2 ^ 8), UInt8.ofNat n]
def nameL (b : List UInt8) : List UInt8 := [112, 47] ++ (hexL (sumL b)).take 40
@[simp] theorem nameL_len {b : List UInt8} : (nameL b).length = 42 := by simp [nameL]
def entL (e : Ent) : List UInt8 := e.id ++ numL e.kind ++ numL e.len
def headL (l : List Ent) : List UInt8 := [72, 89, 104] ++ numL l.length ++ l.flatMap entL
/-- a writer's state is in order -/
structure WOk (s : WSt) : Prop where
  n : s.l.length ≤ 1000
  b : s.b.length ≤ 900000
  each : ∀ e ∈ s.l, 1 ≤ e.kind ∧ e.kind ≤ 2 ∧ e.off < 1048576 ∧ 48 ≤ e.len ∧ e.len < 1048576
structure Ring3 where
  h : List UInt8
  m : List UInt8
  n : List UInt8
structure ROk (r : Ring3) : Prop where
  h : r.h.length = 32
  m : r.m.length = 32
  n : r.n.length = 32
def Z32L : List UInt8 := List.replicate 32 0
def hasE (l : List Ent) (il : List UInt8) : Bool := l.any (fun e => decide (e.id = il))
/-- a blob: its name, whether it is new, the error -/
def addF (r : Ring3) (bg : List UInt8) (s : WSt) (kind : Int) (b : List UInt8) : (List UInt8 × Bool × Nat) × WSt :=
  if ¬ (kind = 1 ∨ kind = 2) then ((Z32L, false, 1), s)
  else if 131072 < b.length then ((Z32L, false, 4), s)
  else if hasE s.l (idF r.n (UInt8.ofNat kind.toNat) b) = true then ((idF r.n (UInt8.ofNat kind.toNat) b, false, 0), s)
  else if 1000 ≤ s.l.length ∨ 900000 < b.length + 48 + s.b.length then ((Z32L, false, 8), s)
  else ((idF r.n (UInt8.ofNat kind.toNat) b, true, 0),
    ⟨s.b ++ sealL r.h r.m (UInt8.ofNat kind.toNat) (hexL (idF r.n (UInt8.ofNat kind.toNat) b)) (tapeN bg s.p 16) b, s.l ++ [⟨idF r.n (UInt8.ofNat kind.toNat) b, kind.toNat, s.b.length, b.length + 48, idF_len⟩], s.p + 16⟩)
section
variable {r : Ring3} {bg : List UInt8} {s : WSt} {kind : Int} {b : List UInt8}
theorem addF_kind (h : ¬ (kind = 1 ∨ kind = 2)) : addF r bg s kind b = ((Z32L, false, 1), s) := by rw [addF, if_pos h]
theorem addF_big (h : kind = 1 ∨ kind = 2) (h1 : 131072 < b.length) : addF r bg s kind b = ((Z32L, false, 4), s) := by rw [addF, if_neg (not_not_intro h), if_pos h1]
theorem addF_has (h : kind = 1 ∨ kind = 2) (h1 : ¬ 131072 < b.length) (h2 : hasE s.l (idF r.n (UInt8.ofNat kind.toNat) b) = true) : addF r bg s kind b = ((idF r.n (UInt8.ofNat kind.toNat) b, false, 0), s) := by rw [addF, if_neg (not_not_intro h), if_neg h1, if_pos h2]
theorem addF_full (h : kind = 1 ∨ kind = 2) (h1 : ¬ 131072 < b.length) (h2 : hasE s.l (idF r.n (UInt8.ofNat kind.toNat) b) = false) (h3 : 1000 ≤ s.l.length ∨ 900000 < b.length + 48 + s.b.length) : addF r bg s kind b = ((Z32L, false, 8), s) := by
  rw [addF, if_neg (not_not_intro h), if_neg h1, if_neg (by rw [h2]; decide), if_pos h3]
theorem addF_ok (h : kind = 1 ∨ kind = 2) (h1 : ¬ 131072 < b.length) (h2 : hasE s.l (idF r.n (UInt8.ofNat kind.toNat) b) = false) (h3 : ¬ (1000 ≤ s.l.length ∨ 900000 < b.length + 48 + s.b.length)) : addF r bg s kind b =
    ((idF r.n (UInt8.ofNat kind.toNat) b, true, 0),
    ⟨s.b ++ sealL r.h r.m (UInt8.ofNat kind.toNat) (hexL (idF r.n (UInt8.ofNat kind.toNat) b)) (tapeN bg s.p 16) b, s.l ++ [⟨idF r.n (UInt8.ofNat kind.toNat) b, kind.toNat, s.b.length, b.length + 48, idF_len⟩], s.p + 16⟩) := by
  rw [addF, if_neg (not_not_intro h), if_neg h1, if_neg (by rw [h2]; decide), if_neg h3]
end
def packL (r : Ring3) (bg : List UInt8) (s : WSt) : List UInt8 := s.b ++ sealL r.h r.m 104 [104, 101, 97, 100] (tapeN bg s.p 16) (headL s.l) ++ four ((headL s.l).length + 48)
def closeF (r : Ring3) (bg : List UInt8) (s : WSt) : (List UInt8 × List UInt8 × List Ent × Nat) × WSt :=
  if s.l = [] then (([], [], [], 15), s) else ((nameL (packL r bg s), packL r bg s, s.l, 0), ⟨[], [], s.p + 16⟩)
theorem closeF_nil {r : Ring3} {bg : List UInt8} {s : WSt} (h : s.l = []) : closeF r bg s = (([], [], [], 15), s) := by rw [closeF, if_pos h]
theorem closeF_ok {r : Ring3} {bg : List UInt8} {s : WSt} (h : ¬ s.l = []) : closeF r bg s = ((nameL (packL r bg s), packL r bg s, s.l, 0), ⟨[], [], s.p + 16⟩) := by rw [closeF, if_neg h]
/-- the head, as far as it is written -/
def headP (l : List Ent) (i : Nat) : List UInt8 := [72, 89, 104] ++ numL l.length ++ (l.take i).flatMap entL
theorem headP_0 {l : List Ent} : [72, 89, 104] ++ numL l.length = headP l 0 := by simp [headP]
theorem headP_all {l : List Ent} : headP l l.length = headL l := by rw [headP, List.take_length]; rfl
theorem headP_succ {l : List Ent} {i : Nat} (h : i < l.length) : headP l i ++ (l.getD i dEnt).id ++ numL (l.getD i dEnt).kind ++ numL (l.getD i dEnt).len = headP l (i + 1) := by
  have e : l.getD i dEnt = l[i] := by rw [List.getD_eq_getElem?_getD, List.getElem?_eq_getElem h]; rfl
  rw [e, headP, headP, List.take_add_one, List.getElem?_eq_getElem h]
  simp only [List.flatMap_append, Option.toList, List.flatMap_cons, List.flatMap_nil, List.append_nil, entL, List.append_assoc]
theorem entL_len {e : Ent} (h : e.kind < 4611686018427387904 ∧ e.len < 4611686018427387904) : (entL e).length ≤ 50 := by
  have h1 := numL_len 8 (n := e.kind) (by omega)
  have h2 := numL_len 8 (n := e.len) (by omega)
  simp only [entL, List.length_append, e.h]; omega
theorem ents_len : ∀ {l : List Ent}, (∀ e ∈ l, e.kind < 4611686018427387904 ∧ e.len < 4611686018427387904) → (l.flatMap entL).length ≤ 50 * l.length
  | [], _ => by simp
  | e :: l, h => by
    have h1 := ents_len (l := l) (fun x hx => h x (List.mem_cons_of_mem _ hx))
    have h2 := entL_len (h e (List.mem_cons_self ..))
    simp only [List.flatMap_cons, List.length_append, List.length_cons]; omega
theorem headP_len {l : List Ent} (h : ∀ e ∈ l, e.kind < 4611686018427387904 ∧ e.len < 4611686018427387904) (hn : l.length < 4611686018427387904) (i : Nat) : (headP l i).length ≤ 12 + 50 * l.length := by
  have h1 := ents_len (l := l.take i) (fun e he => h e (List.mem_of_mem_take he))
  have h2 := numL_len 8 (n := l.length) (by omega)
  have h3 : (l.take i).length ≤ l.length := by simp; omega
  simp only [headP, List.length_append, List.length_cons, List.length_nil]; omega
theorem headL_len {l : List Ent} (h : ∀ e ∈ l, e.kind < 4611686018427387904 ∧ e.len < 4611686018427387904) (hn : l.length < 4611686018427387904) : (headL l).length ≤ 12 + 50 * l.length := by
  rw [← headP_all]; exact headP_len h hn _
end Go.Proofs.YtfofkjajlfphjaaDoor
