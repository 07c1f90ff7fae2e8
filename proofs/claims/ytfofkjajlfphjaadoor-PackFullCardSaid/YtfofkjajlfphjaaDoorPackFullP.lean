/- pack: what PackFull's blobs do. Plain lemmas. Own work. -/
import Derived.Test.YtfofkjajlfphjaaDoorPackInv
import Derived.Test.YtfofkjajlfphjaaDoorZeroNumA
import Derived.Test.YtfofkjajlfphjaaDoorZeroNumB
set_option linter.unusedSimpArgs false
set_option linter.unusedVariables false
namespace Go.Proofs.YtfofkjajlfphjaaDoor
open Go
set_option maxRecDepth 100000
theorem cntP (n : Int) (q : Nat) (hq : 0 < q) : ∃ m : Nat, m < q ∧ (IntKind.u64.wrap n).tmod (q : Int) = (m : Int) := by
  have h0 : 0 ≤ IntKind.u64.wrap n := by rw [IntKind.wrap_u64]; omega
  have h1 : (IntKind.u64.wrap n).tmod (q : Int) = (IntKind.u64.wrap n) % (q : Int) := Int.tmod_eq_emod_of_nonneg h0
  have h2 : 0 ≤ (IntKind.u64.wrap n) % (q : Int) := Int.emod_nonneg _ (by omega)
  have h3 : (IntKind.u64.wrap n) % (q : Int) < q := Int.emod_lt_of_pos _ (by omega)
  exact ⟨((IntKind.u64.wrap n) % (q : Int)).toNat, by omega, by rw [h1]; omega⟩
def bl1 (s : Nat) : List UInt8 := List.replicate (131070 + s) 0
def bl2 (i : Nat) : List UInt8 := List.replicate 131071 0 ++ [UInt8.ofNat (i + 1)]
theorem bl1_len {s : Nat} : (bl1 s).length = 131070 + s := by simp [bl1]
theorem bl2_len {i : Nat} : (bl2 i).length = 131072 := by rw [bl2, List.length_append, List.length_replicate]; rfl
def i1 (s : Nat) : List UInt8 := idF (rg 3 3) 1 (bl1 s)
def i2 (i : Nat) : List UInt8 := idF (rg 3 3) 2 (bl2 i)
def l1 : Nat → List UInt8
  | 0 => [51, 38, 21, 188, 130, 130, 149, 143, 188, 71, 243, 5, 56, 174, 204, 153, 147, 196, 152, 46, 234, 146, 104, 50, 99, 226, 153, 143, 251, 161, 52, 235]
  | 1 => [68, 184, 88, 168, 109, 200, 180, 46, 86, 207, 157, 198, 156, 105, 136, 34, 49, 249, 238, 99, 55, 34, 231, 134, 204, 224, 29, 16, 54, 215, 36, 192]
  | 2 => [112, 62, 163, 43, 130, 219, 201, 188, 58, 16, 248, 91, 231, 107, 51, 165, 223, 255, 53, 195, 100, 221, 238, 98, 94, 180, 16, 90, 47, 15, 245, 128]
  | _ => []
def l2 : Nat → List UInt8
  | 0 => [136, 218, 30, 147, 179, 79, 255, 223, 57, 66, 57, 148, 140, 46, 11, 28, 63, 128, 207, 223, 155, 9, 108, 171, 92, 25, 70, 221, 77, 50, 11, 121]
  | 1 => [75, 47, 129, 85, 68, 159, 72, 45, 147, 177, 113, 104, 30, 51, 28, 46, 219, 62, 3, 24, 255, 31, 122, 241, 252, 247, 14, 64, 148, 211, 200, 57]
  | 2 => [200, 95, 69, 85, 208, 113, 194, 154, 159, 136, 83, 196, 10, 251, 179, 75, 19, 118, 123, 255, 241, 8, 211, 23, 57, 81, 154, 215, 52, 24, 188, 232]
  | 3 => [57, 63, 73, 244, 218, 191, 174, 74, 182, 138, 96, 246, 235, 211, 25, 30, 96, 186, 128, 101, 158, 12, 62, 221, 85, 225, 151, 49, 213, 226, 0, 207]
  | 4 => [28, 237, 159, 19, 227, 10, 81, 48, 189, 114, 93, 233, 160, 212, 183, 186, 32, 27, 155, 101, 7, 55, 169, 240, 209, 36, 60, 171, 220, 47, 123, 120]
  | 5 => [246, 70, 106, 190, 169, 107, 123, 1, 24, 228, 138, 114, 139, 52, 49, 126, 234, 187, 219, 159, 182, 139, 51, 209, 100, 39, 46, 164, 41, 187, 145, 137]
  | 6 => [54, 67, 50, 151, 21, 36, 218, 69, 202, 126, 165, 166, 131, 224, 89, 155, 81, 129, 107, 9, 84, 97, 10, 17, 117, 229, 22, 48, 71, 246, 238, 169]
  | 7 => [128, 190, 166, 107, 246, 44, 146, 100, 233, 172, 174, 122, 50, 175, 24, 130, 63, 51, 182, 67, 238, 208, 223, 245, 165, 233, 157, 52, 138, 240, 31, 147]
  | _ => []
theorem i1_is : ∀ s, s < 3 → i1 s = l1 s
  | 0, _ => id1_131070
  | 1, _ => id1_131071
  | 2, _ => id1_131072
  | s + 3, h => absurd h (by omega)
theorem i2_is : ∀ i, i < 8 → i2 i = l2 i
  | 0, _ => id2_0
  | 1, _ => id2_1
  | 2, _ => id2_2
  | 3, _ => id2_3
  | 4, _ => id2_4
  | 5, _ => id2_5
  | 6, _ => id2_6
  | 7, _ => id2_7
  | i + 8, h => absurd h (by omega)
theorem ne12 {s i : Nat} (hs : s < 3) (hi : i < 8) : i1 s ≠ i2 i := by
  rw [i1_is s hs, i2_is i hi]
  have h : ∀ s, s < 3 → ∀ i, i < 8 → l1 s ≠ l2 i := by decide +kernel
  exact h s hs i hi
theorem ne22 {j i : Nat} (hj : j < i) (hi : i < 8) : i2 j ≠ i2 i := by
  rw [i2_is j (by omega), i2_is i hi]
  have h : ∀ i, i < 8 → ∀ j, j < 8 → j < i → l2 j ≠ l2 i := by decide +kernel
  exact h i hi j (by omega) hj
structure FInv (s i : Nat) (q : WSt) : Prop where
  w : WOk2 q
  ids : ∀ e ∈ q.l, (s < 3 ∧ e.id = i1 s) ∨ ∃ j, j < i ∧ e.id = i2 j
  has : s < 3 → hasE q.l (i1 s) = true
  n : q.l.length ≤ 1 + i
  p : q.p ≤ 16 * (i + 1)
theorem full0 {s : Nat} (hs : s < 4) : (addQ 3 ⟨[], [], 0⟩ 1 (bl1 s)).1.2.1 = decide (s < 3) ∧ (s < 3 → (addQ 3 ⟨[], [], 0⟩ 1 (bl1 s)).1.2.2 = 0) ∧ (¬ s < 3 → (addQ 3 ⟨[], [], 0⟩ 1 (bl1 s)).1.2.2 = 4) ∧ FInv s 0 (addQ 3 ⟨[], [], 0⟩ 1 (bl1 s)).2 := by
  by_cases h : s < 3
  · have e : addQ 3 ⟨[], [], 0⟩ 1 (bl1 s) = _ := addF_ok (r := ⟨rg 3 1, rg 3 2, rg 3 3⟩) (bg := [3]) (s := ⟨[], [], 0⟩) (.inl rfl) (by rw [bl1_len]; omega) rfl (by rw [bl1_len]; dsimp only [List.length_nil]; omega)
    have hw := addQ_ok (n := 3) (k := 1) (x := bl1 s) wok0
    refine ⟨by rw [e, decide_eq_true h], fun _ => by rw [e], fun h2 => absurd h h2, hw.1, ?_, ?_, ?_, by simpa using hw.2⟩
    · rw [e]; intro x hx
      have : x = _ := List.mem_singleton.1 hx
      exact .inl ⟨h, by rw [this]; rfl⟩
    · intro _; rw [e]; exact List.any_eq_true.2 ⟨_, List.mem_singleton.2 rfl, decide_eq_true rfl⟩
    · rw [e]; simp
  · have e : addQ 3 ⟨[], [], 0⟩ 1 (bl1 s) = _ := addF_big (r := ⟨rg 3 1, rg 3 2, rg 3 3⟩) (bg := [3]) (.inl rfl) (by rw [bl1_len]; omega)
    rw [e]
    exact ⟨by rw [decide_eq_false h], fun h2 => absurd h2 h, fun _ => rfl, wok0, (fun x hx => nomatch hx), (fun h2 => absurd h2 h), Nat.zero_le _, Nat.zero_le _⟩
theorem full_step {s i : Nat} {q : WSt} (hs : s < 4) (hi : i < 8) (hq : FInv s i q) : (addQ 3 q 2 (bl2 i)).1.2.1 = decide (q.b.length ≤ 768880) ∧ FInv s (i + 1) (addQ 3 q 2 (bl2 i)).2 ∧
    (q.b.length ≤ 768880 → (addQ 3 q 2 (bl2 i)).1.2.2 = 0 ∧ (addQ 3 q 2 (bl2 i)).2.l.length = q.l.length + 1 ∧ (addQ 3 q 2 (bl2 i)).2.b.length = q.b.length + 131120) ∧
    (¬ q.b.length ≤ 768880 → (addQ 3 q 2 (bl2 i)).1.2.2 = 8 ∧ (addQ 3 q 2 (bl2 i)).2.l.length = q.l.length ∧ (addQ 3 q 2 (bl2 i)).2.b.length = q.b.length) := by
  have hn := hq.n
  have hno : hasE q.l (i2 i) = false := by
    rw [hasE, List.any_eq_false]
    intro x hx
    rcases hq.ids x hx with ⟨h1, h2⟩ | ⟨j, h1, h2⟩
    · rw [h2]; simpa using ne12 h1 hi
    · rw [h2]; simpa using ne22 h1 hi
  have hw := addQ_ok (n := 3) (k := 2) (x := bl2 i) hq.w
  have hp := hq.p
  by_cases h : q.b.length ≤ 768880
  · have e : addQ 3 q 2 (bl2 i) = _ := addF_ok (r := ⟨rg 3 1, rg 3 2, rg 3 3⟩) (bg := [3]) (s := q) (.inr rfl) (by rw [bl2_len]; omega) hno (by rw [bl2_len]; omega)
    refine ⟨by rw [e, decide_eq_true h], ⟨hw.1, ?_, ?_, ?_, by have := hw.2; omega⟩, fun _ => ⟨by rw [e], by rw [e]; simp, by rw [e]; dsimp only; rw [List.length_append, sealL_len tapeN_len, bl2_len]⟩, fun h2 => absurd h h2⟩
    · rw [e]; intro x hx
      rcases List.mem_append.1 hx with hx | hx
      · rcases hq.ids x hx with h1 | ⟨j, h1, h2⟩
        · exact .inl h1
        · exact .inr ⟨j, by omega, h2⟩
      · exact .inr ⟨i, by omega, by rw [List.mem_singleton.1 hx]; rfl⟩
    · intro h3; rw [e]
      obtain ⟨x, hx, hy⟩ := List.any_eq_true.1 (hq.has h3)
      exact List.any_eq_true.2 ⟨x, List.mem_append_left _ hx, hy⟩
    · rw [e]; simp; omega
  · have e : addQ 3 q 2 (bl2 i) = _ := addF_full (r := ⟨rg 3 1, rg 3 2, rg 3 3⟩) (bg := [3]) (s := q) (.inr rfl) (by rw [bl2_len]; omega) hno (.inr (by rw [bl2_len]; omega))
    rw [e]
    refine ⟨by rw [decide_eq_false h], ⟨hq.w, fun x hx => ?_, hq.has, by dsimp only; omega, by dsimp only; omega⟩, fun h2 => absurd h2 h, fun _ => ⟨rfl, rfl, rfl⟩⟩
    rcases hq.ids x hx with h1 | ⟨j, h1, h2⟩
    · exact .inl h1
    · exact .inr ⟨j, by omega, h2⟩
theorem full_end {s i : Nat} {q : WSt} (hs : s < 3) (hq : FInv s i q) : (addQ 3 q 1 (bl1 s)).1.2.1 = false ∧ (addQ 3 q 1 (bl1 s)).1.2.2 = 0 := by
  have e : addQ 3 q 1 (bl1 s) = _ := addF_has (r := ⟨rg 3 1, rg 3 2, rg 3 3⟩) (bg := [3]) (s := q) (.inl rfl) (by rw [bl1_len]; omega) (hq.has hs)
  rw [e]; exact ⟨rfl, rfl⟩
theorem bnen_iff {p q : Prop} [Decidable p] [Decidable q] (h : p ↔ ¬ q) : (decide p != !decide q) = false := by
  by_cases hq : q <;> simp [h, hq]
end Go.Proofs.YtfofkjajlfphjaaDoor
