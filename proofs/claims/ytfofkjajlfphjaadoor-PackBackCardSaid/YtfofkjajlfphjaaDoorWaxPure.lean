/- Seals on lists. Plain Lean, no program in sight. -/
import Derived.Test.YtfofkjajlfphjaaDoorSumPure
import Derived.Test.YtfofkjajlfphjaaDoorCipPure
import Derived.Test.YtfofkjajlfphjaaDoorCipApp
set_option linter.unusedSimpArgs false
set_option linter.unusedVariables false
namespace Go.Proofs.YtfofkjajlfphjaaDoor
def hidL (hk N l : List UInt8) : List UInt8 := Cip.hideL (Cip.keyW hk) N 0 l
@[simp] theorem hidL_len {hk N l : List UInt8} : (hidL hk N l).length = l.length := by simp [hidL]
theorem hidL_def {hk N l : List UInt8} : Cip.hideL (Cip.keyW hk) N 0 l = hidL hk N l := rfl
def markL (mk : List UInt8) (kind : UInt8) (name N h : List UInt8) : List UInt8 := keyedL mk ([kind, UInt8.ofNat name.length] ++ name ++ N ++ h)
@[simp] theorem markL_len {mk name N h : List UInt8} {kind : UInt8} : (markL mk kind name N h).length = 32 := by simp [markL]
theorem markL_def {mk name N h : List UInt8} {kind : UInt8} : keyedL mk ([kind, UInt8.ofNat name.length] ++ name ++ N ++ h) = markL mk kind name N h := rfl
def sealL (hk mk : List UInt8) (kind : UInt8) (name N l : List UInt8) : List UInt8 := N ++ hidL hk N l ++ markL mk kind name N (hidL hk N l)
theorem sealL_def {hk mk : List UInt8} {kind : UInt8} {name N l : List UInt8} : N ++ hidL hk N l ++ markL mk kind name N (hidL hk N l) = sealL hk mk kind name N l := rfl
theorem sealL_len {hk mk name N l : List UInt8} {kind : UInt8} (hN : N.length = 16) : (sealL hk mk kind name N l).length = l.length + 48 := by simp [sealL, hN]; omega
def sealF (hk mk : List UInt8) (kind : UInt8) (name N l : List UInt8) : List UInt8 × Nat :=
  if 255 < name.length then ([], 5) else if 1048576 < l.length then ([], 4) else (sealL hk mk kind name N l, 0)
theorem sealF_name {hk mk name N l : List UInt8} {kind : UInt8} (h : 255 < name.length) : sealF hk mk kind name N l = ([], 5) := by rw [sealF, if_pos h]
theorem sealF_big {hk mk name N l : List UInt8} {kind : UInt8} (h : ¬ 255 < name.length) (h2 : 1048576 < l.length) : sealF hk mk kind name N l = ([], 4) := by rw [sealF, if_neg h, if_pos h2]
theorem sealF_ok {hk mk name N l : List UInt8} {kind : UInt8} (h : ¬ 255 < name.length) (h2 : ¬ 1048576 < l.length) : sealF hk mk kind name N l = (sealL hk mk kind name N l, 0) := by rw [sealF, if_neg h, if_neg h2]
def openF (hk mk : List UInt8) (kind : UInt8) (name b : List UInt8) : List UInt8 × Nat :=
  if 255 < name.length then ([], 5) else if b.length < 48 ∨ 1048624 < b.length then ([], 10)
  else if markL mk kind name (b.take 16) ((b.drop 16).take (b.length - 32 - 16)) = b.drop (b.length - 32) then (hidL hk (b.take 16) ((b.drop 16).take (b.length - 32 - 16)), 0) else ([], 10)
theorem openF_name {hk mk name b : List UInt8} {kind : UInt8} (h : 255 < name.length) : openF hk mk kind name b = ([], 5) := by rw [openF, if_pos h]
theorem openF_len {hk mk name b : List UInt8} {kind : UInt8} (h : ¬ 255 < name.length) (h2 : b.length < 48 ∨ 1048624 < b.length) : openF hk mk kind name b = ([], 10) := by rw [openF, if_neg h, if_pos h2]
theorem openF_no {hk mk name b : List UInt8} {kind : UInt8} (h : ¬ 255 < name.length) (h2 : ¬ (b.length < 48 ∨ 1048624 < b.length)) (h3 : ¬ markL mk kind name (b.take 16) ((b.drop 16).take (b.length - 32 - 16)) = b.drop (b.length - 32)) : openF hk mk kind name b = ([], 10) := by rw [openF, if_neg h, if_neg h2, if_neg h3]
theorem openF_ok {hk mk name b : List UInt8} {kind : UInt8} (h : ¬ 255 < name.length) (h2 : ¬ (b.length < 48 ∨ 1048624 < b.length)) (h3 : markL mk kind name (b.take 16) ((b.drop 16).take (b.length - 32 - 16)) = b.drop (b.length - 32)) :
    openF hk mk kind name b = (hidL hk (b.take 16) ((b.drop 16).take (b.length - 32 - 16)), 0) := by rw [openF, if_neg h, if_neg h2, if_pos h3]
theorem hid_twice {hk N l : List UInt8} : hidL hk N (hidL hk N l) = l := Cip.hideL_twice
theorem seal_cut {hk mk name N l : List UInt8} {kind : UInt8} (hN : N.length = 16) : (sealL hk mk kind name N l).take 16 = N ∧ ((sealL hk mk kind name N l).drop 16).take ((sealL hk mk kind name N l).length - 32 - 16) = hidL hk N l ∧
    (sealL hk mk kind name N l).drop ((sealL hk mk kind name N l).length - 32) = markL mk kind name N (hidL hk N l) := by
  have hl : (sealL hk mk kind name N l).length = l.length + 48 := sealL_len hN
  rw [hl]
  unfold sealL
  refine ⟨?_, ?_, ?_⟩
  · rw [List.append_assoc, List.take_left' hN]
  · rw [List.append_assoc, List.drop_left' hN, List.take_left' (by simp)]
  · rw [List.drop_left' (by simp [hN]; omega)]
theorem open_seal {hk mk name N l : List UInt8} {kind : UInt8} (hN : N.length = 16) (hn : ¬ 255 < name.length) (hl : ¬ 1048576 < l.length) : openF hk mk kind name (sealL hk mk kind name N l) = (l, 0) := by
  obtain ⟨h1, h2, h3⟩ := seal_cut (hk := hk) (mk := mk) (name := name) (N := N) (l := l) (kind := kind) hN
  rw [openF_ok hn (by rw [sealL_len hN]; omega) (by rw [h1, h2, h3]), h1, h2, hid_twice]
theorem sealL_at {hk mk name N l : List UInt8} {kind : UInt8} (hN : N.length = 16) {i : Nat} (hi : i < 16) : (sealL hk mk kind name N l).getD i 0 = N.getD i 0 := by
  unfold sealL
  rw [List.getD_eq_getElem?_getD, List.append_assoc, List.getElem?_append_left (by omega), ← List.getD_eq_getElem?_getD]
theorem sealL_hid {hk mk name N l : List UInt8} {kind : UInt8} (hN : N.length = 16) {i : Nat} (hi : i < l.length) : (sealL hk mk kind name N l).getD (16 + i) 0 = l.getD i 0 ^^^ Cip.flowB (Cip.keyW hk) N i := by
  have h := Cip.hideL_at (K := Cip.keyW hk) (N := N) (a := 0) hi
  rw [Nat.zero_add] at h
  rw [← h, hidL_def]
  unfold sealL
  rw [List.getD_eq_getElem?_getD, List.append_assoc, List.getElem?_append_right (by omega), hN, Nat.add_sub_cancel_left, List.getElem?_append_left (by simpa using hi), ← List.getD_eq_getElem?_getD]
theorem xor4 (a b f : UInt8) : (a ^^^ f) ^^^ (b ^^^ f) = a ^^^ b := by
  rw [UInt8.xor_comm b f, ← UInt8.xor_assoc, UInt8.xor_assoc a f f, UInt8.xor_self, UInt8.xor_zero]
theorem sealF_le {hk mk name N l : List UInt8} {kind : UInt8} (hN : N.length = 16) : (sealF hk mk kind name N l).1.length ≤ 1048624 := by
  unfold sealF; split
  · simp
  · split
    · simp
    · rw [sealL_len hN]; omega
theorem openF_le {hk mk name b : List UInt8} {kind : UInt8} : (openF hk mk kind name b).1.length ≤ 1048576 := by
  unfold openF; split
  · simp
  · split
    · simp
    · split
      · simp; omega
      · simp
end Go.Proofs.YtfofkjajlfphjaaDoor
