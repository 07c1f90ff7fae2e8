/- cipher: what is hidden part by part is what is hidden at once; hidden twice it is plain. Plain Lean, no program in sight. -/
import Derived.Test.YtfofkjajlfphjaaDoorCipRefC
set_option linter.unusedSimpArgs false
set_option linter.unusedVariables false
namespace Go.Proofs.YtfofkjajlfphjaaDoor.Cip
theorem hideL_at {K N l : List UInt8} {a i : Nat} (h : i < l.length) : (hideL K N a l).getD i 0 = l.getD i 0 ^^^ flowB K N (a + i) := by
  unfold hideL
  rw [List.getD_eq_getElem?_getD, List.getElem?_map, List.getElem?_range h]; rfl
theorem hideL_app {K N l m : List UInt8} {a : Nat} : hideL K N a (l ++ m) = hideL K N a l ++ hideL K N (a + l.length) m := by
  apply ext_getD (by simp)
  intro i hi
  rw [hideL_len] at hi
  rw [hideL_at hi]
  by_cases h : i < l.length
  · rw [List.getD_eq_getElem?_getD (l := hideL K N a l ++ _), List.getElem?_append_left (by simpa using h), ← List.getD_eq_getElem?_getD, hideL_at h, List.getD_eq_getElem?_getD (l := l ++ m), List.getElem?_append_left h, ← List.getD_eq_getElem?_getD]
  · rw [List.length_append] at hi
    rw [List.getD_eq_getElem?_getD (l := hideL K N a l ++ _), List.getElem?_append_right (by simp; omega), ← List.getD_eq_getElem?_getD, hideL_len, hideL_at (by omega), List.getD_eq_getElem?_getD (l := l ++ m), List.getElem?_append_right (by omega), ← List.getD_eq_getElem?_getD, show a + l.length + (i - l.length) = a + i by omega]
theorem hideL_twice {K N l : List UInt8} {a : Nat} : hideL K N a (hideL K N a l) = l := by
  apply ext_getD (by simp)
  intro i hi
  rw [hideL_len, hideL_len] at hi
  rw [hideL_at (by rw [hideL_len]; exact hi), hideL_at hi, UInt8.xor_assoc, UInt8.xor_self, UInt8.xor_zero]
end Go.Proofs.YtfofkjajlfphjaaDoor.Cip
