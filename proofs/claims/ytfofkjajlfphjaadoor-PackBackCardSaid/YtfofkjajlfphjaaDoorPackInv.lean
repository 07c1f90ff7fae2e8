/- pack: what a writer's state keeps. Plain lemmas. Own work. -/
import Derived.Test.YtfofkjajlfphjaaDoorPackE
set_option linter.unusedSimpArgs false
set_option linter.unusedVariables false
namespace Go.Proofs.YtfofkjajlfphjaaDoor
open Go
structure WOk2 (s : WSt) : Prop where
  n : s.l.length ≤ 1000
  b : s.b.length ≤ 900000
  each : ∀ e ∈ s.l, e.kind < 1048576 ∧ e.len < 1048576
def addQ (n : UInt8) (s : WSt) (k : Int) (x : List UInt8) : (List UInt8 × Bool × Nat) × WSt := addF ⟨rg n 1, rg n 2, rg n 3⟩ [n] s k x
def closeQ (n : UInt8) (s : WSt) : (List UInt8 × List UInt8 × List Ent × Nat) × WSt := closeF ⟨rg n 1, rg n 2, rg n 3⟩ [n] s
theorem addQ_def {n : UInt8} {s : WSt} {k : Int} {x : List UInt8} : addF ⟨rg n 1, rg n 2, rg n 3⟩ [n] s k x = addQ n s k x := rfl
theorem closeQ_def {n : UInt8} {s : WSt} : closeF ⟨rg n 1, rg n 2, rg n 3⟩ [n] s = closeQ n s := rfl
theorem addF_cases (r : Ring3) (bg : List UInt8) (s : WSt) (kind : Int) (b : List UInt8) : (addF r bg s kind b).2 = s ∨ ((kind = 1 ∨ kind = 2) ∧ b.length ≤ 131072 ∧ hasE s.l (idF r.n (UInt8.ofNat kind.toNat) b) = false ∧ s.l.length < 1000 ∧ b.length + 48 + s.b.length ≤ 900000 ∧ addF r bg s kind b =
    ((idF r.n (UInt8.ofNat kind.toNat) b, true, 0),
    ⟨s.b ++ sealL r.h r.m (UInt8.ofNat kind.toNat) (hexL (idF r.n (UInt8.ofNat kind.toNat) b)) (tapeN bg s.p 16) b, s.l ++ [⟨idF r.n (UInt8.ofNat kind.toNat) b, kind.toNat, s.b.length, b.length + 48, idF_len⟩], s.p + 16⟩)) := by
  by_cases h : kind = 1 ∨ kind = 2
  · by_cases h1 : 131072 < b.length
    · left; rw [addF_big h h1]
    · cases h2 : hasE s.l (idF r.n (UInt8.ofNat kind.toNat) b) with
      | true => left; rw [addF_has h h1 h2]
      | false =>
        by_cases h3 : 1000 ≤ s.l.length ∨ 900000 < b.length + 48 + s.b.length
        · left; rw [addF_full h h1 h2 h3]
        · right; exact ⟨h, by omega, rfl, by omega, by omega, addF_ok h h1 h2 h3⟩
  · left; rw [addF_kind h]
theorem addF_id (r : Ring3) (bg : List UInt8) (s : WSt) (kind : Int) (b : List UInt8) : (addF r bg s kind b).1.1.length = 32 := by
  rw [addF]; split
  · rfl
  · split
    · rfl
    · split
      · exact idF_len
      · split
        · rfl
        · exact idF_len
theorem addQ_len {n : UInt8} {s : WSt} {k : Int} {x : List UInt8} : (addQ n s k x).1.1.length = 32 := addF_id ..
theorem addQ_ok {n : UInt8} {s : WSt} {k : Int} {x : List UInt8} (h : WOk2 s) : WOk2 (addQ n s k x).2 ∧ (addQ n s k x).2.p ≤ s.p + 16 := by
  rcases addF_cases ⟨rg n 1, rg n 2, rg n 3⟩ [n] s k x with h1 | ⟨hk, h1, _, h3, h4, h5⟩
  · rw [addQ, h1]; exact ⟨h, by omega⟩
  · rw [addQ, h5]
    refine ⟨⟨?_, ?_, ?_⟩, by dsimp only; omega⟩
    · simp only [List.length_append, List.length_cons, List.length_nil]; omega
    · simp only [List.length_append, sealL_len tapeN_len]; omega
    · intro e he
      rcases List.mem_append.1 he with he | he
      · exact h.each e he
      · rw [List.mem_singleton.1 he]; dsimp only; omega
theorem closeQ_ok {n : UInt8} {s : WSt} (h : WOk2 s) : WOk2 (closeQ n s).2 ∧ (closeQ n s).2.p ≤ s.p + 16 := by
  by_cases hn : s.l = []
  · rw [closeQ, closeF_nil hn]; exact ⟨h, by dsimp only; omega⟩
  · rw [closeQ, closeF_ok hn]; exact ⟨⟨by simp, by simp, fun e he => by cases he⟩, by dsimp only; omega⟩
theorem packL_len {r : Ring3} {bg : List UInt8} {s : WSt} : (packL r bg s).length = s.b.length + (headL s.l).length + 52 := by
  simp only [packL, List.length_append, sealL_len tapeN_len, four, List.length_cons, List.length_nil]; omega
theorem closeQ_len {n : UInt8} {s : WSt} (h : WOk2 s) : (closeQ n s).1.2.1.length ≤ 1000000 ∧ (closeQ n s).1.2.2.1.length ≤ 1000 := by
  by_cases hn : s.l = []
  · rw [closeQ, closeF_nil hn]; simp
  · rw [closeQ, closeF_ok hn]
    have h1 := h.n; have h2 := h.b
    have h3 := headL_len (l := s.l) (fun e he => by have := h.each e he; omega) (by omega)
    dsimp only
    rw [packL_len]
    omega
theorem wok0 : WOk2 ⟨[], [], 0⟩ := ⟨by simp, by simp, fun e he => by cases he⟩
structure Lum where
  k : Int
  v : Value
  l : List UInt8
def dLum : Lum := ⟨0, .slice none 0 0, []⟩
def lumC (u : Lum) : List Value := [I u.k, u.v]
theorem lumC_len (u : Lum) : (lumC u).length = 2 := rfl
end Go.Proofs.YtfofkjajlfphjaaDoor
