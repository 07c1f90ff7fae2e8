/- cipher: the walk over the laws' hides. -/
import Derived.Test.YtfofkjajlfphjaaDoorCipD
import Derived.Test.YtfofkjajlfphjaaDoorNames
set_option linter.unusedSimpArgs false
set_option linter.unusedVariables false
namespace Go.Proofs.YtfofkjajlfphjaaDoor.Cip
open Go Go.RowKit
set_option maxRecDepth 100000
theorem makeR_spec (v : Value) (b : List UInt8) (w : World) (hb : b.length = 32) (hR : RdB w v b) :
    Spec Tryd.prog 90 [v] w [] (fun _ : Nat => True) (fun kb => .tuple #[.pointer (some ⟨kb, 0, none⟩), I 0]) (fun kb => [cel kb ((keyW b).map B) 182]) := by
  rcases hR with ⟨_, h0⟩ | ⟨ad, cap, rfl, hc, hr⟩
  · have := congrArg List.length h0; simp [hb] at this
  · rw [List.length_map] at hc ⊢
    rw [hb] at hc ⊢
    have hget : ∀ j, j < b.length → w.cell? (ad.add j) = some (B (b.getD j 0)) := fun j hj => hr j _ (getB hj)
    obtain ⟨ab, ao, sp⟩ := ad
    have hsp : sp = none := by
      have h0 := hget 0 (by omega)
      cases sp with
      | none => rfl
      | some q =>
        exfalso
        simp only [Addr.add, if_true, World.cell?, Option.isSome_some] at h0
        split at h0 <;> cases h0
    subst hsp
    exact make_spec ab ao cap b w hb hc (fun j hj => by have := hget j hj; rwa [add_w] at this)
def kb32 (k : Nat) : List UInt8 := (List.range k).map UInt8.ofNat
theorem kb32_len (k : Nat) : (kb32 k).length = k := by simp [kb32]
def bb : Nat → List UInt8
  | 0 => List.replicate 16 0
  | k + 1 => (bb k).set (k % 16) (UInt8.ofNat (17 * (k % 16)))
theorem bb_succ {k : Nat} : bb (k + 1) = (bb k).set (k % 16) (UInt8.ofNat (17 * (k % 16))) := rfl
theorem bb_len (k : Nat) : (bb k).length = 16 := by
  induction k with
  | zero => rfl
  | succ k ih => rw [bb_succ, List.length_set, ih]
theorem own_kb {v : Value} {k : Nat} {e : TypeId} : ownB v (kb32 (k + 1)) e = own v ((kb32 k).length + 1) ((kb32 k).map B ++ [B (UInt8.ofNat k)]) e 1 := by
  simp only [ownB, kb32, List.range_succ, List.map_append, List.length_append]; rfl
theorem getBAn {l : List UInt8} {i : Nat} (h : i < l.length) : (l.map B).toArray[((i : Nat) : Int).toNat]? = some (B (l.getD i 0)) := by
  simp [List.getD_eq_getElem?_getD, h]
attribute [local irreducible] turn plus keyW hideL
end Go.Proofs.YtfofkjajlfphjaaDoor.Cip
