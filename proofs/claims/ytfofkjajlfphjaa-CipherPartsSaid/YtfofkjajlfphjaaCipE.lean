/- cipher: the walk over the laws' hides. -/
import Derived.Test.YtfofkjajlfphjaaCipD
import Derived.Test.YtfofkjajlfphjaaEngI
namespace Go.Proofs.Ytfofkjajlfphjaa
open Go Go.RowKit
theorem makeR_spec (v : Value) (b : List UInt8) (w : World) (hb : b.length = 32) (hR : RdB w v b) :
    Spec Try.prog 9 [v] w [] (fun _ : Nat => True) (fun kb => .tuple #[.pointer (some ⟨kb, 0, none⟩), I 0]) (fun kb => [cel kb ((keyW b).map B) 59]) := by
  rcases hR with ⟨_, h0⟩ | ⟨ad, cap, rfl, hc, hr⟩
  · have := congrArg List.length h0; simp [hb] at this
  · rw [List.length_map] at hc ⊢
    rw [hb] at hc ⊢
    have hget : ∀ j, j < b.length → w.cell? (ad.add j) = some (B (b.getD j 0)) := fun j hj => hr j _ (getB hj)
    obtain ⟨ab, ao, sp⟩ := ad
    have hsp : sp = none := by
      have h0 := hget 0 (by omega)
      cases sp with
      | none => rfl
      | some q =>
        exfalso
        simp only [Addr.add, if_true, World.cell?, Option.isSome_some] at h0
        split at h0 <;> cases h0
    subst hsp
    exact make_spec ab ao cap b w hb hc (fun j hj => by have := hget j hj; rwa [add_w] at this)
def kb32 (k : Nat) : List UInt8 := (List.range k).map UInt8.ofNat
theorem kb32_len (k : Nat) : (kb32 k).length = k := by simp [kb32]
def bb : Nat → List UInt8
  | 0 => List.replicate 16 0
  | k + 1 => (bb k).set (k % 16) (UInt8.ofNat (17 * (k % 16)))
theorem bb_succ {k : Nat} : bb (k + 1) = (bb k).set (k % 16) (UInt8.ofNat (17 * (k % 16))) := rfl
theorem bb_len (k : Nat) : (bb k).length = 16 := by
  induction k with
  | zero => rfl
  | succ k ih => rw [bb_succ, List.length_set, ih]
theorem own_kb {v : Value} {k : Nat} {e : TypeId} : ownB v (kb32 (k + 1)) e = own v ((kb32 k).length + 1) ((kb32 k).map B ++ [B (UInt8.ofNat k)]) e 1 := by
  simp only [ownB, kb32, List.range_succ, List.map_append, List.length_append]; rfl
theorem hides0 : (((turn (keyW (kb32 32)) (bb 32)).getD 0 0).toNat : Int) = 142 := by kernel_rfl
theorem hides15 : (((turn (keyW (kb32 32)) (bb 32)).getD 15 0).toNat : Int) = 137 := by kernel_rfl
theorem getBAn {l : List UInt8} {i : Nat} (h : i < l.length) : (l.map B).toArray[((i : Nat) : Int).toNat]? = some (B (l.getD i 0)) := by
  simp [List.getD_eq_getElem?_getD, h]
attribute [local irreducible] turn plus keyW hideL
set_option maxHeartbeats 1000000 in
theorem hides_spec (w : World) : Spec Try.prog 11 [] w [] (fun _ : Unit => True) (fun _ => .bool true) (fun _ => []) := by
  refine spec_of (n := 43) Try.func11 rfl rfl trivial trivial rfl ?_
  refine tk_seq ?_
  refine tk_region ?_
  refine tk_q rfl rfl rfl (y_assign rfl) ?_
  refine tk_nil ?_
  refine tk_then ?_
  refine tk_seq ?_
  refine tk_region ?_
  refine tk_q rfl rfl rfl (y_assign rfl) ?_
  refine tk_nil ?_
  refine tk_then ?_
  refine tk_seq ?_
  refine tk_region ?_
  skip
  refine tk_act rfl ?_; refine a_allocL (cs := (List.replicate 16 0).map B) (by kernel_rfl) rfl fun b2 => ?_
  refine tk_nil ?_
  refine tk_then ?_
  refine tk_seq ?_
  refine tk_seq ?_
  refine tk_region ?_
  refine tk_own0 5 ?_
  refine tk_q rfl rfl rfl (y_assign rfl) ?_
  refine tk_nil ?_
  refine tk_then ?_
  refine tk_block ?_
  refine tk_loop (X := Nat × Value) (fun x => x.1 ≤ 32) (fun x => [(1, x.2), (2, .pointer (some ⟨b2, 0, none⟩)), (3, I (x.1 : Int))]) (fun x => [ownB x.2 (kb32 x.1) 5, cel b2 ((bb x.1).map B) 23]) (fun x => 32 - x.1) ((0, .slice none 0 0)) (Nat.zero_le _) (by repeat (first | exact trivial | refine ⟨rfl, ?_⟩)) (List.Sublist.refl _) ?_
  rintro ⟨k, vo⟩ hI
  dsimp only at hI ⊢
  refine tk_seq ?_
  refine tk_seq ?_
  refine tk_region ?_
  refine tk_q rfl rfl rfl (y_move rfl) ?_
  refine tk_q rfl rfl rfl (y_lss rfl rfl) ?_
  refine tk_nil ?_
  refine tk_then ?_
  refine tk_condP rfl (fun h7 => ?_) (fun h7 => ?_)
  · skip
    refine tk_skip ?_
    refine tk_then ?_
    refine tk_seq ?_
    refine tk_block ?_
    refine tk_seq ?_
    refine tk_region ?_
    refine tk_q rfl rfl rfl (y_move rfl) ?_
    refine tk_q rfl rfl rfl (y_move rfl) ?_
    refine tk_q rfl rfl rfl (y_convi8 rfl rfl rfl) ?_
    refine tk_act rfl ?_; refine a_slit1 rfl rfl el5 rfl fun b13 => ?_
    refine tk_act rfl ?_; refine a_append (H1 := [_]) (news := [_]) rfl rfl el5 rfl rfl rfl (hcw (.head _)) (by simp [Value.oneCell']) (by rw [kb32_len]; omega) fun vo2 => ?_
    refine tk_q rfl rfl rfl (y_assign rfl) ?_
    refine tk_nil ?_
    refine tk_then ?_
    refine tk_region ?_
    refine tk_q rfl rfl rfl (y_move rfl) ?_
    refine tk_q rfl rfl rfl (y_remN (b := 16) rfl rfl (by omega)) ?_
    refine tk_q rfl rfl rfl (y_move rfl) ?_
    refine tk_q rfl rfl rfl (y_remN (b := 16) rfl rfl (by omega)) ?_
    refine tk_q rfl rfl rfl (y_mulN (a := 17) rfl rfl (by omega)) ?_
    refine tk_q rfl rfl rfl (y_convi8 rfl rfl rfl) ?_
    refine tk_q rfl rfl rfl (y_ixA01 16 (i := k % 16) rfl rfl (by kernel_rfl) (by omega)) ?_
    refine tk_act rfl ?_; refine a_store1B (H1 := [_, _]) rfl rfl (by kernel_rfl) rfl (by rw [bb_len]; omega) ?_
    refine tk_nil ?_
    refine tk_in_normal ?_
    refine tk_then ?_
    refine tk_region ?_
    refine tk_q rfl rfl rfl (y_move rfl) ?_
    refine tk_qe (I ((k + 1 : Nat) : Int)) rfl rfl rfl (y_addI rfl rfl (by omega)) (by congr 1 <;> omega) ?_
    refine tk_q rfl rfl rfl (y_assign rfl) ?_
    refine tk_nil ?_
    exact tk_again (k + 1, vo2) (by show k + 1 ≤ 32; omega) (by show 32 - (k + 1) < 32 - k; omega) (by repeat (first | exact trivial | refine ⟨rfl, ?_⟩)) (by dsimp only; rw [own_kb, bb_succ]; exact List.Sublist.cons _ (List.Sublist.refl _))
  · skip
    obtain rfl : k = 32 := by omega
    refine tk_exit ?_
    refine tk_then_exit ?_
    refine tk_then_exit ?_
    refine tk_in_hit ?_
    refine tk_then ?_
    refine tk_seq ?_
    refine tk_region ?_
    refine tk_q rfl rfl rfl (y_move rfl) ?_
    refine tk_act rfl ?_; refine a_callv [] _ rfl (by kernel_rfl) rfl (fun w' hw' => makeR_spec vo (kb32 32) w' (kb32_len 32) (own_rd (hw'.mem (.head _)))) rfl fun x _ => ?_
    refine tk_q rfl rfl rfl (y_move rfl) ?_
    refine tk_q rfl rfl rfl (y_extract rfl rfl) ?_
    refine tk_q rfl rfl rfl (y_extract rfl rfl) ?_
    refine tk_q rfl rfl rfl (y_assign rfl) ?_
    refine tk_q rfl rfl rfl (y_assign rfl) ?_
    refine tk_nil ?_
    refine tk_then ?_
    refine tk_seq ?_
    refine tk_region ?_
    refine tk_q rfl rfl rfl (y_move rfl) ?_
    refine tk_qe (.bool true) rfl rfl rfl (y_eql rfl rfl) (rfl) ?_
    refine tk_q rfl rfl rfl (y_move rfl) ?_
    refine tk_gq rfl rfl rfl (y_move rfl) ?_
    refine tk_gq rfl rfl rfl (y_loadA 16 rfl (by kernel_rfl) (by rw [List.length_map, bb_len]) (hcw (.tail _ (.tail _ (.head _))))) ?_
    refine tk_gact rfl ?_; refine a_callv [] _ rfl (by kernel_rfl) rfl (fun w' hw' => turn_spec x (keyW (kb32 32)) (bb 32) w' (bb_len 32) (fun j hj => cel_cell (hw'.mem (.head _)) (getB (by rw [keyW_len (kb32_len 32)]; exact hj)))) rfl fun _ _ => ?_
    refine tk_gq rfl rfl rfl (y_ixV (i := ((0 : Nat) : Int)) rfl rfl rfl rfl (fun _ => by kernel_rfl) (by omega) (getBAn (by rw [turn_len (bb_len 32)]; omega))) ?_
    refine tk_gqe (.bool true) rfl rfl rfl (y_eql rfl rfl) (by rw [bool_t]; exact hides0) ?_
    refine tk_q rfl rfl rfl (y_pick1 rfl rfl) ?_
    refine tk_q rfl rfl rfl (y_move rfl) ?_
    refine tk_gq rfl rfl rfl (y_move rfl) ?_
    refine tk_gq rfl rfl rfl (y_loadA 16 rfl (by kernel_rfl) (by rw [List.length_map, bb_len]) (hcw (.tail _ (.tail _ (.head _))))) ?_
    refine tk_gact rfl ?_; refine a_callv [] _ rfl (by kernel_rfl) rfl (fun w' hw' => turn_spec x (keyW (kb32 32)) (bb 32) w' (bb_len 32) (fun j hj => cel_cell (hw'.mem (.head _)) (getB (by rw [keyW_len (kb32_len 32)]; exact hj)))) rfl fun _ _ => ?_
    refine tk_gq rfl rfl rfl (y_ixV (i := ((15 : Nat) : Int)) rfl rfl rfl rfl (fun _ => by kernel_rfl) (by omega) (getBAn (by rw [turn_len (bb_len 32)]; omega))) ?_
    refine tk_gqe (.bool true) rfl rfl rfl (y_eql rfl rfl) (by rw [bool_t]; exact hides15) ?_
    refine tk_q rfl rfl rfl (y_pick1 rfl rfl) ?_
    refine tk_q rfl rfl rfl (y_assign rfl) ?_
    refine tk_nil ?_
    refine tk_then ?_
    refine tk_retc ?_
    exact tk_ret () trivial (.inl rfl) (r1 rfl rfl) (List.nil_sublist _)
end Go.Proofs.Ytfofkjajlfphjaa
