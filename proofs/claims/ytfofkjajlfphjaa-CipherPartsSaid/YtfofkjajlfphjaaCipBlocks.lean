/- cipher: the walk over the law CipherBlocks. -/
import Derived.Test.YtfofkjajlfphjaaCipSizes
import Derived.Test.YtfofkjajlfphjaaCipPlus
import Derived.Test.YtfofkjajlfphjaaEngK
import Derived.OpenShut
namespace Go.Proofs.Ytfofkjajlfphjaa
open Go Go.RowKit
attribute [local irreducible] turn plus keyW hideL
theorem cnt5 (n : Int) : ∃ m : Nat, m < 5 ∧ (IntKind.u64.wrap n).tmod 5 = (m : Int) := by
  have h : 0 ≤ IntKind.u64.wrap n := by
    have h1 := wf_wrap .u64 n
    have h2 := bounds_u64 h1
    exact h2.1
  refine ⟨((IntKind.u64.wrap n).tmod 5).toNat, ?_, ?_⟩
  · rw [Int.tmod_eq_emod_of_nonneg h]; omega
  · rw [Int.tmod_eq_emod_of_nonneg h]; omega
theorem pk_key {Kb N : List UInt8} {r : List Value} (hK : Kb.length = 32) : ((Kb.map B ++ (N.map B ++ r)).drop 0).take (Kb.map B).length = Kb.map B := by simp
theorem pk_num {Kb N : List UInt8} {r : List Value} (hK : Kb.length = 32) (hN : N.length = 16) : ((Kb.map B ++ (N.map B ++ r)).drop 32).take (N.map B).length = N.map B := by
  rw [List.drop_append, List.drop_eq_nil_of_le (by simp [hK])]; simp [hK]
set_option maxHeartbeats 1000000 in
theorem blocks_spec (Kb N : List UInt8) (r : List Value) (count : Int) (w : World) (hK : Kb.length = 32) (hN : N.length = 16) : Spec Try.prog 4 [.agg (Kb.map B ++ (N.map B ++ r)).toArray, I count] w [] (fun _ : Unit => True) (fun _ => .bool true) (fun _ => []) := by
  refine spec_of (n := 87) Try.func4 rfl rfl trivial trivial rfl ?_
  refine tk_seq ?_
  refine tk_region ?_
  refine tk_act rfl ?_; refine a_boxL rfl rfl fun b2 => ?_
  refine tk_q rfl rfl rfl (y_assign rfl) ?_
  refine tk_nil ?_
  refine tk_then ?_
  refine tk_seq ?_
  refine tk_region ?_
  refine tk_q rfl rfl rfl (y_fld0 rfl (by kernel_rfl)) ?_
  refine tk_q rfl rfl rfl (y_cutA (m := 32) (sz := 1) rfl (by kernel_rfl)) ?_
  refine tk_act rfl ?_; refine a_callv [] _ rfl (by kernel_rfl) rfl (fun w' hw' => makeR_spec _ Kb w' hK (cel_rd (hw'.mem (.head _)) (pk_key hK) (by rw [List.length_map, hK]) (by omega))) rfl fun kb _ => ?_
  refine tk_q rfl rfl rfl (y_move rfl) ?_
  refine tk_q rfl rfl rfl (y_extract rfl rfl) ?_
  refine tk_q rfl rfl rfl (y_extract rfl rfl) ?_
  refine tk_q rfl rfl rfl (y_assign rfl) ?_
  refine tk_q rfl rfl rfl (y_assign rfl) ?_
  refine tk_nil ?_
  refine tk_then ?_
  refine tk_seq ?_
  refine tk_region ?_
  refine tk_q rfl rfl rfl (y_move rfl) ?_
  refine tk_q rfl rfl rfl (y_fldN 32 rfl (by kernel_rfl)) ?_
  refine tk_q rfl rfl rfl (y_loadA 16 rfl (by kernel_rfl) (by simp [hN]) (hcs (vs := N.map B) (.tail _ (.head _)) (pk_num hK hN))) ?_
  refine tk_act rfl ?_; refine a_callv [] _ rfl (by kernel_rfl) rfl (fun w' hw' => begin_spec kb N w' hN) rfl fun fb _ => ?_
  refine tk_q rfl rfl rfl (y_move rfl) ?_
  refine tk_q rfl rfl rfl (y_extract rfl rfl) ?_
  refine tk_q rfl rfl rfl (y_extract rfl rfl) ?_
  refine tk_q rfl rfl rfl (y_assign rfl) ?_
  refine tk_q rfl rfl rfl (y_assign rfl) ?_
  refine tk_nil ?_
  refine tk_then ?_
  refine tk_seq ?_
  refine tk_seq ?_
  refine tk_region ?_
  refine tk_act rfl ?_; refine a_callv [] _ rfl (by kernel_rfl) rfl (fun w' hw' => hides_spec w') rfl fun _ _ => ?_
  refine tk_q rfl rfl rfl (y_not rfl) ?_
  refine tk_q rfl rfl rfl (y_move rfl) ?_
  refine tk_gq rfl rfl rfl (y_move rfl) ?_
  refine tk_gqe (.bool false) rfl rfl rfl (y_neq rfl rfl) (bool_f (by omega)) ?_
  refine tk_q rfl rfl rfl (y_pick0 rfl rfl) ?_
  refine tk_q rfl rfl rfl (y_move rfl) ?_
  refine tk_gq rfl rfl rfl (y_move rfl) ?_
  refine tk_gqe (.bool false) rfl rfl rfl (y_neq rfl rfl) (bool_f (by omega)) ?_
  refine tk_q rfl rfl rfl (y_pick0 rfl rfl) ?_
  refine tk_nil ?_
  refine tk_then ?_
  refine tk_cond0 rfl ?_
  refine tk_skip ?_
  refine tk_then ?_
  refine tk_seq ?_
  refine tk_region ?_
  obtain ⟨m, hm5, hm⟩ := cnt5 count
  refine tk_q rfl rfl rfl (y_move rfl) ?_
  refine tk_q rfl rfl rfl (y_conv rfl rfl rfl) ?_
  refine tk_qe (.int .u64 (m : Int)) rfl rfl rfl (y_rem rfl rfl (by decide)) (by rw [hm]) ?_
  refine tk_qe (I (m : Int)) rfl rfl rfl (y_conv rfl rfl rfl) (by simp only [I]; rw [wrap_in (by omega) (by omega)]) ?_
  refine tk_qe (I ((m + 1 : Nat) : Int)) rfl rfl rfl (y_addI rfl rfl (by omega)) (by congr 1; omega) ?_
  refine tk_q rfl rfl rfl (y_assign rfl) ?_
  refine tk_nil ?_
  refine tk_then ?_
  refine tk_seq ?_
  refine tk_region ?_
  refine tk_q rfl rfl rfl (y_move rfl) ?_
  refine tk_q rfl rfl rfl (y_move rfl) ?_
  refine tk_qe (I ((16 * (m + 1) : Nat) : Int)) rfl rfl rfl (y_mulI rfl rfl (by omega)) (by congr 1) ?_
  refine tk_act rfl ?_; refine a_make (z := B 0) (bytes := 1) rfl rfl rfl ⟨_, rfl, rfl, rfl, rfl⟩ rfl rfl (by omega) fun b45 => ?_
  rw [← List.map_replicate]
  refine tk_act rfl ?_; refine a_slit1 rfl rfl el74 rfl fun b46 => ?_
  refine tk_act rfl ?_; refine a_callv [_, _] _ rfl (by kernel_rfl) rfl (fun w' hw' => hide_spec fb kb 0 (keyW Kb) N _ [(.slice (some ⟨b45, 0, none⟩) (16 * (m + 1)) (16 * (m + 1)), (List.replicate (16 * (m + 1)) 0))] w' hN (hw'.mem (.tail _ (.tail _ (.head _)))) (hw'.two 2 3 (by omega) rfl rfl).symm (fun j hj => cel_cell (hw'.mem (.tail _ (.tail _ (.tail _ (.head _))))) (getB (by rw [keyW_len hK]; exact hj))) (cel_rd (o := 0) (vs := [_]) (hw'.mem (.head _)) rfl rfl (Nat.le_refl _)) (.inr (hw'.two 0 2 (by omega) rfl rfl)) (fun p hp => by obtain rfl := List.mem_singleton.1 hp; exact ⟨cel_rd (o := 0) (hw'.mem (.tail _ (.head _))) (by simp) (by simp) (Nat.le_refl _), .inr (hw'.two 1 2 (by omega) rfl rfl)⟩) (by omega) (by simp only [List.flatMap_cons, List.flatMap_nil, List.append_nil, List.length_replicate]; omega) (by simp)) rfl fun vo _ => ?_
  refine tk_q rfl rfl rfl (y_assign rfl) ?_
  refine tk_nil ?_
  refine tk_then ?_
  refine tk_seq ?_
  refine tk_region ?_
  simp only [List.flatMap_cons, List.flatMap_nil, List.append_nil, List.length_replicate, Nat.zero_add]
  refine tk_form (p := ∃ w0, RdB w0 vo (hideL (keyW Kb) N 0 (List.replicate (16 * (m + 1)) 0))) (fun w hw => ⟨w, own_rd (hw.mem (.tail _ (.tail _ (.head _))))⟩) fun hro => ?_
  refine tk_q rfl rfl rfl (y_fldN 32 rfl (by kernel_rfl)) ?_
  refine tk_q rfl rfl rfl (y_loadA 16 rfl (by kernel_rfl) (by simp [hN]) (hcs (vs := N.map B) (.tail _ (.tail _ (.tail _ (.tail _ (.tail _ (.head _)))))) (pk_num hK hN))) ?_
  refine tk_act rfl ?_; refine a_allocL (cs := (List.replicate 16 0).map B) (by kernel_rfl) rfl fun b10 => ?_
  refine tk_act rfl ?_; refine a_storeW (H1 := []) 16 rfl rfl (by kernel_rfl) rfl ⟨by simp [hN], by simp⟩ oneB ?_
  refine tk_nil ?_
  refine tk_then ?_
  refine tk_seq ?_
  refine tk_seq ?_
  refine tk_region ?_
  refine tk_q rfl rfl rfl (y_assign rfl) ?_
  refine tk_nil ?_
  refine tk_then ?_
  refine tk_block ?_
  refine tk_loop (X := Nat) (fun i => i ≤ m + 1) (fun i => [(1, I ((m + 1 : Nat) : Int)), (5, .pointer (some ⟨kb, 0, none⟩)), (7, .pointer (some ⟨fb, 0, none⟩)), (9, vo), (10, .pointer (some ⟨b10, 0, none⟩)), (11, I (i : Int))]) (fun i => [cel b10 ((plus N i).map B) 23, ownB vo (hideL (keyW Kb) N 0 (List.replicate (16 * (m + 1)) 0)) 5, cel fb (flowCs kb N ((16 * (m + 1) : Nat) : Int)) 39, cel kb ((keyW Kb).map B) 59]) (fun i => m + 1 - i) (0) (by omega) (by repeat (first | exact trivial | refine ⟨rfl, ?_⟩)) (by rw [plus_zero hN]; exact .cons_cons _ (.cons _ (.cons _ (.cons_cons _ (.cons_cons _ (.cons_cons _ (List.nil_sublist _))))))) ?_
  intro i hI
  refine tk_seq ?_
  refine tk_seq ?_
  refine tk_region ?_
  refine tk_q rfl rfl rfl (y_move rfl) ?_
  refine tk_q rfl rfl rfl (y_move rfl) ?_
  refine tk_q rfl rfl rfl (y_lss rfl rfl) ?_
  refine tk_nil ?_
  refine tk_then ?_
  refine tk_condP rfl (fun h52 => ?_) (fun h52 => ?_)
  · skip
    have hcut : ∀ w, RdB w vo (hideL (keyW Kb) N 0 (List.replicate (16 * (m + 1)) 0)) → RdB w (cutR vo (16 * i) (16 * i + 16)) (turn (keyW Kb) (plus N i)) := fun w h => by
      have h2 := h.cut (lo := 16 * i) (hi := 16 * i + 16) (by simp; omega)
      have e2 := congrArg (List.map B) (hideL_block (K := keyW Kb) (N := N) (m := m + 1) (i := i) hN (by omega))
      rw [show 16 * i + 16 - 16 * i = 16 by omega, ← List.map_drop, ← List.map_take, e2] at h2
      exact h2
    refine tk_skip ?_
    refine tk_then ?_
    refine tk_seqI (X := Unit) (fun _ => True) (fun _ => [(1, I ((m + 1 : Nat) : Int)), (5, .pointer (some ⟨kb, 0, none⟩)), (7, .pointer (some ⟨fb, 0, none⟩)), (9, vo), (10, .pointer (some ⟨b10, 0, none⟩)), (11, I (i : Int))]) (fun _ => [cel b10 ((plus N (i + 1)).map B) 23, ownB vo (hideL (keyW Kb) N 0 (List.replicate (16 * (m + 1)) 0)) 5, cel fb (flowCs kb N ((16 * (m + 1) : Nat) : Int)) 39, cel kb ((keyW Kb).map B) 59]) ?_ ?_
    · skip
      refine tk_block ?_
      refine tk_seq ?_
      refine tk_region ?_
      refine tk_q rfl rfl rfl (y_move rfl) ?_
      refine tk_q rfl rfl rfl (y_loadA 16 rfl (by kernel_rfl) (by simp [hN]) (hcw (.head _))) ?_
      refine tk_act rfl ?_; refine a_callv [] _ rfl (by kernel_rfl) rfl (fun w' hw' => turn_spec kb (keyW Kb) (plus N i) w' (by rw [plus_len]; exact hN) (fun j hj => cel_cell (hw'.mem (.tail _ (.tail _ (.tail _ (.head _))))) (getB (by rw [keyW_len hK]; exact hj)))) rfl fun _ _ => ?_
      refine tk_act rfl ?_; refine a_allocL (cs := (List.replicate 16 0).map B) (by kernel_rfl) rfl fun b12 => ?_
      refine tk_act rfl ?_; refine a_storeW (H1 := []) 16 rfl rfl (by kernel_rfl) rfl ⟨by simp [turn_len, hN], by simp⟩ oneB ?_
      refine tk_nil ?_
      refine tk_then ?_
      refine tk_seq ?_
      refine tk_seq ?_
      refine tk_drawS [] (by kernel_rfl) ?_
      refine tx_q 0 rfl (by kernel_rfl) rfl rfl rfl (fun _ _ _ h => h) (y_cutA (m := 16) (sz := 1) rfl (by kernel_rfl)) ?_
      refine tx_l 1 rfl (by kernel_rfl) (by kernel_rfl) rfl rfl rfl (fun _ _ _ h => h) (fun _ h => h) (y_str (l := turn (keyW Kb) (plus N i)) rfl rfl rfl rfl (fun w hw => cel_rd (o := 0) (hw.mem (.head _)) (by rw [List.drop_zero, List.take_length]) (by simp [turn_len, hN]) (by omega))) ?_
      refine tx_q 2 rfl (by kernel_rfl) rfl rfl rfl (fun _ _ _ h => h) (y_move rfl) ?_
      refine tx_q 3 rfl (by kernel_rfl) rfl rfl rfl (fun _ _ _ h => h) (y_move rfl) ?_
      refine tx_q 4 rfl (by kernel_rfl) rfl rfl rfl (fun _ _ _ h => h) (y_mulI rfl rfl (by omega)) ?_
      refine tx_q 5 rfl (by kernel_rfl) rfl rfl rfl (fun _ _ _ h => h) (y_move rfl) ?_
      refine tx_q 6 rfl (by kernel_rfl) rfl rfl rfl (fun _ _ _ h => h) (y_mulI rfl rfl (by omega)) ?_
      refine tx_q 7 rfl (by kernel_rfl) rfl rfl rfl (fun _ _ _ h => h) (y_addI rfl rfl (by omega)) ?_
      refine tx_q 8 rfl (by kernel_rfl) rfl rfl rfl (fun _ _ _ h => h) (y_cutR (16 * i) (16 * i + 16) rfl rfl rfl hro.choose_spec (by kernel_rfl) (by simp; omega)) ?_
      refine tx_l 9 rfl (by kernel_rfl) (by kernel_rfl) rfl rfl rfl (fun _ _ _ h => h) (fun _ h => h) (y_str (l := turn (keyW Kb) (plus N i)) rfl rfl rfl rfl (fun w hw => (hcut w (own_rd (hw.mem (.tail _ (.tail _ (.head _)))))))) ?_
      refine tx_q 10 rfl (by kernel_rfl) rfl rfl rfl (fun _ _ _ h => h) ((y_strNe rfl rfl).cast (v := _) (u := .bool false) (bool_f (fun h => h rfl))) ?_
      refine tx_done (by kernel_rfl) ?_
      refine tk_then ?_
      refine tk_cond0 rfl ?_
      refine tk_skip ?_
      refine tk_then ?_
      refine tk_seq ?_
      refine tk_region ?_
      refine tk_q rfl rfl rfl (y_assign rfl) ?_
      refine tk_nil ?_
      refine tk_then ?_
      refine tk_block ?_
      refine tk_loop (X := Nat) (fun k => k ≤ 16 ∧ (plusTo (plus N i) 1 k).2 = 1) (fun k => [(1, I ((m + 1 : Nat) : Int)), (5, .pointer (some ⟨kb, 0, none⟩)), (7, .pointer (some ⟨fb, 0, none⟩)), (9, vo), (10, .pointer (some ⟨b10, 0, none⟩)), (11, I (i : Int)), (13, I (15 - (k : Int)))]) (fun k => [cel b10 ((plusTo (plus N i) 1 k).1.map B) 23, ownB vo (hideL (keyW Kb) N 0 (List.replicate (16 * (m + 1)) 0)) 5, cel fb (flowCs kb N ((16 * (m + 1) : Nat) : Int)) 39, cel kb ((keyW Kb).map B) 59]) (fun k => 16 - k) (0) (⟨by omega, rfl⟩) (by repeat (first | exact trivial | refine ⟨rfl, ?_⟩)) (List.Sublist.cons _ (List.Sublist.refl _)) ?_
      rintro k ⟨hk, hc1⟩
      refine tk_seq ?_
      refine tk_seq ?_
      refine tk_region ?_
      refine tk_q rfl rfl rfl (y_move rfl) ?_
      refine tk_q rfl rfl rfl (y_geq rfl rfl) ?_
      refine tk_nil ?_
      refine tk_then ?_
      refine tk_condP rfl (fun h70 => ?_) (fun h70 => ?_)
      · skip
        refine tk_skip ?_
        refine tk_then ?_
        refine tk_seq ?_
        refine tk_block ?_
        refine tk_seq ?_
        refine tk_region ?_
        refine tk_q rfl rfl rfl (y_move rfl) ?_
        refine tk_q rfl rfl rfl (y_ixA0I 16 (15 - k) rfl rfl (by kernel_rfl) (by omega)) ?_
        refine tk_q rfl rfl rfl (y_load rfl rfl (hc (.head _) (getB (by simp [hN] <;> omega)))) ?_
        refine tk_q rfl rfl rfl (y_add8 (b := 1) rfl rfl) ?_
        refine tk_q rfl rfl rfl (y_ixA0I 16 (15 - k) rfl rfl (by kernel_rfl) (by omega)) ?_
        refine tk_act rfl ?_; refine a_store1B (H1 := []) rfl rfl (by kernel_rfl) rfl (by simp [hN] <;> omega) ?_
        refine tk_nil ?_
        refine tk_then ?_
        refine tk_seq ?_
        refine tk_region ?_
        refine tk_q rfl rfl rfl (y_move rfl) ?_
        refine tk_q rfl rfl rfl (y_ixA0I 16 (15 - k) rfl rfl (by kernel_rfl) (by omega)) ?_
        refine tk_qe (B ((plusTo (plus N i) 1 k).1.getD (15 - k) 0 + 1)) rfl rfl rfl (y_load rfl rfl (hc (.head _) (getB (by simp [hN] <;> omega)))) (by rw [List.getD_eq_getElem?_getD, List.getElem?_set_self (by simp [hN] <;> omega)]; rfl) ?_
        refine tk_q rfl rfl rfl (y_neq rfl rfl) ?_
        refine tk_nil ?_
        refine tk_then ?_
        refine tk_condP rfl (fun h81 => ?_) (fun h81 => ?_)
        · skip
          refine tk_exit ?_
          refine tk_in_miss rfl ?_
          refine tk_then_exit ?_
          refine tk_then_exit ?_
          refine tk_in_hit ?_
          refine tk_in_normal ?_
          exact tk_to () trivial (by repeat (first | exact trivial | refine ⟨rfl, ?_⟩)) (by rw [← plus_add hN, inc_out (N := plus N i) (k := k) (by omega) hc1 h81]; exact List.Sublist.refl _)
        · skip
          refine tk_skip ?_
          refine tk_in_normal ?_
          refine tk_then ?_
          refine tk_region ?_
          refine tk_q rfl rfl rfl (y_move rfl) ?_
          refine tk_qe (I (15 - ((k + 1 : Nat) : Int))) rfl rfl rfl (y_subI rfl rfl (by omega)) (by congr 1; omega) ?_
          refine tk_q rfl rfl rfl (y_assign rfl) ?_
          refine tk_nil ?_
          obtain ⟨o1, o2⟩ := inc_on (N := plus N i) (k := k) hc1 h81
          exact tk_again (k + 1) ⟨by omega, o1⟩ (by omega) (by repeat (first | exact trivial | refine ⟨rfl, ?_⟩)) (by rw [o2]; exact List.Sublist.refl _)
      · skip
        refine tk_exit ?_
        refine tk_then_exit ?_
        refine tk_then_exit ?_
        refine tk_in_hit ?_
        refine tk_in_normal ?_
        exact tk_to () trivial (by repeat (first | exact trivial | refine ⟨rfl, ?_⟩)) (by rw [← plus_add hN, plus_at (k := k) hk (.inr (by omega))]; exact List.Sublist.refl _)
    · intro _ _
      refine tk_region ?_
      refine tk_q rfl rfl rfl (y_move rfl) ?_
      refine tk_qe (I ((i + 1 : Nat) : Int)) rfl rfl rfl (y_addI rfl rfl (by omega)) (by congr 1) ?_
      refine tk_q rfl rfl rfl (y_assign rfl) ?_
      refine tk_nil ?_
      exact tk_again (i + 1) (by omega) (by omega) (by repeat (first | exact trivial | refine ⟨rfl, ?_⟩)) (List.Sublist.refl _)
  · skip
    obtain rfl : i = m + 1 := by omega
    refine tk_exit ?_
    refine tk_then_exit ?_
    refine tk_then_exit ?_
    refine tk_in_hit ?_
    refine tk_then ?_
    refine tk_seq ?_
    refine tk_region ?_
    refine tk_q rfl rfl rfl (y_move rfl) ?_
    refine tk_act rfl ?_; refine a_callv [] _ rfl (by kernel_rfl) rfl (fun w' hw' => at_spec fb _ w' (cel_cell (hw'.mem (.tail _ (.tail _ (.head _)))) (fl17 hN))) rfl fun _ _ => ?_
    refine tk_q rfl rfl rfl (y_move rfl) ?_
    refine tk_qe (I ((16 * (m + 1) : Nat) : Int)) rfl rfl rfl (y_mulI rfl rfl (by omega)) (by congr 1) ?_
    refine tk_qe (.bool true) rfl rfl rfl (y_eql rfl rfl) (bool_t (by omega)) ?_
    refine tk_q rfl rfl rfl (y_assign rfl) ?_
    refine tk_nil ?_
    refine tk_then ?_
    refine tk_retc ?_
    exact tk_ret () trivial (.inl rfl) (r1 rfl rfl) (List.nil_sublist _)
end Go.Proofs.Ytfofkjajlfphjaa
