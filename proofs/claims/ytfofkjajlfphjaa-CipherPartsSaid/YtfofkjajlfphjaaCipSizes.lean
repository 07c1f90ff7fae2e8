/- cipher: the walk over the law CipherSizes. -/
import Derived.Test.YtfofkjajlfphjaaCipE
namespace Go.Proofs.Ytfofkjajlfphjaa
open Go Go.RowKit
theorem el74 : elB Try.prog 74 28 1 24 := ⟨by kernel_rfl, _, .slice none 0 0, rfl, by kernel_rfl, rfl, by kernel_rfl, by kernel_rfl, Nat.one_pos⟩
theorem makeNoR_spec (v : Value) (b : List UInt8) (w : World) {w0 : World} (hb : ¬ b.length = 32) (hR : RdB w0 v b) : Spec Try.prog 9 [v] w [] (fun _ : Unit => True) (fun _ => .tuple #[.pointer none, I 1]) (fun _ => []) := by
  rcases hR with ⟨rfl, _⟩ | ⟨ad, cap, rfl, _, _⟩
  · exact makeNo_spec _ _ _ _ (by omega)
  · exact makeNo_spec _ _ _ _ (by rw [List.length_map]; exact hb)
theorem sizes_yes (v : Value) (bs N : List UInt8) (w : World) (hR : RdB w v bs) (hN : N.length = 16) (hl : bs.length = 32) : Spec Try.prog 6 [v, Ag N] w [] (fun _ : Unit => True) (fun _ => .bool true) (fun _ => []) := by
  refine spec_of (n := 65) Try.func6 rfl rfl trivial trivial rfl ?_
  refine tk_seq ?_
  refine tk_region ?_
  refine tk_act rfl ?_; refine a_boxL rfl rfl fun b3 => ?_
  refine tk_q rfl rfl rfl (y_assign rfl) ?_
  refine tk_nil ?_
  refine tk_then ?_
  refine tk_seq ?_
  refine tk_region ?_
  refine tk_q rfl rfl rfl (y_move rfl) ?_
  refine tk_act rfl ?_; refine a_callv [] _ rfl (by kernel_rfl) rfl (fun w' hw' => makeR_spec v bs w' hl (hR.fo hw'.fr (.inr (fun h => h)))) rfl fun kb _ => ?_
  refine tk_q rfl rfl rfl (y_move rfl) ?_
  refine tk_q rfl rfl rfl (y_extract rfl rfl) ?_
  refine tk_q rfl rfl rfl (y_extract rfl rfl) ?_
  refine tk_q rfl rfl rfl (y_assign rfl) ?_
  refine tk_q rfl rfl rfl (y_assign rfl) ?_
  refine tk_nil ?_
  refine tk_then ?_
  refine tk_seq ?_
  refine tk_drawS [2] (by kernel_rfl) ?_
  (first | refine tx_l 1 rfl (by kernel_rfl) (by kernel_rfl) rfl rfl rfl (fun _ _ _ h => h) (fun _ h => h) (y_loadA 16 rfl (by kernel_rfl) (by rw [List.length_map]; exact hN) (hcw (.head _))) ?_ | refine tx_l 1 rfl (by kernel_rfl) (by kernel_rfl) rfl rfl rfl (fun _ _ _ h => h) (fun _ h => h) (y_loadA 16 rfl (by kernel_rfl) (by rw [List.length_map]; exact hN) (hcw (.tail _ (.head _)))) ?_)
  refine tx_a 0 rfl (by kernel_rfl) rfl ?_; refine a_callv [] _ rfl (by kernel_rfl) rfl (fun w' hw' => nobody_spec w') rfl fun _ _ => ?_
  refine tk_S (fun _ h => h) ?_
  refine tx_x 2 rfl (by kernel_rfl) rfl rfl ?_; refine a_callv [] _ rfl (by kernel_rfl) rfl (fun w' hw' => beginNo_spec N w') rfl fun _ _ => ?_
  refine tx_q 3 rfl (by kernel_rfl) rfl rfl rfl (fun _ _ _ h => h) (y_move rfl) ?_
  refine tx_q 4 rfl (by kernel_rfl) rfl rfl rfl (fun _ _ _ h => h) (y_extract rfl rfl) ?_
  refine tx_q 5 rfl (by kernel_rfl) rfl rfl rfl (fun _ _ _ h => h) (y_extract rfl rfl) ?_
  refine tx_q 6 rfl (by kernel_rfl) rfl rfl rfl (fun _ _ _ h => h) (y_assign rfl) ?_
  refine tx_q 7 rfl (by kernel_rfl) rfl rfl rfl (fun _ _ _ h => h) (y_assign rfl) ?_
  refine tx_done (by kernel_rfl) ?_
  refine tk_then ?_
  refine tk_seq ?_
  refine tk_seq ?_
  refine tk_region ?_
  refine tk_act rfl ?_; refine a_callv [] _ rfl (by kernel_rfl) rfl (fun w' hw' => hides_spec w') rfl fun _ _ => ?_
  refine tk_q rfl rfl rfl (y_not rfl) ?_
  refine tk_q rfl rfl rfl (y_move rfl) ?_
  refine tk_gq rfl rfl rfl (y_move rfl) ?_
  refine tk_gqe (.bool false) rfl rfl rfl (y_neq rfl rfl) (bool_f (by omega)) ?_
  refine tk_q rfl rfl rfl (y_pick0 rfl rfl) ?_
  refine tk_q rfl rfl rfl (y_move rfl) ?_
  refine tk_gact rfl ?_; refine a_callv [] _ rfl (by kernel_rfl) rfl (fun w' hw' => nothing_spec w') rfl fun _ _ => ?_
  refine tk_gq rfl rfl rfl (y_move rfl) ?_
  refine tk_gact rfl ?_; refine a_slit1 rfl hR.one el74 rfl fun b29 => ?_
  refine tk_gact rfl ?_; refine a_callv [] _ rfl (by kernel_rfl) rfl (fun w' hw' => hide0_spec _ w') rfl fun _ _ => ?_
  refine tk_gq rfl rfl rfl (y_lenS rfl rfl) ?_
  refine tk_gqe (.bool false) rfl rfl rfl (y_neq rfl rfl) (bool_f (by omega)) ?_
  refine tk_q rfl rfl rfl (y_pick0 rfl rfl) ?_
  refine tk_q rfl rfl rfl (y_move rfl) ?_
  refine tk_gact rfl ?_; refine a_callv [] _ rfl (by kernel_rfl) rfl (fun w' hw' => nothing_spec w') rfl fun _ _ => ?_
  refine tk_gact rfl ?_; refine a_callv [] _ rfl (by kernel_rfl) rfl (fun w' hw' => at0_spec w') rfl fun _ _ => ?_
  refine tk_gqe (.bool false) rfl rfl rfl (y_neq rfl rfl) (bool_f (by omega)) ?_
  refine tk_q rfl rfl rfl (y_pick0 rfl rfl) ?_
  refine tk_q rfl rfl rfl (y_move rfl) ?_
  refine tk_gact rfl ?_; refine a_callv [] _ rfl (by kernel_rfl) rfl (fun w' hw' => nothing_spec w') rfl fun _ _ => ?_
  refine tk_gact rfl ?_; refine a_callv [] _ rfl (by kernel_rfl) rfl (fun w' hw' => seek0_spec 0 w') rfl fun _ _ => ?_
  refine tk_gqe (.bool false) rfl rfl rfl (y_neq rfl rfl) (bool_f (by omega)) ?_
  refine tk_q rfl rfl rfl (y_pick0 rfl rfl) ?_
  refine tk_nil ?_
  refine tk_then ?_
  refine tk_cond0 rfl ?_
  refine tk_skip ?_
  refine tk_then ?_
  refine tk_seq ?_
  refine tk_region ?_
  refine tk_q rfl rfl rfl (y_move rfl) ?_
  refine tk_qe (.bool true) rfl rfl rfl (y_eql rfl rfl) (bool_t (by omega)) ?_
  refine tk_q rfl rfl rfl (y_move rfl) ?_
  refine tk_q rfl rfl rfl (y_lenR rfl hR rfl) ?_
  refine tk_qe (.bool true) rfl rfl rfl (y_eql rfl rfl) (bool_t (by rw [List.length_map]; omega)) ?_
  refine tk_qe (.bool true) rfl rfl rfl (y_eqB rfl rfl rfl) (rfl) ?_
  refine tk_q rfl rfl rfl (y_move rfl) ?_
  refine tk_gq rfl rfl rfl (y_move rfl) ?_
  refine tk_gqe (.bool true) rfl rfl rfl (y_pnnil rfl rfl rfl) (rfl) ?_
  refine tk_gq rfl rfl rfl (y_move rfl) ?_
  refine tk_gqe (.bool true) rfl rfl rfl (y_eql rfl rfl) (bool_t (by omega)) ?_
  refine tk_gqe (.bool true) rfl rfl rfl (y_eqB rfl rfl rfl) (rfl) ?_
  refine tk_q rfl rfl rfl (y_pick1 rfl rfl) ?_
  refine tk_q rfl rfl rfl (y_move rfl) ?_
  refine tk_gq rfl rfl rfl (y_move rfl) ?_
  refine tk_gqe (.bool true) rfl rfl rfl (y_eql rfl rfl) (bool_t (by omega)) ?_
  refine tk_gq rfl rfl rfl (y_move rfl) ?_
  refine tk_gno rfl rfl rfl ?_
  refine tk_gno rfl rfl rfl ?_
  refine tk_gq rfl rfl rfl (y_pick1 rfl rfl) ?_
  refine tk_q rfl rfl rfl (y_pick1 rfl rfl) ?_
  refine tk_q rfl rfl rfl (y_assign rfl) ?_
  refine tk_nil ?_
  refine tk_then ?_
  refine tk_retc ?_
  exact tk_ret () trivial (.inl rfl) (r1 rfl rfl) (List.nil_sublist _)
theorem sizes_no (v : Value) (bs N : List UInt8) (w : World) (hR : RdB w v bs) (hN : N.length = 16) (hl : ¬ bs.length = 32) : Spec Try.prog 6 [v, Ag N] w [] (fun _ : Unit => True) (fun _ => .bool true) (fun _ => []) := by
  refine spec_of (n := 65) Try.func6 rfl rfl trivial trivial rfl ?_
  refine tk_seq ?_
  refine tk_region ?_
  refine tk_act rfl ?_; refine a_boxL rfl rfl fun b3 => ?_
  refine tk_q rfl rfl rfl (y_assign rfl) ?_
  refine tk_nil ?_
  refine tk_then ?_
  refine tk_seq ?_
  refine tk_region ?_
  refine tk_q rfl rfl rfl (y_move rfl) ?_
  refine tk_act rfl ?_; refine a_callv [] _ rfl (by kernel_rfl) rfl (fun w' hw' => makeNoR_spec v bs w' hl hR) rfl fun _ _ => ?_
  refine tk_q rfl rfl rfl (y_move rfl) ?_
  refine tk_q rfl rfl rfl (y_extract rfl rfl) ?_
  refine tk_q rfl rfl rfl (y_extract rfl rfl) ?_
  refine tk_q rfl rfl rfl (y_assign rfl) ?_
  refine tk_q rfl rfl rfl (y_assign rfl) ?_
  refine tk_nil ?_
  refine tk_then ?_
  refine tk_seq ?_
  refine tk_drawS [2] (by kernel_rfl) ?_
  (first | refine tx_l 1 rfl (by kernel_rfl) (by kernel_rfl) rfl rfl rfl (fun _ _ _ h => h) (fun _ h => h) (y_loadA 16 rfl (by kernel_rfl) (by rw [List.length_map]; exact hN) (hcw (.head _))) ?_ | refine tx_l 1 rfl (by kernel_rfl) (by kernel_rfl) rfl rfl rfl (fun _ _ _ h => h) (fun _ h => h) (y_loadA 16 rfl (by kernel_rfl) (by rw [List.length_map]; exact hN) (hcw (.tail _ (.head _)))) ?_)
  refine tx_a 0 rfl (by kernel_rfl) rfl ?_; refine a_callv [] _ rfl (by kernel_rfl) rfl (fun w' hw' => nobody_spec w') rfl fun _ _ => ?_
  refine tk_S (fun _ h => h) ?_
  refine tx_x 2 rfl (by kernel_rfl) rfl rfl ?_; refine a_callv [] _ rfl (by kernel_rfl) rfl (fun w' hw' => beginNo_spec N w') rfl fun _ _ => ?_
  refine tx_q 3 rfl (by kernel_rfl) rfl rfl rfl (fun _ _ _ h => h) (y_move rfl) ?_
  refine tx_q 4 rfl (by kernel_rfl) rfl rfl rfl (fun _ _ _ h => h) (y_extract rfl rfl) ?_
  refine tx_q 5 rfl (by kernel_rfl) rfl rfl rfl (fun _ _ _ h => h) (y_extract rfl rfl) ?_
  refine tx_q 6 rfl (by kernel_rfl) rfl rfl rfl (fun _ _ _ h => h) (y_assign rfl) ?_
  refine tx_q 7 rfl (by kernel_rfl) rfl rfl rfl (fun _ _ _ h => h) (y_assign rfl) ?_
  refine tx_done (by kernel_rfl) ?_
  refine tk_then ?_
  refine tk_seq ?_
  refine tk_seq ?_
  refine tk_region ?_
  refine tk_act rfl ?_; refine a_callv [] _ rfl (by kernel_rfl) rfl (fun w' hw' => hides_spec w') rfl fun _ _ => ?_
  refine tk_q rfl rfl rfl (y_not rfl) ?_
  refine tk_q rfl rfl rfl (y_move rfl) ?_
  refine tk_gq rfl rfl rfl (y_move rfl) ?_
  refine tk_gqe (.bool false) rfl rfl rfl (y_neq rfl rfl) (bool_f (by omega)) ?_
  refine tk_q rfl rfl rfl (y_pick0 rfl rfl) ?_
  refine tk_q rfl rfl rfl (y_move rfl) ?_
  refine tk_gact rfl ?_; refine a_callv [] _ rfl (by kernel_rfl) rfl (fun w' hw' => nothing_spec w') rfl fun _ _ => ?_
  refine tk_gq rfl rfl rfl (y_move rfl) ?_
  refine tk_gact rfl ?_; refine a_slit1 rfl hR.one el74 rfl fun b29 => ?_
  refine tk_gact rfl ?_; refine a_callv [] _ rfl (by kernel_rfl) rfl (fun w' hw' => hide0_spec _ w') rfl fun _ _ => ?_
  refine tk_gq rfl rfl rfl (y_lenS rfl rfl) ?_
  refine tk_gqe (.bool false) rfl rfl rfl (y_neq rfl rfl) (bool_f (by omega)) ?_
  refine tk_q rfl rfl rfl (y_pick0 rfl rfl) ?_
  refine tk_q rfl rfl rfl (y_move rfl) ?_
  refine tk_gact rfl ?_; refine a_callv [] _ rfl (by kernel_rfl) rfl (fun w' hw' => nothing_spec w') rfl fun _ _ => ?_
  refine tk_gact rfl ?_; refine a_callv [] _ rfl (by kernel_rfl) rfl (fun w' hw' => at0_spec w') rfl fun _ _ => ?_
  refine tk_gqe (.bool false) rfl rfl rfl (y_neq rfl rfl) (bool_f (by omega)) ?_
  refine tk_q rfl rfl rfl (y_pick0 rfl rfl) ?_
  refine tk_q rfl rfl rfl (y_move rfl) ?_
  refine tk_gact rfl ?_; refine a_callv [] _ rfl (by kernel_rfl) rfl (fun w' hw' => nothing_spec w') rfl fun _ _ => ?_
  refine tk_gact rfl ?_; refine a_callv [] _ rfl (by kernel_rfl) rfl (fun w' hw' => seek0_spec 0 w') rfl fun _ _ => ?_
  refine tk_gqe (.bool false) rfl rfl rfl (y_neq rfl rfl) (bool_f (by omega)) ?_
  refine tk_q rfl rfl rfl (y_pick0 rfl rfl) ?_
  refine tk_nil ?_
  refine tk_then ?_
  refine tk_cond0 rfl ?_
  refine tk_skip ?_
  refine tk_then ?_
  refine tk_seq ?_
  refine tk_region ?_
  refine tk_q rfl rfl rfl (y_move rfl) ?_
  refine tk_qe (.bool false) rfl rfl rfl (y_eql rfl rfl) (bool_f (by omega)) ?_
  refine tk_q rfl rfl rfl (y_move rfl) ?_
  refine tk_q rfl rfl rfl (y_lenR rfl hR rfl) ?_
  refine tk_qe (.bool false) rfl rfl rfl (y_eql rfl rfl) (bool_f (by rw [List.length_map]; omega)) ?_
  refine tk_qe (.bool true) rfl rfl rfl (y_eqB rfl rfl rfl) (rfl) ?_
  refine tk_q rfl rfl rfl (y_move rfl) ?_
  refine tk_gq rfl rfl rfl (y_move rfl) ?_
  refine tk_gqe (.bool false) rfl rfl rfl (y_pnnil rfl rfl rfl) (rfl) ?_
  refine tk_gq rfl rfl rfl (y_move rfl) ?_
  refine tk_gqe (.bool false) rfl rfl rfl (y_eql rfl rfl) (bool_f (by omega)) ?_
  refine tk_gqe (.bool true) rfl rfl rfl (y_eqB rfl rfl rfl) (rfl) ?_
  refine tk_q rfl rfl rfl (y_pick1 rfl rfl) ?_
  refine tk_q rfl rfl rfl (y_move rfl) ?_
  refine tk_gq rfl rfl rfl (y_move rfl) ?_
  refine tk_gqe (.bool false) rfl rfl rfl (y_eql rfl rfl) (bool_f (by omega)) ?_
  refine tk_gq rfl rfl rfl (y_move rfl) ?_
  refine tk_gq rfl rfl rfl (y_move rfl) ?_
  refine tk_gqe (.bool true) rfl rfl rfl (y_eql rfl rfl) (bool_t (by omega)) ?_
  refine tk_gq rfl rfl rfl (y_pick0 rfl rfl) ?_
  refine tk_q rfl rfl rfl (y_pick1 rfl rfl) ?_
  refine tk_q rfl rfl rfl (y_assign rfl) ?_
  refine tk_nil ?_
  refine tk_then ?_
  refine tk_retc ?_
  exact tk_ret () trivial (.inl rfl) (r1 rfl rfl) (List.nil_sublist _)
theorem sizes_spec (v : Value) (bs N : List UInt8) (w : World) (hR : RdB w v bs) (hN : N.length = 16) : Spec Try.prog 6 [v, Ag N] w [] (fun _ : Unit => True) (fun _ => .bool true) (fun _ => []) := by
  by_cases hl : bs.length = 32
  · exact sizes_yes v bs N w hR hN hl
  · exact sizes_no v bs N w hR hN hl
end Go.Proofs.Ytfofkjajlfphjaa
