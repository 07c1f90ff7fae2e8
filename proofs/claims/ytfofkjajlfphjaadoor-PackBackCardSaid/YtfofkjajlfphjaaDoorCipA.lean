/- cipher: the walks over twice, forward, add, shift, mix, Turn. -/
import Derived.Test.YtfofkjajlfphjaaDoorNames
import Derived.Test.YtfofkjajlfphjaaDoorCipPure
set_option linter.unusedSimpArgs false
set_option linter.unusedVariables false
namespace Go.Proofs.YtfofkjajlfphjaaDoor.Cip
open Go Go.RowKit
set_option maxRecDepth 100000
theorem twice_spec (x : UInt8) (w : World) : Spec Tryd.prog 114 [B x] w [] (fun _ : Unit => True) (fun _ => B (twice8 x)) (fun _ => []) := by
  refine spec_of (n := 10) Tryd.func114 rfl rfl trivial trivial rfl ?_; refine s_r ?_; refine s_q rfl (y_assign rfl) ?_; refine s_n ?_; refine s_r ?_; refine s_q rfl (y_move rfl) ?_; refine s_q rfl (y_shl8 (m := 1) rfl rfl (by decide)) ?_; refine s_q rfl (y_move rfl) ?_; refine s_q rfl (y_shr8 (m := 7) rfl rfl (by decide)) ?_; refine s_q rfl (y_neg8 rfl) ?_; refine s_q rfl (y_and8 (b := 27) rfl rfl) ?_
  refine s_q rfl (y_xor8 rfl rfl) ?_; refine s_q rfl (y_assign rfl) ?_; refine s_n ?_; refine tk_retc ?_
  exact tk_ret () trivial (.inl rfl) (r1 rfl rfl) (List.Sublist.refl _)
theorem add_spec (kb sb r : Nat) (K V : List UInt8) (T : TypeId) (w : World) (hr : r ≤ 14) (hV : V.length = 16) (hne : kb ≠ sb) (hk : ∀ j, j < 240 → w.cell? ⟨kb, j, none⟩ = some (B (K.getD j 0))) (hs : (cel sb (V.map B) T).holds w) :
    Spec Tryd.prog 110 [.pointer (some ⟨kb, 0, none⟩), .pointer (some ⟨sb, 0, none⟩), I r] w [cel sb (V.map B) T] (fun _ : Unit => True) (fun _ => .tuple #[]) (fun _ => [cel sb ((addTo K r V 16).map B) T]) := by
  refine spec_of (n := 32) Tryd.func110 rfl rfl ⟨hs, trivial⟩ ⟨fun _ _ h => h, trivial⟩ rfl ?_; refine s_r ?_; refine s_q rfl (y_move rfl) ?_; refine s_n ?_; refine tk_block ?_; refine tk_loop (X := Nat) (fun k => k ≤ 16) (fun k => [(0, .pointer (some ⟨kb, 0, none⟩)), (1, .pointer (some ⟨sb, 0, none⟩)), (2, I r), (7, I (k : Int))]) (fun k => [cel sb ((addTo K r V k).map B) T]) (fun k => 16 - k) (0) (by omega) (by repeat (first | exact trivial | refine ⟨rfl, ?_⟩)) (List.Sublist.refl _) ?_
  intro k hI
  refine s_r ?_; refine s_q rfl (y_lss rfl rfl) ?_; refine s_n ?_; refine tk_seq ?_; refine tk_condP rfl (fun h8 => ?_) (fun h8 => ?_)
  · skip
    refine tk_skip ?_; refine tk_then ?_; refine tk_seq ?_; refine tk_block ?_; refine s_r ?_; refine s_q rfl (y_move rfl) ?_; refine s_q rfl (y_assign rfl) ?_; refine s_n ?_; refine tk_drawS [21] (by kernel_rfl) ?_; refine s_x 0 rfl (y_move rfl) ?_; refine s_x 1 rfl (y_move rfl) ?_; refine s_x 2 rfl (y_nilCheck rfl) ?_
    (first | refine s_x 3 rfl (y_ixA01 16 rfl rfl (by kernel_rfl) (by omega)) ?_ | refine s_x 3 rfl (y_ixAN1 16 rfl rfl (by kernel_rfl) (by omega)) ?_)
    refine s_l 4 rfl (fun _ h => h) (y_load rfl rfl (hc (.head _) (getB (by rw [addTo_len, hV]; omega)))) ?_; refine s_x 5 rfl (y_move rfl) ?_; refine s_x 6 rfl (y_move rfl) ?_; refine s_x 7 rfl (y_mulI rfl rfl (by omega)) ?_; refine s_x 8 rfl (y_move rfl) ?_; refine s_x 9 rfl (y_quoI rfl rfl (by omega)) ?_; refine s_x 10 rfl (y_addI rfl rfl (by omega)) ?_; refine s_x 11 rfl (y_move rfl) ?_; refine s_x 12 rfl (y_remI rfl rfl (by omega)) ?_
    refine s_x 13 rfl (y_nilCheck rfl) ?_; refine s_x 14 rfl (y_fld0 rfl (by kernel_rfl)) ?_; refine s_x 15 rfl (y_ixAI 60 4 (4 * r + k / 4) rfl rfl (by kernel_rfl) (by omega)) ?_; refine s_x 16 rfl ((y_ixAI 4 1 (k % 4) rfl rfl (by kernel_rfl) (by omega)).cast (v := _) (u := .pointer (some ⟨kb, 16 * r + k, none⟩)) (by congr 3; omega)) ?_; refine s_l 17 rfl (fun _ h => h) (y_load rfl rfl (hro (hk _ (by omega)) (by simp [Fs, cel]; exact hne))) ?_
    refine s_x 18 rfl (y_xor8 rfl rfl) ?_; refine s_x 19 rfl (y_nilCheck rfl) ?_
    (first | refine s_x 20 rfl (y_ixA01 16 rfl rfl (by kernel_rfl) (by omega)) ?_ | refine s_x 20 rfl (y_ixAN1 16 rfl rfl (by kernel_rfl) (by omega)) ?_)
    refine tx_x 21 rfl (by kernel_rfl) rfl rfl ?_; refine a_store1B (H1 := []) rfl rfl (by kernel_rfl) rfl (by rw [addTo_len, hV]; omega) ?_; refine tx_done (by kernel_rfl) ?_; refine tk_in_normal ?_; refine tk_then ?_; refine tk_region ?_; refine s_q rfl (y_addI rfl rfl (by omega)) ?_; refine s_q rfl (y_move rfl) ?_; refine tk_nil ?_
    exact tk_again (k + 1) (by omega) (by omega) (by repeat (first | exact trivial | refine ⟨rfl, ?_⟩)) (List.Sublist.refl _)
  · skip
    refine tk_exit ?_; refine tk_then_exit ?_; refine tk_then_exit ?_; refine tk_in_hit ?_
    obtain rfl : k = 16 := by omega
    exact tk_ret () trivial (.inr rfl) (r0 rfl) (List.Sublist.refl _)
theorem forward_spec (w : World) : Spec Tryd.prog 103 [] w [] (fun _ : Unit => True) (fun _ => Ag fwd) (fun _ => []) := by
  refine spec_of (n := 2) Tryd.func103 rfl rfl trivial trivial rfl ?_; refine s_r ?_; refine tk_act rfl ?_; refine a_allocL (cs := (List.replicate 256 0).map B) (by kernel_rfl) rfl fun b0 => ?_; refine s_n ?_; refine s_r ?_; refine s_q rfl (y_build (v := Ag fwd) (vs := fwd.zipIdx.map fun p => (p.2, B p.1)) (by kernel_rfl) (fun _ => by kernel_rfl)) ?_; refine tk_act rfl ?_; refine a_storeW (H1 := []) 256 rfl rfl (by kernel_rfl) rfl ⟨by rw [List.length_map]; exact fwd_len, by rw [List.length_map, List.length_replicate]⟩ oneB ?_
  refine s_n ?_; refine tk_retc ?_
  exact tk_ret () trivial (.inl rfl) (rc rfl rfl (by rw [List.length_map, fwd_len]; kernel_rfl) (hcw (.head _))) (List.nil_sublist _)
theorem getF {b : UInt8} : (fwd.map B).toArray[((b.toNat : Int)).toNat]? = some (B (sbox b)) := getBA (by rw [fwd_len]; exact b_lt b)
theorem shift_spec (V : List UInt8) (w : World) (hV : V.length = 16) : Spec Tryd.prog 111 [Ag V] w [] (fun _ : Unit => True) (fun _ => Ag (shTo V 16)) (fun _ => []) := by
  refine spec_of (n := 22) Tryd.func111 rfl rfl trivial trivial rfl ?_; refine s_r ?_; refine tk_act rfl ?_; refine a_boxL rfl rfl fun b1 => ?_; refine tk_act rfl ?_; refine a_allocL (cs := (List.replicate 16 0).map B) (by kernel_rfl) rfl fun b2 => ?_; refine s_n ?_; refine s_r ?_; refine tk_act rfl ?_; refine a_allocL (cs := (List.replicate 16 0).map B) (by kernel_rfl) rfl fun b3 => ?_; refine s_n ?_
  refine tk_seq ?_; refine s_r ?_; refine s_q rfl (y_move rfl) ?_; refine s_n ?_; refine tk_block ?_; refine tk_loop (X := Nat) (fun k => k ≤ 16) (fun k => [(1, .pointer (some ⟨b1, 0, none⟩)), (2, .pointer (some ⟨b2, 0, none⟩)), (3, .pointer (some ⟨b3, 0, none⟩)), (5, I (k : Int))]) (fun k => [cel b3 ((shTo V k).map B) 25, cel b2 ((List.replicate 16 0).map B) 25, cel b1 (V.map B) 25]) (fun k => 16 - k) (0) (by omega) (by repeat (first | exact trivial | refine ⟨rfl, ?_⟩)) (List.Sublist.refl _) ?_
  intro k hI
  refine s_r ?_; refine s_q rfl (y_lss rfl rfl) ?_; refine s_n ?_; refine tk_seq ?_; refine tk_condP rfl (fun h6 => ?_) (fun h6 => ?_)
  · skip
    refine tk_skip ?_; refine tk_then ?_; refine tk_seq ?_; refine tk_block ?_; refine s_r ?_; refine s_q rfl (y_move rfl) ?_; refine s_q rfl (y_assign rfl) ?_; refine s_n ?_; refine tk_drawS [12] (by kernel_rfl) ?_; refine s_x 0 rfl (y_move rfl) ?_; refine s_x 2 rfl (y_move rfl) ?_; refine s_x 3 rfl (y_move rfl) ?_; refine s_x 4 rfl (y_remI rfl rfl (by omega)) ?_; refine s_x 5 rfl (y_mulI rfl rfl (by omega)) ?_
    refine s_x 6 rfl (y_addI rfl rfl (by omega)) ?_; refine s_x 7 rfl (y_remI rfl rfl (by omega)) ?_; refine s_x 8 rfl (y_ixA0I 16 ((k + k % 4 * 4) % 16) rfl rfl (by kernel_rfl) (by omega)) ?_; refine s_l 9 rfl (fun _ h => h) (y_load rfl rfl (hc (.tail _ (.tail _ (.head _))) (getB (by omega)))) ?_; refine tx_a 1 rfl (by kernel_rfl) rfl ?_; refine a_callv [] _ rfl (by kernel_rfl) rfl (fun w' hw' => forward_spec w') rfl fun _ _ => ?_
    refine tk_S (fun _ h => h) ?_; refine s_x 10 rfl (y_ixV rfl rfl rfl rfl (fun _ => by kernel_rfl) (ixb _) getF) ?_
    (first | refine s_x 11 rfl (y_ixA01 16 rfl rfl (by kernel_rfl) (by omega)) ?_ | refine s_x 11 rfl (y_ixAN1 16 rfl rfl (by kernel_rfl) (by omega)) ?_)
    refine tx_x 12 rfl (by kernel_rfl) rfl rfl ?_; (first | refine a_store1B (H1 := []) rfl rfl (by kernel_rfl) rfl (by simp; omega) ?_ | refine a_store1B (H1 := [_]) rfl rfl (by kernel_rfl) rfl (by simp; omega) ?_ | refine a_store1B (H1 := [_, _]) rfl rfl (by kernel_rfl) rfl (by simp; omega) ?_)
    refine tx_done (by kernel_rfl) ?_; refine tk_in_normal ?_; refine tk_then ?_; refine tk_region ?_; refine s_q rfl (y_addI rfl rfl (by omega)) ?_; refine s_q rfl (y_move rfl) ?_; refine tk_nil ?_
    exact tk_again (k + 1) (by omega) (by omega) (by repeat (first | exact trivial | refine ⟨rfl, ?_⟩)) (List.Sublist.refl _)
  · skip
    refine tk_exit ?_; refine tk_then_exit ?_; refine tk_then_exit ?_; refine tk_in_hit ?_; refine tk_then ?_; refine s_r ?_
    obtain rfl : k = 16 := by omega
    (first | refine s_q rfl (y_loadA 16 rfl (by kernel_rfl) (by simp) (hcw (.head _))) ?_ | refine s_q rfl (y_loadA 16 rfl (by kernel_rfl) (by simp) (hcw (.tail _ (.head _)))) ?_ | refine s_q rfl (y_loadA 16 rfl (by kernel_rfl) (by simp) (hcw (.tail _ (.tail _ (.head _))))) ?_)
    refine tk_act rfl ?_; (first | refine a_storeW (H1 := []) 16 rfl rfl (by kernel_rfl) rfl ⟨by simp, by simp⟩ oneB ?_ | refine a_storeW (H1 := [_]) 16 rfl rfl (by kernel_rfl) rfl ⟨by simp, by simp⟩ oneB ?_ | refine a_storeW (H1 := [_, _]) 16 rfl rfl (by kernel_rfl) rfl ⟨by simp, by simp⟩ oneB ?_)
    refine s_n ?_; refine tk_retc ?_
    exact tk_ret () trivial (.inl rfl) (rc rfl rfl (by simp; kernel_rfl) (hcw (.tail _ (.head _)))) (List.nil_sublist _)
theorem mix_spec (sb : Nat) (V : List UInt8) (T : TypeId) (w : World) (hV : V.length = 16) (hs : (cel sb (V.map B) T).holds w) :
    Spec Tryd.prog 112 [.pointer (some ⟨sb, 0, none⟩)] w [cel sb (V.map B) T] (fun _ : Unit => True) (fun _ => .tuple #[]) (fun _ => [cel sb ((mixTo V 4).map B) T]) := by
  refine spec_of (n := 82) Tryd.func112 rfl rfl ⟨hs, trivial⟩ ⟨fun _ _ h => h, trivial⟩ rfl ?_; refine s_r ?_; refine s_q rfl (y_assign rfl) ?_; refine s_n ?_; refine tk_block ?_; refine tk_loop (X := Nat) (fun k => k ≤ 4) (fun k => [(0, .pointer (some ⟨sb, 0, none⟩)), (2, I (4 * (k : Int)))]) (fun k => [cel sb ((mixTo V k).map B) T]) (fun k => 4 - k) (0) (by omega) (by repeat (first | exact trivial | refine ⟨rfl, ?_⟩)) (List.Sublist.refl _) ?_
  intro k hI
  refine tk_seq ?_; refine s_r ?_; refine s_q rfl (y_move rfl) ?_; refine s_q rfl (y_lss rfl rfl) ?_; refine s_n ?_; refine tk_condP rfl (fun h10 => ?_) (fun h10 => ?_)
  · skip
    refine tk_skip ?_; refine tk_then ?_; refine tk_seq ?_; refine tk_block ?_; refine s_r ?_; refine s_q rfl (y_move rfl) ?_; refine s_q rfl (y_nilCheck rfl) ?_; refine s_q rfl (y_move rfl) ?_; refine s_q rfl (y_move rfl) ?_; refine s_q rfl (y_addI rfl rfl (by omega)) ?_; refine tk_qe (.slice (some ⟨sb, 4 * k, none⟩) 4 (16 - 4 * k)) rfl rfl rfl (y_cutAN 16 1 (4 * k) (4 * k + 4) rfl rfl rfl (by kernel_rfl) (by omega)) (by simp) ?_
    refine s_q rfl (y_assign rfl) ?_; refine s_n ?_; refine tk_seq ?_; refine tk_drawS [] (by kernel_rfl) ?_; refine s_x 0 rfl (y_move rfl) ?_
    (first | refine s_x 1 rfl (y_ixS01 (i := 0) rfl rfl (by kernel_rfl) (by omega)) ?_ | refine s_x 1 rfl (y_ixSN1 (i := 0) rfl rfl (by kernel_rfl) (by omega)) ?_)
    refine s_l 2 rfl (fun _ h => h) (y_load rfl rfl (hc (.head _) (getB (by simp [hV]; omega)))) ?_; refine s_x 3 rfl (y_move rfl) ?_
    (first | refine s_x 4 rfl (y_ixS01 (i := 1) rfl rfl (by kernel_rfl) (by omega)) ?_ | refine s_x 4 rfl (y_ixSN1 (i := 1) rfl rfl (by kernel_rfl) (by omega)) ?_)
    refine s_l 5 rfl (fun _ h => h) (y_load rfl rfl (hc (.head _) (getB (by simp [hV]; omega)))) ?_; refine s_x 6 rfl (y_move rfl) ?_
    (first | refine s_x 7 rfl (y_ixS01 (i := 2) rfl rfl (by kernel_rfl) (by omega)) ?_ | refine s_x 7 rfl (y_ixSN1 (i := 2) rfl rfl (by kernel_rfl) (by omega)) ?_)
    refine s_l 8 rfl (fun _ h => h) (y_load rfl rfl (hc (.head _) (getB (by simp [hV]; omega)))) ?_; refine s_x 9 rfl (y_move rfl) ?_
    (first | refine s_x 10 rfl (y_ixS01 (i := 3) rfl rfl (by kernel_rfl) (by omega)) ?_ | refine s_x 10 rfl (y_ixSN1 (i := 3) rfl rfl (by kernel_rfl) (by omega)) ?_)
    refine s_l 11 rfl (fun _ h => h) (y_load rfl rfl (hc (.head _) (getB (by simp [hV]; omega)))) ?_; refine s_x 12 rfl (y_assign rfl) ?_; refine s_x 13 rfl (y_assign rfl) ?_; refine s_x 14 rfl (y_assign rfl) ?_; refine s_x 15 rfl (y_assign rfl) ?_; refine tx_done (by kernel_rfl) ?_; refine tk_then ?_; refine s_r ?_; refine s_q rfl (y_move rfl) ?_; refine s_q rfl (y_move rfl) ?_; refine s_q rfl (y_xor8 rfl rfl) ?_
    refine s_q rfl (y_move rfl) ?_; refine s_q rfl (y_xor8 rfl rfl) ?_; refine s_q rfl (y_move rfl) ?_; refine s_q rfl (y_xor8 rfl rfl) ?_; refine s_q rfl (y_assign rfl) ?_; refine s_n ?_; refine tk_seq ?_; refine tk_drawS [11] (by kernel_rfl) ?_; refine s_x 0 rfl (y_move rfl) ?_
    (first | refine s_x 1 rfl (y_ixS01 (i := 0) rfl rfl (by kernel_rfl) (by omega)) ?_ | refine s_x 1 rfl (y_ixSN1 (i := 0) rfl rfl (by kernel_rfl) (by omega)) ?_)
    refine s_l 2 rfl (fun _ h => h) (y_load rfl rfl (hc (.head _) (getB (by simp [hV]; omega)))) ?_; refine s_x 3 rfl (y_move rfl) ?_; refine s_x 4 rfl (y_move rfl) ?_; refine s_x 5 rfl (y_move rfl) ?_; refine s_x 6 rfl (y_xor8 rfl rfl) ?_; refine tx_a 7 rfl (by kernel_rfl) rfl ?_; refine a_callv [] _ rfl (by kernel_rfl) rfl (fun w' hw' => twice_spec _ w') rfl fun _ _ => ?_; refine tk_S (fun _ h => h) ?_
    refine s_x 8 rfl (y_xor8 rfl rfl) ?_; refine s_x 9 rfl (y_xor8 rfl rfl) ?_
    (first | refine s_x 10 rfl (y_ixS01 (i := 0) rfl rfl (by kernel_rfl) (by omega)) ?_ | refine s_x 10 rfl (y_ixSN1 (i := 0) rfl rfl (by kernel_rfl) (by omega)) ?_)
    refine tx_x 11 rfl (by kernel_rfl) rfl rfl ?_; refine a_store1B (H1 := []) rfl rfl (by kernel_rfl) rfl (by simp [hV]; omega) ?_; refine tx_done (by kernel_rfl) ?_; refine tk_then ?_; refine tk_seq ?_; refine tk_drawS [11] (by kernel_rfl) ?_; refine s_x 0 rfl (y_move rfl) ?_
    (first | refine s_x 1 rfl (y_ixS01 (i := 1) rfl rfl (by kernel_rfl) (by omega)) ?_ | refine s_x 1 rfl (y_ixSN1 (i := 1) rfl rfl (by kernel_rfl) (by omega)) ?_)
    refine s_l 2 rfl (fun _ h => h) (y_load rfl rfl (hc (.head _) (getB (by simp [hV]; omega)))) ?_; refine s_x 3 rfl (y_move rfl) ?_; refine s_x 4 rfl (y_move rfl) ?_; refine s_x 5 rfl (y_move rfl) ?_; refine s_x 6 rfl (y_xor8 rfl rfl) ?_; refine tx_a 7 rfl (by kernel_rfl) rfl ?_; refine a_callv [] _ rfl (by kernel_rfl) rfl (fun w' hw' => twice_spec _ w') rfl fun _ _ => ?_; refine tk_S (fun _ h => h) ?_
    refine s_x 8 rfl (y_xor8 rfl rfl) ?_; refine s_x 9 rfl (y_xor8 rfl rfl) ?_
    (first | refine s_x 10 rfl (y_ixS01 (i := 1) rfl rfl (by kernel_rfl) (by omega)) ?_ | refine s_x 10 rfl (y_ixSN1 (i := 1) rfl rfl (by kernel_rfl) (by omega)) ?_)
    refine tx_x 11 rfl (by kernel_rfl) rfl rfl ?_; refine a_store1B (H1 := []) rfl rfl (by kernel_rfl) rfl (by simp [hV]; omega) ?_; refine tx_done (by kernel_rfl) ?_; refine tk_then ?_; refine tk_seq ?_; refine tk_drawS [11] (by kernel_rfl) ?_; refine s_x 0 rfl (y_move rfl) ?_
    (first | refine s_x 1 rfl (y_ixS01 (i := 2) rfl rfl (by kernel_rfl) (by omega)) ?_ | refine s_x 1 rfl (y_ixSN1 (i := 2) rfl rfl (by kernel_rfl) (by omega)) ?_)
    refine s_l 2 rfl (fun _ h => h) (y_load rfl rfl (hc (.head _) (getB (by simp [hV]; omega)))) ?_; refine s_x 3 rfl (y_move rfl) ?_; refine s_x 4 rfl (y_move rfl) ?_; refine s_x 5 rfl (y_move rfl) ?_; refine s_x 6 rfl (y_xor8 rfl rfl) ?_; refine tx_a 7 rfl (by kernel_rfl) rfl ?_; refine a_callv [] _ rfl (by kernel_rfl) rfl (fun w' hw' => twice_spec _ w') rfl fun _ _ => ?_; refine tk_S (fun _ h => h) ?_
    refine s_x 8 rfl (y_xor8 rfl rfl) ?_; refine s_x 9 rfl (y_xor8 rfl rfl) ?_
    (first | refine s_x 10 rfl (y_ixS01 (i := 2) rfl rfl (by kernel_rfl) (by omega)) ?_ | refine s_x 10 rfl (y_ixSN1 (i := 2) rfl rfl (by kernel_rfl) (by omega)) ?_)
    refine tx_x 11 rfl (by kernel_rfl) rfl rfl ?_; refine a_store1B (H1 := []) rfl rfl (by kernel_rfl) rfl (by simp [hV]; omega) ?_; refine tx_done (by kernel_rfl) ?_; refine tk_then ?_; refine tk_drawS [11] (by kernel_rfl) ?_; refine s_x 0 rfl (y_move rfl) ?_
    (first | refine s_x 1 rfl (y_ixS01 (i := 3) rfl rfl (by kernel_rfl) (by omega)) ?_ | refine s_x 1 rfl (y_ixSN1 (i := 3) rfl rfl (by kernel_rfl) (by omega)) ?_)
    refine s_l 2 rfl (fun _ h => h) (y_load rfl rfl (hc (.head _) (getB (by simp [hV]; omega)))) ?_; refine s_x 3 rfl (y_move rfl) ?_; refine s_x 4 rfl (y_move rfl) ?_; refine s_x 5 rfl (y_move rfl) ?_; refine s_x 6 rfl (y_xor8 rfl rfl) ?_; refine tx_a 7 rfl (by kernel_rfl) rfl ?_; refine a_callv [] _ rfl (by kernel_rfl) rfl (fun w' hw' => twice_spec _ w') rfl fun _ _ => ?_; refine tk_S (fun _ h => h) ?_
    refine s_x 8 rfl (y_xor8 rfl rfl) ?_; refine s_x 9 rfl (y_xor8 rfl rfl) ?_
    (first | refine s_x 10 rfl (y_ixS01 (i := 3) rfl rfl (by kernel_rfl) (by omega)) ?_ | refine s_x 10 rfl (y_ixSN1 (i := 3) rfl rfl (by kernel_rfl) (by omega)) ?_)
    refine tx_x 11 rfl (by kernel_rfl) rfl rfl ?_; refine a_store1B (H1 := []) rfl rfl (by kernel_rfl) rfl (by simp [hV]; omega) ?_; refine tx_done (by kernel_rfl) ?_; refine tk_in_normal ?_; refine tk_then ?_; refine tk_region ?_; refine s_q rfl (y_move rfl) ?_; refine s_q rfl (y_addI rfl rfl (by omega)) ?_; refine s_q rfl (y_assign rfl) ?_; refine tk_nil ?_
    exact tk_again (k + 1) (by omega) (by omega) (by exact ⟨rfl, by simp [lk]; omega, trivial⟩) (List.Sublist.refl _)
  · skip
    refine tk_exit ?_; refine tk_then_exit ?_; refine tk_then_exit ?_; refine tk_in_hit ?_
    obtain rfl : k = 4 := by omega
    exact tk_ret () trivial (.inr rfl) (r0 rfl) (List.Sublist.refl _)
theorem turn_spec (kb : Nat) (K V : List UInt8) (w : World) (hV : V.length = 16) (hk : ∀ j, j < 240 → w.cell? ⟨kb, j, none⟩ = some (B (K.getD j 0))) :
    Spec Tryd.prog 104 [.pointer (some ⟨kb, 0, none⟩), Ag V] w [] (fun _ : Unit => True) (fun _ => Ag (turn K V)) (fun _ => []) := by
  refine spec_of (n := 24) Tryd.func104 rfl rfl trivial trivial rfl ?_; refine s_r ?_; refine tk_act rfl ?_; refine a_boxL rfl rfl fun b3 => ?_; refine tk_act rfl ?_; refine a_allocL (cs := (List.replicate 16 0).map B) (by kernel_rfl) rfl fun b4 => ?_; refine s_n ?_; refine tk_seq ?_; refine s_r ?_; refine s_q rfl (y_move rfl) ?_; refine tk_qe (.bool false) rfl rfl rfl (y_pnil rfl rfl rfl) (rfl) ?_
  refine s_n ?_; refine tk_cond0 rfl ?_; refine tk_skip ?_; refine tk_then ?_; refine s_r ?_; refine s_q rfl (y_move rfl) ?_; refine tk_act rfl ?_; refine a_callv [_] _ rfl (by kernel_rfl) rfl (fun w' hw' => add_spec kb b3 0 K V 25 w' (by omega) hV (hw'.ne (hk 0 (by omega)) (fun h => h) (.tail _ (.head _))) (fun j hj => hw'.fr.cell (hk j hj) (fun h => h)) (hw'.mem (.tail _ (.head _)))) rfl fun _ _ => ?_
  refine s_n ?_; refine tk_seq ?_; refine s_r ?_; refine s_q rfl (y_assign rfl) ?_; refine s_n ?_; refine tk_block ?_; refine tk_loop (X := Nat) (fun r => r ≤ 14) (fun r => [(0, .pointer (some ⟨kb, 0, none⟩)), (3, .pointer (some ⟨b3, 0, none⟩)), (4, .pointer (some ⟨b4, 0, none⟩)), (5, I ((r + 1 : Nat) : Int))]) (fun r => [cel b4 ((List.replicate 16 0).map B) 25, cel b3 ((turnTo K V r).map B) 25]) (fun r => 14 - r) (0) (by omega) (by repeat (first | exact trivial | refine ⟨rfl, ?_⟩)) (List.Sublist.refl _) ?_
  intro r hI
  refine tk_seq ?_; refine s_r ?_; refine s_q rfl (y_move rfl) ?_; refine s_q rfl (y_leq rfl rfl) ?_; refine s_n ?_; refine tk_condP rfl (fun h12 => ?_) (fun h12 => ?_)
  · skip
    refine tk_skip ?_; refine tk_then ?_; refine tk_seq ?_; refine tk_block ?_; refine s_r ?_
    have hT := turnTo_len (K := K) (r := r) hV
    (first | refine s_q rfl (y_loadA 16 rfl (by kernel_rfl) (by simp [hV]) (hcw (.head _))) ?_ | refine s_q rfl (y_loadA 16 rfl (by kernel_rfl) (by simp [hV]) (hcw (.tail _ (.head _)))) ?_)
    refine tk_act rfl ?_; refine a_callv [] _ rfl (by kernel_rfl) rfl (fun w' hw' => shift_spec _ w' (by simp [hV])) rfl fun _ _ => ?_; refine tk_act rfl ?_; refine a_storeW (H1 := [_]) 16 rfl rfl (by kernel_rfl) rfl ⟨by simp, by simp [hT]⟩ oneB ?_; refine s_n ?_; refine tk_seq ?_; refine s_r ?_; refine s_q rfl (y_move rfl) ?_; refine s_q rfl (y_lss rfl rfl) ?_; refine s_n ?_; refine tk_condP rfl (fun h18 => ?_) (fun h18 => ?_)
    · skip
      refine tk_region ?_; refine tk_act rfl ?_; refine a_callv [_] _ rfl (by kernel_rfl) rfl (fun w' hw' => mix_spec b3 _ 25 w' (by simp) (hw'.mem (.tail _ (.head _)))) rfl fun _ _ => ?_; refine s_n ?_; refine tk_region ?_; refine s_q rfl (y_move rfl) ?_; refine s_q rfl (y_move rfl) ?_; refine tk_act rfl ?_; refine a_callv [_] _ rfl (by kernel_rfl) rfl (fun w' hw' => add_spec kb b3 (r + 1) K _ 25 w' (by omega) (by simp) (hw'.ne (hk 0 (by omega)) (fun h => h) (.tail _ (.head _))) (fun j hj => hw'.fr.cell (hk j hj) (fun h => h)) (hw'.mem (.tail _ (.head _)))) rfl fun _ _ => ?_
      refine tk_nil ?_; refine tk_in_normal ?_; refine tk_then ?_; refine tk_region ?_; refine s_q rfl (y_move rfl) ?_; refine tk_qe (I ((r + 1 + 1 : Nat) : Int)) rfl rfl rfl (y_addI rfl rfl (by omega)) (by simp) ?_; refine s_q rfl (y_assign rfl) ?_; refine tk_nil ?_
      exact tk_again (r + 1) (by omega) (by omega) (by repeat (first | exact trivial | refine ⟨rfl, ?_⟩)) (by simp only [turnTo]; (first | rw [if_pos (by omega)] | rw [if_neg (by omega)]); exact List.Sublist.refl _)
    · skip
      refine tk_skip ?_; refine tk_then ?_; refine tk_region ?_; refine s_q rfl (y_move rfl) ?_; refine s_q rfl (y_move rfl) ?_; refine tk_act rfl ?_; refine a_callv [_] _ rfl (by kernel_rfl) rfl (fun w' hw' => add_spec kb b3 (r + 1) K _ 25 w' (by omega) (by simp) (hw'.ne (hk 0 (by omega)) (fun h => h) (.tail _ (.head _))) (fun j hj => hw'.fr.cell (hk j hj) (fun h => h)) (hw'.mem (.tail _ (.head _)))) rfl fun _ _ => ?_
      refine tk_nil ?_; refine tk_in_normal ?_; refine tk_then ?_; refine tk_region ?_; refine s_q rfl (y_move rfl) ?_; refine tk_qe (I ((r + 1 + 1 : Nat) : Int)) rfl rfl rfl (y_addI rfl rfl (by omega)) (by simp) ?_; refine s_q rfl (y_assign rfl) ?_; refine tk_nil ?_
      exact tk_again (r + 1) (by omega) (by omega) (by repeat (first | exact trivial | refine ⟨rfl, ?_⟩)) (by simp only [turnTo]; (first | rw [if_pos (by omega)] | rw [if_neg (by omega)]); exact List.Sublist.refl _)
  · skip
    refine tk_exit ?_; refine tk_then_exit ?_; refine tk_then_exit ?_; refine tk_in_hit ?_; refine tk_then ?_; refine s_r ?_
    obtain rfl : r = 14 := by omega
    have hT := turnTo_len (K := K) (r := 14) hV
    (first | refine s_q rfl (y_loadA 16 rfl (by kernel_rfl) (by simp [hV]) (hcw (.head _))) ?_ | refine s_q rfl (y_loadA 16 rfl (by kernel_rfl) (by simp [hV]) (hcw (.tail _ (.head _)))) ?_)
    refine tk_act rfl ?_; refine a_storeW (H1 := []) 16 rfl rfl (by kernel_rfl) rfl ⟨by simp [hT], by simp⟩ oneB ?_; refine s_n ?_; refine tk_retc ?_
    exact tk_ret () trivial (.inl rfl) (rc rfl rfl (by simp [hT]; kernel_rfl) (hcw (.head _))) (List.nil_sublist _)
end Go.Proofs.YtfofkjajlfphjaaDoor.Cip
