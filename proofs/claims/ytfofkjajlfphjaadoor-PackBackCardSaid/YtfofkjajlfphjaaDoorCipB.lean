/- cipher: the walks over Make, At and Seek. -/
import Derived.Test.YtfofkjajlfphjaaDoorCipA
set_option linter.unusedSimpArgs false
set_option linter.unusedVariables false
namespace Go.Proofs.YtfofkjajlfphjaaDoor.Cip
open Go Go.RowKit
set_option maxRecDepth 100000
theorem tv_len {W : List UInt8} {n : Nat} {con : UInt8} (h : W.length = 240) (hn : n < 52) : (tv W n con).length = 4 := by
  simp only [tv]; split
  · rfl
  · split <;> simp [word_len h (show n + 7 < 60 by omega)]
theorem makeNo_spec (ad : Option Addr) (len cap : Nat) (w : World) (hl : len ≠ 32) : Spec Tryd.prog 90 [.slice ad len cap] w [] (fun _ : Unit => True) (fun _ => .tuple #[.pointer none, I 1]) (fun _ => []) := by
  refine spec_of (n := 110) Tryd.func90 rfl rfl trivial trivial rfl ?_; refine s_r ?_; refine s_q rfl (y_assign rfl) ?_; refine s_q rfl (y_assign rfl) ?_; refine s_n ?_; refine tk_seq ?_; refine s_r ?_; refine s_q rfl (y_move rfl) ?_; refine s_q rfl (y_lenS rfl rfl) ?_; refine tk_qe (.bool true) rfl rfl rfl (y_neq rfl rfl) (bool_t (by omega)) ?_; refine s_n ?_; refine tk_cond1 rfl ?_; refine s_r ?_
  refine s_q rfl (y_assign rfl) ?_; refine s_q rfl (y_assign rfl) ?_; refine s_n ?_; refine tk_retc ?_; refine tk_then_ret ?_
  exact tk_ret () trivial (.inl rfl) (r2 rfl rfl rfl) (List.Sublist.refl _)
set_option maxHeartbeats 1000000 in
theorem make_spec (ab ao cap : Nat) (b : List UInt8) (w : World) (hb : b.length = 32) (hcap : 32 ≤ cap) (hr : ∀ j, j < b.length → w.cell? ⟨ab, ao + j, none⟩ = some (B (b.getD j 0))) :
    Spec Tryd.prog 90 [.slice (some ⟨ab, ao, none⟩) 32 cap] w [] (fun _ : Nat => True) (fun kb => .tuple #[.pointer (some ⟨kb, 0, none⟩), I 0]) (fun kb => [cel kb ((keyW b).map B) 182]) := by
  refine spec_of (n := 110) Tryd.func90 rfl rfl trivial trivial rfl ?_; refine s_r ?_; refine s_q rfl (y_assign rfl) ?_; refine s_q rfl (y_assign rfl) ?_; refine s_n ?_; refine tk_seq ?_; refine s_r ?_; refine s_q rfl (y_move rfl) ?_; refine s_q rfl (y_lenS rfl rfl) ?_; refine tk_qe (.bool false) rfl rfl rfl (y_neq rfl rfl) (bool_f (by omega)) ?_; refine s_n ?_; refine tk_cond0 rfl ?_; refine tk_skip ?_
  refine tk_then ?_; refine s_r ?_; refine s_q rfl (y_build (v := Ag (List.replicate 240 0)) (vs := []) rfl (fun _ => by kernel_rfl)) ?_; refine tk_act rfl ?_; refine a_boxL (cs := (List.replicate 240 0).map B) rfl rfl fun b15 => ?_; refine s_q rfl (y_assign rfl) ?_; refine s_n ?_; refine tk_seq ?_; refine s_r ?_; refine s_q rfl (y_move rfl) ?_; refine s_q rfl (y_nilCheck rfl) ?_; refine s_q rfl (y_fld0 rfl (by kernel_rfl)) ?_
  refine s_q rfl (y_cutAh (m := 60) (sz := 4) rfl rfl (by kernel_rfl) (by omega)) ?_; refine s_q rfl (y_lenS rfl rfl) ?_; refine s_q rfl (y_move rfl) ?_; refine s_n ?_; refine tk_block ?_; refine tk_loop (X := Nat) (fun i => i ≤ 8) (fun i => [(0, .slice (some ⟨ab, ao, none⟩) 32 cap), (4, .pointer (some ⟨b15, 0, none⟩)), (20, I 8), (21, I (i : Int))]) (fun i => [cel b15 ((initTo b i).map B) 182]) (fun i => 8 - i) (0) (by omega) (by repeat (first | exact trivial | refine ⟨rfl, ?_⟩)) (List.Sublist.refl _) ?_
  intro i hI
  refine s_r ?_; refine s_q rfl (y_lss rfl rfl) ?_; refine s_n ?_; refine tk_seq ?_; refine tk_condP rfl (fun h22 => ?_) (fun h22 => ?_)
  · skip
    refine tk_skip ?_; refine tk_then ?_; refine tk_seq ?_; refine tk_block ?_; refine s_r ?_; refine s_q rfl (y_move rfl) ?_; refine s_q rfl (y_assign rfl) ?_; refine s_n ?_; refine tk_drawS [11] (by kernel_rfl) ?_; refine s_x 0 rfl (y_move rfl) ?_; refine s_x 1 rfl (y_move rfl) ?_; refine s_x 2 rfl (y_move rfl) ?_; refine s_x 3 rfl (y_move rfl) ?_; refine s_x 4 rfl (y_mulI rfl rfl (by omega)) ?_
    refine s_x 5 rfl ((y_cutSlN 1 (i * 4) rfl rfl (by kernel_rfl) (by omega)).cast (v := _) (u := .slice (some ⟨ab, ao + i * 4, none⟩) (32 - i * 4) (cap - i * 4)) (by simp)) ?_; refine s_x 6 rfl (y_s2a rfl rfl (by omega)) ?_; refine s_l 7 rfl (fun _ h => h) (y_loadA 4 rfl (by kernel_rfl) (by simp [hb] <;> omega) (hroB (m := 4) hr (fun h => h))) ?_; refine s_x 8 rfl (y_nilCheck rfl) ?_; refine s_x 9 rfl (y_fld0 rfl (by kernel_rfl)) ?_
    refine s_x 10 rfl ((y_ixAN 60 4 rfl rfl (by kernel_rfl) (by omega)).cast (v := _) (u := .pointer (some ⟨b15, i * 4, none⟩)) (by congr 3 <;> omega)) ?_; refine tx_x 11 rfl (by kernel_rfl) rfl rfl ?_; refine a_storeL (H1 := []) 4 rfl rfl (by kernel_rfl) rfl (by simp [hb] <;> omega) oneB (by rw [List.length_map, initTo_len hb hI] <;> omega) ?_; refine tx_done (by kernel_rfl) ?_; refine tk_in_normal ?_
    refine tk_then ?_; refine tk_region ?_; refine s_q rfl (y_addI rfl rfl (by omega)) ?_; refine s_q rfl (y_move rfl) ?_; refine tk_nil ?_
    exact tk_again (i + 1) (by omega) (by omega) (by repeat (first | exact trivial | refine ⟨rfl, ?_⟩)) (by rw [initTo_succ hb (by omega)]; simp only [List.map_append, List.map_take, List.map_drop]; exact List.Sublist.refl _)
  · skip
    refine tk_exit ?_; refine tk_then_exit ?_; refine tk_then_exit ?_; refine tk_in_hit ?_; refine tk_then ?_; refine s_r ?_; refine s_q rfl (y_assign rfl) ?_; refine s_n ?_; refine tk_seq ?_; refine s_r ?_; refine s_q rfl (y_assign rfl) ?_; refine s_n ?_; refine tk_block ?_; refine tk_loop (X := Nat) (fun n => n ≤ 52) (fun n => [(4, .pointer (some ⟨b15, 0, none⟩)), (6, B (expW b n).2), (7, I ((n + 8 : Nat) : Int))]) (fun n => [cel b15 ((expW b n).1.map B) 182]) (fun n => 52 - n) (0) (by omega) (by repeat (first | exact trivial | refine ⟨rfl, ?_⟩)) (by have e : i = 8 := (by omega); subst e; exact List.Sublist.refl _) ?_
    intro n hI
    refine tk_seq ?_; refine s_r ?_; refine s_q rfl (y_move rfl) ?_; refine s_q rfl (y_lss rfl rfl) ?_; refine s_n ?_; refine tk_condP rfl (fun h37 => ?_) (fun h37 => ?_)
    · skip
      refine tk_skip ?_; refine tk_then ?_; refine tk_seq ?_; refine tk_block ?_; refine s_r ?_; refine s_q rfl (y_move rfl) ?_; refine s_q rfl (y_move rfl) ?_; refine tk_qe (I ((n + 7 : Nat) : Int)) rfl rfl rfl (y_subI rfl rfl (by omega)) (by congr 1 <;> omega) ?_; refine s_q rfl (y_nilCheck rfl) ?_; refine s_q rfl (y_fld0 rfl (by kernel_rfl)) ?_; refine tk_qe (.pointer (some ⟨b15, (n + 7) * 4, none⟩)) rfl rfl rfl (y_ixAI 60 4 (n + 7) rfl rfl (by kernel_rfl) (by omega)) (by congr 3 <;> omega) ?_
      refine s_q rfl (y_loadA 4 rfl (by kernel_rfl) (by simp [hb] <;> omega) (hcsB (m := 4) (.head _))) ?_; refine tk_act rfl ?_; refine a_allocL (cs := (List.replicate 4 0).map B) (by kernel_rfl) rfl fun b8 => ?_; refine tk_act rfl ?_; refine a_storeW (H1 := []) 4 rfl rfl (by kernel_rfl) rfl ⟨by simp [hb] <;> omega, by simp⟩ oneB ?_; refine s_n ?_; refine tk_seqI (X := Unit) (fun _ => True) (fun _ => [(4, .pointer (some ⟨b15, 0, none⟩)), (6, B (conN (expW b n).2 n)), (7, I ((n + 8 : Nat) : Int)), (8, .pointer (some ⟨b8, 0, none⟩))]) (fun _ => [cel b8 ((tv (expW b n).1 n (expW b n).2).map B) 179, cel b15 ((expW b n).1.map B) 182]) ?_ ?_
      · skip
        refine s_r ?_; refine s_q rfl (y_move rfl) ?_; refine s_q rfl (y_remI rfl rfl (by omega)) ?_; refine s_n ?_; refine tk_block ?_; refine s_r ?_; refine s_q rfl (y_eql rfl rfl) ?_; refine s_q rfl (y_assign rfl) ?_; refine s_n ?_; refine tk_condP rfl (fun h49 => ?_) (fun h49 => ?_)
        · skip
          refine tk_seq ?_; refine tk_drawS [19] (by kernel_rfl) ?_
          (first | refine s_x 1 rfl (y_ixA01 4 (i := 1) rfl rfl (by kernel_rfl) (by omega)) ?_ | refine s_x 1 rfl (y_ixAN1 4 (i := 1) rfl rfl (by kernel_rfl) (by omega)) ?_)
          refine s_l 2 rfl (fun _ h => h) (y_load rfl rfl (hc (.head _) (getB (by simp [word, hb] <;> omega)))) ?_; refine s_x 4 rfl (y_move rfl) ?_
          (first | refine s_x 7 rfl (y_ixA01 4 (i := 2) rfl rfl (by kernel_rfl) (by omega)) ?_ | refine s_x 7 rfl (y_ixAN1 4 (i := 2) rfl rfl (by kernel_rfl) (by omega)) ?_)
          refine s_l 8 rfl (fun _ h => h) (y_load rfl rfl (hc (.head _) (getB (by simp [word, hb] <;> omega)))) ?_
          (first | refine s_x 11 rfl (y_ixA01 4 (i := 3) rfl rfl (by kernel_rfl) (by omega)) ?_ | refine s_x 11 rfl (y_ixAN1 4 (i := 3) rfl rfl (by kernel_rfl) (by omega)) ?_)
          refine s_l 12 rfl (fun _ h => h) (y_load rfl rfl (hc (.head _) (getB (by simp [word, hb] <;> omega)))) ?_
          (first | refine s_x 15 rfl (y_ixA01 4 (i := 0) rfl rfl (by kernel_rfl) (by omega)) ?_ | refine s_x 15 rfl (y_ixAN1 4 (i := 0) rfl rfl (by kernel_rfl) (by omega)) ?_)
          refine s_l 16 rfl (fun _ h => h) (y_load rfl rfl (hc (.head _) (getB (by simp [word, hb] <;> omega)))) ?_; refine tx_a 0 rfl (by kernel_rfl) rfl ?_; refine a_callv [] _ rfl (by kernel_rfl) rfl (fun w' hw' => forward_spec w') rfl fun _ _ => ?_; refine tk_S (fun _ h => h) ?_; refine s_x 3 rfl (y_ixV rfl rfl rfl rfl (fun _ => by kernel_rfl) (ixb _) getF) ?_; refine s_x 5 rfl (y_xor8 rfl rfl) ?_
          refine tx_a 6 rfl (by kernel_rfl) rfl ?_; refine a_callv [] _ rfl (by kernel_rfl) rfl (fun w' hw' => forward_spec w') rfl fun _ _ => ?_; refine tk_S (fun _ h => h) ?_; refine s_x 9 rfl (y_ixV rfl rfl rfl rfl (fun _ => by kernel_rfl) (ixb _) getF) ?_; refine tx_a 10 rfl (by kernel_rfl) rfl ?_; refine a_callv [] _ rfl (by kernel_rfl) rfl (fun w' hw' => forward_spec w') rfl fun _ _ => ?_; refine tk_S (fun _ h => h) ?_
          refine s_x 13 rfl (y_ixV rfl rfl rfl rfl (fun _ => by kernel_rfl) (ixb _) getF) ?_; refine tx_a 14 rfl (by kernel_rfl) rfl ?_; refine a_callv [] _ rfl (by kernel_rfl) rfl (fun w' hw' => forward_spec w') rfl fun _ _ => ?_; refine tk_S (fun _ h => h) ?_; refine s_x 17 rfl (y_ixV rfl rfl rfl rfl (fun _ => by kernel_rfl) (ixb _) getF) ?_; refine s_x 18 rfl (y_build (v := Ag (tvA (word (expW b n).1 (n + 7)) (expW b n).2)) rfl (fun _ => by kernel_rfl)) ?_
          refine tx_x 19 rfl (by kernel_rfl) rfl rfl ?_; refine a_storeW (H1 := []) 4 rfl rfl (by kernel_rfl) rfl ⟨by simp [tvA], by simp [word, hb] <;> omega⟩ oneB ?_; refine tx_done (by kernel_rfl) ?_; refine tk_then ?_; refine tk_region ?_; refine s_q rfl (y_move rfl) ?_; refine s_q rfl (y_shl8 (m := 1) rfl rfl (by decide)) ?_; refine tk_qe (B (conN (expW b n).2 n)) rfl rfl rfl (y_assign rfl) (by rw [conN, if_pos (by omega)]) ?_
          refine tk_nil ?_; refine tk_in_normal ?_; refine tk_to () trivial ⟨rfl, ?_, rfl, rfl, trivial⟩ ?_
          · (first | rfl | (simp only [conN]; rw [if_pos (by omega)]; rfl) | (simp only [conN]; rw [if_neg (by omega)]; rfl))
          · (simp only [tv]; first | (rw [if_neg (by omega), if_pos (by omega)]; have e : j = 4 := (by omega); subst e; exact List.Sublist.refl _) | (rw [if_pos (by omega)]; exact List.Sublist.refl _) | (rw [if_neg (by omega), if_pos (by omega)]; exact List.Sublist.refl _) | (rw [if_neg (by omega), if_neg (by omega)]; exact List.Sublist.refl _))
        · skip
          refine s_r ?_; refine s_q rfl (y_eql rfl rfl) ?_; refine s_q rfl (y_assign rfl) ?_; refine s_n ?_; refine tk_condP rfl (fun h72 => ?_) (fun h72 => ?_)
          · skip
            refine s_r ?_; refine s_q rfl (y_move rfl) ?_; refine s_n ?_; refine tk_block ?_; refine tk_loop (X := Nat) (fun j => j ≤ 4) (fun j => [(4, .pointer (some ⟨b15, 0, none⟩)), (6, B (expW b n).2), (7, I ((n + 8 : Nat) : Int)), (8, .pointer (some ⟨b8, 0, none⟩)), (74, I (j : Int))]) (fun j => [cel b8 ((subTo (word (expW b n).1 (n + 7)) j).map B) 179, cel b15 ((expW b n).1.map B) 182]) (fun j => 4 - j) (0) (by omega) (by repeat (first | exact trivial | refine ⟨rfl, ?_⟩)) (List.Sublist.refl _) ?_
            intro j hI2
            refine s_r ?_; refine s_q rfl (y_lss rfl rfl) ?_; refine s_n ?_; refine tk_seq ?_; refine tk_condP rfl (fun h75 => ?_) (fun h75 => ?_)
            · skip
              refine tk_skip ?_; refine tk_then ?_; refine tk_seq ?_; refine tk_block ?_; refine s_r ?_; refine s_q rfl (y_move rfl) ?_; refine s_q rfl (y_assign rfl) ?_; refine s_n ?_; refine tk_drawS [7] (by kernel_rfl) ?_; refine s_x 0 rfl (y_move rfl) ?_; refine s_x 2 rfl (y_move rfl) ?_
              (first | refine s_x 3 rfl (y_ixA01 4 rfl rfl (by kernel_rfl) (by omega)) ?_ | refine s_x 3 rfl (y_ixAN1 4 rfl rfl (by kernel_rfl) (by omega)) ?_)
              refine s_l 4 rfl (fun _ h => h) (y_load rfl rfl (hc (.head _) (getB (by simp [word, hb] <;> omega)))) ?_; refine tx_a 1 rfl (by kernel_rfl) rfl ?_; refine a_callv [] _ rfl (by kernel_rfl) rfl (fun w' hw' => forward_spec w') rfl fun _ _ => ?_; refine tk_S (fun _ h => h) ?_; refine s_x 5 rfl (y_ixV rfl rfl rfl rfl (fun _ => by kernel_rfl) (ixb _) getF) ?_
              (first | refine s_x 6 rfl (y_ixA01 4 rfl rfl (by kernel_rfl) (by omega)) ?_ | refine s_x 6 rfl (y_ixAN1 4 rfl rfl (by kernel_rfl) (by omega)) ?_)
              refine tx_x 7 rfl (by kernel_rfl) rfl rfl ?_; (first | refine a_store1B (H1 := []) rfl rfl (by kernel_rfl) rfl (by simp [word, hb] <;> omega) ?_ | refine a_store1B (H1 := [_]) rfl rfl (by kernel_rfl) rfl (by simp [word, hb] <;> omega) ?_)
              refine tx_done (by kernel_rfl) ?_; refine tk_in_normal ?_; refine tk_then ?_; refine tk_region ?_; refine s_q rfl (y_addI rfl rfl (by omega)) ?_; refine s_q rfl (y_move rfl) ?_; refine tk_nil ?_
              exact tk_again (j + 1) (by omega) (by omega) (by repeat (first | exact trivial | refine ⟨rfl, ?_⟩)) (List.Sublist.refl _)
            · skip
              refine tk_exit ?_; refine tk_then_exit ?_; refine tk_then_exit ?_; refine tk_in_hit ?_; refine tk_in_normal ?_; refine tk_to () trivial ⟨rfl, ?_, rfl, rfl, trivial⟩ ?_
              · (first | rfl | (simp only [conN]; rw [if_pos (by omega)]; rfl) | (simp only [conN]; rw [if_neg (by omega)]; rfl))
              · (simp only [tv]; first | (rw [if_neg (by omega), if_pos (by omega)]; have e : j = 4 := (by omega); subst e; exact List.Sublist.refl _) | (rw [if_pos (by omega)]; exact List.Sublist.refl _) | (rw [if_neg (by omega), if_pos (by omega)]; exact List.Sublist.refl _) | (rw [if_neg (by omega), if_neg (by omega)]; exact List.Sublist.refl _))
          · skip
            refine tk_skip ?_; refine tk_in_normal ?_; refine tk_to () trivial ⟨rfl, ?_, rfl, rfl, trivial⟩ ?_
            · (first | rfl | (simp only [conN]; rw [if_pos (by omega)]; rfl) | (simp only [conN]; rw [if_neg (by omega)]; rfl))
            · (simp only [tv]; first | (rw [if_neg (by omega), if_pos (by omega)]; have e : j = 4 := (by omega); subst e; exact List.Sublist.refl _) | (rw [if_pos (by omega)]; exact List.Sublist.refl _) | (rw [if_neg (by omega), if_pos (by omega)]; exact List.Sublist.refl _) | (rw [if_neg (by omega), if_neg (by omega)]; exact List.Sublist.refl _))
      · intro _ _
        refine s_r ?_; refine s_q rfl (y_move rfl) ?_; refine s_n ?_; refine tk_block ?_; refine tk_loop (X := Nat) (fun j => j ≤ 4) (fun j => [(4, .pointer (some ⟨b15, 0, none⟩)), (6, B (conN (expW b n).2 n)), (7, I ((n + 8 : Nat) : Int)), (8, .pointer (some ⟨b8, 0, none⟩)), (85, I (j : Int))]) (fun j => [cel b8 ((tv (expW b n).1 n (expW b n).2).map B) 179, cel b15 ((putTo (expW b n).1 n (tv (expW b n).1 n (expW b n).2) j).map B) 182]) (fun j => 4 - j) (0) (by omega) (by repeat (first | exact trivial | refine ⟨rfl, ?_⟩)) (List.Sublist.refl _) ?_
        intro j hI2
        refine s_r ?_; refine s_q rfl (y_lss rfl rfl) ?_; refine s_n ?_; refine tk_seq ?_; refine tk_condP rfl (fun h86 => ?_) (fun h86 => ?_)
        · skip
          refine tk_skip ?_; refine tk_then ?_; refine tk_seq ?_; refine tk_block ?_; refine s_r ?_; refine s_q rfl (y_move rfl) ?_; refine s_q rfl (y_assign rfl) ?_; refine s_n ?_; refine tk_drawS [20] (by kernel_rfl) ?_; refine s_x 0 rfl (y_move rfl) ?_; refine s_x 1 rfl (y_move rfl) ?_; refine s_x 2 rfl (y_move rfl) ?_; refine s_x 3 rfl (y_move rfl) ?_; refine s_x 4 rfl (y_move rfl) ?_; refine s_x 5 rfl (y_subI rfl rfl (by omega)) ?_
          refine s_x 6 rfl (y_move rfl) ?_; refine s_x 7 rfl (y_nilCheck rfl) ?_; refine s_x 8 rfl (y_fld0 rfl (by kernel_rfl)) ?_; refine s_x 9 rfl ((y_ixAI 60 4 n rfl rfl (by kernel_rfl) (by omega)).cast (v := _) (u := .pointer (some ⟨b15, n * 4, none⟩)) (by congr 3 <;> omega)) ?_
          (first | refine s_x 10 rfl (y_ixA01 4 rfl rfl (by kernel_rfl) (by omega)) ?_ | refine s_x 10 rfl (y_ixAN1 4 rfl rfl (by kernel_rfl) (by omega)) ?_)
          refine s_l 11 rfl (fun _ h => h) (y_load rfl rfl (hc (.tail _ (.head _)) (getB (by simp [hb] <;> omega)))) ?_; refine s_x 12 rfl (y_move rfl) ?_
          (first | refine s_x 13 rfl (y_ixA01 4 rfl rfl (by kernel_rfl) (by omega)) ?_ | refine s_x 13 rfl (y_ixAN1 4 rfl rfl (by kernel_rfl) (by omega)) ?_)
          refine s_l 14 rfl (fun _ h => h) (y_load rfl rfl (hc (.head _) (getB (by rw [tv_len (expW_len hb) (by omega)] <;> omega)))) ?_; refine s_x 15 rfl (y_xor8 rfl rfl) ?_; refine s_x 16 rfl (y_nilCheck rfl) ?_; refine s_x 17 rfl (y_fld0 rfl (by kernel_rfl)) ?_; refine s_x 18 rfl ((y_ixAN 60 4 rfl rfl (by kernel_rfl) (by omega)).cast (v := _) (u := .pointer (some ⟨b15, (n + 8) * 4, none⟩)) (by congr 3 <;> omega)) ?_
          (first | refine s_x 19 rfl (y_ixA01 4 rfl rfl (by kernel_rfl) (by omega)) ?_ | refine s_x 19 rfl (y_ixAN1 4 rfl rfl (by kernel_rfl) (by omega)) ?_)
          refine tx_x 20 rfl (by kernel_rfl) rfl rfl ?_; refine a_store1B (H1 := [_]) rfl rfl (by kernel_rfl) rfl (by simp [hb] <;> omega) ?_; refine tx_done (by kernel_rfl) ?_; refine tk_in_normal ?_; refine tk_then ?_; refine tk_region ?_; refine s_q rfl (y_addI rfl rfl (by omega)) ?_; refine s_q rfl (y_move rfl) ?_; refine tk_nil ?_
          exact tk_again (j + 1) (by omega) (by omega) (by repeat (first | exact trivial | refine ⟨rfl, ?_⟩)) (List.Sublist.refl _)
        · skip
          refine tk_exit ?_; refine tk_then_exit ?_; refine tk_then_exit ?_; refine tk_in_hit ?_; refine tk_in_normal ?_; refine tk_then ?_; refine tk_region ?_; refine s_q rfl (y_move rfl) ?_; refine tk_qe (I ((n + 1 + 8 : Nat) : Int)) rfl rfl rfl (y_addI rfl rfl (by omega)) (by congr 1 <;> omega) ?_; refine s_q rfl (y_assign rfl) ?_; refine tk_nil ?_
          exact tk_again (n + 1) (by omega) (by omega) (by repeat (first | exact trivial | refine ⟨rfl, ?_⟩)) (by have e : j = 4 := (by omega); subst e; exact List.Sublist.cons _ (List.Sublist.refl _))
    · skip
      refine tk_exit ?_; refine tk_then_exit ?_; refine tk_then_exit ?_; refine tk_in_hit ?_; refine tk_then ?_; refine s_r ?_
      obtain rfl : n = 52 := by omega
      refine s_q rfl (y_move rfl) ?_; refine s_q rfl (y_assign rfl) ?_; refine s_q rfl (y_assign rfl) ?_; refine s_n ?_; refine tk_retc ?_
      exact tk_ret b15 trivial (.inl rfl) (r2 rfl rfl rfl) (List.Sublist.refl _)
end Go.Proofs.YtfofkjajlfphjaaDoor.Cip
