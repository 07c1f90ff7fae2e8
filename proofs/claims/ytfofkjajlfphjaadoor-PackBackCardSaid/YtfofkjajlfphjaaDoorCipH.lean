/- cipher's reference: the turn of a block. -/
import Derived.Test.YtfofkjajlfphjaaDoorCipG
import Derived.Test.YtfofkjajlfphjaaDoorCipRefC
set_option linter.unusedSimpArgs false
set_option linter.unusedVariables false
namespace Go.Proofs.YtfofkjajlfphjaaDoor.Cip
open Go Go.RowKit
set_option maxRecDepth 100000
attribute [local irreducible] turn plus keyW hideL rfTo
/-- the reference's key, as it lies in memory -/
def RK (w : World) (kb bb : Nat) (K : List UInt8) : Prop := w.cell? ⟨kb, 0, none⟩ = some (.slice (some ⟨bb, 0, none⟩) 256 256) ∧ (∀ m, m < 240 → w.cell? ⟨kb, 1 + m, none⟩ = some (II (K.getD m 0))) ∧ ∀ u : UInt8, w.cell? ⟨bb, u.toNat, none⟩ = some (II (sbox u))
theorem rkK {w : World} {kb bb : Nat} {K : List UInt8} (h : RK w kb bb K) {o m : Nat} (ho : o = 1 + m) (hm : m < 240) : w.cell? ⟨kb, o, none⟩ = some (II (K.getD m 0)) := by subst ho; exact h.2.1 m hm
theorem icell {W : List UInt8} {o m : Nat} (ho : o = m) (hm : m < W.length) : (W.map II)[o]? = some (II (W.getD m 0)) := by
  subst ho
  rw [List.getElem?_map, List.getElem?_eq_getElem hm, List.getD_eq_getElem?_getD, List.getElem?_eq_getElem hm]; rfl
theorem iset {W : List UInt8} {o m : Nat} {u : UInt8} (ho : o = m) : (W.set m u).map II = (W.map II).set o (II u) := by subst ho; rw [List.map_set]
theorem oneI {l : List UInt8} : ∀ u ∈ l.map II, u.oneCell' = true := by
  intro u hu
  obtain ⟨a, _, rfl⟩ := List.mem_map.1 hu
  rfl
theorem mxb_at {U : List UInt8} {c r : Nat} (hr : r < 4) : mxb U (c * 4 + r) = twice8 (U.getD (c * 4 + r) 0) ^^^ (twice8 (U.getD (c * 4 + (r + 1) % 4) 0) ^^^ U.getD (c * 4 + (r + 1) % 4) 0) ^^^ U.getD (c * 4 + (r + 2) % 4) 0 ^^^ U.getD (c * 4 + (r + 3) % 4) 0 := by
  unfold mxb
  rw [show (c * 4 + r) / 4 = c by omega, show (c * 4 + r) % 4 = r by omega]
theorem own_tk {v : Value} {F : List UInt8} {i : Nat} {e : TypeId} (h : i < F.length) : ownB v (F.take (i + 1)) e = own v ((F.take i).length + 1) ((F.take i).map B ++ [B (F.getD i 0)]) e 1 := by
  have e1 : F.take (i + 1) = F.take i ++ [F.getD i 0] := by
    rw [List.take_add_one, List.getElem?_eq_getElem h, List.getD_eq_getElem?_getD, List.getElem?_eq_getElem h]; rfl
  simp only [ownB, e1, List.map_append, List.length_append]; rfl
theorem times2_spec (u : UInt8) (w : World) : Spec Tryd.prog 86 [II u, I 2] w [] (fun _ : Unit => True) (fun _ => II (twice8 u)) (fun _ => []) := by
  have h := times_spec u.toNat 2 w (b_lt u) (by decide)
  rw [times2] at h; exact h
theorem times3_spec (u : UInt8) (w : World) : Spec Tryd.prog 86 [II u, I 3] w [] (fun _ : Unit => True) (fun _ => II (twice8 u ^^^ u)) (fun _ => []) := by
  have h := times_spec u.toNat 3 w (b_lt u) (by decide)
  rw [times3] at h; exact h
set_option maxHeartbeats 2000000 in
theorem rturn_spec (kb bb : Nat) (K V : List UInt8) (w : World) (hV : V.length = 16) (hk : RK w kb bb K) : Spec Tryd.prog 87 [.pointer (some ⟨kb, 0, none⟩), Str V] w [] (fun _ : Unit => True) (fun _ => Str (turn K V)) (fun _ => []) := by
  refine spec_of (n := 165) Tryd.func87 rfl rfl trivial trivial rfl ?_; refine s_r ?_; refine s_q rfl (y_assign rfl) ?_; refine s_n ?_; refine s_r ?_; refine tk_act rfl ?_; refine a_allocL (cs := (List.replicate 16 0).map II) (by kernel_rfl) rfl fun b5 => ?_; refine s_n ?_; refine tk_seq ?_; refine s_r ?_; refine s_q rfl (y_assign rfl) ?_; refine s_n ?_; refine tk_block ?_; refine tk_loop (X := Nat) (fun i => i ≤ 16) (fun i => [(0, .pointer (some ⟨kb, 0, none⟩)), (5, .pointer (some ⟨b5, 0, none⟩)), (1, Str V), (6, I (i : Int))]) (fun i => [cel b5 ((adTo K 0 V (List.replicate 16 0) i).map II) 178]) (fun i => 16 - i) (0) (by omega) (by repeat (first | exact trivial | refine ⟨rfl, ?_⟩)) (List.Sublist.refl _) ?_
  intro i hI
  refine tk_seq ?_; refine s_r ?_; refine s_q rfl (y_move rfl) ?_; refine s_q rfl (y_lss rfl rfl) ?_; refine s_n ?_; refine tk_condP rfl (fun h19 => ?_) (fun h19 => ?_)
  · skip
    refine tk_skip ?_; refine tk_then ?_; refine tk_seq ?_; refine tk_block ?_; refine tk_drawS [21] (by kernel_rfl) ?_; refine s_x 0 rfl (y_move rfl) ?_; refine s_x 1 rfl (y_quoN (b := 4) rfl rfl (by omega)) ?_; refine s_x 2 rfl (y_move rfl) ?_; refine s_x 3 rfl (y_remN (b := 4) rfl rfl (by omega)) ?_; refine s_x 4 rfl (y_move rfl) ?_; refine s_x 5 rfl (y_move rfl) ?_; refine s_x 6 rfl (y_ixT (i := i) rfl rfl rfl ⟨rfl, by omega⟩) ?_
    refine s_x 7 rfl (y_conv8i rfl rfl rfl) ?_; refine s_x 8 rfl (y_move rfl) ?_; refine s_x 9 rfl (y_move rfl) ?_; refine s_x 10 rfl (y_quoN (b := 4) rfl rfl (by omega)) ?_; refine s_x 11 rfl (y_move rfl) ?_; refine s_x 12 rfl (y_remN (b := 4) rfl rfl (by omega)) ?_; refine s_x 13 rfl (y_nilCheck rfl) ?_; refine s_x 14 rfl (y_fldN 1 rfl (by kernel_rfl)) ?_; refine s_x 15 rfl (y_ixAN 60 4 rfl rfl (by kernel_rfl) (by omega)) ?_
    refine s_x 16 rfl (y_ixAN1 4 rfl rfl (by kernel_rfl) (by omega)) ?_; refine s_l 17 rfl (fun _ h => h) (y_load rfl rfl (hro (rkK hk (m := 16 * 0 + i) (by omega) (by omega)) (fun h => h))) ?_; refine s_x 18 rfl (y_xorII rfl rfl) ?_; refine s_x 19 rfl (y_ixAN 4 4 rfl rfl (by kernel_rfl) (by omega)) ?_; refine s_x 20 rfl (y_ixAN1 4 rfl rfl (by kernel_rfl) (by omega)) ?_; refine tx_x 21 rfl (by kernel_rfl) rfl rfl ?_; refine a_store1 (H1 := []) rfl rfl (by kernel_rfl) rfl rfl (by simp <;> omega) ?_
    refine tx_done (by kernel_rfl) ?_; refine tk_in_normal ?_; refine tk_then ?_; refine tk_region ?_; refine s_q rfl (y_move rfl) ?_; refine tk_qe (I ((i + 1 : Nat) : Int)) rfl rfl rfl (y_addI rfl rfl (by omega)) (by congr 1) ?_; refine s_q rfl (y_assign rfl) ?_; refine tk_nil ?_
    exact tk_again (i + 1) (by omega) (by omega) (by repeat (first | exact trivial | refine ⟨rfl, ?_⟩)) (by simp only [adTo]; rw [iset (o := 0 + i / 4 * 4 + i % 4) (m := i) (by omega)]; exact List.Sublist.refl _)
  · skip
    obtain rfl : i = 16 := by omega
    refine tk_exit ?_; refine tk_then_exit ?_; refine tk_then_exit ?_; refine tk_in_hit ?_; refine tk_then ?_; refine tk_seq ?_; refine s_r ?_; refine s_q rfl (y_assign rfl) ?_; refine s_n ?_; refine tk_block ?_; refine tk_loop (X := Nat) (fun rd => rd ≤ 14) (fun rd => [(0, .pointer (some ⟨kb, 0, none⟩)), (5, .pointer (some ⟨b5, 0, none⟩)), (7, I ((rd + 1 : Nat) : Int))]) (fun rd => [cel b5 ((rfTo K V rd).map II) 178]) (fun rd => 14 - rd) (0) (by omega) (by repeat (first | exact trivial | refine ⟨rfl, ?_⟩)) (by rw [ad_eq hV (by simp)]; simp only [rfTo]; exact List.Sublist.refl _) ?_
    intro rd hI
    have hSl := rf_len (K := K) hV rd
    generalize hSd : rfTo K V rd = S at hSl ⊢
    refine tk_seq ?_; refine s_r ?_; refine s_q rfl (y_move rfl) ?_; refine s_q rfl (y_lss rfl rfl) ?_; refine s_n ?_; refine tk_condP rfl (fun h44 => ?_) (fun h44 => ?_)
    · skip
      refine tk_skip ?_; refine tk_then ?_; refine tk_seq ?_; refine tk_block ?_; refine s_r ?_; refine tk_act rfl ?_; refine a_allocL (cs := (List.replicate 16 0).map II) (by kernel_rfl) rfl fun b8 => ?_; refine s_n ?_; refine tk_seq ?_; refine s_r ?_; refine s_q rfl (y_assign rfl) ?_; refine s_n ?_; refine tk_block ?_; refine tk_loop (X := Nat) (fun c => c ≤ 4) (fun c => [(0, .pointer (some ⟨kb, 0, none⟩)), (5, .pointer (some ⟨b5, 0, none⟩)), (7, I ((rd + 1 : Nat) : Int)), (8, .pointer (some ⟨b8, 0, none⟩)), (9, I (c : Int))]) (fun c => [cel b8 ((shTo S (c * 4)).map II) 178, cel b5 (S.map II) 178]) (fun c => 4 - c) (0) (by omega) (by repeat (first | exact trivial | refine ⟨rfl, ?_⟩)) (List.Sublist.refl _) ?_
      intro c hC
      refine tk_seq ?_; refine s_r ?_; refine s_q rfl (y_move rfl) ?_; refine s_q rfl (y_lss rfl rfl) ?_; refine s_n ?_; refine tk_condP rfl (fun h48 => ?_) (fun h48 => ?_)
      · skip
        refine tk_skip ?_; refine tk_then ?_; refine tk_seq ?_; refine tk_block ?_; refine s_r ?_; refine s_q rfl (y_assign rfl) ?_; refine s_n ?_; refine tk_block ?_; refine tk_loop (X := Nat) (fun r => r ≤ 4) (fun r => [(0, .pointer (some ⟨kb, 0, none⟩)), (5, .pointer (some ⟨b5, 0, none⟩)), (7, I ((rd + 1 : Nat) : Int)), (8, .pointer (some ⟨b8, 0, none⟩)), (9, I (c : Int)), (10, I (r : Int))]) (fun r => [cel b8 ((shTo S (c * 4 + r)).map II) 178, cel b5 (S.map II) 178]) (fun r => 4 - r) (0) (by omega) (by repeat (first | exact trivial | refine ⟨rfl, ?_⟩)) (List.Sublist.refl _) ?_
        intro r hr4
        refine tk_seq ?_; refine s_r ?_; refine s_q rfl (y_move rfl) ?_; refine s_q rfl (y_lss rfl rfl) ?_; refine s_n ?_; refine tk_condP rfl (fun h52 => ?_) (fun h52 => ?_)
        · skip
          refine tk_skip ?_; refine tk_then ?_; refine tk_seq ?_; refine tk_block ?_; refine tk_drawS [18] (by kernel_rfl) ?_; refine s_x 0 rfl (y_move rfl) ?_; refine s_x 1 rfl (y_move rfl) ?_; refine s_x 2 rfl (y_move rfl) ?_; refine s_x 3 rfl (y_nilCheck rfl) ?_; refine s_x 4 rfl (y_fld0 rfl (by kernel_rfl)) ?_; refine s_l 5 rfl (fun _ h => h) (y_load rfl rfl (hro hk.1 (fun h => h))) ?_; refine s_x 6 rfl (y_move rfl) ?_
          refine s_x 7 rfl (y_move rfl) ?_; refine s_x 8 rfl (y_addN rfl rfl (by omega)) ?_; refine s_x 9 rfl (y_remN (b := 4) rfl rfl (by omega)) ?_; refine s_x 10 rfl (y_move rfl) ?_; refine s_x 11 rfl (y_ixAN 4 4 rfl rfl (by kernel_rfl) (by omega)) ?_; refine s_x 12 rfl (y_ixAN1 4 rfl rfl (by kernel_rfl) (by omega)) ?_; refine s_l 13 rfl (fun _ h => h) (y_load rfl rfl (hc (.tail _ (.head _)) (icell (m := (c * 4 + r + (c * 4 + r) % 4 * 4) % 16) (by omega) (by simp [hSl] <;> omega)))) ?_
          refine s_x 14 rfl (y_ixS01 (i := UInt8.toNat _) rfl rfl (by kernel_rfl) (b_lt _)) ?_; refine s_l 15 rfl (fun _ h => h) (y_load rfl rfl (hro (hk.2.2 _) (fun h => h))) ?_; refine s_x 16 rfl (y_ixAN 4 4 rfl rfl (by kernel_rfl) (by omega)) ?_; refine s_x 17 rfl (y_ixAN1 4 rfl rfl (by kernel_rfl) (by omega)) ?_; refine tx_x 18 rfl (by kernel_rfl) rfl rfl ?_; refine a_store1 (H1 := []) rfl rfl (by kernel_rfl) rfl rfl (by simp [hSl] <;> omega) ?_
          refine tx_done (by kernel_rfl) ?_; refine tk_in_normal ?_; refine tk_then ?_; refine tk_region ?_; refine s_q rfl (y_move rfl) ?_; refine tk_qe (I ((r + 1 : Nat) : Int)) rfl rfl rfl (y_addI rfl rfl (by omega)) (by congr 1) ?_; refine s_q rfl (y_assign rfl) ?_; refine tk_nil ?_
          exact tk_again (r + 1) (by omega) (by omega) (by repeat (first | exact trivial | refine ⟨rfl, ?_⟩)) (by rw [← Nat.add_assoc]; simp only [shTo_succ]; rw [iset (o := 0 + c * 4 + r) (m := c * 4 + r) (by omega)]; exact List.Sublist.refl _)
        · skip
          obtain rfl : r = 4 := by omega
          refine tk_exit ?_; refine tk_then_exit ?_; refine tk_then_exit ?_; refine tk_in_hit ?_; refine tk_in_normal ?_; refine tk_then ?_; refine tk_region ?_; refine s_q rfl (y_move rfl) ?_; refine tk_qe (I ((c + 1 : Nat) : Int)) rfl rfl rfl (y_addI rfl rfl (by omega)) (by congr 1) ?_; refine s_q rfl (y_assign rfl) ?_; refine tk_nil ?_
          exact tk_again (c + 1) (by omega) (by omega) (by repeat (first | exact trivial | refine ⟨rfl, ?_⟩)) (by rw [show (c + 1) * 4 = c * 4 + 4 by omega]; exact List.Sublist.refl _)
      · skip
        obtain rfl : c = 4 := by omega
        refine tk_exit ?_; refine tk_then_exit ?_; refine tk_then_exit ?_; refine tk_in_hit ?_; refine tk_then ?_; refine tk_seqI (X := Unit) (fun _ => True) (fun _ => [(0, .pointer (some ⟨kb, 0, none⟩)), (5, .pointer (some ⟨b5, 0, none⟩)), (7, I ((rd + 1 : Nat) : Int)), (8, .pointer (some ⟨b8, 0, none⟩))]) (fun _ => [cel b8 ((if rd + 1 < 14 then mxTo (shTo S 16) 16 else shTo S 16).map II) 178, cel b5 (S.map II) 178]) ?_ ?_
        · skip
          refine s_r ?_; refine s_q rfl (y_move rfl) ?_; refine s_q rfl (y_lss rfl rfl) ?_; refine s_n ?_; refine tk_condP rfl (fun h74 => ?_) (fun h74 => ?_)
          · skip
            refine s_r ?_; refine s_q rfl (y_loadA 16 rfl (by kernel_rfl) (by simp [hSl]) (hcw (.head _))) ?_; refine tk_act rfl ?_; refine a_allocL (cs := (List.replicate 16 0).map II) (by kernel_rfl) rfl fun b11 => ?_; refine tk_act rfl ?_; refine a_storeW (H1 := []) 16 rfl rfl (by kernel_rfl) rfl ⟨by simp, by simp⟩ oneI ?_; refine s_n ?_; refine s_r ?_; refine s_q rfl (y_assign rfl) ?_; refine s_n ?_
            refine tk_block ?_; refine tk_loop (X := Nat) (fun c => c ≤ 4) (fun c => [(0, .pointer (some ⟨kb, 0, none⟩)), (5, .pointer (some ⟨b5, 0, none⟩)), (7, I ((rd + 1 : Nat) : Int)), (8, .pointer (some ⟨b8, 0, none⟩)), (11, .pointer (some ⟨b11, 0, none⟩)), (12, I (c : Int))]) (fun c => [cel b11 ((shTo S 16).map II) 178, cel b8 ((mxTo (shTo S 16) (c * 4)).map II) 178, cel b5 (S.map II) 178]) (fun c => 4 - c) (0) (by omega) (by repeat (first | exact trivial | refine ⟨rfl, ?_⟩)) (List.Sublist.refl _) ?_
            intro c hC
            refine tk_seq ?_; refine s_r ?_; refine s_q rfl (y_move rfl) ?_; refine s_q rfl (y_lss rfl rfl) ?_; refine s_n ?_; refine tk_condP rfl (fun h77 => ?_) (fun h77 => ?_)
            · skip
              refine tk_skip ?_; refine tk_then ?_; refine tk_seq ?_; refine tk_block ?_; refine s_r ?_; refine s_q rfl (y_assign rfl) ?_; refine s_n ?_; refine tk_block ?_; refine tk_loop (X := Nat) (fun r => r ≤ 4) (fun r => [(0, .pointer (some ⟨kb, 0, none⟩)), (5, .pointer (some ⟨b5, 0, none⟩)), (7, I ((rd + 1 : Nat) : Int)), (8, .pointer (some ⟨b8, 0, none⟩)), (11, .pointer (some ⟨b11, 0, none⟩)), (12, I (c : Int)), (13, I (r : Int))]) (fun r => [cel b11 ((shTo S 16).map II) 178, cel b8 ((mxTo (shTo S 16) (c * 4 + r)).map II) 178, cel b5 (S.map II) 178]) (fun r => 4 - r) (0) (by omega) (by repeat (first | exact trivial | refine ⟨rfl, ?_⟩)) (List.Sublist.refl _) ?_
              intro r hr4
              refine tk_seq ?_; refine s_r ?_; refine s_q rfl (y_move rfl) ?_; refine s_q rfl (y_lss rfl rfl) ?_; refine s_n ?_; refine tk_condP rfl (fun h81 => ?_) (fun h81 => ?_)
              · skip
                refine tk_skip ?_; refine tk_then ?_; refine tk_seq ?_; refine tk_block ?_; refine tk_drawS [35] (by kernel_rfl) ?_; refine s_x 0 rfl (y_move rfl) ?_; refine s_x 1 rfl (y_move rfl) ?_; refine s_x 2 rfl (y_move rfl) ?_; refine s_x 3 rfl (y_move rfl) ?_; refine s_x 4 rfl (y_ixAN 4 4 rfl rfl (by kernel_rfl) (by omega)) ?_; refine s_x 5 rfl (y_ixAN1 4 rfl rfl (by kernel_rfl) (by omega)) ?_
                refine s_l 6 rfl (fun _ h => h) (y_load rfl rfl (hc (.head _) (icell (m := c * 4 + r) (by omega) (by simp [hSl] <;> omega)))) ?_; refine s_x 8 rfl (y_move rfl) ?_; refine s_x 9 rfl (y_move rfl) ?_; refine s_x 10 rfl (y_addN (b := 1) rfl rfl (by omega)) ?_; refine s_x 11 rfl (y_remN (b := 4) rfl rfl (by omega)) ?_; refine s_x 12 rfl (y_ixAN 4 4 rfl rfl (by kernel_rfl) (by omega)) ?_
                refine s_x 13 rfl (y_ixAN1 4 rfl rfl (by kernel_rfl) (by omega)) ?_; refine s_l 14 rfl (fun _ h => h) (y_load rfl rfl (hc (.head _) (icell (m := c * 4 + (r + 1) % 4) (by omega) (by simp [hSl] <;> omega)))) ?_; refine s_x 17 rfl (y_move rfl) ?_; refine s_x 18 rfl (y_move rfl) ?_; refine s_x 19 rfl (y_addN (b := 2) rfl rfl (by omega)) ?_; refine s_x 20 rfl (y_remN (b := 4) rfl rfl (by omega)) ?_
                refine s_x 21 rfl (y_ixAN 4 4 rfl rfl (by kernel_rfl) (by omega)) ?_; refine s_x 22 rfl (y_ixAN1 4 rfl rfl (by kernel_rfl) (by omega)) ?_; refine s_l 23 rfl (fun _ h => h) (y_load rfl rfl (hc (.head _) (icell (m := c * 4 + (r + 2) % 4) (by omega) (by simp [hSl] <;> omega)))) ?_; refine s_x 25 rfl (y_move rfl) ?_; refine s_x 26 rfl (y_move rfl) ?_; refine s_x 27 rfl (y_addN (b := 3) rfl rfl (by omega)) ?_
                refine s_x 28 rfl (y_remN (b := 4) rfl rfl (by omega)) ?_; refine s_x 29 rfl (y_ixAN 4 4 rfl rfl (by kernel_rfl) (by omega)) ?_; refine s_x 30 rfl (y_ixAN1 4 rfl rfl (by kernel_rfl) (by omega)) ?_; refine s_l 31 rfl (fun _ h => h) (y_load rfl rfl (hc (.head _) (icell (m := c * 4 + (r + 3) % 4) (by omega) (by simp [hSl] <;> omega)))) ?_; refine s_x 33 rfl (y_ixAN 4 4 rfl rfl (by kernel_rfl) (by omega)) ?_
                refine tx_a 7 rfl (by kernel_rfl) rfl ?_; refine a_callv [] _ rfl (by kernel_rfl) rfl (fun w' hw' => times2_spec _ w') rfl fun _ _ => ?_; refine tk_S (fun _ h => h) ?_; refine tx_a 15 rfl (by kernel_rfl) rfl ?_; refine a_callv [] _ rfl (by kernel_rfl) rfl (fun w' hw' => times3_spec _ w') rfl fun _ _ => ?_; refine tk_S (fun _ h => h) ?_; refine s_x 16 rfl (y_xorII rfl rfl) ?_; refine s_x 24 rfl (y_xorII rfl rfl) ?_
                refine s_x 32 rfl (y_xorII rfl rfl) ?_; refine s_x 34 rfl (y_ixAN1 4 rfl rfl (by kernel_rfl) (by omega)) ?_; refine tx_x 35 rfl (by kernel_rfl) rfl rfl ?_; refine a_store1 (H1 := [_]) rfl rfl (by kernel_rfl) rfl rfl (by simp [hSl] <;> omega) ?_; refine tx_done (by kernel_rfl) ?_; refine tk_in_normal ?_; refine tk_then ?_; refine tk_region ?_; refine s_q rfl (y_move rfl) ?_; refine tk_qe (I ((r + 1 : Nat) : Int)) rfl rfl rfl (y_addI rfl rfl (by omega)) (by congr 1) ?_
                refine s_q rfl (y_assign rfl) ?_; refine tk_nil ?_
                exact tk_again (r + 1) (by omega) (by omega) (by repeat (first | exact trivial | refine ⟨rfl, ?_⟩)) (by rw [← Nat.add_assoc]; simp only [mxTo]; rw [mxb_at (by omega), iset (o := 0 + c * 4 + r) (m := c * 4 + r) (by omega)]; exact List.Sublist.refl _)
              · skip
                obtain rfl : r = 4 := by omega
                refine tk_exit ?_; refine tk_then_exit ?_; refine tk_then_exit ?_; refine tk_in_hit ?_; refine tk_in_normal ?_; refine tk_then ?_; refine tk_region ?_; refine s_q rfl (y_move rfl) ?_; refine tk_qe (I ((c + 1 : Nat) : Int)) rfl rfl rfl (y_addI rfl rfl (by omega)) (by congr 1) ?_; refine s_q rfl (y_assign rfl) ?_; refine tk_nil ?_
                exact tk_again (c + 1) (by omega) (by omega) (by repeat (first | exact trivial | refine ⟨rfl, ?_⟩)) (by rw [show (c + 1) * 4 = c * 4 + 4 by omega]; exact List.Sublist.refl _)
            · skip
              obtain rfl : c = 4 := by omega
              refine tk_exit ?_; refine tk_then_exit ?_; refine tk_then_exit ?_; refine tk_in_hit ?_
              exact tk_to () trivial (by repeat (first | exact trivial | refine ⟨rfl, ?_⟩)) (by rw [if_pos (by omega)]; exact List.Sublist.cons _ (List.Sublist.refl _))
          · skip
            refine tk_skip ?_
            exact tk_to () trivial (by repeat (first | exact trivial | refine ⟨rfl, ?_⟩)) (by rw [if_neg (by omega)]; exact List.Sublist.refl _)
        · intro _ _
          have hT : (if rd + 1 < 14 then mxTo (shTo S 16) 16 else shTo S 16).length = 16 := by split <;> simp
          generalize hTd : (if rd + 1 < 14 then mxTo (shTo S 16) 16 else shTo S 16) = T at hT ⊢
          refine s_r ?_; refine s_q rfl (y_assign rfl) ?_; refine s_n ?_; refine tk_block ?_; refine tk_loop (X := Nat) (fun c => c ≤ 4) (fun c => [(0, .pointer (some ⟨kb, 0, none⟩)), (5, .pointer (some ⟨b5, 0, none⟩)), (7, I ((rd + 1 : Nat) : Int)), (8, .pointer (some ⟨b8, 0, none⟩)), (14, I (c : Int))]) (fun c => [cel b8 (T.map II) 178, cel b5 ((adTo K (rd + 1) T S (c * 4)).map II) 178]) (fun c => 4 - c) (0) (by omega) (by repeat (first | exact trivial | refine ⟨rfl, ?_⟩)) (List.Sublist.refl _) ?_
          intro c hC
          refine tk_seq ?_; refine s_r ?_; refine s_q rfl (y_move rfl) ?_; refine s_q rfl (y_lss rfl rfl) ?_; refine s_n ?_; refine tk_condP rfl (fun h120 => ?_) (fun h120 => ?_)
          · skip
            refine tk_skip ?_; refine tk_then ?_; refine tk_seq ?_; refine tk_block ?_; refine s_r ?_; refine s_q rfl (y_assign rfl) ?_; refine s_n ?_; refine tk_block ?_; refine tk_loop (X := Nat) (fun r => r ≤ 4) (fun r => [(0, .pointer (some ⟨kb, 0, none⟩)), (5, .pointer (some ⟨b5, 0, none⟩)), (7, I ((rd + 1 : Nat) : Int)), (8, .pointer (some ⟨b8, 0, none⟩)), (14, I (c : Int)), (15, I (r : Int))]) (fun r => [cel b8 (T.map II) 178, cel b5 ((adTo K (rd + 1) T S (c * 4 + r)).map II) 178]) (fun r => 4 - r) (0) (by omega) (by repeat (first | exact trivial | refine ⟨rfl, ?_⟩)) (List.Sublist.refl _) ?_
            intro r hr4
            refine tk_seq ?_; refine s_r ?_; refine s_q rfl (y_move rfl) ?_; refine s_q rfl (y_lss rfl rfl) ?_; refine s_n ?_; refine tk_condP rfl (fun h124 => ?_) (fun h124 => ?_)
            · skip
              refine tk_skip ?_; refine tk_then ?_; refine tk_seq ?_; refine tk_block ?_; refine tk_drawS [21] (by kernel_rfl) ?_; refine s_x 0 rfl (y_move rfl) ?_; refine s_x 1 rfl (y_move rfl) ?_; refine s_x 2 rfl (y_move rfl) ?_; refine s_x 3 rfl (y_move rfl) ?_; refine s_x 4 rfl (y_ixAN 4 4 rfl rfl (by kernel_rfl) (by omega)) ?_; refine s_x 5 rfl (y_ixAN1 4 rfl rfl (by kernel_rfl) (by omega)) ?_
              refine s_l 6 rfl (fun _ h => h) (y_load rfl rfl (hc (.head _) (icell (m := c * 4 + r) (by omega) (by omega)))) ?_; refine s_x 7 rfl (y_move rfl) ?_; refine s_x 8 rfl (y_move rfl) ?_; refine s_x 9 rfl (y_mulN (a := 4) rfl rfl (by omega)) ?_; refine s_x 10 rfl (y_move rfl) ?_; refine s_x 11 rfl (y_addN rfl rfl (by omega)) ?_; refine s_x 12 rfl (y_move rfl) ?_; refine s_x 13 rfl (y_nilCheck rfl) ?_
              refine s_x 14 rfl (y_fldN 1 rfl (by kernel_rfl)) ?_; refine s_x 15 rfl (y_ixAN 60 4 rfl rfl (by kernel_rfl) (by omega)) ?_; refine s_x 16 rfl (y_ixAN1 4 rfl rfl (by kernel_rfl) (by omega)) ?_; refine s_l 17 rfl (fun _ h => h) (y_load rfl rfl (hro (rkK hk (m := 16 * (rd + 1) + (c * 4 + r)) (by omega) (by omega)) (fun h => h))) ?_; refine s_x 18 rfl (y_xorII rfl rfl) ?_; refine s_x 19 rfl (y_ixAN 4 4 rfl rfl (by kernel_rfl) (by omega)) ?_
              refine s_x 20 rfl (y_ixAN1 4 rfl rfl (by kernel_rfl) (by omega)) ?_; refine tx_x 21 rfl (by kernel_rfl) rfl rfl ?_; refine a_store1 (H1 := [_]) rfl rfl (by kernel_rfl) rfl rfl (by simp [hSl] <;> omega) ?_; refine tx_done (by kernel_rfl) ?_; refine tk_in_normal ?_; refine tk_then ?_; refine tk_region ?_; refine s_q rfl (y_move rfl) ?_; refine tk_qe (I ((r + 1 : Nat) : Int)) rfl rfl rfl (y_addI rfl rfl (by omega)) (by congr 1) ?_
              refine s_q rfl (y_assign rfl) ?_; refine tk_nil ?_
              exact tk_again (r + 1) (by omega) (by omega) (by repeat (first | exact trivial | refine ⟨rfl, ?_⟩)) (by rw [← Nat.add_assoc]; simp only [adTo]; rw [iset (o := 0 + c * 4 + r) (m := c * 4 + r) (by omega)]; exact List.Sublist.refl _)
            · skip
              obtain rfl : r = 4 := by omega
              refine tk_exit ?_; refine tk_then_exit ?_; refine tk_then_exit ?_; refine tk_in_hit ?_; refine tk_in_normal ?_; refine tk_then ?_; refine tk_region ?_; refine s_q rfl (y_move rfl) ?_; refine tk_qe (I ((c + 1 : Nat) : Int)) rfl rfl rfl (y_addI rfl rfl (by omega)) (by congr 1) ?_; refine s_q rfl (y_assign rfl) ?_; refine tk_nil ?_
              exact tk_again (c + 1) (by omega) (by omega) (by repeat (first | exact trivial | refine ⟨rfl, ?_⟩)) (by rw [show (c + 1) * 4 = c * 4 + 4 by omega]; exact List.Sublist.refl _)
          · skip
            obtain rfl : c = 4 := by omega
            refine tk_exit ?_; refine tk_then_exit ?_; refine tk_then_exit ?_; refine tk_in_hit ?_; refine tk_in_normal ?_; refine tk_then ?_; refine tk_region ?_; refine s_q rfl (y_move rfl) ?_; refine tk_qe (I ((rd + 1 + 1 : Nat) : Int)) rfl rfl rfl (y_addI rfl rfl (by omega)) (by congr 1) ?_; refine s_q rfl (y_assign rfl) ?_; refine tk_nil ?_
            exact tk_again (rd + 1) (by omega) (by omega) (by repeat (first | exact trivial | refine ⟨rfl, ?_⟩)) (by simp only [rfTo]; rw [hSd, hTd]; exact List.Sublist.cons _ (List.Sublist.refl _))
    · skip
      obtain rfl : rd = 14 := by omega
      refine tk_exit ?_; refine tk_then_exit ?_; refine tk_then_exit ?_; refine tk_in_hit ?_; refine tk_then ?_; refine s_r ?_
      rw [← rf14 hV, hSd]
      refine tk_own0 5 ?_; refine s_q rfl (y_assign rfl) ?_; refine s_n ?_; refine tk_seq ?_; refine s_r ?_; refine s_q rfl (y_assign rfl) ?_; refine s_n ?_; refine tk_block ?_; refine tk_loop (X := Nat × Value) (fun x => x.1 ≤ 16) (fun x => [(5, .pointer (some ⟨b5, 0, none⟩)), (16, x.2), (17, I (x.1 : Int))]) (fun x => [ownB x.2 (S.take x.1) 5, cel b5 (S.map II) 178]) (fun x => 16 - x.1) ((0, .slice none 0 0)) (Nat.zero_le _) (by repeat (first | exact trivial | refine ⟨rfl, ?_⟩)) (List.Sublist.refl _) ?_
      rintro ⟨i, vo⟩ hI
      dsimp only at hI ⊢
      refine tk_seq ?_; refine s_r ?_; refine s_q rfl (y_move rfl) ?_; refine s_q rfl (y_lss rfl rfl) ?_; refine s_n ?_; refine tk_condP rfl (fun h149 => ?_) (fun h149 => ?_)
      · skip
        refine tk_skip ?_; refine tk_then ?_; refine tk_seq ?_; refine tk_block ?_; refine tk_region ?_; refine s_q rfl (y_move rfl) ?_; refine s_q rfl (y_move rfl) ?_; refine s_q rfl (y_quoN (b := 4) rfl rfl (by omega)) ?_; refine s_q rfl (y_move rfl) ?_; refine s_q rfl (y_remN (b := 4) rfl rfl (by omega)) ?_; refine s_q rfl (y_ixAN 4 4 rfl rfl (by kernel_rfl) (by omega)) ?_; refine s_q rfl (y_ixAN1 4 rfl rfl (by kernel_rfl) (by omega)) ?_
        refine s_q rfl (y_load rfl rfl (hc (.tail _ (.head _)) (icell (W := S) (m := i) (by omega) (by omega)))) ?_; refine tk_qe (B (S.getD i 0)) rfl rfl rfl (y_convi8 rfl rfl rfl) (by rw [UInt8.ofNat_toNat]) ?_; refine tk_act rfl ?_; refine a_slit1 rfl rfl el5 rfl fun b37 => ?_; refine tk_act rfl ?_; refine a_append (H1 := [_]) (news := [_]) rfl rfl el5 rfl rfl rfl (hcw (.head _)) (by simp [Value.oneCell']) (by simp [hSl] <;> omega) fun vo2 => ?_
        refine s_q rfl (y_assign rfl) ?_; refine tk_nil ?_; refine tk_in_normal ?_; refine tk_then ?_; refine tk_region ?_; refine s_q rfl (y_move rfl) ?_; refine tk_qe (I ((i + 1 : Nat) : Int)) rfl rfl rfl (y_addI rfl rfl (by omega)) (by congr 1) ?_; refine s_q rfl (y_assign rfl) ?_; refine tk_nil ?_
        exact tk_again (i + 1, vo2) (by show i + 1 ≤ 16; omega) (by show 16 - (i + 1) < 16 - i; omega) (by repeat (first | exact trivial | refine ⟨rfl, ?_⟩)) (by dsimp only; rw [own_tk (F := S) (by omega)]; exact List.Sublist.cons _ (List.Sublist.refl _))
      · skip
        obtain rfl : i = 16 := by omega
        rw [List.take_of_length_le (by omega)]
        refine tk_exit ?_; refine tk_then_exit ?_; refine tk_then_exit ?_; refine tk_in_hit ?_; refine tk_then ?_; refine s_r ?_; refine s_q rfl (y_move rfl) ?_; refine s_q rfl (y_str (l := S) rfl rfl rfl rfl (fun w hw => own_rd (hw.mem (.head _)))) ?_; refine s_q rfl (y_assign rfl) ?_; refine s_n ?_; refine tk_retc ?_
        exact tk_ret () trivial (.inl rfl) (r1 rfl rfl) (List.nil_sublist _)
end Go.Proofs.YtfofkjajlfphjaaDoor.Cip
