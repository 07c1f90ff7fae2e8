/- cipher: the walks over Begin, block, Seek, and a law's pour. -/
import Derived.Test.YtfofkjajlfphjaaDoorCipB
set_option linter.unusedSimpArgs false
set_option linter.unusedVariables false
namespace Go.Proofs.YtfofkjajlfphjaaDoor.Cip
open Go Go.RowKit
set_option maxRecDepth 100000
theorem list16 {l : List UInt8} (h : l.length = 16) : ∃ a0 a1 a2 a3 a4 a5 a6 a7 a8 a9 a10 a11 a12 a13 a14 a15, l = [a0, a1, a2, a3, a4, a5, a6, a7, a8, a9, a10, a11, a12, a13, a14, a15] := by
  match l, h with
  | [a0, a1, a2, a3, a4, a5, a6, a7, a8, a9, a10, a11, a12, a13, a14, a15], _ => exact ⟨a0, a1, a2, a3, a4, a5, a6, a7, a8, a9, a10, a11, a12, a13, a14, a15, rfl⟩
def flowCs (kb : Nat) (N : List UInt8) (a : Int) : List Value := .pointer (some ⟨kb, 0, none⟩) :: (N.map B ++ [I a])
theorem beginNo_spec (N : List UInt8) (w : World) : Spec Tryd.prog 91 [.pointer none, Ag N] w [] (fun _ : Unit => True) (fun _ => .tuple #[.pointer none, I 1]) (fun _ => []) := by
  refine spec_of (n := 12) Tryd.func91 rfl rfl trivial trivial rfl ?_; refine s_r ?_; refine tk_act rfl ?_; refine a_boxL rfl rfl fun b3 => ?_; refine s_q rfl (y_assign rfl) ?_; refine s_q rfl (y_assign rfl) ?_; refine s_n ?_; refine tk_seq ?_; refine s_r ?_; refine s_q rfl (y_move rfl) ?_; refine tk_qe (.bool true) rfl rfl rfl (y_pnil rfl rfl rfl) (rfl) ?_; refine s_n ?_; refine tk_cond1 rfl ?_; refine s_r ?_
  refine s_q rfl (y_assign rfl) ?_; refine s_q rfl (y_assign rfl) ?_; refine s_n ?_; refine tk_retc ?_; refine tk_then_ret ?_
  exact tk_ret () trivial (.inl rfl) (r2 rfl rfl rfl) (List.nil_sublist _)
theorem begin_spec (kb : Nat) (N : List UInt8) (w : World) (hN : N.length = 16) :
    Spec Tryd.prog 91 [.pointer (some ⟨kb, 0, none⟩), Ag N] w [] (fun _ : Nat => True) (fun fb => .tuple #[.pointer (some ⟨fb, 0, none⟩), I 0]) (fun fb => [cel fb (flowCs kb N 0) 157]) := by
  obtain ⟨a0, a1, a2, a3, a4, a5, a6, a7, a8, a9, a10, a11, a12, a13, a14, a15, rfl⟩ := list16 hN
  refine spec_of (n := 12) Tryd.func91 rfl rfl trivial trivial rfl ?_; refine s_r ?_; refine tk_act rfl ?_; refine a_boxL rfl rfl fun b3 => ?_; refine s_q rfl (y_assign rfl) ?_; refine s_q rfl (y_assign rfl) ?_; refine s_n ?_; refine tk_seq ?_; refine s_r ?_; refine s_q rfl (y_move rfl) ?_; refine tk_qe (.bool false) rfl rfl rfl (y_pnil rfl rfl rfl) (rfl) ?_; refine s_n ?_; refine tk_cond0 rfl ?_; refine tk_skip ?_
  refine tk_then ?_; refine s_r ?_; refine s_q rfl (y_move rfl) ?_; refine s_q rfl (y_loadA 16 rfl (by kernel_rfl) (by rfl) (hcw (.head _))) ?_; refine s_q rfl (y_build (v := .agg (flowCs kb [a0, a1, a2, a3, a4, a5, a6, a7, a8, a9, a10, a11, a12, a13, a14, a15] 0).toArray) rfl (fun _ => by kernel_rfl)) ?_; refine tk_act rfl ?_; refine a_boxL rfl rfl fun b11 => ?_; refine s_q rfl (y_assign rfl) ?_; refine s_q rfl (y_assign rfl) ?_
  refine s_n ?_; refine tk_retc ?_
  exact tk_ret b11 trivial (.inl rfl) (r2 rfl rfl rfl) (List.Sublist.cons_cons _ (List.nil_sublist _))
theorem hroA {c : Cx} {H : List Res} {b q : Nat} {l : List UInt8} (h0 : ∀ j, j < l.length → c.w0.cell? ⟨b, q + j, none⟩ = some (B (l.getD j 0))) (hE : ¬ c.E b) : ∀ w, St c w H → ∀ (j : Nat) (u : Value), (l.map B)[j]? = some u → w.cell? ((⟨b, q, none⟩ : Addr).add j) = some u := fun w hw j u hj => by
  rw [add_w]
  rw [List.getElem?_map] at hj
  cases hl : l[j]? with
  | none => rw [hl] at hj; cases hj
  | some a =>
    rw [hl] at hj; cases hj
    have := hw.fr.cell (h0 j (List.getElem?_eq_some_iff.1 hl).1) hE
    rw [List.getD_eq_getElem?_getD, hl] at this
    exact this
set_option maxHeartbeats 400000 in
theorem block_spec (fb kb n : Nat) (K N : List UInt8) (w : World) (hN : N.length = 16) (hn : n < 2 ^ 63) (hf0 : w.cell? ⟨fb, 0, none⟩ = some (.pointer (some ⟨kb, 0, none⟩))) (hfn : ∀ j, j < N.length → w.cell? ⟨fb, 1 + j, none⟩ = some (B (N.getD j 0)))
    (hk : ∀ j, j < 240 → w.cell? ⟨kb, j, none⟩ = some (B (K.getD j 0))) :
    Spec Tryd.prog 92 [.pointer (some ⟨fb, 0, none⟩), I (n : Int)] w [] (fun _ : Unit => True) (fun _ => Ag (turn K (plus N n))) (fun _ => []) := by
  refine spec_of (n := 40) Tryd.func92 rfl rfl trivial trivial rfl ?_; refine s_r ?_; refine tk_act rfl ?_; refine a_allocL (cs := (List.replicate 16 0).map B) (by kernel_rfl) rfl fun b4 => ?_; refine s_n ?_; refine s_r ?_; refine s_q rfl (y_move rfl) ?_; refine s_q rfl (y_nilCheck rfl) ?_; refine tk_qe (.pointer (some ⟨fb, 1, none⟩)) rfl rfl rfl (y_fldN 1 rfl (by kernel_rfl)) (rfl) ?_; refine s_q rfl (y_loadA 16 rfl (by kernel_rfl) (by simp [hN]) (hroA hfn (fun h => h))) ?_
  refine tk_act rfl ?_; refine a_allocL (cs := (List.replicate 16 0).map B) (by kernel_rfl) rfl fun b5 => ?_; refine tk_act rfl ?_; refine a_storeW (H1 := []) 16 rfl rfl (by kernel_rfl) rfl ⟨by simp [hN], by simp⟩ oneB ?_; refine s_n ?_; refine s_r ?_; refine s_q rfl (y_move rfl) ?_; refine s_q rfl (y_convi64 rfl rfl rfl (wrap_u64 (by omega))) ?_; refine s_q rfl (y_assign rfl) ?_; refine s_n ?_; refine tk_seqI (X := Unit) (fun _ => True) (fun _ => [(0, .pointer (some ⟨fb, 0, none⟩)), (4, .pointer (some ⟨b4, 0, none⟩)), (5, .pointer (some ⟨b5, 0, none⟩))]) (fun _ => [cel b5 ((plus N n).map B) 25, cel b4 ((List.replicate 16 0).map B) 25]) ?_ ?_
  · skip
    refine s_r ?_; refine s_q rfl (y_assign rfl) ?_; refine s_n ?_; refine tk_block ?_; refine tk_loop (X := Nat) (fun k => k ≤ 16) (fun k => [(0, .pointer (some ⟨fb, 0, none⟩)), (4, .pointer (some ⟨b4, 0, none⟩)), (5, .pointer (some ⟨b5, 0, none⟩)), (6, .int .u64 ((plusTo N n k).2 : Int)), (7, I (15 - (k : Int)))]) (fun k => [cel b5 ((plusTo N n k).1.map B) 25, cel b4 ((List.replicate 16 0).map B) 25]) (fun k => 16 - k) (0) (by omega) (by repeat (first | exact trivial | refine ⟨rfl, ?_⟩)) (List.Sublist.refl _) ?_
    intro k hI
    have hcr := plusTo_lt (N := N) (n := n) (k := k) hn
    have hb8 := b_lt ((plusTo N n k).1.getD (15 - k) 0)
    refine tk_seq ?_; refine s_r ?_; refine s_q rfl (y_move rfl) ?_; refine tk_qs rfl rfl rfl (y_geq rfl rfl) (fun hs4_1 => ?_) (fun hs4_1 => ?_)
    · skip
      refine s_q rfl (y_move rfl) ?_; refine s_g rfl (y_move rfl) ?_; refine tk_gqs rfl rfl rfl (y_gtr rfl rfl) (fun hs4_4 => ?_) (fun hs4_4 => ?_)
      · skip
        refine s_q rfl (y_pick1 rfl rfl) ?_; refine s_n ?_; refine tk_cond1 rfl ?_; refine tk_skip ?_; refine tk_then ?_; refine tk_seq ?_; refine tk_block ?_; refine s_r ?_; refine s_q rfl (y_move rfl) ?_; refine s_q rfl (y_move rfl) ?_; refine s_q rfl (y_ixA0I 16 (15 - k) rfl rfl (by kernel_rfl) (by omega)) ?_; refine s_q rfl (y_load rfl rfl (hc (.head _) (getB (by simp [hN] <;> omega)))) ?_; refine s_q rfl (y_convi64 rfl rfl rfl (wrap_u64 (by omega))) ?_
        refine s_q rfl (y_addU rfl rfl (by omega)) ?_; refine s_q rfl (y_assign rfl) ?_; refine s_n ?_; refine s_r ?_; refine s_q rfl (y_move rfl) ?_; refine s_q rfl (y_move rfl) ?_; refine s_q rfl (y_convi8 rfl rfl rfl) ?_; refine s_q rfl (y_ixA0I 16 (15 - k) rfl rfl (by kernel_rfl) (by omega)) ?_; refine tk_act rfl ?_; (first | refine a_store1B (H1 := []) rfl rfl (by kernel_rfl) rfl (by simp [hN] <;> omega) ?_ | refine a_store1B (H1 := [_]) rfl rfl (by kernel_rfl) rfl (by simp [hN] <;> omega) ?_)
        refine s_n ?_; refine tk_region ?_; refine s_q rfl (y_move rfl) ?_; refine s_q rfl (y_shrN (m := 8) rfl rfl (by decide)) ?_; refine s_q rfl (y_assign rfl) ?_; refine tk_nil ?_; refine tk_in_normal ?_; refine tk_then ?_; refine tk_region ?_; refine s_q rfl (y_move rfl) ?_; refine tk_qe (I (15 - ((k + 1 : Nat) : Int))) rfl rfl rfl (y_subI rfl rfl (by omega)) (by congr 1; omega) ?_; refine s_q rfl (y_assign rfl) ?_
        refine tk_nil ?_; refine tk_again (k + 1) (by omega) (by omega) ⟨rfl, rfl, rfl, ?_, rfl, trivial⟩ ?_
        · simp only [plusTo]; rw [if_neg (by omega)]; rfl
        · simp only [plusTo]; rw [if_neg (by omega)]; exact List.Sublist.refl _
      · skip
        refine s_q rfl (y_pick1 rfl rfl) ?_; refine s_n ?_; refine tk_cond0 rfl ?_; refine tk_exit ?_; refine tk_then_exit ?_; refine tk_then_exit ?_; refine tk_in_hit ?_; refine tk_to () trivial (by repeat (first | exact trivial | refine ⟨rfl, ?_⟩)) (by rw [plus_at (k := k) (by omega) (by omega)]; exact List.Sublist.refl _)
    · skip
      refine s_q rfl (y_move rfl) ?_; refine tk_gno rfl rfl rfl ?_; refine tk_gno rfl rfl rfl ?_; refine s_q rfl (y_pick0 rfl rfl) ?_; refine s_n ?_; refine tk_cond0 rfl ?_; refine tk_exit ?_; refine tk_then_exit ?_; refine tk_then_exit ?_; refine tk_in_hit ?_; refine tk_to () trivial (by repeat (first | exact trivial | refine ⟨rfl, ?_⟩)) (by rw [plus_at (k := k) (by omega) (by omega)]; exact List.Sublist.refl _)
  · intro _ _
    refine tk_seq ?_; refine tk_drawS [5, 6] (by kernel_rfl) ?_; refine s_x 0 rfl (y_move rfl) ?_; refine s_x 1 rfl (y_nilCheck rfl) ?_; refine s_x 2 rfl (y_fld0 rfl (by kernel_rfl)) ?_; refine s_l 3 rfl (fun _ h => h) (y_load rfl rfl (hro hf0 (fun h => h))) ?_
    (first | refine s_l 4 rfl (fun _ h => h) (y_loadA 16 rfl (by kernel_rfl) (by simp [hN]) (hcw (.head _))) ?_ | refine s_l 4 rfl (fun _ h => h) (y_loadA 16 rfl (by kernel_rfl) (by simp [hN]) (hcw (.tail _ (.head _)))) ?_)
    refine tx_x 5 rfl (by kernel_rfl) rfl rfl ?_; refine a_callv [] _ rfl (by kernel_rfl) rfl (fun w' hw' => turn_spec kb K _ w' (by simp [hN]) (fun j hj => hw'.fr.cell (hk j hj) (fun h => h))) rfl fun _ _ => ?_; refine tx_x 6 rfl (by kernel_rfl) rfl rfl ?_; refine a_storeW (H1 := [_]) 16 rfl rfl (by kernel_rfl) rfl ⟨by simp [hN], by simp⟩ oneB ?_; refine tx_done (by kernel_rfl) ?_; refine tk_then ?_
    refine tk_retc ?_
    exact tk_ret () trivial (.inl rfl) (rc rfl rfl (by simp [hN]; kernel_rfl) (hcw (.tail _ (.head _)))) (List.nil_sublist _)
end Go.Proofs.YtfofkjajlfphjaaDoor.Cip
