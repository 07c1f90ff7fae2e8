/- cipher: Seek of a flow; the reference's Plus and its products. -/
import Derived.Test.YtfofkjajlfphjaaDoorCipD
import Derived.Test.YtfofkjajlfphjaaDoorCipRef
import Derived.Test.YtfofkjajlfphjaaDoorNames
set_option linter.unusedSimpArgs false
set_option linter.unusedVariables false
namespace Go.Proofs.YtfofkjajlfphjaaDoor.Cip
open Go Go.RowKit
set_option maxRecDepth 100000
theorem ofNat_mod256 (m : Nat) : UInt8.ofNat (m % 256) = UInt8.ofNat m := by apply UInt8.toNat_inj.1; simp
theorem get_app {l r : List Value} {i : Nat} {v : Value} (h : l[i]? = some v) : (l ++ r)[i]? = some v := by
  rw [List.getElem?_append_left (List.getElem?_eq_some_iff.1 h).1]; exact h
theorem set_map_app {l : List UInt8} {r : List Value} {i : Nat} {b : UInt8} (h : i < l.length) : (l.set i b).map B ++ r = (l.map B ++ r).set i (B b) := by
  rw [List.map_set, List.set_append_left _ _ (by simpa using h)]
theorem plusTo_le {N : List UInt8} {n k : Nat} : (plusTo N n k).2 ≤ n := by
  induction k with
  | zero => exact Nat.le_refl _
  | succ k ih =>
    simp only [plusTo]; split
    · exact ih
    · have := b_lt ((plusTo N n k).1.getD (15 - k) 0)
      simp only; omega
theorem sl7 {a k : Nat} (ha : a < 256) (hk : k ≤ 7) : a * 2 ^ k < 65536 := by
  have h1 : 2 ^ k ≤ 2 ^ 7 := Nat.pow_le_pow_right (by decide) hk
  have : a * 2 ^ k ≤ 255 * 2 ^ 7 := Nat.mul_le_mul (by omega) h1
  omega
theorem p6 (k : Nat) : 283 * 2 ^ (6 - k) < 65536 := by
  have h1 : 2 ^ (6 - k) ≤ 2 ^ 6 := Nat.pow_le_pow_right (by decide) (by omega)
  omega
attribute [local irreducible] plus
set_option maxHeartbeats 400000 in
theorem plus_spec (N : List UInt8) (n : Nat) (w : World) (hN : N.length = 16) (hn : n < 2 ^ 63 - 256) : Spec Tryd.prog 88 [Str N, I (n : Int)] w [] (fun _ : Unit => True) (fun _ => Str (plus N n)) (fun _ => []) := by
  refine spec_of (n := 34) Tryd.func88 rfl rfl trivial trivial rfl ?_; refine s_r ?_; refine s_q rfl (y_assign rfl) ?_; refine s_n ?_; refine s_r ?_; refine s_q rfl (y_move rfl) ?_; refine tk_act rfl ?_; refine a_s2b rfl rfl rfl rfl rfl fun b8 cap rest hcap => ?_; refine s_q rfl (y_assign rfl) ?_; refine s_n ?_; refine tk_seqI (X := Unit) (fun _ => True) (fun _ => [(5, .slice (some ⟨b8, 0, none⟩) N.length cap)]) (fun _ => [cel b8 ((plus N n).map B ++ rest) 5]) ?_ ?_
  · skip
    refine s_r ?_; refine s_q rfl (y_assign rfl) ?_; refine s_n ?_; refine tk_block ?_; refine tk_loop (X := Nat) (fun k => k ≤ 16) (fun k => [(5, .slice (some ⟨b8, 0, none⟩) N.length cap), (1, I ((plusTo N n k).2 : Int)), (6, I (15 - (k : Int)))]) (fun k => [cel b8 ((plusTo N n k).1.map B ++ rest) 5]) (fun k => 16 - k) (0) (by omega) (by repeat (first | exact trivial | refine ⟨rfl, ?_⟩)) (List.Sublist.refl _) ?_
    intro k hI
    have hcr := plusTo_le (N := N) (n := n) (k := k)
    have hb8 := b_lt ((plusTo N n k).1.getD (15 - k) 0)
    refine tk_seq ?_; refine s_r ?_; refine s_q rfl (y_move rfl) ?_; refine tk_qs rfl rfl rfl (y_geq rfl rfl) (fun hs3_1 => ?_) (fun hs3_1 => ?_)
    · skip
      refine s_q rfl (y_move rfl) ?_; refine s_g rfl (y_move rfl) ?_; refine tk_gqs rfl rfl rfl (y_gtr rfl rfl) (fun hs3_4 => ?_) (fun hs3_4 => ?_)
      · skip
        refine s_q rfl (y_pick1 rfl rfl) ?_; refine s_n ?_; refine tk_cond1 rfl ?_; refine tk_skip ?_; refine tk_then ?_; refine tk_seq ?_; refine tk_block ?_; refine s_r ?_; refine s_q rfl (y_move rfl) ?_; refine s_q rfl (y_move rfl) ?_; refine s_q rfl (y_move rfl) ?_; refine s_q rfl (y_ixS0I (15 - k) rfl rfl (by kernel_rfl) (by omega)) ?_; refine s_q rfl (y_load rfl rfl (hc (.head _) (get_app (getB (by simp [hN] <;> omega))))) ?_
        refine s_q rfl (y_conv8i rfl rfl rfl) ?_; refine s_q rfl (y_addN rfl rfl (by omega)) ?_; refine s_q rfl (y_assign rfl) ?_; refine s_n ?_; refine s_r ?_; refine s_q rfl (y_move rfl) ?_; refine s_q rfl (y_move rfl) ?_; refine s_q rfl (y_move rfl) ?_; refine s_q rfl (y_remN (b := 256) rfl rfl (by omega)) ?_; refine tk_qe (B (UInt8.ofNat ((plusTo N n k).2 + ((plusTo N n k).1.getD (15 - k) 0).toNat))) rfl rfl rfl (y_convi8 rfl rfl rfl) (by rw [ofNat_mod256]) ?_
        refine s_q rfl (y_ixS0I (15 - k) rfl rfl (by kernel_rfl) (by omega)) ?_; refine tk_act rfl ?_; refine a_store1 (H1 := []) rfl rfl (by kernel_rfl) rfl rfl (by simp [hN] <;> omega) ?_; refine s_n ?_; refine tk_region ?_; refine s_q rfl (y_move rfl) ?_; refine s_q rfl (y_quoN (b := 256) rfl rfl (by omega)) ?_; refine s_q rfl (y_assign rfl) ?_; refine tk_nil ?_; refine tk_in_normal ?_; refine tk_then ?_
        refine tk_region ?_; refine s_q rfl (y_move rfl) ?_; refine tk_qe (I (15 - ((k + 1 : Nat) : Int))) rfl rfl rfl (y_subI rfl rfl (by omega)) (by congr 1; omega) ?_; refine s_q rfl (y_assign rfl) ?_; refine tk_nil ?_; refine tk_again (k + 1) (by omega) (by omega) ⟨rfl, ?_, rfl, trivial⟩ ?_
        · simp only [plusTo]; rw [if_neg (by omega)]; rfl
        · simp only [plusTo]; rw [if_neg (by omega), set_map_app (by simp [hN] <;> omega)]; exact List.Sublist.refl _
      · skip
        refine s_q rfl (y_pick1 rfl rfl) ?_; refine s_n ?_; refine tk_cond0 rfl ?_; refine tk_exit ?_; refine tk_then_exit ?_; refine tk_then_exit ?_; refine tk_in_hit ?_
        exact tk_to () trivial (by repeat (first | exact trivial | refine ⟨rfl, ?_⟩)) (by rw [plus_at (k := k) (by omega) (by omega)]; exact List.Sublist.refl _)
    · skip
      refine s_q rfl (y_move rfl) ?_; refine tk_gno rfl rfl rfl ?_; refine tk_gno rfl rfl rfl ?_; refine s_q rfl (y_pick0 rfl rfl) ?_; refine s_n ?_; refine tk_cond0 rfl ?_; refine tk_exit ?_; refine tk_then_exit ?_; refine tk_then_exit ?_; refine tk_in_hit ?_
      exact tk_to () trivial (by repeat (first | exact trivial | refine ⟨rfl, ?_⟩)) (by rw [plus_at (k := k) (by omega) (by omega)]; exact List.Sublist.refl _)
  · intro _ _
    refine s_r ?_; refine s_q rfl (y_move rfl) ?_; refine s_q rfl (y_str (l := plus N n) rfl rfl rfl rfl (fun w hw => cel_rd (o := 0) (hw.mem (.head _)) (by simp) (by rw [List.length_map, plus_len]) (by omega))) ?_; refine s_q rfl (y_assign rfl) ?_; refine s_n ?_; refine tk_retc ?_
    exact tk_ret () trivial (.inl rfl) (r1 rfl rfl) (List.nil_sublist _)
theorem times_spec (a b : Nat) (w : World) (ha : a < 256) (hb : b < 256) : Spec Tryd.prog 86 [I (a : Int), I (b : Int)] w [] (fun _ : Unit => True) (fun _ => I (timesN a b : Int)) (fun _ => []) := by
  refine spec_of (n := 37) Tryd.func86 rfl rfl trivial trivial rfl ?_; refine s_r ?_; refine s_q rfl (y_assign rfl) ?_; refine s_n ?_; refine s_r ?_; refine s_q rfl (y_assign rfl) ?_; refine s_n ?_; refine tk_seq ?_; refine s_r ?_; refine s_q rfl (y_assign rfl) ?_; refine s_n ?_; refine tk_block ?_; refine tk_loop (X := Nat) (fun k => k ≤ 8) (fun k => [(0, I (a : Int)), (1, I (b : Int)), (5, I (tmA a b k : Int)), (6, I (k : Int))]) (fun _ => []) (fun k => 8 - k) (0) (by omega) (by repeat (first | exact trivial | refine ⟨rfl, ?_⟩)) (List.Sublist.refl _) ?_
  intro k hI
  have hA := tmA_lt (b := b) ha hI
  refine tk_seq ?_; refine s_r ?_; refine s_q rfl (y_move rfl) ?_; refine s_q rfl (y_lss rfl rfl) ?_; refine s_n ?_; refine tk_condP rfl (fun h9 => ?_) (fun h9 => ?_)
  · skip
    have hk7 : k ≤ 7 := by omega
    refine tk_skip ?_; refine tk_then ?_; refine tk_seqI (X := Unit) (fun _ => True) (fun _ => [(0, I (a : Int)), (1, I (b : Int)), (5, I (tmA a b (k + 1) : Int)), (6, I (k : Int))]) (fun _ => []) ?_ ?_
    · skip
      refine tk_block ?_; refine s_r ?_; refine s_q rfl (y_move rfl) ?_; refine s_q rfl (y_move rfl) ?_; refine s_q rfl (y_shrI rfl rfl (by omega)) ?_; refine s_q rfl (y_and1 rfl rfl (by have := Nat.div_le_self b (2 ^ k); omega)) ?_; refine s_q rfl (y_eql rfl rfl) ?_; refine s_n ?_; refine tk_condP rfl (fun h16 => ?_) (fun h16 => ?_)
      · skip
        refine tk_region ?_; refine s_q rfl (y_move rfl) ?_; refine s_q rfl (y_move rfl) ?_; refine s_q rfl (y_move rfl) ?_; refine s_q rfl (y_shlI rfl rfl (by omega) (by have := sl7 ha hk7; omega)) ?_; refine s_q rfl (y_xorN rfl rfl ⟨by omega, by have := sl7 ha hk7; omega⟩) ?_; refine s_q rfl (y_assign rfl) ?_; refine tk_nil ?_; refine tk_in_normal ?_
        exact tk_to () trivial ⟨rfl, rfl, by rw [tmA_on (by omega)]; rfl, rfl, trivial⟩ (List.Sublist.refl _)
      · skip
        refine tk_skip ?_; refine tk_in_normal ?_
        exact tk_to () trivial ⟨rfl, rfl, by rw [tmA_off (by omega)]; rfl, rfl, trivial⟩ (List.Sublist.refl _)
    · intro _ _
      refine tk_region ?_; refine s_q rfl (y_move rfl) ?_; refine tk_qe (I ((k + 1 : Nat) : Int)) rfl rfl rfl (y_addI rfl rfl (by omega)) (by congr 1) ?_; refine s_q rfl (y_assign rfl) ?_; refine tk_nil ?_
      exact tk_again (k + 1) (by omega) (by omega) (by repeat (first | exact trivial | refine ⟨rfl, ?_⟩)) (List.Sublist.refl _)
  · skip
    obtain rfl : k = 8 := by omega
    refine tk_exit ?_; refine tk_then_exit ?_; refine tk_then_exit ?_; refine tk_in_hit ?_; refine tk_then ?_; refine tk_seq ?_; refine s_r ?_; refine s_q rfl (y_assign rfl) ?_; refine s_n ?_; refine tk_block ?_; refine tk_loop (X := Nat) (fun k => k ≤ 7) (fun k => [(0, I (a : Int)), (1, I (b : Int)), (5, I (tmB (tmA a b 8) k : Int)), (7, I ((14 - k : Nat) : Int))]) (fun _ => []) (fun k => 7 - k) (0) (by omega) (by repeat (first | exact trivial | refine ⟨rfl, ?_⟩)) (List.Sublist.refl _) ?_
    intro k hI
    have hB := tmB_lt (tmA_lt (b := b) ha (Nat.le_refl 8)) hI
    refine tk_seq ?_; refine s_r ?_; refine s_q rfl (y_move rfl) ?_; refine s_q rfl (y_geq rfl rfl) ?_; refine s_n ?_; refine tk_condP rfl (fun h23 => ?_) (fun h23 => ?_)
    · skip
      have hk6 : k ≤ 6 := by omega
      refine tk_skip ?_; refine tk_then ?_; refine tk_seqI (X := Unit) (fun _ => True) (fun _ => [(0, I (a : Int)), (1, I (b : Int)), (5, I (tmB (tmA a b 8) (k + 1) : Int)), (7, I ((14 - k : Nat) : Int))]) (fun _ => []) ?_ ?_
      · skip
        refine tk_block ?_; refine s_r ?_; refine s_q rfl (y_move rfl) ?_; refine s_q rfl (y_move rfl) ?_; refine s_q rfl (y_shrI rfl rfl (by omega)) ?_; refine s_q rfl (y_and1 rfl rfl (by have := Nat.div_le_self (tmB (tmA a b 8) k) (2 ^ (14 - k)); omega)) ?_; refine s_q rfl (y_eql rfl rfl) ?_; refine s_n ?_; refine tk_condP rfl (fun h30 => ?_) (fun h30 => ?_)
        · skip
          refine tk_region ?_; refine s_q rfl (y_move rfl) ?_; refine s_q rfl (y_move rfl) ?_; refine tk_qe (I ((6 - k : Nat) : Int)) rfl rfl rfl (y_subI rfl rfl (by omega)) (by congr 1; omega) ?_; refine s_q rfl (y_shlI (a := 283) rfl rfl (by omega) (by have := p6 k; omega)) ?_; refine s_q rfl (y_xorN rfl rfl ⟨by omega, by have := p6 k; omega⟩) ?_; refine s_q rfl (y_assign rfl) ?_; refine tk_nil ?_
          refine tk_in_normal ?_
          exact tk_to () trivial ⟨rfl, rfl, by rw [tmB_on (by omega)]; rfl, rfl, trivial⟩ (List.Sublist.refl _)
        · skip
          refine tk_skip ?_; refine tk_in_normal ?_
          exact tk_to () trivial ⟨rfl, rfl, by rw [tmB_off (by omega)]; rfl, rfl, trivial⟩ (List.Sublist.refl _)
      · intro _ _
        refine tk_region ?_; refine s_q rfl (y_move rfl) ?_; refine tk_qe (I ((14 - (k + 1) : Nat) : Int)) rfl rfl rfl (y_subI rfl rfl (by omega)) (by congr 1; omega) ?_; refine s_q rfl (y_assign rfl) ?_; refine tk_nil ?_
        exact tk_again (k + 1) (by omega) (by omega) (by repeat (first | exact trivial | refine ⟨rfl, ?_⟩)) (List.Sublist.refl _)
    · skip
      obtain rfl : k = 7 := by omega
      refine tk_exit ?_; refine tk_then_exit ?_; refine tk_then_exit ?_; refine tk_in_hit ?_; refine tk_then ?_; refine s_r ?_; refine s_q rfl (y_move rfl) ?_; refine s_q rfl (y_assign rfl) ?_; refine s_n ?_; refine tk_retc ?_
      exact tk_ret () trivial (.inl rfl) (r1 rfl rfl) (List.Sublist.refl _)
end Go.Proofs.YtfofkjajlfphjaaDoor.Cip
