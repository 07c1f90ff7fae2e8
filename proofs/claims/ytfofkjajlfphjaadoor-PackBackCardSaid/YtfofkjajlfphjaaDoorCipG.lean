/- cipher's reference: the bytes that stand for others, and the keys of all rounds. -/
import Derived.Test.YtfofkjajlfphjaaDoorCipF
import Derived.Test.YtfofkjajlfphjaaDoorCipBox
import Derived.Test.YtfofkjajlfphjaaDoorCipRefB
set_option linter.unusedSimpArgs false
set_option linter.unusedVariables false
namespace Go.Proofs.YtfofkjajlfphjaaDoor.Cip
open Go Go.RowKit
set_option maxRecDepth 100000
abbrev II (u : UInt8) : Value := I (u.toNat : Int)
def bxTo (x : Nat) : List Value := (List.range x).map (fun i => I (boxN i : Int)) ++ List.replicate (256 - x) (I 0)
theorem bx_set {x : Nat} (h : x < 256) : (bxTo x).set x (I (boxN x : Int)) = bxTo (x + 1) := by
  unfold bxTo
  rw [List.set_append_right _ _ (by simp)]
  simp only [List.length_map, List.length_range, Nat.sub_self, List.range_succ, List.map_append, List.append_assoc]
  rw [show 256 - x = (256 - (x + 1)) + 1 by omega, List.replicate_succ]; rfl
theorem bx_all : bxTo 256 = fwd.map II := by
  have h := congrArg (List.map fun n : Nat => I (n : Int)) box_fwd
  rw [List.map_map, List.map_map] at h
  unfold bxTo
  rw [Nat.sub_self, List.replicate_zero, List.append_nil]; exact h
theorem dl {v m : Nat} (h : v < 256) : v / 2 ^ m < 4611686018427387904 := by have := Nat.div_le_self v (2 ^ m); omega
theorem xl {a b : Nat} (ha : a < 4611686018427387904) (hb : b < 4611686018427387904) : a ^^^ b < 4611686018427387904 := xor_lt 62 ha hb
theorem mx_lt {v i : Nat} (h : i ≤ 7) : mixN v i < 256 := by
  have h1 := mixN_lt (v := v) (i := i)
  have h2 : 2 ^ i ≤ 2 ^ 7 := Nat.pow_le_pow_right (by decide) h
  omega
theorem invN_pos {x : Nat} (h : x ≠ 0) : invN x = invTo x 255 1 := by
  unfold invN
  have : Nat.beq x 0 = false := by
    cases hb : Nat.beq x 0 with
    | false => rfl
    | true => exact (h (Nat.eq_of_beq_eq_true hb)).elim
  rw [this]; rfl
theorem inv_hit {x y : Nat} (hy : y < 256) (h : timesN x y = 1) : invTo x (256 - y) y = y := by
  rw [show 256 - y = (255 - y) + 1 by omega]; simp only [invTo]; rw [h]; rfl
theorem inv_miss {x y : Nat} (hy : y < 256) (h : ¬ timesN x y = 1) : invTo x (256 - y) y = invTo x (256 - (y + 1)) (y + 1) := by
  rw [show 256 - y = (256 - (y + 1)) + 1 by omega]; simp only [invTo]
  have : Nat.beq (timesN x y) 1 = false := by
    cases hb : Nat.beq (timesN x y) 1 with
    | false => rfl
    | true => exact (h (Nat.eq_of_beq_eq_true hb)).elim
  rw [this]; rfl
theorem inv_end {x y : Nat} (hy : y = 256) (h : x ≠ 0 → invTo x (256 - y) y = invN x) : invN x = 0 := by
  subst hy
  by_cases h0 : x = 0
  · subst h0; rfl
  · rw [← h h0]; rfl
theorem kcell {v : Value} {W : List UInt8} {o m : Nat} (ho : o = 1 + m) (hm : m < W.length) : (v :: W.map II)[o]? = some (II (W.getD m 0)) := by
  subst ho
  rw [Nat.add_comm, List.getElem?_cons_succ, List.getElem?_map, List.getElem?_eq_getElem hm, List.getD_eq_getElem?_getD, List.getElem?_eq_getElem hm]; rfl
theorem kset {v : Value} {W : List UInt8} {o m : Nat} {u : UInt8} (ho : o = 1 + m) : v :: (W.set m u).map II = (v :: W.map II).set o (II u) := by
  subst ho
  rw [Nat.add_comm, List.set_cons_succ, List.map_set]
theorem ref_same {b : List UInt8} {i : Nat} (h : i < 8 ∨ ¬ i % 8 = 0) : (refW b (i + 1)).2 = (refW b i).2 := by
  rcases Nat.lt_or_ge i 8 with h1 | h1
  · rw [refW_lo (by omega), refW_lo (by omega)]
  · obtain ⟨n, rfl⟩ : ∃ n, i = n + 8 := ⟨i - 8, by omega⟩
    rw [show n + 8 + 1 = (n + 1) + 8 by omega, refW_hi, refW_hi, con_same (by omega)]
theorem fcell (u : UInt8) : (fwd.map II)[u.toNat]? = some (II (sbox u)) := by rw [List.getElem?_map, sbox_at]; rfl
section
variable {P : Program} {n : Nat} {S : World → Prop} {L : Sl} {dst : Option Tmp} {rty : TypeId} {pos : String} {af : Array Edge} {gd : Option (Nat × Bool)} {t t' : TypeId} {x y : Operand}
theorem y_xorII {a b : UInt8} (hx : ev L x = some (II a)) (hy : ev L y = some (II b)) : Y P n S L ⟨dst, .binOp .xor t x y t', rty, pos, af, gd⟩ (II (a ^^^ b)) :=
  (y_xorN hx hy ⟨by have := b_lt a; omega, by have := b_lt b; omega⟩).cast (by rw [← UInt8.toNat_xor])
end
set_option maxHeartbeats 1000000 in
theorem box_spec (w : World) : Spec Tryd.prog 85 [] w [] (fun _ : Nat => True) (fun b => .slice (some ⟨b, 0, none⟩) 256 256) (fun b => [cel b (fwd.map II) 3]) := by
  refine spec_of (n := 71) Tryd.func85 rfl rfl trivial trivial rfl ?_; refine s_r ?_; refine s_q rfl (y_assign rfl) ?_; refine s_n ?_; refine s_r ?_; refine tk_act rfl ?_; refine a_make (m := 256) (z := I 0) (bytes := 8) rfl rfl rfl ⟨_, rfl, rfl, rfl, rfl⟩ rfl rfl (by omega) fun b8 => ?_; refine s_q rfl (y_assign rfl) ?_; refine s_n ?_; refine tk_seq ?_; refine s_r ?_; refine s_q rfl (y_assign rfl) ?_
  refine s_n ?_; refine tk_block ?_; refine tk_loop (X := Nat) (fun x => x ≤ 256) (fun x => [(1, .slice (some ⟨b8, 0, none⟩) 256 256), (2, I (x : Int))]) (fun x => [cel b8 (bxTo x) 3]) (fun x => 256 - x) (0) (by omega) (by repeat (first | exact trivial | refine ⟨rfl, ?_⟩)) (List.Sublist.refl _) ?_
  intro x hI
  refine tk_seq ?_; refine s_r ?_; refine s_q rfl (y_move rfl) ?_; refine s_q rfl (y_lss rfl rfl) ?_; refine s_n ?_; refine tk_condP rfl (fun h10 => ?_) (fun h10 => ?_)
  · skip
    refine tk_skip ?_; refine tk_then ?_; refine tk_seq ?_; refine tk_block ?_; refine s_r ?_; refine s_q rfl (y_assign rfl) ?_; refine s_n ?_; refine tk_seqI (X := Unit) (fun _ => True) (fun _ => [(1, .slice (some ⟨b8, 0, none⟩) 256 256), (2, I (x : Int)), (3, I (invN x : Int))]) (fun _ => [cel b8 (bxTo x) 3]) ?_ ?_
    · skip
      refine s_r ?_; refine s_q rfl (y_assign rfl) ?_; refine s_n ?_; refine tk_block ?_; refine tk_loop (X := Nat) (fun y => 1 ≤ y ∧ y ≤ 256 ∧ (x ≠ 0 → invTo x (256 - y) y = invN x)) (fun y => [(1, .slice (some ⟨b8, 0, none⟩) 256 256), (2, I (x : Int)), (3, I 0), (4, I (y : Int))]) (fun y => [cel b8 (bxTo x) 3]) (fun y => 256 - y) (1) (⟨Nat.le_refl _, by omega, fun h => (invN_pos h).symm⟩) (by repeat (first | exact trivial | refine ⟨rfl, ?_⟩)) (List.Sublist.refl _) ?_
      rintro y ⟨hy1, hy2, hy3⟩
      refine tk_seq ?_; refine s_r ?_; refine s_q rfl (y_move rfl) ?_; refine tk_qs rfl rfl rfl (y_lss rfl rfl) (fun hs7_1 => ?_) (fun hs7_1 => ?_)
      · skip
        refine s_q rfl (y_move rfl) ?_; refine s_g rfl (y_move rfl) ?_; refine tk_gqs rfl rfl rfl (y_gtr rfl rfl) (fun hs7_4 => ?_) (fun hs7_4 => ?_)
        · skip
          refine s_q rfl (y_pick1 rfl rfl) ?_; refine s_n ?_; refine tk_cond1 rfl ?_; refine tk_skip ?_; refine tk_then ?_; refine tk_seq ?_; refine tk_block ?_; refine s_r ?_; refine s_q rfl (y_move rfl) ?_; refine s_q rfl (y_move rfl) ?_; refine tk_act rfl ?_; refine a_callv [] _ rfl (by kernel_rfl) rfl (fun w' hw' => times_spec x y w' (by omega) (by omega)) rfl fun _ _ => ?_; refine s_q rfl (y_eql rfl rfl) ?_
          refine s_n ?_; refine tk_condP rfl (fun h24 => ?_) (fun h24 => ?_)
          · skip
            refine s_r ?_; refine s_q rfl (y_move rfl) ?_; refine s_q rfl (y_assign rfl) ?_; refine s_n ?_; refine tk_exit ?_; refine tk_in_miss rfl ?_; refine tk_then_exit ?_; refine tk_then_exit ?_; refine tk_in_hit ?_
            exact tk_to () trivial ⟨rfl, rfl, by rw [← hy3 (by omega), inv_hit (by omega) (by omega)]; rfl, trivial⟩ (List.Sublist.refl _)
          · skip
            refine tk_skip ?_; refine tk_in_normal ?_; refine tk_then ?_; refine tk_region ?_; refine s_q rfl (y_move rfl) ?_; refine tk_qe (I ((y + 1 : Nat) : Int)) rfl rfl rfl (y_addI rfl rfl (by omega)) (by congr 1) ?_; refine s_q rfl (y_assign rfl) ?_; refine tk_nil ?_
            exact tk_again (y + 1) ⟨by omega, by omega, fun h => by rw [← hy3 h]; exact (inv_miss (by omega) (by omega)).symm⟩ (by omega) (by repeat (first | exact trivial | refine ⟨rfl, ?_⟩)) (List.Sublist.refl _)
        · skip
          refine s_q rfl (y_pick1 rfl rfl) ?_; refine s_n ?_; refine tk_cond0 rfl ?_; refine tk_exit ?_; refine tk_then_exit ?_; refine tk_then_exit ?_; refine tk_in_hit ?_
          exact tk_to () trivial ⟨rfl, rfl, by rw [show x = 0 by omega]; rfl, trivial⟩ (List.Sublist.refl _)
      · skip
        refine s_q rfl (y_move rfl) ?_; refine tk_gno rfl rfl rfl ?_; refine tk_gno rfl rfl rfl ?_; refine s_q rfl (y_pick0 rfl rfl) ?_; refine s_n ?_; refine tk_cond0 rfl ?_; refine tk_exit ?_; refine tk_then_exit ?_; refine tk_then_exit ?_; refine tk_in_hit ?_
        exact tk_to () trivial ⟨rfl, rfl, by rw [inv_end (by omega) hy3]; rfl, trivial⟩ (List.Sublist.refl _)
    · intro _ _
      have hv := invN_lt (x := x)
      generalize hvx : invN x = v at hv ⊢
      refine s_r ?_; refine s_q rfl (y_assign rfl) ?_; refine s_n ?_; refine tk_seq ?_; refine s_r ?_; refine s_q rfl (y_assign rfl) ?_; refine s_n ?_; refine tk_block ?_; refine tk_loop (X := Nat) (fun i => i ≤ 8) (fun i => [(1, .slice (some ⟨b8, 0, none⟩) 256 256), (2, I (x : Int)), (3, I (v : Int)), (5, I (mixN v i : Int)), (6, I (i : Int))]) (fun i => [cel b8 (bxTo x) 3]) (fun i => 8 - i) (0) (by omega) (by repeat (first | exact trivial | refine ⟨rfl, ?_⟩)) (List.Sublist.refl _) ?_
      intro i hI
      refine tk_seq ?_; refine s_r ?_; refine s_q rfl (y_move rfl) ?_; refine s_q rfl (y_lss rfl rfl) ?_; refine s_n ?_; refine tk_condP rfl (fun h27 => ?_) (fun h27 => ?_)
      · skip
        have hi7 : i ≤ 7 := by omega
        refine tk_skip ?_; refine tk_then ?_; refine tk_seq ?_; refine tk_block ?_; refine tk_seq ?_; refine tk_drawS [] (by kernel_rfl) ?_; refine s_x 0 rfl (y_move rfl) ?_; refine s_x 1 rfl (y_move rfl) ?_; refine s_x 2 rfl (y_shrI rfl rfl (by omega)) ?_; refine s_x 3 rfl (y_move rfl) ?_; refine s_x 4 rfl (y_move rfl) ?_; refine s_x 5 rfl (y_addN (b := 4) rfl rfl (by omega)) ?_; refine s_x 6 rfl (y_remN (b := 8) rfl rfl (by omega)) ?_
        refine s_x 7 rfl (y_shrI rfl rfl (by omega)) ?_; refine s_x 8 rfl (y_xorN rfl rfl ⟨(dl hv), (dl hv)⟩) ?_; refine s_x 9 rfl (y_move rfl) ?_; refine s_x 10 rfl (y_move rfl) ?_; refine s_x 11 rfl (y_addN (b := 5) rfl rfl (by omega)) ?_; refine s_x 12 rfl (y_remN (b := 8) rfl rfl (by omega)) ?_; refine s_x 13 rfl (y_shrI rfl rfl (by omega)) ?_; refine s_x 14 rfl (y_xorN rfl rfl ⟨(xl (dl hv) (dl hv)), (dl hv)⟩) ?_
        refine s_x 15 rfl (y_move rfl) ?_; refine s_x 16 rfl (y_move rfl) ?_; refine s_x 17 rfl (y_addN (b := 6) rfl rfl (by omega)) ?_; refine s_x 18 rfl (y_remN (b := 8) rfl rfl (by omega)) ?_; refine s_x 19 rfl (y_shrI rfl rfl (by omega)) ?_; refine s_x 20 rfl (y_xorN rfl rfl ⟨(xl (xl (dl hv) (dl hv)) (dl hv)), (dl hv)⟩) ?_; refine s_x 21 rfl (y_move rfl) ?_; refine s_x 22 rfl (y_move rfl) ?_; refine s_x 23 rfl (y_addN (b := 7) rfl rfl (by omega)) ?_
        refine s_x 24 rfl (y_remN (b := 8) rfl rfl (by omega)) ?_; refine s_x 25 rfl (y_shrI rfl rfl (by omega)) ?_; refine s_x 26 rfl (y_xorN rfl rfl ⟨(xl (xl (xl (dl hv) (dl hv)) (dl hv)) (dl hv)), (dl hv)⟩) ?_; refine s_x 27 rfl (y_move rfl) ?_; refine s_x 28 rfl (y_shrI (a := 99) rfl rfl (by omega)) ?_; refine s_x 29 rfl (y_xorN rfl rfl ⟨(xl (xl (xl (xl (dl hv) (dl hv)) (dl hv)) (dl hv)) (dl hv)), (dl (by decide))⟩) ?_
        refine s_x 30 rfl (y_assign rfl) ?_; refine tx_done (by kernel_rfl) ?_; refine tk_then ?_; refine tk_region ?_; refine s_q rfl (y_move rfl) ?_; refine s_q rfl (y_move rfl) ?_; refine s_q rfl (y_remN (b := 2) rfl rfl (by omega)) ?_; refine s_q rfl (y_move rfl) ?_; refine s_q rfl (y_shlI rfl rfl (by omega) (by have := sl7 (a := bit1 v i) (by simp only [bit1]; omega) hi7; simp only [bit1] at this; omega)) ?_
        refine s_q rfl (y_addN rfl rfl (by have := sl7 (a := bit1 v i) (by simp only [bit1]; omega) hi7; simp only [bit1] at this; have := mx_lt (v := v) hi7; omega)) ?_; refine s_q rfl (y_assign rfl) ?_; refine tk_nil ?_; refine tk_in_normal ?_; refine tk_then ?_; refine tk_region ?_; refine s_q rfl (y_move rfl) ?_; refine tk_qe (I ((i + 1 : Nat) : Int)) rfl rfl rfl (y_addI rfl rfl (by omega)) (by congr 1) ?_
        refine s_q rfl (y_assign rfl) ?_; refine tk_nil ?_
        exact tk_again (i + 1) (by omega) (by omega) (by repeat (first | exact trivial | refine ⟨rfl, ?_⟩)) (List.Sublist.refl _)
      · skip
        obtain rfl : i = 8 := by omega
        refine tk_exit ?_; refine tk_then_exit ?_; refine tk_then_exit ?_; refine tk_in_hit ?_; refine tk_then ?_; refine tk_region ?_; refine s_q rfl (y_move rfl) ?_; refine s_q rfl (y_move rfl) ?_; refine s_q rfl (y_move rfl) ?_; refine s_q rfl (y_ixS01 (i := x) rfl rfl (by kernel_rfl) (by omega)) ?_; refine tk_act rfl ?_; refine a_store1 (H1 := []) rfl rfl (by kernel_rfl) rfl rfl (by simp [bxTo] <;> omega) ?_
        refine tk_nil ?_; refine tk_in_normal ?_; refine tk_then ?_; refine tk_region ?_; refine s_q rfl (y_move rfl) ?_; refine tk_qe (I ((x + 1 : Nat) : Int)) rfl rfl rfl (y_addI rfl rfl (by omega)) (by congr 1) ?_; refine s_q rfl (y_assign rfl) ?_; refine tk_nil ?_
        exact tk_again (x + 1) (by omega) (by omega) (by repeat (first | exact trivial | refine ⟨rfl, ?_⟩)) (by rw [← bx_set (by omega)]; unfold boxN; rw [hvx]; exact List.Sublist.refl _)
  · skip
    obtain rfl : x = 256 := by omega
    refine tk_exit ?_; refine tk_then_exit ?_; refine tk_then_exit ?_; refine tk_in_hit ?_; refine tk_then ?_; refine s_r ?_; refine s_q rfl (y_move rfl) ?_; refine s_q rfl (y_assign rfl) ?_; refine s_n ?_; refine tk_retc ?_
    exact tk_ret b8 trivial (.inl rfl) (r1 rfl rfl) (by rw [bx_all]; exact List.Sublist.refl _)
attribute [local irreducible] expW refW inW keyW tv
set_option maxHeartbeats 1000000 in
theorem rmake_spec (b : List UInt8) (w : World) (hb : b.length = 32) : Spec Tryd.prog 46 [Str b] w [] (fun _ : Nat × Nat => True) (fun x => .pointer (some ⟨x.1, 0, none⟩)) (fun x => [cel x.1 (.slice (some ⟨x.2, 0, none⟩) 256 256 :: (keyW b).map II) 148, cel x.2 (fwd.map II) 3]) := by
  refine spec_of (n := 107) Tryd.func46 rfl rfl trivial trivial rfl ?_; refine s_r ?_; refine s_q rfl (y_assign rfl) ?_; refine s_n ?_; refine s_r ?_; refine tk_act rfl ?_; refine a_callv [] _ rfl (by kernel_rfl) rfl (fun w' hw' => box_spec w') rfl fun bb _ => ?_; refine s_q rfl (y_build (v := .agg ((.slice (some ⟨bb, 0, none⟩) 256 256) :: (List.replicate 240 0).map II).toArray) rfl (fun _ => by kernel_rfl)) ?_
  refine tk_act rfl ?_; refine a_boxL rfl rfl fun b10 => ?_; refine s_q rfl (y_assign rfl) ?_; refine s_n ?_; refine s_r ?_; refine s_q rfl (y_assign rfl) ?_; refine s_n ?_; refine tk_seq ?_; refine s_r ?_; refine s_q rfl (y_assign rfl) ?_; refine s_n ?_; refine tk_block ?_; refine tk_loop (X := Nat) (fun i => i ≤ 60) (fun i => [(0, Str b), (3, .pointer (some ⟨b10, 0, none⟩)), (4, II (refW b i).2), (5, I (i : Int))]) (fun i => [cel b10 ((.slice (some ⟨bb, 0, none⟩) 256 256) :: ((refW b i).1).map II) 148, cel bb (fwd.map II) 3]) (fun i => 60 - i) (0) (by omega) (by rw [ref0]; exact ⟨rfl, rfl, rfl, rfl, trivial⟩) (by rw [ref0]; exact List.Sublist.refl _) ?_
  intro i hI
  refine tk_seq ?_; refine s_r ?_; refine s_q rfl (y_move rfl) ?_; refine s_q rfl (y_lss rfl rfl) ?_; refine s_n ?_; refine tk_condP rfl (fun h12 => ?_) (fun h12 => ?_)
  · skip
    refine tk_skip ?_; refine tk_then ?_; refine tk_seqI (X := Unit) (fun _ => True) (fun _ => [(0, Str b), (3, .pointer (some ⟨b10, 0, none⟩)), (4, II (refW b (i + 1)).2), (5, I (i : Int))]) (fun _ => [cel b10 ((.slice (some ⟨bb, 0, none⟩) 256 256) :: ((refW b (i + 1)).1).map II) 148, cel bb (fwd.map II) 3]) ?_ ?_
    · skip
      refine tk_block ?_; refine tk_seq ?_; refine s_r ?_; refine s_q rfl (y_assign rfl) ?_; refine s_n ?_; refine tk_block ?_; refine tk_loop (X := Nat) (fun j => j ≤ 4) (fun j => [(0, Str b), (3, .pointer (some ⟨b10, 0, none⟩)), (4, II (refW b i).2), (5, I (i : Int)), (6, I (j : Int))]) (fun j => [cel b10 ((.slice (some ⟨bb, 0, none⟩) 256 256) :: (inW b i j).map II) 148, cel bb (fwd.map II) 3]) (fun j => 4 - j) (0) (by omega) (by repeat (first | exact trivial | refine ⟨rfl, ?_⟩)) (by rw [inW_zero]; exact List.Sublist.refl _) ?_
      intro j hJ
      refine tk_seq ?_; refine s_r ?_; refine s_q rfl (y_move rfl) ?_; refine s_q rfl (y_lss rfl rfl) ?_; refine s_n ?_; refine tk_condP rfl (fun h16 => ?_) (fun h16 => ?_)
      · skip
        refine tk_skip ?_; refine tk_then ?_; refine tk_seqI (X := Unit) (fun _ => True) (fun _ => [(0, Str b), (3, .pointer (some ⟨b10, 0, none⟩)), (4, II (refW b i).2), (5, I (i : Int)), (6, I (j : Int))]) (fun _ => [cel b10 ((.slice (some ⟨bb, 0, none⟩) 256 256) :: (inW b i (j + 1)).map II) 148, cel bb (fwd.map II) 3]) ?_ ?_
        · skip
          refine tk_block ?_; refine tk_seq ?_; refine s_r ?_; refine s_q rfl (y_move rfl) ?_; refine s_q rfl (y_lss rfl rfl) ?_; refine s_n ?_; refine tk_condP rfl (fun h20 => ?_) (fun h20 => ?_)
          · skip
            refine tk_seq ?_; refine tk_drawS [14] (by kernel_rfl) ?_; refine s_x 0 rfl (y_move rfl) ?_; refine s_x 1 rfl (y_move rfl) ?_; refine s_x 2 rfl (y_move rfl) ?_; refine s_x 3 rfl (y_move rfl) ?_; refine s_x 4 rfl (y_move rfl) ?_; refine s_x 5 rfl ((y_mulI rfl rfl (by omega)).cast (v := _) (u := I ((i * 4 : Nat) : Int)) (by congr 1; omega)) ?_; refine s_x 6 rfl (y_move rfl) ?_; refine s_x 7 rfl ((y_addI rfl rfl (by omega)).cast (v := _) (u := I ((i * 4 + j : Nat) : Int)) (by congr 1)) ?_
            refine s_x 8 rfl (y_ixT (i := i * 4 + j) rfl rfl rfl ⟨rfl, by omega⟩) ?_; refine s_x 9 rfl (y_conv8i rfl rfl rfl) ?_; refine s_x 10 rfl (y_nilCheck rfl) ?_; refine s_x 11 rfl (y_fldN 1 rfl (by kernel_rfl)) ?_; refine s_x 12 rfl (y_ixAN 60 4 rfl rfl (by kernel_rfl) (by omega)) ?_; refine s_x 13 rfl (y_ixAN1 4 rfl rfl (by kernel_rfl) (by omega)) ?_; refine tx_x 14 rfl (by kernel_rfl) rfl rfl ?_; refine a_store1 (H1 := []) rfl rfl (by kernel_rfl) rfl rfl (by simp [inW_len hb (show j ≤ 4 by omega)] <;> omega) ?_
            refine tx_done (by kernel_rfl) ?_; refine tk_then ?_; refine tk_exit ?_; refine tk_then_exit ?_; refine tk_in_hit ?_
            exact tk_to () trivial (by repeat (first | exact trivial | refine ⟨rfl, ?_⟩)) (by rw [inW_lo_succ hb (by omega) (by omega), kset (o := 0 + 1 + i * 4 + j) (m := i * 4 + j) (by omega)]; exact List.Sublist.refl _)
          · skip
            obtain ⟨n, rfl⟩ : ∃ n, i = n + 8 := ⟨i - 8, by omega⟩
            rw [refW_hi (b := b) (n := n)]
            refine tk_skip ?_; refine tk_then ?_; refine s_r ?_; refine s_q rfl (y_move rfl) ?_; refine s_q rfl (y_move rfl) ?_; refine tk_qe (I ((n + 7 : Nat) : Int)) rfl rfl rfl (y_subI rfl rfl (by omega)) (by congr 1; omega) ?_; refine s_q rfl (y_move rfl) ?_; refine s_q rfl (y_nilCheck rfl) ?_; refine s_q rfl (y_fldN 1 rfl (by kernel_rfl)) ?_; refine s_q rfl (y_ixAN 60 4 rfl rfl (by kernel_rfl) (by omega)) ?_
            refine s_q rfl (y_ixAN1 4 rfl rfl (by kernel_rfl) (by omega)) ?_; refine s_q rfl (y_load rfl rfl (hc (.head _) (kcell (m := (n + 7) * 4 + j) (by omega) (by rw [inW_len hb (by omega)]; omega)))) ?_; refine s_q rfl (y_assign rfl) ?_; refine s_n ?_; refine tk_seqI (X := Unit) (fun _ => True) (fun _ => [(0, Str b), (3, .pointer (some ⟨b10, 0, none⟩)), (4, II (expW b n).2), (5, I ((n + 8 : Nat) : Int)), (6, I (j : Int)), (7, II ((tv (expW b n).1 n (expW b n).2).getD j 0))]) (fun _ => [cel b10 ((.slice (some ⟨bb, 0, none⟩) 256 256) :: (inW b (n + 8) j).map II) 148, cel bb (fwd.map II) 3]) ?_ ?_
            · skip
              refine s_r ?_; refine s_q rfl (y_move rfl) ?_; refine s_q rfl (y_remN (b := 8) rfl rfl (by omega)) ?_; refine s_q rfl (y_eql rfl rfl) ?_; refine s_n ?_; refine tk_condP rfl (fun h46 => ?_) (fun h46 => ?_)
              · skip
                refine tk_seq ?_; refine tk_drawS [] (by kernel_rfl) ?_; refine s_x 0 rfl (y_move rfl) ?_; refine s_x 1 rfl (y_nilCheck rfl) ?_; refine s_x 2 rfl (y_fld0 rfl (by kernel_rfl)) ?_; refine s_l 3 rfl (fun _ h => h) (y_load rfl rfl (hc (.head _) rfl)) ?_; refine s_x 4 rfl (y_move rfl) ?_; refine s_x 5 rfl (y_move rfl) ?_; refine s_x 6 rfl ((y_subI rfl rfl (by omega)).cast (v := _) (u := I ((n + 7 : Nat) : Int)) (by congr 1; omega)) ?_
                refine s_x 7 rfl (y_move rfl) ?_; refine s_x 8 rfl ((y_addI rfl rfl (by omega)).cast (v := _) (u := I ((j + 1 : Nat) : Int)) (by congr 1)) ?_; refine s_x 9 rfl (y_remN (b := 4) rfl rfl (by omega)) ?_; refine s_x 10 rfl (y_nilCheck rfl) ?_; refine s_x 11 rfl (y_fldN 1 rfl (by kernel_rfl)) ?_; refine s_x 12 rfl (y_ixAN 60 4 rfl rfl (by kernel_rfl) (by omega)) ?_; refine s_x 13 rfl (y_ixAN1 4 rfl rfl (by kernel_rfl) (by omega)) ?_
                refine s_l 14 rfl (fun _ h => h) (y_load rfl rfl (hc (.head _) (kcell (m := (n + 7) * 4 + (j + 1) % 4) (by omega) (by rw [inW_len hb (by omega)]; omega)))) ?_; refine s_x 15 rfl (y_ixS01 (i := UInt8.toNat _) rfl rfl (by kernel_rfl) (b_lt _)) ?_; refine s_l 16 rfl (fun _ h => h) (y_load rfl rfl (hc (.tail _ (.head _)) (fcell _))) ?_; refine s_x 17 rfl (y_assign rfl) ?_; refine tx_done (by kernel_rfl) ?_
                refine tk_then ?_; refine s_r ?_; refine s_q rfl (y_move rfl) ?_; refine s_q rfl (y_eql rfl rfl) ?_; refine s_n ?_; refine tk_condP rfl (fun h65 => ?_) (fun h65 => ?_)
                · skip
                  refine tk_region ?_; refine s_q rfl (y_move rfl) ?_; refine s_q rfl (y_move rfl) ?_; refine s_q rfl (y_xorII rfl rfl) ?_; refine s_q rfl (y_assign rfl) ?_; refine tk_nil ?_
                  exact tk_to () trivial ⟨rfl, rfl, rfl, rfl, rfl, by rw [show j = 0 by omega, tv_at00 (by omega), ← inW_low (j := 0) (by omega)]; rfl, trivial⟩ (List.Sublist.refl _)
                · skip
                  refine tk_skip ?_
                  exact tk_to () trivial ⟨rfl, rfl, rfl, rfl, rfl, by rw [tv_at0 (by omega) (by omega) (by omega), ← inW_low (j := j) (by omega)]; rfl, trivial⟩ (List.Sublist.refl _)
              · skip
                refine s_r ?_; refine s_q rfl (y_move rfl) ?_; refine s_q rfl (y_remN (b := 8) rfl rfl (by omega)) ?_; refine s_q rfl (y_eql rfl rfl) ?_; refine s_n ?_; refine tk_condP rfl (fun h71 => ?_) (fun h71 => ?_)
                · skip
                  refine tk_region ?_; refine s_q rfl (y_move rfl) ?_; refine s_q rfl (y_nilCheck rfl) ?_; refine s_q rfl (y_fld0 rfl (by kernel_rfl)) ?_; refine s_q rfl (y_load rfl rfl (hc (.head _) rfl)) ?_; refine s_q rfl (y_move rfl) ?_; refine s_q rfl (y_ixS01 (i := UInt8.toNat _) rfl rfl (by kernel_rfl) (b_lt _)) ?_; refine s_q rfl (y_load rfl rfl (hc (.tail _ (.head _)) (fcell _))) ?_; refine s_q rfl (y_assign rfl) ?_
                  refine tk_nil ?_
                  exact tk_to () trivial ⟨rfl, rfl, rfl, rfl, rfl, by rw [tv_at4 (by omega) (by omega) (by omega) (by omega) (expW_len hb), ← inW_low (j := j) (by omega)]; rfl, trivial⟩ (List.Sublist.refl _)
                · skip
                  refine tk_skip ?_
                  exact tk_to () trivial ⟨rfl, rfl, rfl, rfl, rfl, by rw [tv_atx (by omega) (by omega) (by omega), ← inW_low (j := j) (by omega)]; rfl, trivial⟩ (List.Sublist.refl _)
            · intro _ _
              refine tk_drawS [18] (by kernel_rfl) ?_; refine s_x 0 rfl (y_move rfl) ?_; refine s_x 1 rfl (y_move rfl) ?_; refine s_x 2 rfl (y_move rfl) ?_; refine s_x 3 rfl (y_move rfl) ?_; refine s_x 4 rfl (y_move rfl) ?_; refine s_x 5 rfl ((y_subI rfl rfl (by omega)).cast (v := _) (u := I ((n : Nat) : Int)) (by congr 1; omega)) ?_; refine s_x 6 rfl (y_move rfl) ?_; refine s_x 7 rfl (y_nilCheck rfl) ?_
              refine s_x 8 rfl (y_fldN 1 rfl (by kernel_rfl)) ?_; refine s_x 9 rfl (y_ixAN 60 4 rfl rfl (by kernel_rfl) (by omega)) ?_; refine s_x 10 rfl (y_ixAN1 4 rfl rfl (by kernel_rfl) (by omega)) ?_; refine s_l 11 rfl (fun _ h => h) (y_load rfl rfl (hc (.head _) (kcell (m := n * 4 + j) (by omega) (by rw [inW_len hb (by omega)]; omega)))) ?_; refine s_x 12 rfl (y_move rfl) ?_; refine s_x 13 rfl (y_xorII rfl rfl) ?_
              refine s_x 14 rfl (y_nilCheck rfl) ?_; refine s_x 15 rfl (y_fldN 1 rfl (by kernel_rfl)) ?_; refine s_x 16 rfl (y_ixAN 60 4 rfl rfl (by kernel_rfl) (by omega)) ?_; refine s_x 17 rfl (y_ixAN1 4 rfl rfl (by kernel_rfl) (by omega)) ?_; refine tx_x 18 rfl (by kernel_rfl) rfl rfl ?_; refine a_store1 (H1 := []) rfl rfl (by kernel_rfl) rfl rfl (by simp [inW_len hb (show j ≤ 4 by omega)] <;> omega) ?_
              refine tx_done (by kernel_rfl) ?_; refine tk_in_normal ?_
              exact tk_to () trivial (by repeat (first | exact trivial | refine ⟨rfl, ?_⟩)) (by rw [inW_hi_succ, kset (o := 0 + 1 + (n + 8) * 4 + j) (m := (n + 8) * 4 + j) (by omega)]; exact List.Sublist.refl _)
        · intro _ _
          refine tk_region ?_; refine s_q rfl (y_move rfl) ?_; refine tk_qe (I ((j + 1 : Nat) : Int)) rfl rfl rfl (y_addI rfl rfl (by omega)) (by congr 1) ?_; refine s_q rfl (y_assign rfl) ?_; refine tk_nil ?_
          exact tk_again (j + 1) (by omega) (by omega) (by repeat (first | exact trivial | refine ⟨rfl, ?_⟩)) (List.Sublist.refl _)
      · skip
        obtain rfl : j = 4 := by omega
        refine tk_exit ?_; refine tk_then_exit ?_; refine tk_then_exit ?_; refine tk_in_hit ?_; refine tk_then ?_; refine s_r ?_; refine s_q rfl (y_move rfl) ?_; refine tk_qs rfl rfl rfl (y_geq rfl rfl) (fun hs19_1 => ?_) (fun hs19_1 => ?_)
        · skip
          refine s_q rfl (y_move rfl) ?_; refine s_g rfl (y_move rfl) ?_; refine s_g rfl (y_remN (b := 8) rfl rfl (by omega)) ?_; refine tk_gqs rfl rfl rfl (y_eql rfl rfl) (fun hs19_5 => ?_) (fun hs19_5 => ?_)
          · skip
            refine s_q rfl (y_pick1 rfl rfl) ?_; refine s_n ?_; refine tk_cond1 rfl ?_; refine tk_region ?_
            obtain ⟨n, rfl⟩ : ∃ n, i = n + 8 := ⟨i - 8, by omega⟩
            rw [refW_hi (b := b) (n := n)]
            refine s_q rfl (y_move rfl) ?_; refine tk_act rfl ?_; refine a_callv [] _ rfl (by kernel_rfl) rfl (fun w' hw' => times_spec (expW b n).2.toNat 2 w' (b_lt _) (by decide)) rfl fun _ _ => ?_; refine s_q rfl (y_assign rfl) ?_; refine tk_nil ?_; refine tk_in_normal ?_
            exact tk_to () trivial ⟨rfl, rfl, by rw [show n + 8 + 1 = (n + 1) + 8 by omega, refW_hi]; show some (I ((timesN (expW b n).2.toNat 2 : Nat) : Int)) = some (I (((expW b (n + 1)).2.toNat : Nat) : Int)); rw [con_twice (by omega) (by omega)], rfl, trivial⟩ (by rw [← inW_four]; exact List.Sublist.refl _)
          · skip
            refine s_q rfl (y_pick1 rfl rfl) ?_; refine s_n ?_; refine tk_cond0 rfl ?_; refine tk_skip ?_; refine tk_in_normal ?_
            exact tk_to () trivial ⟨rfl, rfl, by rw [ref_same (b := b) (by omega)]; rfl, rfl, trivial⟩ (by rw [← inW_four]; exact List.Sublist.refl _)
        · skip
          refine s_q rfl (y_move rfl) ?_; refine tk_gno rfl rfl rfl ?_; refine tk_gno rfl rfl rfl ?_; refine tk_gno rfl rfl rfl ?_; refine s_q rfl (y_pick0 rfl rfl) ?_; refine s_n ?_; refine tk_cond0 rfl ?_; refine tk_skip ?_; refine tk_in_normal ?_
          exact tk_to () trivial ⟨rfl, rfl, by rw [ref_same (b := b) (by omega)]; rfl, rfl, trivial⟩ (by rw [← inW_four]; exact List.Sublist.refl _)
    · intro _ _
      refine tk_region ?_; refine s_q rfl (y_move rfl) ?_; refine tk_qe (I ((i + 1 : Nat) : Int)) rfl rfl rfl (y_addI rfl rfl (by omega)) (by congr 1) ?_; refine s_q rfl (y_assign rfl) ?_; refine tk_nil ?_
      exact tk_again (i + 1) (by omega) (by omega) (by repeat (first | exact trivial | refine ⟨rfl, ?_⟩)) (List.Sublist.refl _)
  · skip
    obtain rfl : i = 60 := by omega
    refine tk_exit ?_; refine tk_then_exit ?_; refine tk_then_exit ?_; refine tk_in_hit ?_; refine tk_then ?_; refine s_r ?_; refine s_q rfl (y_move rfl) ?_; refine s_q rfl (y_assign rfl) ?_; refine s_n ?_; refine tk_retc ?_
    exact tk_ret (b10, bb) trivial (.inl rfl) (r1 rfl rfl) (by rw [ref60]; exact List.Sublist.refl _)
end Go.Proofs.YtfofkjajlfphjaaDoor.Cip
