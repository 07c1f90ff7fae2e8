/- Texts of the claim IndexWrites, part 4 of 5: IndexB, IndexC, IndexD, IndexE, CipF, CipBox, CipG, CipH, CipI, WaxB, IndexF, IndexG. Own work. -/
import Derived.Test.YtkkjfojgjmglpaaGreatDoorPtIndexWrites3
set_option linter.unusedSimpArgs false
set_option linter.unusedVariables false
namespace Go.Proofs.YtkkjfojgjmglpaaGreatDoor
open Go Go.RowKit
set_option maxRecDepth 100000
def signsL : List UInt8 := [97, 98, 99, 100, 101, 102, 103, 104, 105, 106, 107, 108, 109, 110, 111, 112, 113, 114, 115, 116, 117, 118, 119, 120, 121, 122, 48, 49, 50, 51, 52, 53, 54, 55, 56, 57, 45, 47]
theorem signs_eq (c : UInt8) : signsL.contains c = signB c := by
  have h : ∀ n, n < 256 → signsL.contains (UInt8.ofNat n) = signB (UInt8.ofNat n) := by decide +kernel
  have := h c.toNat (UInt8.toNat_lt c)
  rwa [UInt8.ofNat_toNat] at this
theorem all_sign {l : List UInt8} : l.all signB = true ↔ ∀ j, j < l.length → signB (l.getD j 0) = true := by
  rw [List.all_eq_true]
  constructor
  · intro h j hj
    exact h _ (getD_mem hj)
  · intro h x hx
    obtain ⟨j, hj, rfl⟩ := List.mem_iff_getElem.1 hx
    have := h j hj
    rwa [List.getD_eq_getElem?_getD, List.getElem?_eq_getElem hj] at this
theorem trim_nil {l : List UInt8} (h : l = []) : l = [] ↔ l.all signB = true := by subst h; simp
theorem trim_iff {l : List UInt8} {n k : Nat} (h1 : endR signsL l n ∧ (n = 0 ∨ signsL.contains (l.getD (n - 1) 0) = false)) (h2 : endL signsL (l.take n) k ∧ (k = (l.take n).length ∨ signsL.contains ((l.take n).getD k 0) = false)) :
    (l.take n).drop k = [] ↔ l.all signB = true := by
  obtain ⟨⟨hn, hr⟩, hn0⟩ := h1
  obtain ⟨⟨hk, hl⟩, _⟩ := h2
  have hln : (l.take n).length = n := by rw [List.length_take]; omega
  rw [all_sign]
  constructor
  · intro h j hj
    have hkn : n ≤ k := by have := congrArg List.length h; rw [List.length_drop, hln, List.length_nil] at this; omega
    rw [← signs_eq]
    by_cases hjn : j < n
    · have := hl j (by omega)
      rwa [take_getD hjn] at this
    · exact hr j (by omega) hj
  · intro h
    have : n = 0 := Decidable.byContradiction fun hz => by
      have h3 := hn0.resolve_left hz
      have h4 := h (n - 1) (by omega)
      rw [signs_eq, h4] at h3; cases h3
    subst this; simp
theorem trim_spec {l : List UInt8} {w : World} (hl : l.length < 9223372036854775808) : Spec Tryz.prog 169 [Str l, Str [97, 98, 99, 100, 101, 102, 103, 104, 105, 106, 107, 108, 109, 110, 111, 112, 113, 114, 115, 116, 117, 118, 119, 120, 121, 122, 48, 49, 50, 51, 52, 53, 54, 55, 56, 57, 45, 47]] w [] (fun r : List UInt8 => r = [] ↔ l.all signB = true) (fun r => Str r) (fun _ => []) := by
  refine spec_of (n := 43) Tryz.func169 rfl rfl trivial trivial rfl ?_; refine s_r ?_; refine s_q rfl (y_assign rfl) ?_; refine s_n ?_; refine tk_seq ?_; refine s_r ?_; refine s_q rfl (y_move rfl) ?_; refine tk_qs rfl rfl rfl (y_strEq (l := l) (m := []) rfl rfl) (fun hs1_1 => ?_) (fun hs1_1 => ?_)
  · skip
    refine s_q rfl (y_move rfl) ?_; refine tk_gno rfl rfl rfl ?_; refine tk_gno rfl rfl rfl ?_; refine s_q rfl (y_pick1 rfl rfl) ?_; refine s_n ?_; refine tk_cond1 rfl ?_; refine s_r ?_; refine s_q rfl (y_move rfl) ?_; refine s_q rfl (y_assign rfl) ?_; refine s_n ?_; refine tk_retc ?_; refine tk_then_ret ?_
    exact tk_ret (l) (trim_nil (by assumption)) (.inl rfl) (r1 rfl rfl) (List.Sublist.refl _)
  · skip
    refine s_q rfl (y_move rfl) ?_; refine s_g rfl (y_move rfl) ?_; refine tk_gqe (.bool false) rfl rfl rfl (y_strEq (l := [97, 98, 99, 100, 101, 102, 103, 104, 105, 106, 107, 108, 109, 110, 111, 112, 113, 114, 115, 116, 117, 118, 119, 120, 121, 122, 48, 49, 50, 51, 52, 53, 54, 55, 56, 57, 45, 47]) (m := []) rfl rfl) (bool_f (by decide)) ?_; refine s_q rfl (y_pick0 rfl rfl) ?_; refine s_n ?_; refine tk_cond0 rfl ?_
    refine tk_skip ?_; refine tk_then ?_; refine tk_seq ?_; refine s_r ?_; refine s_q rfl (y_move rfl) ?_; refine tk_qe (I 38) rfl rfl rfl (y_lenStr (l := [97, 98, 99, 100, 101, 102, 103, 104, 105, 106, 107, 108, 109, 110, 111, 112, 113, 114, 115, 116, 117, 118, 119, 120, 121, 122, 48, 49, 50, 51, 52, 53, 54, 55, 56, 57, 45, 47]) rfl rfl) (rfl) ?_; refine s_q rfl ((y_eql rfl rfl).cast (bool_f (by decide))) ?_
    refine s_q rfl (y_move rfl) ?_; refine tk_gno rfl rfl rfl ?_; refine tk_gno rfl rfl rfl ?_; refine tk_gno rfl rfl rfl ?_; refine s_q rfl (y_pick0 rfl rfl) ?_; refine s_n ?_; refine tk_cond0 rfl ?_; refine tk_skip ?_; refine tk_then ?_; refine tk_seq ?_; refine s_r ?_; refine s_q rfl (y_move rfl) ?_; refine tk_act rfl ?_; refine a_callv [] _ rfl (by kernel_rfl) rfl (fun w' hw' => mkasc_spec (l := [97, 98, 99, 100, 101, 102, 103, 104, 105, 106, 107, 108, 109, 110, 111, 112, 113, 114, 115, 116, 117, 118, 119, 120, 121, 122, 48, 49, 50, 51, 52, 53, 54, 55, 56, 57, 45, 47]) (by decide) lenP) rfl fun _ _ => ?_
    refine s_q rfl (y_move rfl) ?_; refine s_q rfl (y_extract rfl rfl) ?_; refine s_q rfl (y_extract rfl rfl) ?_; refine tk_act rfl ?_; refine a_allocL (cs := (List.replicate 256 false).map bo) (by kernel_rfl) rfl fun b5 => ?_; refine tk_act rfl ?_; refine a_storeW (H1 := []) (vs := (setA [97, 98, 99, 100, 101, 102, 103, 104, 105, 106, 107, 108, 109, 110, 111, 112, 113, 114, 115, 116, 117, 118, 119, 120, 121, 122, 48, 49, 50, 51, 52, 53, 54, 55, 56, 57, 45, 47]).map bo) 256 rfl rfl (by kernel_rfl) rfl ⟨(by first | (rw [List.length_map, setA_len]; done) | (rw [List.length_map]; rfl)), (by first | (rw [List.length_map, setA_len]; done) | (rw [List.length_map]; rfl))⟩ oneBo ?_
    refine s_q rfl (y_assign rfl) ?_; refine s_n ?_; refine s_r ?_; refine s_q rfl (y_move rfl) ?_; refine s_n ?_; refine tk_cond1 rfl ?_; refine s_r ?_; refine s_q rfl (y_move rfl) ?_; refine tk_act rfl ?_; refine a_callv [] _ rfl (by kernel_rfl) rfl (fun w' hw' => trimr_spec (b := b5) (cs := [97, 98, 99, 100, 101, 102, 103, 104, 105, 106, 107, 108, 109, 110, 111, 112, 113, 114, 115, 116, 117, 118, 119, 120, 121, 122, 48, 49, 50, 51, 52, 53, 54, 55, 56, 57, 45, 47]) (l := l) lenP (St.pre hw')) rfl fun n36 hx36 => ?_
    refine tk_act rfl ?_; refine a_callv [] _ rfl (by kernel_rfl) rfl (fun w' hw' => triml_spec (b := b5) (cs := [97, 98, 99, 100, 101, 102, 103, 104, 105, 106, 107, 108, 109, 110, 111, 112, 113, 114, 115, 116, 117, 118, 119, 120, 121, 122, 48, 49, 50, 51, 52, 53, 54, 55, 56, 57, 45, 47]) (l := l.take n36) lenP (St.pre hw')) rfl fun n37 hx37 => ?_; refine s_q rfl (y_assign rfl) ?_; refine s_n ?_; refine tk_retc ?_
    refine tk_then_ret ?_
    exact tk_ret ((l.take n36).drop n37) (trim_iff hx36 hx37) (.inl rfl) (r1 rfl rfl) (List.nil_sublist _)
theorem isname_spec {l : List UInt8} {w : World} (hl : l.length < 9223372036854775808) : Spec Tryz.prog 132 [Str l] w [] (fun _ : Unit => True) (fun _ => .bool (decide (isNm l))) (fun _ => []) := by
  refine spec_of (n := 15) Tryz.func132 rfl rfl trivial trivial rfl ?_; refine s_r ?_; refine s_q rfl (y_assign rfl) ?_; refine s_n ?_; refine s_r ?_; refine s_q rfl (y_move rfl) ?_; refine tk_qs rfl rfl rfl (y_strNe (l := l) (m := []) rfl rfl) (fun hs1_1 => ?_) (fun hs1_1 => ?_)
  · skip
    refine s_q rfl (y_move rfl) ?_; refine s_g rfl (y_move rfl) ?_; refine s_g rfl (y_lenStr (l := l) rfl rfl) ?_; refine s_g rfl (y_leq rfl rfl) ?_; refine tk_qs rfl rfl rfl (y_pick1 rfl rfl) (fun hs1_6 => ?_) (fun hs1_6 => ?_)
    · skip
      refine s_q rfl (y_move rfl) ?_; refine s_g rfl (y_move rfl) ?_; refine tk_gact rfl ?_; refine a_callv [] _ rfl (by kernel_rfl) rfl (fun w' hw' => trim_spec (l := l) lenP) rfl fun r12 hx12 => ?_; refine s_g rfl (y_strEq (l := r12) (m := []) rfl rfl) ?_; refine s_q rfl (y_pick1 rfl rfl) ?_; refine s_q rfl (y_assign rfl) ?_; refine s_n ?_; refine tk_retc ?_; refine tk_re 2 (.bool (decide (r12 = []))) (.bool (decide (isNm l))) rfl (congrArg Value.bool (by rw [decide_eq_decide, hx12]; exact ⟨fun h => ⟨h, by have h0 : ¬ l = [] := (by assumption); have := List.length_pos_iff.2 h0; omega, by omega⟩, fun h => h.1⟩)) ?_
      exact tk_ret (()) (trivial) (.inl rfl) (r1 rfl rfl) (List.Sublist.refl _)
    · skip
      refine s_q rfl (y_move rfl) ?_; refine tk_gno rfl rfl rfl ?_; refine tk_gno rfl rfl rfl ?_; refine tk_gno rfl rfl rfl ?_; refine s_q rfl (y_pick0 rfl rfl) ?_; refine s_q rfl (y_assign rfl) ?_; refine s_n ?_; refine tk_retc ?_; refine tk_re 2 (.bool false) (.bool (decide (isNm l))) rfl ((bool_f (fun h => absurd h.2.2 (by omega))).symm) ?_
      exact tk_ret (()) (trivial) (.inl rfl) (r1 rfl rfl) (List.Sublist.refl _)
  · skip
    refine s_q rfl (y_move rfl) ?_; refine tk_gno rfl rfl rfl ?_; refine tk_gno rfl rfl rfl ?_; refine tk_gno rfl rfl rfl ?_; refine s_q rfl (y_pick0 rfl rfl) ?_; refine s_q rfl (y_move rfl) ?_; refine tk_gno rfl rfl rfl ?_; refine tk_gno rfl rfl rfl ?_; refine tk_gno rfl rfl rfl ?_; refine s_q rfl (y_pick0 rfl rfl) ?_; refine s_q rfl (y_assign rfl) ?_; refine s_n ?_; refine tk_retc ?_; refine tk_re 2 (.bool false) (.bool (decide (isNm l))) rfl ((bool_f (fun h => by have h0 : l = [] := (by first | assumption | exact Decidable.not_not.1 (by assumption)); rw [h0] at h; exact absurd h.2.1 (by decide))).symm) ?_
    exact tk_ret (()) (trivial) (.inl rfl) (r1 rfl rfl) (List.Sublist.refl _)
theorem same_step {l m : List (List UInt8)} {i : Nat} (h : ∀ j, j < i → l.getD j [] = m.getD j []) (e : l.getD i [] = m.getD i []) : ∀ j, j < i + 1 → l.getD j [] = m.getD j [] := fun j hj => by
  by_cases hji : j = i
  · rw [hji]; exact e
  · exact h j (by omega)
theorem same_all {l m : List (List UInt8)} (hl : l.length = m.length) (h : ∀ j, j < l.length → l.getD j [] = m.getD j []) : l = m := by
  refine List.ext_getElem hl fun j h1 h2 => ?_
  have := h j h1
  rwa [List.getD_eq_getElem?_getD, List.getD_eq_getElem?_getD, List.getElem?_eq_getElem h1, List.getElem?_eq_getElem h2] at this
theorem texts_spec {l m : List (List UInt8)} {v1 v2 : Value} {w : World} (h1 : Ro (Fs []) w (rd v1 (l.map Str))) (h2 : Ro (Fs []) w (rd v2 (m.map Str))) (hl : l.length < 9223372036854775808) (hm : m.length < 9223372036854775808) :
    Spec Tryz.prog 62 [v1, v2] w [] (fun _ : Unit => True) (fun _ => .bool (decide (l = m))) (fun _ => []) := by
  refine spec_of (n := 26) Tryz.func62 rfl rfl trivial trivial rfl ?_; refine s_r ?_; refine s_q rfl (y_assign rfl) ?_; refine s_n ?_; refine tk_seq ?_; refine s_r ?_; refine s_q rfl (y_move rfl) ?_; refine s_q rfl (y_lenRN (n' := l.length) rfl h1.1 rfl (by first | rfl | (rw [List.length_map]; omega) | simp)) ?_; refine s_q rfl (y_move rfl) ?_; refine s_q rfl (y_lenRN (n' := m.length) rfl h2.1 rfl (by first | rfl | (rw [List.length_map]; omega) | simp)) ?_
  refine s_q rfl (y_neq rfl rfl) ?_; refine s_n ?_; refine tk_condP rfl (fun ht10 => ?_) (fun ht10 => ?_)
  · skip
    refine s_r ?_; refine s_q rfl (y_assign rfl) ?_; refine s_n ?_; refine tk_retc ?_; refine tk_then_ret ?_; refine tk_re 4 (.bool false) (.bool (decide (l = m))) rfl ((bool_f (fun h => absurd (congrArg List.length h) (by omega))).symm) ?_
    exact tk_ret (()) (trivial) (.inl rfl) (r1 rfl rfl) (List.Sublist.refl _)
  · skip
    refine tk_skip ?_; refine tk_then ?_; refine tk_seq ?_; refine s_r ?_; refine s_q rfl (y_assign rfl) ?_; refine s_n ?_; refine tk_block ?_; refine tk_loop (X := Nat) (fun i => i ≤ l.length ∧ ∀ j, j < i → l.getD j [] = m.getD j []) (fun i => [(0, v1), (1, v2), (5, I ((i : Nat) : Int))]) (fun i => []) (fun i => l.length - i) (0) (⟨Nat.zero_le _, fun j h => absurd h (by omega)⟩) (by repeat (first | exact trivial | refine ⟨rfl, ?_⟩)) ((List.Sublist.refl _)) ?_
    rintro i hI
    try dsimp only at hI ⊢
    refine tk_seq ?_; refine s_r ?_; refine s_q rfl (y_move rfl) ?_; refine s_q rfl (y_move rfl) ?_; refine s_q rfl (y_lenRN (n' := l.length) rfl h1.1 rfl (by first | rfl | (rw [List.length_map]; omega) | simp)) ?_; refine s_q rfl (y_lss rfl rfl) ?_; refine s_n ?_; refine tk_condP rfl (fun ht14 => ?_) (fun ht14 => ?_)
    · skip
      refine tk_skip ?_; refine tk_then ?_; refine tk_seq ?_; refine tk_block ?_; refine tk_seq ?_; refine tk_drawH [] [] (by kernel_rfl) ?_; refine s_x 0 rfl (y_move rfl) ?_; refine s_x 1 rfl (y_move rfl) ?_; refine s_x 2 rfl (y_ixR (j := i) rfl rfl h1.1 lenP (by kernel_rfl)) ?_; refine s_l 3 rfl (fun _ h => h.sub (List.Sublist.refl _)) (y_load rfl rfl (fun w hw => ((fun w hw => Ro.rd h1 hw) w hw).cell (gM (d := []) lenP))) ?_
      refine s_x 4 rfl (y_move rfl) ?_; refine s_x 5 rfl (y_move rfl) ?_; refine s_x 6 rfl (y_ixR (j := i) rfl rfl h2.1 lenP (by kernel_rfl)) ?_; refine s_l 7 rfl (fun _ h => h.sub (List.Sublist.refl _)) (y_load rfl rfl (fun w hw => ((fun w hw => Ro.rd h2 hw) w hw).cell (gM (d := []) lenP))) ?_; refine s_x 8 rfl (y_strNe (l := l.getD i []) (m := m.getD i []) rfl rfl) ?_; refine tx_done (by kernel_rfl) ?_
      refine tk_then ?_; refine tk_condP rfl (fun ht25 => ?_) (fun ht25 => ?_)
      · skip
        refine s_r ?_; refine s_q rfl (y_assign rfl) ?_; refine s_n ?_; refine tk_retc ?_; refine tk_in_ret ?_; refine tk_then_ret ?_; refine tk_then_ret ?_; refine tk_in_ret ?_; refine tk_then_ret ?_; refine tk_re 4 (.bool false) (.bool (decide (l = m))) rfl ((bool_f (fun h => absurd (show l.getD i [] = m.getD i [] by rw [h]) (by assumption))).symm) ?_
        exact tk_ret (()) (trivial) (.inl rfl) (r1 rfl rfl) (List.Sublist.refl _)
      · skip
        refine tk_skip ?_; refine tk_in_normal ?_; refine tk_then ?_; refine tk_region ?_; refine s_q rfl (y_move rfl) ?_; refine s_q rfl (y_addN (a := i) (b := 1) rfl rfl (by omega)) ?_; refine s_q rfl (y_assign rfl) ?_; refine tk_nil ?_
        exact tk_again (i + 1) (⟨by omega, same_step hI.2 (Decidable.not_not.1 ht25)⟩) (by omega) (by repeat (first | exact trivial | refine ⟨rfl, ?_⟩)) (List.Sublist.refl _)
    · skip
      refine tk_exit ?_; refine tk_then_exit ?_; refine tk_then_exit ?_; refine tk_in_hit ?_; refine tk_then ?_; refine s_r ?_; refine s_q rfl (y_assign rfl) ?_; refine s_n ?_; refine tk_retc ?_; refine tk_re 4 (.bool true) (.bool (decide (l = m))) rfl ((bool_t (same_all (by omega) (fun j hj => hI.2 j (by have := hI.1; omega)))).symm) ?_
      exact tk_ret (()) (trivial) (.inl rfl) (r1 rfl rfl) (List.Sublist.refl _)
theorem nm_step {l : List UInt8} {i : Nat} (h : ∀ j, j < i → signB (l.getD j 0) = true) (e : signB (l.getD i 0) = true) : ∀ j, j < i + 1 → signB (l.getD j 0) = true := fun j hj => by
  by_cases hji : j = i
  · rw [hji]; exact e
  · exact h j (by omega)
theorem rise_step {l : List (List UInt8)} {i : Nat} (h : ∀ j, j < i → riseAt l j) (e : riseAt l i) : ∀ j, j < i + 1 → riseAt l j := fun j hj => by
  by_cases hji : j = i
  · rw [hji]; exact e
  · exact h j (by omega)
theorem rise_no {l : List (List UInt8)} {i : Nat} (h : riseAt l i) (hi : i ≠ 0) (e : strLe (l.getD i []) (l.getD (i - 1) []) = true) : False := by
  have := h.2.resolve_left hi
  rw [e] at this; cases this
theorem risname_spec {l : List UInt8} {w : World} (hl : l.length < 9223372036854775808) : Spec Tryz.prog 65 [Str l] w [] (fun _ : Unit => True) (fun _ => .bool (decide (isNm l))) (fun _ => []) := by
  refine spec_of (n := 45) Tryz.func65 rfl rfl trivial trivial rfl ?_; refine s_r ?_; refine s_q rfl (y_assign rfl) ?_; refine s_n ?_; refine tk_seq ?_; refine s_r ?_; refine s_q rfl (y_assign rfl) ?_; refine s_n ?_; refine tk_block ?_; refine tk_loop (X := Nat) (fun i => i ≤ l.length ∧ ∀ j, j < i → signB (l.getD j 0) = true) (fun i => [(0, Str l), (3, I ((i : Nat) : Int))]) (fun i => []) (fun i => l.length - i) (0) (⟨Nat.zero_le _, fun j h => absurd h (by omega)⟩) (by repeat (first | exact trivial | refine ⟨rfl, ?_⟩)) ((List.Sublist.refl _)) ?_
  rintro i hI
  try dsimp only at hI ⊢
  refine tk_seq ?_; refine s_r ?_; refine s_q rfl (y_move rfl) ?_; refine s_q rfl (y_move rfl) ?_; refine s_q rfl (y_lenStr (l := l) rfl rfl) ?_; refine s_q rfl (y_lss rfl rfl) ?_; refine s_n ?_; refine tk_condP rfl (fun ht8 => ?_) (fun ht8 => ?_)
  · skip
    refine tk_skip ?_; refine tk_then ?_; refine tk_seq ?_; refine tk_block ?_; refine s_r ?_; refine s_q rfl (y_move rfl) ?_; refine s_q rfl (y_move rfl) ?_; refine s_q rfl (y_ixT (l := l) (i := i) rfl rfl rfl ⟨rfl, lenP⟩) ?_; refine s_q rfl (y_assign rfl) ?_; refine s_n ?_; refine s_r ?_; refine s_q rfl (y_move rfl) ?_; refine tk_qs rfl rfl rfl (y_geq rfl rfl) (fun hs5_1 => ?_) (fun hs5_1 => ?_)
    · skip
      refine s_q rfl (y_move rfl) ?_; refine s_g rfl (y_move rfl) ?_; refine s_g rfl (y_leq rfl rfl) ?_; refine tk_qs rfl rfl rfl (y_pick1 rfl rfl) (fun hs5_5 => ?_) (fun hs5_5 => ?_)
      · skip
        refine s_q rfl (y_move rfl) ?_; refine tk_gno rfl rfl rfl ?_; refine tk_gno rfl rfl rfl ?_; refine tk_gno rfl rfl rfl ?_; refine tk_gno rfl rfl rfl ?_; refine tk_gno rfl rfl rfl ?_; refine tk_gno rfl rfl rfl ?_; refine s_q rfl (y_pick1 rfl rfl) ?_; refine s_q rfl (y_move rfl) ?_; refine tk_gno rfl rfl rfl ?_; refine tk_gno rfl rfl rfl ?_; refine s_q rfl (y_pick1 rfl rfl) ?_; refine s_q rfl (y_move rfl) ?_
        refine tk_gno rfl rfl rfl ?_; refine tk_gno rfl rfl rfl ?_; refine s_q rfl (y_pick1 rfl rfl) ?_; refine s_q rfl (y_not rfl) ?_; refine s_n ?_; refine tk_cond0 rfl ?_; refine tk_skip ?_; refine tk_in_normal ?_; refine tk_then ?_; refine tk_region ?_; refine s_q rfl (y_move rfl) ?_; refine s_q rfl (y_addN (a := i) (b := 1) rfl rfl (by omega)) ?_; refine s_q rfl (y_assign rfl) ?_; refine tk_nil ?_
        exact tk_again (i + 1) (⟨by omega, nm_step hI.2 (sign_iff.2 (by omega))⟩) (by omega) (by repeat (first | exact trivial | refine ⟨rfl, ?_⟩)) (List.Sublist.refl _)
      · skip
        refine s_q rfl (y_move rfl) ?_; refine s_g rfl (y_move rfl) ?_; refine tk_gqs rfl rfl rfl (y_geq rfl rfl) (fun hs5_8 => ?_) (fun hs5_8 => ?_)
        · skip
          refine s_g rfl (y_move rfl) ?_; refine s_g rfl (y_move rfl) ?_; refine s_g rfl (y_leq rfl rfl) ?_; refine s_g rfl (y_pick1 rfl rfl) ?_; refine tk_qs rfl rfl rfl (y_pick0 rfl rfl) (fun hs5_13 => ?_) (fun hs5_13 => ?_)
          · skip
            refine s_q rfl (y_move rfl) ?_; refine tk_gno rfl rfl rfl ?_; refine tk_gno rfl rfl rfl ?_; refine s_q rfl (y_pick1 rfl rfl) ?_; refine s_q rfl (y_move rfl) ?_; refine tk_gno rfl rfl rfl ?_; refine tk_gno rfl rfl rfl ?_; refine s_q rfl (y_pick1 rfl rfl) ?_; refine s_q rfl (y_not rfl) ?_; refine s_n ?_; refine tk_cond0 rfl ?_; refine tk_skip ?_; refine tk_in_normal ?_; refine tk_then ?_
            refine tk_region ?_; refine s_q rfl (y_move rfl) ?_; refine s_q rfl (y_addN (a := i) (b := 1) rfl rfl (by omega)) ?_; refine s_q rfl (y_assign rfl) ?_; refine tk_nil ?_
            exact tk_again (i + 1) (⟨by omega, nm_step hI.2 (sign_iff.2 (by omega))⟩) (by omega) (by repeat (first | exact trivial | refine ⟨rfl, ?_⟩)) (List.Sublist.refl _)
          · skip
            refine s_q rfl (y_move rfl) ?_; refine s_g rfl (y_move rfl) ?_; refine s_g rfl (y_eql rfl rfl) ?_; refine tk_qs rfl rfl rfl (y_pick0 rfl rfl) (fun hs5_17 => ?_) (fun hs5_17 => ?_)
            · skip
              refine s_q rfl (y_move rfl) ?_; refine tk_gno rfl rfl rfl ?_; refine tk_gno rfl rfl rfl ?_; refine s_q rfl (y_pick1 rfl rfl) ?_; refine s_q rfl (y_not rfl) ?_; refine s_n ?_; refine tk_cond0 rfl ?_; refine tk_skip ?_; refine tk_in_normal ?_; refine tk_then ?_; refine tk_region ?_; refine s_q rfl (y_move rfl) ?_; refine s_q rfl (y_addN (a := i) (b := 1) rfl rfl (by omega)) ?_; refine s_q rfl (y_assign rfl) ?_
              refine tk_nil ?_
              exact tk_again (i + 1) (⟨by omega, nm_step hI.2 (sign_iff.2 (by omega))⟩) (by omega) (by repeat (first | exact trivial | refine ⟨rfl, ?_⟩)) (List.Sublist.refl _)
            · skip
              refine s_q rfl (y_move rfl) ?_; refine s_g rfl (y_move rfl) ?_; refine s_g rfl (y_eql rfl rfl) ?_; refine s_q rfl (y_pick0 rfl rfl) ?_; refine s_q rfl ((y_not rfl).cast (notdec _)) ?_; refine s_n ?_; refine tk_condP rfl (fun ht36 => ?_) (fun ht36 => ?_)
              · skip
                refine s_r ?_; refine s_q rfl (y_assign rfl) ?_; refine s_n ?_; refine tk_retc ?_; refine tk_in_ret ?_; refine tk_then_ret ?_; refine tk_then_ret ?_; refine tk_in_ret ?_; refine tk_then_ret ?_; refine tk_re 2 (.bool false) (.bool (decide (isNm l))) rfl ((bool_f (fun h => absurd (sign_iff.1 (all_sign.1 h.1 i (by omega))) (by omega))).symm) ?_
                exact tk_ret (()) (trivial) (.inl rfl) (r1 rfl rfl) (List.Sublist.refl _)
              · skip
                refine tk_skip ?_; refine tk_in_normal ?_; refine tk_then ?_; refine tk_region ?_; refine s_q rfl (y_move rfl) ?_; refine s_q rfl (y_addN (a := i) (b := 1) rfl rfl (by omega)) ?_; refine s_q rfl (y_assign rfl) ?_; refine tk_nil ?_
                exact tk_again (i + 1) (⟨by omega, nm_step hI.2 (sign_iff.2 (by omega))⟩) (by omega) (by repeat (first | exact trivial | refine ⟨rfl, ?_⟩)) (List.Sublist.refl _)
        · skip
          refine s_g rfl (y_move rfl) ?_; refine tk_gno rfl rfl rfl ?_; refine tk_gno rfl rfl rfl ?_; refine s_g rfl (y_pick0 rfl rfl) ?_; refine s_q rfl (y_pick0 rfl rfl) ?_; refine s_q rfl (y_move rfl) ?_; refine s_g rfl (y_move rfl) ?_; refine s_g rfl (y_eql rfl rfl) ?_; refine tk_qs rfl rfl rfl (y_pick0 rfl rfl) (fun hs5_17 => ?_) (fun hs5_17 => ?_)
          · skip
            refine s_q rfl (y_move rfl) ?_; refine tk_gno rfl rfl rfl ?_; refine tk_gno rfl rfl rfl ?_; refine s_q rfl (y_pick1 rfl rfl) ?_; refine s_q rfl (y_not rfl) ?_; refine s_n ?_; refine tk_cond0 rfl ?_; refine tk_skip ?_; refine tk_in_normal ?_; refine tk_then ?_; refine tk_region ?_; refine s_q rfl (y_move rfl) ?_; refine s_q rfl (y_addN (a := i) (b := 1) rfl rfl (by omega)) ?_; refine s_q rfl (y_assign rfl) ?_
            refine tk_nil ?_
            exact tk_again (i + 1) (⟨by omega, nm_step hI.2 (sign_iff.2 (by omega))⟩) (by omega) (by repeat (first | exact trivial | refine ⟨rfl, ?_⟩)) (List.Sublist.refl _)
          · skip
            refine s_q rfl (y_move rfl) ?_; refine s_g rfl (y_move rfl) ?_; refine s_g rfl (y_eql rfl rfl) ?_; refine s_q rfl (y_pick0 rfl rfl) ?_; refine s_q rfl ((y_not rfl).cast (notdec _)) ?_; refine s_n ?_; refine tk_condP rfl (fun ht36 => ?_) (fun ht36 => ?_)
            · skip
              refine s_r ?_; refine s_q rfl (y_assign rfl) ?_; refine s_n ?_; refine tk_retc ?_; refine tk_in_ret ?_; refine tk_then_ret ?_; refine tk_then_ret ?_; refine tk_in_ret ?_; refine tk_then_ret ?_; refine tk_re 2 (.bool false) (.bool (decide (isNm l))) rfl ((bool_f (fun h => absurd (sign_iff.1 (all_sign.1 h.1 i (by omega))) (by omega))).symm) ?_
              exact tk_ret (()) (trivial) (.inl rfl) (r1 rfl rfl) (List.Sublist.refl _)
            · skip
              refine tk_skip ?_; refine tk_in_normal ?_; refine tk_then ?_; refine tk_region ?_; refine s_q rfl (y_move rfl) ?_; refine s_q rfl (y_addN (a := i) (b := 1) rfl rfl (by omega)) ?_; refine s_q rfl (y_assign rfl) ?_; refine tk_nil ?_
              exact tk_again (i + 1) (⟨by omega, nm_step hI.2 (sign_iff.2 (by omega))⟩) (by omega) (by repeat (first | exact trivial | refine ⟨rfl, ?_⟩)) (List.Sublist.refl _)
    · skip
      refine s_q rfl (y_move rfl) ?_; refine tk_gno rfl rfl rfl ?_; refine tk_gno rfl rfl rfl ?_; refine s_q rfl (y_pick0 rfl rfl) ?_; refine s_q rfl (y_move rfl) ?_; refine s_g rfl (y_move rfl) ?_; refine tk_gqs rfl rfl rfl (y_geq rfl rfl) (fun hs5_8 => ?_) (fun hs5_8 => ?_)
      · skip
        refine s_g rfl (y_move rfl) ?_; refine s_g rfl (y_move rfl) ?_; refine s_g rfl (y_leq rfl rfl) ?_; refine s_g rfl (y_pick1 rfl rfl) ?_; refine tk_qs rfl rfl rfl (y_pick0 rfl rfl) (fun hs5_13 => ?_) (fun hs5_13 => ?_)
        · skip
          refine s_q rfl (y_move rfl) ?_; refine tk_gno rfl rfl rfl ?_; refine tk_gno rfl rfl rfl ?_; refine s_q rfl (y_pick1 rfl rfl) ?_; refine s_q rfl (y_move rfl) ?_; refine tk_gno rfl rfl rfl ?_; refine tk_gno rfl rfl rfl ?_; refine s_q rfl (y_pick1 rfl rfl) ?_; refine s_q rfl (y_not rfl) ?_; refine s_n ?_; refine tk_cond0 rfl ?_; refine tk_skip ?_; refine tk_in_normal ?_; refine tk_then ?_; refine tk_region ?_
          refine s_q rfl (y_move rfl) ?_; refine s_q rfl (y_addN (a := i) (b := 1) rfl rfl (by omega)) ?_; refine s_q rfl (y_assign rfl) ?_; refine tk_nil ?_
          exact tk_again (i + 1) (⟨by omega, nm_step hI.2 (sign_iff.2 (by omega))⟩) (by omega) (by repeat (first | exact trivial | refine ⟨rfl, ?_⟩)) (List.Sublist.refl _)
        · skip
          refine s_q rfl (y_move rfl) ?_; refine s_g rfl (y_move rfl) ?_; refine s_g rfl (y_eql rfl rfl) ?_; refine tk_qs rfl rfl rfl (y_pick0 rfl rfl) (fun hs5_17 => ?_) (fun hs5_17 => ?_)
          · skip
            refine s_q rfl (y_move rfl) ?_; refine tk_gno rfl rfl rfl ?_; refine tk_gno rfl rfl rfl ?_; refine s_q rfl (y_pick1 rfl rfl) ?_; refine s_q rfl (y_not rfl) ?_; refine s_n ?_; refine tk_cond0 rfl ?_; refine tk_skip ?_; refine tk_in_normal ?_; refine tk_then ?_; refine tk_region ?_; refine s_q rfl (y_move rfl) ?_; refine s_q rfl (y_addN (a := i) (b := 1) rfl rfl (by omega)) ?_; refine s_q rfl (y_assign rfl) ?_
            refine tk_nil ?_
            exact tk_again (i + 1) (⟨by omega, nm_step hI.2 (sign_iff.2 (by omega))⟩) (by omega) (by repeat (first | exact trivial | refine ⟨rfl, ?_⟩)) (List.Sublist.refl _)
          · skip
            refine s_q rfl (y_move rfl) ?_; refine s_g rfl (y_move rfl) ?_; refine s_g rfl (y_eql rfl rfl) ?_; refine s_q rfl (y_pick0 rfl rfl) ?_; refine s_q rfl ((y_not rfl).cast (notdec _)) ?_; refine s_n ?_; refine tk_condP rfl (fun ht36 => ?_) (fun ht36 => ?_)
            · skip
              refine s_r ?_; refine s_q rfl (y_assign rfl) ?_; refine s_n ?_; refine tk_retc ?_; refine tk_in_ret ?_; refine tk_then_ret ?_; refine tk_then_ret ?_; refine tk_in_ret ?_; refine tk_then_ret ?_; refine tk_re 2 (.bool false) (.bool (decide (isNm l))) rfl ((bool_f (fun h => absurd (sign_iff.1 (all_sign.1 h.1 i (by omega))) (by omega))).symm) ?_
              exact tk_ret (()) (trivial) (.inl rfl) (r1 rfl rfl) (List.Sublist.refl _)
            · skip
              refine tk_skip ?_; refine tk_in_normal ?_; refine tk_then ?_; refine tk_region ?_; refine s_q rfl (y_move rfl) ?_; refine s_q rfl (y_addN (a := i) (b := 1) rfl rfl (by omega)) ?_; refine s_q rfl (y_assign rfl) ?_; refine tk_nil ?_
              exact tk_again (i + 1) (⟨by omega, nm_step hI.2 (sign_iff.2 (by omega))⟩) (by omega) (by repeat (first | exact trivial | refine ⟨rfl, ?_⟩)) (List.Sublist.refl _)
      · skip
        refine s_g rfl (y_move rfl) ?_; refine tk_gno rfl rfl rfl ?_; refine tk_gno rfl rfl rfl ?_; refine s_g rfl (y_pick0 rfl rfl) ?_; refine s_q rfl (y_pick0 rfl rfl) ?_; refine s_q rfl (y_move rfl) ?_; refine s_g rfl (y_move rfl) ?_; refine s_g rfl (y_eql rfl rfl) ?_; refine tk_qs rfl rfl rfl (y_pick0 rfl rfl) (fun hs5_17 => ?_) (fun hs5_17 => ?_)
        · skip
          refine s_q rfl (y_move rfl) ?_; refine tk_gno rfl rfl rfl ?_; refine tk_gno rfl rfl rfl ?_; refine s_q rfl (y_pick1 rfl rfl) ?_; refine s_q rfl (y_not rfl) ?_; refine s_n ?_; refine tk_cond0 rfl ?_; refine tk_skip ?_; refine tk_in_normal ?_; refine tk_then ?_; refine tk_region ?_; refine s_q rfl (y_move rfl) ?_; refine s_q rfl (y_addN (a := i) (b := 1) rfl rfl (by omega)) ?_; refine s_q rfl (y_assign rfl) ?_
          refine tk_nil ?_
          exact tk_again (i + 1) (⟨by omega, nm_step hI.2 (sign_iff.2 (by omega))⟩) (by omega) (by repeat (first | exact trivial | refine ⟨rfl, ?_⟩)) (List.Sublist.refl _)
        · skip
          refine s_q rfl (y_move rfl) ?_; refine s_g rfl (y_move rfl) ?_; refine s_g rfl (y_eql rfl rfl) ?_; refine s_q rfl (y_pick0 rfl rfl) ?_; refine s_q rfl ((y_not rfl).cast (notdec _)) ?_; refine s_n ?_; refine tk_condP rfl (fun ht36 => ?_) (fun ht36 => ?_)
          · skip
            refine s_r ?_; refine s_q rfl (y_assign rfl) ?_; refine s_n ?_; refine tk_retc ?_; refine tk_in_ret ?_; refine tk_then_ret ?_; refine tk_then_ret ?_; refine tk_in_ret ?_; refine tk_then_ret ?_; refine tk_re 2 (.bool false) (.bool (decide (isNm l))) rfl ((bool_f (fun h => absurd (sign_iff.1 (all_sign.1 h.1 i (by omega))) (by omega))).symm) ?_
            exact tk_ret (()) (trivial) (.inl rfl) (r1 rfl rfl) (List.Sublist.refl _)
          · skip
            refine tk_skip ?_; refine tk_in_normal ?_; refine tk_then ?_; refine tk_region ?_; refine s_q rfl (y_move rfl) ?_; refine s_q rfl (y_addN (a := i) (b := 1) rfl rfl (by omega)) ?_; refine s_q rfl (y_assign rfl) ?_; refine tk_nil ?_
            exact tk_again (i + 1) (⟨by omega, nm_step hI.2 (sign_iff.2 (by omega))⟩) (by omega) (by repeat (first | exact trivial | refine ⟨rfl, ?_⟩)) (List.Sublist.refl _)
  · skip
    refine tk_exit ?_; refine tk_then_exit ?_; refine tk_then_exit ?_; refine tk_in_hit ?_; refine tk_then ?_; refine s_r ?_; refine s_q rfl (y_move rfl) ?_; refine s_q rfl (y_lenStr (l := l) rfl rfl) ?_; refine tk_qs rfl rfl rfl (y_geq rfl rfl) (fun hs7_2 => ?_) (fun hs7_2 => ?_)
    · skip
      refine s_q rfl (y_move rfl) ?_; refine s_g rfl (y_move rfl) ?_; refine s_g rfl (y_lenStr (l := l) rfl rfl) ?_; refine s_g rfl (y_leq rfl rfl) ?_; refine s_q rfl (y_pick1 rfl rfl) ?_; refine s_q rfl (y_assign rfl) ?_; refine s_n ?_; refine tk_retc ?_; refine tk_re 2 (.bool (decide (((l.length : Nat) : Int) ≤ (64 : Int)))) (.bool (decide (isNm l))) rfl (congrArg Value.bool (by rw [decide_eq_decide]; exact ⟨fun h => ⟨all_sign.2 (fun j hj => hI.2 j (by omega)), by omega, by omega⟩, fun h => by have := h.2.2; omega⟩)) ?_
      exact tk_ret (()) (trivial) (.inl rfl) (r1 rfl rfl) (List.Sublist.refl _)
    · skip
      refine s_q rfl (y_move rfl) ?_; refine tk_gno rfl rfl rfl ?_; refine tk_gno rfl rfl rfl ?_; refine tk_gno rfl rfl rfl ?_; refine s_q rfl (y_pick0 rfl rfl) ?_; refine s_q rfl (y_assign rfl) ?_; refine s_n ?_; refine tk_retc ?_; refine tk_re 2 (.bool false) (.bool (decide (isNm l))) rfl ((bool_f (fun h => absurd h.2.1 (by omega))).symm) ?_
      exact tk_ret (()) (trivial) (.inl rfl) (r1 rfl rfl) (List.Sublist.refl _)
theorem rises_spec {l : List (List UInt8)} {v1 : Value} {w : World} (h1 : Ro (Fs []) w (rd v1 (l.map Str))) (hs : ∀ s ∈ l, s.length < 9223372036854775808) (hl : l.length < 9223372036854775808) :
    Spec Tryz.prog 102 [v1] w [] (fun _ : Unit => True) (fun _ => .bool (decide (rises l))) (fun _ => []) := by
  refine spec_of (n := 29) Tryz.func102 rfl rfl trivial trivial rfl ?_; refine s_r ?_; refine s_q rfl (y_assign rfl) ?_; refine s_n ?_; refine tk_seq ?_; refine s_r ?_; refine s_q rfl (y_move rfl) ?_; refine s_q rfl (y_lenRN (n' := l.length) rfl h1.1 rfl (by first | rfl | (rw [List.length_map]; omega) | simp)) ?_; refine s_q rfl (y_move rfl) ?_; refine s_n ?_; refine tk_block ?_; refine tk_loop (X := Nat) (fun i => i ≤ l.length ∧ ∀ j, j < i → riseAt l j) (fun i => [(0, v1), (5, v1), (6, I ((l.length : Nat) : Int)), (7, I ((i : Nat) : Int))]) (fun i => []) (fun i => l.length - i) (0) (⟨Nat.zero_le _, fun j h => absurd h (by omega)⟩) (by repeat (first | exact trivial | refine ⟨rfl, ?_⟩)) ((List.Sublist.refl _)) ?_
  rintro i hI
  try dsimp only at hI ⊢
  refine s_r ?_; refine s_q rfl (y_lss rfl rfl) ?_; refine s_n ?_; refine tk_seq ?_; refine tk_condP rfl (fun ht8 => ?_) (fun ht8 => ?_)
  · skip
    refine tk_skip ?_; refine tk_then ?_; refine tk_seq ?_; refine tk_block ?_; refine s_r ?_; refine s_q rfl (y_move rfl) ?_; refine s_q rfl (y_ixR (j := i) rfl rfl h1.1 lenP (by kernel_rfl)) ?_; refine s_q rfl (y_load rfl rfl (fun w hw => ((fun w hw => Ro.rd h1 hw) w hw).cell (gM (d := []) lenP))) ?_; refine s_q rfl (y_assign rfl) ?_; refine s_q rfl (y_assign rfl) ?_; refine s_n ?_; refine s_r ?_
    have hsi := hs _ (getD_mem (d := []) (l := l) (i := i) (by omega))
    refine s_q rfl (y_move rfl) ?_; refine tk_act rfl ?_; refine a_callv [] _ rfl (by kernel_rfl) rfl (fun w' hw' => isname_spec (l := l.getD i []) lenP) rfl fun _ _ => ?_; refine tk_qs rfl rfl rfl ((y_not rfl).cast (notdec _)) (fun hs4_2 => ?_) (fun hs4_2 => ?_)
    · skip
      refine s_q rfl (y_move rfl) ?_; refine tk_gno rfl rfl rfl ?_; refine tk_gno rfl rfl rfl ?_; refine tk_gno rfl rfl rfl ?_; refine tk_gno rfl rfl rfl ?_; refine tk_gno rfl rfl rfl ?_; refine tk_gno rfl rfl rfl ?_; refine tk_gno rfl rfl rfl ?_; refine tk_gno rfl rfl rfl ?_; refine tk_gno rfl rfl rfl ?_; refine tk_gno rfl rfl rfl ?_; refine tk_gno rfl rfl rfl ?_; refine s_q rfl (y_pick1 rfl rfl) ?_
      refine s_n ?_; refine tk_cond1 rfl ?_; refine s_r ?_; refine s_q rfl (y_assign rfl) ?_; refine s_n ?_; refine tk_retc ?_; refine tk_in_ret ?_; refine tk_then_ret ?_; refine tk_then_ret ?_; refine tk_in_ret ?_; refine tk_then_ret ?_; refine tk_re 2 (.bool false) (.bool (decide (rises l))) rfl ((bool_f (fun h => hs4_2 (h i (by omega)).1)).symm) ?_
      exact tk_ret (()) (trivial) (.inl rfl) (r1 rfl rfl) (List.Sublist.refl _)
    · skip
      refine s_q rfl (y_move rfl) ?_; refine s_g rfl (y_move rfl) ?_; refine tk_gqs rfl rfl rfl (y_gtr rfl rfl) (fun hs4_5 => ?_) (fun hs4_5 => ?_)
      · skip
        refine s_g rfl (y_move rfl) ?_; refine s_g rfl (y_move rfl) ?_; refine s_g rfl (y_move rfl) ?_; refine s_g rfl (y_move rfl) ?_; refine s_g rfl (y_subN (a := i) (b := 1) rfl rfl (by omega)) ?_; refine s_g rfl (y_ixR (j := i - 1) rfl rfl h1.1 lenP (by kernel_rfl)) ?_; refine s_g rfl (y_load rfl rfl (fun w hw => ((fun w hw => Ro.rd h1 hw) w hw).cell (gM (d := []) lenP))) ?_; refine s_g rfl (y_strLe (l := l.getD i []) (m := l.getD (i - 1) []) rfl rfl) ?_
        refine s_g rfl (y_pick1 rfl rfl) ?_; refine s_q rfl (y_pick0 rfl rfl) ?_; refine s_n ?_; refine tk_cond rfl (fun ht27 => ?_) (fun ht27 => ?_)
        · skip
          refine s_r ?_; refine s_q rfl (y_assign rfl) ?_; refine s_n ?_; refine tk_retc ?_; refine tk_in_ret ?_; refine tk_then_ret ?_; refine tk_then_ret ?_; refine tk_in_ret ?_; refine tk_then_ret ?_; refine tk_re 2 (.bool false) (.bool (decide (rises l))) rfl ((bool_f (fun h => rise_no (h i (by omega)) (by omega) ht27)).symm) ?_
          exact tk_ret (()) (trivial) (.inl rfl) (r1 rfl rfl) (List.Sublist.refl _)
        · skip
          refine tk_skip ?_; refine tk_in_normal ?_; refine tk_then ?_; refine tk_region ?_; refine s_q rfl (y_addN (a := i) (b := 1) rfl rfl (by omega)) ?_; refine s_q rfl (y_move rfl) ?_; refine tk_nil ?_
          exact tk_again (i + 1) (⟨by omega, rise_step hI.2 ⟨Decidable.not_not.1 hs4_2, .inr ht27⟩⟩) (by omega) (by repeat (first | exact trivial | refine ⟨rfl, ?_⟩)) (List.Sublist.refl _)
      · skip
        refine s_g rfl (y_move rfl) ?_; refine tk_gno rfl rfl rfl ?_; refine tk_gno rfl rfl rfl ?_; refine tk_gno rfl rfl rfl ?_; refine tk_gno rfl rfl rfl ?_; refine tk_gno rfl rfl rfl ?_; refine tk_gno rfl rfl rfl ?_; refine tk_gno rfl rfl rfl ?_; refine s_g rfl (y_pick0 rfl rfl) ?_; refine s_q rfl (y_pick0 rfl rfl) ?_; refine s_n ?_; refine tk_cond0 rfl ?_; refine tk_skip ?_; refine tk_in_normal ?_
        refine tk_then ?_; refine tk_region ?_; refine s_q rfl (y_addN (a := i) (b := 1) rfl rfl (by omega)) ?_; refine s_q rfl (y_move rfl) ?_; refine tk_nil ?_
        exact tk_again (i + 1) (⟨by omega, rise_step hI.2 ⟨Decidable.not_not.1 hs4_2, .inl (by omega)⟩⟩) (by omega) (by repeat (first | exact trivial | refine ⟨rfl, ?_⟩)) (List.Sublist.refl _)
  · skip
    refine tk_exit ?_; refine tk_then_exit ?_; refine tk_then_exit ?_; refine tk_in_hit ?_; refine tk_then ?_; refine s_r ?_; refine s_q rfl (y_assign rfl) ?_; refine s_n ?_; refine tk_retc ?_; refine tk_re 2 (.bool true) (.bool (decide (rises l))) rfl ((bool_t (fun j hj => hI.2 j (by omega))).symm) ?_
    exact tk_ret (()) (trivial) (.inl rfl) (r1 rfl rfl) (List.Sublist.refl _)
end Go.Proofs.YtkkjfojgjmglpaaGreatDoor
set_option linter.unusedSimpArgs false
set_option linter.unusedVariables false
namespace Go.Proofs.YtkkjfojgjmglpaaGreatDoor
open Go Go.RowKit
set_option maxRecDepth 100000
theorem take_snoc {α : Type} {l : List α} {d : α} {i : Nat} (h : i < l.length) : l.take i ++ [l.getD i d] = l.take (i + 1) := by
  have e : l.getD i d = l[i] := by rw [List.getD_eq_getElem?_getD, List.getElem?_eq_getElem h]; rfl
  rw [e, List.take_add_one, List.getElem?_eq_getElem h]; rfl
theorem list_ext {α : Type} {l m : List α} {d : α} (h : l.length = m.length) (hj : ∀ j, j < l.length → l.getD j d = m.getD j d) : l = m := by
  apply List.ext_getElem h
  intro i h1 h2
  have := hj i h1
  rw [List.getD_eq_getElem?_getD, List.getElem?_eq_getElem h1, List.getD_eq_getElem?_getD, List.getElem?_eq_getElem h2] at this
  simpa using this
theorem eqc_id {d : Nat} : EqC Tryz.prog (d + 2) 59 32 (fun xs => ∃ l : List UInt8, l.length = 32 ∧ xs = l.map B) := eqc_arr Tryz.underlying59 (by kernel_rfl) Tryz.underlying5 (by kernel_rfl)
theorem eni_fe : ∀ xs : List Value, (∃ e, xs = eniC e) → (∃ l : List UInt8, l.length = 32 ∧ xs.take 32 = l.map B) ∧ (∃ z : Int, (xs.drop 32).take 1 = [I z]) ∧ (∃ z : Int, ((xs.drop 32).drop 1).take 1 = [I z]) ∧ (∃ z : Int, (((xs.drop 32).drop 1).drop 1).take 1 = [I z]) ∧ (((xs.drop 32).drop 1).drop 1).drop 1 = [] := by
  rintro _ ⟨e, rfl⟩
  have h : (eniC e).drop 32 = [I e.kind, I e.off, I e.len] := List.drop_left' (by simp [e.h])
  rw [h]
  exact ⟨⟨e.id, e.h, eni_id e⟩, ⟨_, rfl⟩, ⟨_, rfl⟩, ⟨_, rfl⟩, rfl⟩
theorem eqc_reni : EqC Tryz.prog 10000 157 35 (fun xs => ∃ e, xs = eniC e) :=
  (eqc_struct (d := 9999) (by kernel_rfl) Tryz.underlying157 (by kernel_rfl) (.cons (k := 32) rfl (by decide) (eqc_id (d := 9997)) (.cons (k := 1) rfl (by decide) (eqc_int (d := 9998) Tryz.underlying3) (.cons (k := 1) rfl (by decide) (eqc_int (d := 9998) Tryz.underlying3) (.cons (k := 1) rfl (by decide) (eqc_int (d := 9998) Tryz.underlying3) (.nil _)))))).weak eni_fe
/-- no more than a few -/
def Small (l : List Pk) : Prop := l.length ≤ 12 ∧ ∀ u ∈ l, u.es.length ≤ 12 ∧ u.name.length ≤ 300
def enO (T : TypeId) (u : Pk) : Res := own u.v u.es.length (u.es.flatMap eniC) T 35
theorem bag_es {T : TypeId} {w : World} {l : List Pk} (h : (bag (l.map (enO T))).holds w) : ∀ u ∈ l, Ro (Fs []) w (rdC u.v u.es.length (u.es.flatMap eniC)) := fun u hu =>
  Ro.nil (own_rdC (Hs.mem h (enO T u) (List.mem_map.2 ⟨u, hu, rfl⟩)))
theorem same12i_spec {v1 v2 : Value} {l m : List Eni} {w : World} (h1 : Ro (Fs []) w (rdC v1 l.length (l.flatMap eniC))) (h2 : Ro (Fs []) w (rdC v2 m.length (m.flatMap eniC))) (hl : l.length < 1000000) (hm : m.length < 1000000) :
    Spec Tryz.prog 111 [v1, v2] w [] (fun _ : Unit => True) (fun _ => .bool (decide (l = m))) (fun _ => []) := by
  refine spec_of (n := 26) Tryz.func111 rfl rfl trivial trivial rfl ?_; refine s_r ?_; refine s_q rfl (y_assign rfl) ?_; refine s_n ?_; refine tk_seq ?_; refine s_r ?_; refine s_q rfl (y_move rfl) ?_; refine s_q rfl (y_lenE rfl h1.1 rfl) ?_; refine s_q rfl (y_move rfl) ?_; refine s_q rfl (y_lenE rfl h2.1 rfl) ?_; refine s_q rfl (y_neq rfl rfl) ?_; refine s_n ?_; refine tk_condP rfl (fun ht10 => ?_) (fun ht10 => ?_)
  · skip
    refine s_r ?_; refine s_q rfl (y_assign rfl) ?_; refine s_n ?_; refine tk_retc ?_; refine tk_then_ret ?_; refine tk_re 4 (.bool false) (.bool (decide (l = m))) rfl (by rw [decide_eq_false (fun h : l = m => ht10 (by rw [h]))]) ?_
    exact tk_ret (()) (trivial) (.inl rfl) (r1 rfl rfl) (List.Sublist.refl _)
  · skip
    refine tk_skip ?_; refine tk_then ?_; refine tk_seq ?_; refine s_r ?_; refine s_q rfl (y_assign rfl) ?_; refine s_n ?_; refine tk_block ?_; refine tk_loop (X := Nat) (fun i => i ≤ l.length ∧ ∀ j, j < i → l.getD j dEni = m.getD j dEni) (fun i => [(0, v1), (1, v2), (5, I ((i : Nat) : Int))]) (fun i => []) (fun i => l.length - i) (0) (⟨Nat.zero_le _, fun _ h => absurd h (by omega)⟩) (by repeat (first | exact trivial | refine ⟨rfl, ?_⟩)) ((List.Sublist.refl _)) ?_
    rintro i hI
    try dsimp only at hI ⊢
    refine tk_seq ?_; refine s_r ?_; refine s_q rfl (y_move rfl) ?_; refine s_q rfl (y_move rfl) ?_; refine s_q rfl (y_lenE rfl h1.1 rfl) ?_; refine s_q rfl (y_lss rfl rfl) ?_; refine s_n ?_; refine tk_condP rfl (fun ht14 => ?_) (fun ht14 => ?_)
    · skip
      refine tk_skip ?_; refine tk_then ?_; refine tk_seq ?_; refine tk_block ?_; refine tk_seq ?_; refine tk_drawH [] [] (by kernel_rfl) ?_; refine s_x 0 rfl (y_move rfl) ?_; refine s_x 1 rfl (y_move rfl) ?_; refine s_x 2 rfl (y_ixE (i := i) (k := 35) rfl rfl h1.1 lenP (by kernel_rfl)) ?_; refine s_l 3 rfl (fun _ h => h.sub (List.Sublist.refl _)) (y_loadE (i := i) (k := 35) (o := 0) (f := eniC) (l := l) (d0 := dEni) (vs := ((l.getD i dEni).id).map B ++ ([I ((l.getD i dEni).kind), I ((l.getD i dEni).off), I ((l.getD i dEni).len)])) 35 rfl (by kernel_rfl) (by rw [List.length_append, List.length_map, (l.getD i dEni).h]; rfl) eniC_len lenP (eni_all _) (fun w hw => Ro.rdC h1 hw)) ?_
      refine s_x 4 rfl (y_move rfl) ?_; refine s_x 5 rfl (y_move rfl) ?_; refine s_x 6 rfl (y_ixE (i := i) (k := 35) rfl rfl h2.1 lenP (by kernel_rfl)) ?_; refine s_l 7 rfl (fun _ h => h.sub (List.Sublist.refl _)) (y_loadE (i := i) (k := 35) (o := 0) (f := eniC) (l := m) (d0 := dEni) (vs := ((m.getD i dEni).id).map B ++ ([I ((m.getD i dEni).kind), I ((m.getD i dEni).off), I ((m.getD i dEni).len)])) 35 rfl (by kernel_rfl) (by rw [List.length_append, List.length_map, (m.getD i dEni).h]; rfl) eniC_len lenP (eni_all _) (fun w hw => Ro.rdC h2 hw)) ?_
      refine s_x 8 rfl (y_stNe (p := l.getD i dEni = m.getD i dEni) rfl rfl (by kernel_rfl) eqc_reni ⟨⟨_, rfl⟩, ⟨_, rfl⟩, eniC_len _, eniC_len _⟩ (by kernel_rfl) eniC_inj) ?_; refine tx_done (by kernel_rfl) ?_; refine tk_then ?_; refine tk_condP rfl (fun ht25 => ?_) (fun ht25 => ?_)
      · skip
        refine s_r ?_; refine s_q rfl (y_assign rfl) ?_; refine s_n ?_; refine tk_retc ?_; refine tk_in_ret ?_; refine tk_then_ret ?_; refine tk_then_ret ?_; refine tk_in_ret ?_; refine tk_then_ret ?_; refine tk_re 4 (.bool false) (.bool (decide (l = m))) rfl (by rw [decide_eq_false (fun h : l = m => ht25 (by rw [h]))]) ?_
        exact tk_ret (()) (trivial) (.inl rfl) (r1 rfl rfl) (List.Sublist.refl _)
      · skip
        refine tk_skip ?_; refine tk_in_normal ?_; refine tk_then ?_; refine tk_region ?_; refine s_q rfl (y_move rfl) ?_; refine s_q rfl (y_addN (a := i) (b := 1) rfl rfl (by omega)) ?_; refine s_q rfl (y_assign rfl) ?_; refine tk_nil ?_
        exact tk_again (i + 1) (⟨by omega, fun j hj => (Nat.lt_or_ge j i).elim (hI.2 j) (fun h => by rw [show j = i by omega]; exact Classical.not_not.1 ht25)⟩) (by omega) (by repeat (first | exact trivial | refine ⟨rfl, ?_⟩)) (List.Sublist.refl _)
    · skip
      refine tk_exit ?_; refine tk_then_exit ?_; refine tk_then_exit ?_; refine tk_in_hit ?_; refine tk_then ?_; refine s_r ?_; refine s_q rfl (y_assign rfl) ?_; refine s_n ?_; refine tk_retc ?_; refine tk_re 4 (.bool true) (.bool (decide (l = m))) rfl (by rw [decide_eq_true (list_ext (by omega) (fun j hj => hI.2 j (by omega)))]) ?_
      exact tk_ret (()) (trivial) (.inl rfl) (r1 rfl rfl) (List.Sublist.refl _)
theorem dat_ext {l m : List Pk} (h : l.length = m.length) (hj : ∀ j, j < l.length → (l.getD j dPk).dat = (m.getD j dPk).dat) : l.map Pk.dat = m.map Pk.dat :=
  list_ext (d := dPk.dat) (by simpa using h) (fun j hj2 => by
    have e : ∀ l : List Pk, (l.map Pk.dat).getD j dPk.dat = (l.getD j dPk).dat := fun l => by
      rw [List.getD_eq_getElem?_getD, List.getD_eq_getElem?_getD, List.getElem?_map]
      cases l[j]? <;> rfl
    rw [e, e]; exact hj j (by simpa using hj2))
theorem same13_spec {v1 v2 : Value} {l m : List Pk} {w : World} (h1 : Ro (Fs []) w (rdC v1 l.length (l.flatMap pkC))) (he1 : ∀ u ∈ l, Ro (Fs []) w (rdC u.v u.es.length (u.es.flatMap eniC))) (h2 : Ro (Fs []) w (rdC v2 m.length (m.flatMap pkC))) (he2 : ∀ u ∈ m, Ro (Fs []) w (rdC u.v u.es.length (u.es.flatMap eniC))) (hl : Small l) (hm : Small m) :
    Spec Tryz.prog 61 [v1, v2] w [] (fun _ : Unit => True) (fun _ => .bool (decide (l.map Pk.dat = m.map Pk.dat))) (fun _ => []) := by
  refine spec_of (n := 42) Tryz.func61 rfl rfl trivial trivial rfl ?_
  have hl12 := hl.1
  have hm12 := hm.1
  refine s_r ?_; refine s_q rfl (y_assign rfl) ?_; refine s_n ?_; refine tk_seq ?_; refine s_r ?_; refine s_q rfl (y_move rfl) ?_; refine s_q rfl (y_lenE rfl h1.1 rfl) ?_; refine s_q rfl (y_move rfl) ?_; refine s_q rfl (y_lenE rfl h2.1 rfl) ?_; refine s_q rfl (y_neq rfl rfl) ?_; refine s_n ?_; refine tk_condP rfl (fun ht10 => ?_) (fun ht10 => ?_)
  · skip
    refine s_r ?_; refine s_q rfl (y_assign rfl) ?_; refine s_n ?_; refine tk_retc ?_; refine tk_then_ret ?_; refine tk_re 4 (.bool false) (.bool (decide (l.map Pk.dat = m.map Pk.dat))) rfl (by rw [decide_eq_false (fun h : l.map Pk.dat = m.map Pk.dat => ht10 (by rw [dat_len h]))]) ?_
    exact tk_ret (()) (trivial) (.inl rfl) (r1 rfl rfl) (List.Sublist.refl _)
  · skip
    refine tk_skip ?_; refine tk_then ?_; refine tk_seq ?_; refine s_r ?_; refine s_q rfl (y_assign rfl) ?_; refine s_n ?_; refine tk_block ?_; refine tk_loop (X := Nat) (fun i => i ≤ l.length ∧ ∀ j, j < i → (l.getD j dPk).dat = (m.getD j dPk).dat) (fun i => [(0, v1), (1, v2), (5, I ((i : Nat) : Int))]) (fun i => []) (fun i => l.length - i) (0) (⟨Nat.zero_le _, fun _ h => absurd h (by omega)⟩) (by repeat (first | exact trivial | refine ⟨rfl, ?_⟩)) ((List.Sublist.refl _)) ?_
    rintro i hI
    try dsimp only at hI ⊢
    refine tk_seq ?_; refine s_r ?_; refine s_q rfl (y_move rfl) ?_; refine s_q rfl (y_move rfl) ?_; refine s_q rfl (y_lenE rfl h1.1 rfl) ?_; refine s_q rfl (y_lss rfl rfl) ?_; refine s_n ?_; refine tk_condP rfl (fun ht14 => ?_) (fun ht14 => ?_)
    · skip
      have hs1 := hl.2 _ (getD_mem (d := dPk) (l := l) (i := i) (by omega))
      have hs2 := hm.2 _ (getD_mem (d := dPk) (l := m) (i := i) (by omega))
      refine tk_skip ?_; refine tk_then ?_; refine tk_seq ?_; refine tk_block ?_; refine tk_seq ?_; refine tk_drawH [] [] (by kernel_rfl) ?_; refine s_x 0 rfl (y_move rfl) ?_; refine s_x 1 rfl (y_move rfl) ?_; refine s_x 2 rfl (y_ixE (i := i) (k := 2) rfl rfl h1.1 lenP (by kernel_rfl)) ?_; refine s_x 3 rfl (y_fldE (o := i * 2 + 0) (off := 0) rfl (by kernel_rfl)) ?_; refine s_l 4 rfl (fun _ h => h.sub (List.Sublist.refl _)) (y_loadE1 (i := i) (k := 2) (o := 0) (f := pkC) (l := l) (d0 := dPk) (u := Str ((l.getD i dPk).name)) rfl rfl pkC_len lenP rfl (fun w hw => Ro.rdC h1 hw)) ?_
      refine s_x 5 rfl (y_move rfl) ?_; refine s_x 6 rfl (y_move rfl) ?_; refine s_x 7 rfl (y_ixE (i := i) (k := 2) rfl rfl h2.1 lenP (by kernel_rfl)) ?_; refine s_x 8 rfl (y_fldE (o := i * 2 + 0) (off := 0) rfl (by kernel_rfl)) ?_; refine s_l 9 rfl (fun _ h => h.sub (List.Sublist.refl _)) (y_loadE1 (i := i) (k := 2) (o := 0) (f := pkC) (l := m) (d0 := dPk) (u := Str ((m.getD i dPk).name)) rfl rfl pkC_len lenP rfl (fun w hw => Ro.rdC h2 hw)) ?_
      by_cases hs6_10 : ¬ (l.getD i dPk).name = (m.getD i dPk).name
      · skip
        refine s_x 10 rfl ((y_strNe (l := (l.getD i dPk).name) (m := (m.getD i dPk).name) rfl rfl).cast (v := _) (u := .bool true) (bool_t hs6_10)) ?_; refine s_x 11 rfl (y_move rfl) ?_; refine tx_no 12 rfl (by kernel_rfl) rfl rfl rfl (fun _ _ _ h => h) ?_; refine tx_no 13 rfl (by kernel_rfl) rfl rfl rfl (fun _ _ _ h => h) ?_; refine tx_no 14 rfl (by kernel_rfl) rfl rfl rfl (fun _ _ _ h => h) ?_; refine tx_no 15 rfl (by kernel_rfl) rfl rfl rfl (fun _ _ _ h => h) ?_
        refine tx_no 16 rfl (by kernel_rfl) rfl rfl rfl (fun _ _ _ h => h) ?_; refine tx_no 17 rfl (by kernel_rfl) rfl rfl rfl (fun _ _ _ h => h) ?_; refine tx_no 18 rfl (by kernel_rfl) rfl rfl rfl (fun _ _ _ h => h) ?_; refine tx_no 19 rfl (by kernel_rfl) rfl rfl rfl (fun _ _ _ h => h) ?_; refine tx_no 20 rfl (by kernel_rfl) rfl rfl rfl (fun _ _ _ h => h) ?_; refine tx_no 21 rfl (by kernel_rfl) rfl rfl rfl (fun _ _ _ h => h) ?_
        refine tx_no 22 rfl (by kernel_rfl) rfl rfl rfl (fun _ _ _ h => h) ?_; refine tx_no 23 rfl (by kernel_rfl) rfl rfl rfl (fun _ _ _ h => h) ?_; refine s_x 24 rfl (y_pick1 rfl rfl) ?_; refine tx_done (by kernel_rfl) ?_; refine tk_then ?_; refine tk_cond1 rfl ?_; refine s_r ?_; refine s_q rfl (y_assign rfl) ?_; refine s_n ?_; refine tk_retc ?_; refine tk_in_ret ?_; refine tk_then_ret ?_; refine tk_then_ret ?_
        refine tk_in_ret ?_; refine tk_then_ret ?_; refine tk_re 4 (.bool false) (.bool (decide (l.map Pk.dat = m.map Pk.dat))) rfl (by rw [decide_eq_false (fun h : l.map Pk.dat = m.map Pk.dat => hs6_10 (dat_get h i).1)]) ?_
        exact tk_ret (()) (trivial) (.inl rfl) (r1 rfl rfl) (List.Sublist.refl _)
      · skip
        refine s_x 10 rfl ((y_strNe (l := (l.getD i dPk).name) (m := (m.getD i dPk).name) rfl rfl).cast (v := _) (u := .bool false) (bool_f hs6_10)) ?_; refine s_x 11 rfl (y_move rfl) ?_; refine s_x 12 rfl (y_move rfl) ?_; refine s_x 13 rfl (y_move rfl) ?_; refine s_x 14 rfl (y_ixE (i := i) (k := 2) rfl rfl h1.1 lenP (by kernel_rfl)) ?_; refine s_x 15 rfl (y_fldE (o := i * 2 + 0) (off := 1) rfl (by kernel_rfl)) ?_
        refine s_l 16 rfl (fun _ h => h.sub (List.Sublist.refl _)) (y_loadE1 (i := i) (k := 2) (o := 1) (f := pkC) (l := l) (d0 := dPk) (u := (l.getD i dPk).v) rfl rfl pkC_len lenP rfl (fun w hw => Ro.rdC h1 hw)) ?_; refine s_x 17 rfl (y_move rfl) ?_; refine s_x 18 rfl (y_move rfl) ?_; refine s_x 19 rfl (y_ixE (i := i) (k := 2) rfl rfl h2.1 lenP (by kernel_rfl)) ?_; refine s_x 20 rfl (y_fldE (o := i * 2 + 0) (off := 1) rfl (by kernel_rfl)) ?_
        refine s_l 21 rfl (fun _ h => h.sub (List.Sublist.refl _)) (y_loadE1 (i := i) (k := 2) (o := 1) (f := pkC) (l := m) (d0 := dPk) (u := (m.getD i dPk).v) rfl rfl pkC_len lenP rfl (fun w hw => Ro.rdC h2 hw)) ?_; refine tx_a 22 rfl (by kernel_rfl) rfl ?_; refine a_callv [] _ rfl (by kernel_rfl) rfl (fun w' hw' => same12i_spec (l := (l.getD i dPk).es) (m := (m.getD i dPk).es) (Ro.call (H0 := []) (he1 _ (getD_mem lenP)) hw') (Ro.call (H0 := []) (he2 _ (getD_mem lenP)) hw') lenP lenP) rfl fun _ _ => ?_
        refine tk_S (fun _ h => h.sub (List.Sublist.refl _)) ?_; refine s_x 23 rfl ((y_not rfl).cast (notdec _)) ?_; refine s_x 24 rfl (y_pick0 rfl rfl) ?_; refine tx_done (by kernel_rfl) ?_; refine tk_then ?_; refine tk_condP rfl (fun ht41 => ?_) (fun ht41 => ?_)
        · skip
          refine s_r ?_; refine s_q rfl (y_assign rfl) ?_; refine s_n ?_; refine tk_retc ?_; refine tk_in_ret ?_; refine tk_then_ret ?_; refine tk_then_ret ?_; refine tk_in_ret ?_; refine tk_then_ret ?_; refine tk_re 4 (.bool false) (.bool (decide (l.map Pk.dat = m.map Pk.dat))) rfl (by rw [decide_eq_false (fun h : l.map Pk.dat = m.map Pk.dat => ht41 (dat_get h i).2)]) ?_
          exact tk_ret (()) (trivial) (.inl rfl) (r1 rfl rfl) (List.Sublist.refl _)
        · skip
          refine tk_skip ?_; refine tk_in_normal ?_; refine tk_then ?_; refine tk_region ?_; refine s_q rfl (y_move rfl) ?_; refine s_q rfl (y_addN (a := i) (b := 1) rfl rfl (by omega)) ?_; refine s_q rfl (y_assign rfl) ?_; refine tk_nil ?_
          exact tk_again (i + 1) (⟨by omega, fun j hj => (Nat.lt_or_ge j i).elim (hI.2 j) (fun h => by rw [show j = i by omega]; exact Prod.ext (Classical.not_not.1 hs6_10) (Classical.not_not.1 ht41))⟩) (by omega) (by repeat (first | exact trivial | refine ⟨rfl, ?_⟩)) (List.Sublist.refl _)
    · skip
      refine tk_exit ?_; refine tk_then_exit ?_; refine tk_then_exit ?_; refine tk_in_hit ?_; refine tk_then ?_; refine s_r ?_; refine s_q rfl (y_assign rfl) ?_; refine s_n ?_; refine tk_retc ?_; refine tk_re 4 (.bool true) (.bool (decide (l.map Pk.dat = m.map Pk.dat))) rfl (by rw [decide_eq_true (dat_ext (by omega) (fun j hj => hI.2 j (by omega)))]) ?_
      exact tk_ret (()) (trivial) (.inl rfl) (r1 rfl rfl) (List.Sublist.refl _)
theorem sameFile_spec {pv1 ov1 pv2 ov2 : Value} {l m : List Pk} {ol om : List (List UInt8)} {w : World} (h1 : Ro (Fs []) w (rdC pv1 l.length (l.flatMap pkC))) (he1 : ∀ u ∈ l, Ro (Fs []) w (rdC u.v u.es.length (u.es.flatMap eniC))) (h2 : Ro (Fs []) w (rdC pv2 m.length (m.flatMap pkC))) (he2 : ∀ u ∈ m, Ro (Fs []) w (rdC u.v u.es.length (u.es.flatMap eniC)))
    (ho1 : Ro (Fs []) w (rd ov1 (ol.map Str))) (ho2 : Ro (Fs []) w (rd ov2 (om.map Str))) (hl : Small l) (hm : Small m) (hol : ol.length ≤ 20) (hom : om.length ≤ 20) :
    Spec Tryz.prog 15 [.agg [pv1, ov1].toArray, .agg [pv2, ov2].toArray] w [] (fun _ : Unit => True) (fun _ => .bool (decide (l.map Pk.dat = m.map Pk.dat ∧ ol = om))) (fun _ => []) := by
  refine spec_of (n := 17) Tryz.func15 rfl rfl trivial trivial rfl ?_; refine s_r ?_; refine tk_act rfl ?_; refine a_boxL (cs := [pv1, ov1]) rfl rfl fun b2 => ?_; refine tk_act rfl ?_; refine a_boxL (cs := [pv2, ov2]) rfl rfl fun b3 => ?_; refine s_q rfl (y_assign rfl) ?_; refine s_n ?_; refine s_r ?_; refine s_q rfl (y_fld0 (o := 0) rfl (by kernel_rfl)) ?_; refine s_q rfl (y_load rfl rfl (hc (o := 0) (.tail _ (.head _)) (rfl))) ?_
  refine s_q rfl (y_fld0 (o := 0) rfl (by kernel_rfl)) ?_; refine s_q rfl (y_load rfl rfl (hc (o := 0) (.head _) (rfl))) ?_; refine tk_act rfl ?_; refine a_callv [] _ rfl (by kernel_rfl) rfl (fun w' hw' => same13_spec (l := l) (m := m) (Ro.call (H0 := []) h1 hw') (fun u hu => Ro.call (H0 := []) (he1 u hu) hw') (Ro.call (H0 := []) h2 hw') (fun u hu => Ro.call (H0 := []) (he2 u hu) hw') hl hm) rfl fun _ _ => ?_
  refine tk_qs rfl rfl rfl (y_move rfl) (fun hs1_5 => ?_) (fun hs1_5 => ?_)
  · skip
    refine s_g rfl (y_fldN (o := 0) 1 rfl (by kernel_rfl)) ?_; refine s_g rfl (y_load rfl rfl (hc (o := 1) (.tail _ (.head _)) (rfl))) ?_; refine s_g rfl (y_fldN (o := 0) 1 rfl (by kernel_rfl)) ?_; refine s_g rfl (y_load rfl rfl (hc (o := 1) (.head _) (rfl))) ?_; refine tk_gact rfl ?_; refine a_callv [] _ rfl (by kernel_rfl) rfl (fun w' hw' => texts_spec (l := ol) (m := om) (Ro.call (H0 := []) ho1 hw') (Ro.call (H0 := []) ho2 hw') lenP lenP) rfl fun _ _ => ?_
    refine s_q rfl (y_pick1 rfl rfl) ?_; refine s_q rfl (y_assign rfl) ?_; refine s_n ?_; refine tk_retc ?_; refine tk_re 4 (.bool (decide (ol = om))) (.bool (decide (l.map Pk.dat = m.map Pk.dat ∧ ol = om))) rfl (congrArg Value.bool (by rw [decide_eq_decide]; exact ⟨fun h => ⟨hs1_5, h⟩, fun h => h.2⟩)) ?_
    exact tk_ret (()) (trivial) (.inl rfl) (r1 rfl rfl) (List.nil_sublist _)
  · skip
    refine tk_gno rfl rfl rfl ?_; refine tk_gno rfl rfl rfl ?_; refine tk_gno rfl rfl rfl ?_; refine tk_gno rfl rfl rfl ?_; refine tk_gno rfl rfl rfl ?_; refine s_q rfl (y_pick0 rfl rfl) ?_; refine s_q rfl (y_assign rfl) ?_; refine s_n ?_; refine tk_retc ?_; refine tk_re 4 (.bool false) (.bool (decide (l.map Pk.dat = m.map Pk.dat ∧ ol = om))) rfl ((bool_f (fun h => hs1_5 h.1)).symm) ?_
    exact tk_ret (()) (trivial) (.inl rfl) (r1 rfl rfl) (List.nil_sublist _)
end Go.Proofs.YtkkjfojgjmglpaaGreatDoor
set_option linter.unusedSimpArgs false
set_option linter.unusedVariables false
namespace Go.Proofs.YtkkjfojgjmglpaaGreatDoor
open Go Go.RowKit
set_option maxRecDepth 100000
theorem EL130 : elB Tryz.prog 130 135 35 56 := ⟨by kernel_rfl, _, _, rfl, rfl, rfl, rfl, rfl, by decide⟩
theorem EL123 : elB Tryz.prog 123 157 35 56 := ⟨by kernel_rfl, _, _, rfl, rfl, rfl, rfl, rfl, by decide⟩
theorem EL38 : elB Tryz.prog 38 132 2 40 := ⟨by kernel_rfl, _, _, rfl, rfl, rfl, rfl, rfl, by decide⟩
theorem EL22 : elB Tryz.prog 22 125 2 40 := ⟨by kernel_rfl, _, _, rfl, rfl, rfl, rfl, rfl, by decide⟩
theorem toPacks_spec {v : Value} {rows : List Pk} {w : World} (h1 : Ro (Fs []) w (rdC v rows.length (rows.flatMap pkC))) (hes : ∀ u ∈ rows, Ro (Fs []) w (rdC u.v u.es.length (u.es.flatMap eniC))) (hl : Small rows) :
    Spec Tryz.prog 50 [v] w [] (fun p : Value × List Pk => p.2.map Pk.dat = rows.map Pk.dat) (fun p => p.1) (fun p => [ownA pkC 2 p.1 p.2 132, bag (p.2.map (enO 135))]) := by
  refine spec_of (n := 57) Tryz.func50 rfl rfl trivial trivial rfl ?_
  have hl12 := hl.1
  refine s_r ?_; refine s_q rfl (y_assign rfl) ?_; refine s_n ?_; refine s_r ?_; refine s_q rfl (y_assign rfl) ?_; refine s_n ?_; refine tk_seq ?_; refine s_r ?_; refine s_q rfl (y_assign rfl) ?_; refine s_n ?_; refine tk_block ?_; refine tk_bag0 ?_; refine tk_ownA0 (f := pkC) 2 132 ?_; refine tk_H [own (.slice none 0 0) (([] : List Pk).length) (([] : List Pk).flatMap pkC) 132 2, bag (([] : List Pk).map (enO 135))] (congrArg (fun z_ => [own (.slice none 0 0) (([] : List Pk).length) (([] : List Pk).flatMap pkC) 132 2, z_]) (show bag [] = bag (([] : List Pk).map (enO 135)) from rfl)) ?_
  refine tk_loop (X := Nat × Value × List Pk) (fun (i, vo, out) => i ≤ rows.length ∧ out.map Pk.dat = (rows.take i).map Pk.dat) (fun (i, vo, out) => [(0, v), (2, .slice none 0 0), (3, vo), (4, I ((i : Nat) : Int))]) (fun (i, vo, out) => [own vo out.length (out.flatMap pkC) 132 2, bag (out.map (enO 135))]) (fun (i, vo, out) => rows.length - i) ((0, .slice none 0 0, [])) (⟨Nat.zero_le _, rfl⟩) (by repeat (first | exact trivial | refine ⟨rfl, ?_⟩)) ((List.Sublist.refl _)) ?_
  rintro ⟨i, vo, out⟩ hI
  try dsimp only at hI ⊢
  have hlt : (rows.take i).length = i := by rw [List.length_take]; omega
  have hol := dat_len hI.2
  refine tk_ownA (.head _) fun hfo => ?_; refine tk_seq ?_; refine s_r ?_; refine s_q rfl (y_move rfl) ?_; refine s_q rfl (y_move rfl) ?_; refine s_q rfl (y_lenE rfl h1.1 rfl) ?_; refine s_q rfl (y_lss rfl rfl) ?_; refine s_n ?_; refine tk_condP rfl (fun ht11 => ?_) (fun ht11 => ?_)
  · skip
    have hs1 := hl.2 _ (getD_mem (d := dPk) (l := rows) (i := i) (by omega))
    refine tk_skip ?_; refine tk_then ?_; refine tk_seq ?_; refine tk_block ?_; refine s_r ?_; refine s_q rfl (y_move rfl) ?_; refine s_q rfl (y_move rfl) ?_; refine s_q rfl (y_ixE (i := i) (k := 2) rfl rfl h1.1 lenP (by kernel_rfl)) ?_; refine s_q rfl (y_fldE (o := i * 2 + 0) (off := 0) rfl (by kernel_rfl)) ?_; refine s_q rfl (y_loadE1 (i := i) (k := 2) (o := 0) (f := pkC) (l := rows) (d0 := dPk) (u := Str ((rows.getD i dPk).name)) rfl rfl pkC_len lenP rfl (fun w hw => Ro.rdC h1 hw)) ?_
    refine s_q rfl (y_build (v := .agg ([Str ((rows.getD i dPk).name), .slice none 0 0]).toArray) (vs := [(0, Str ((rows.getD i dPk).name))]) rfl (run_build (zs := [Str [], .slice none 0 0]) (pl := [(0, 1), (1, 1)]) Tryz.underlying132 (fun _ => by kernel_rfl) (fun _ => by kernel_rfl) (by simp [fillL, Value.cells]))) ?_; refine tk_act rfl ?_; refine a_allocL (cs := [Str [], .slice none 0 0]) (by kernel_rfl) rfl fun b5 => ?_
    refine tk_act rfl ?_; refine a_storeW (H1 := []) (vs := [Str ((rows.getD i dPk).name), .slice none 0 0]) 2 rfl rfl (by kernel_rfl) rfl ⟨lenP, lenP⟩ (List.forall_mem_cons.2 ⟨rfl, (List.forall_mem_cons.2 ⟨(RdS.one (RdS.nil (w := default))), (fun _ h => nomatch h)⟩)⟩) ?_; refine s_n ?_; refine tk_seq ?_; refine s_r ?_; refine s_q rfl (y_assign rfl) ?_; refine s_n ?_; refine tk_block ?_; refine tk_ownA0 (f := eniC) 35 135 ?_
    refine tk_H [own (.slice none 0 0) (((rows.getD i dPk).es.take 0).length) (((rows.getD i dPk).es.take 0).flatMap eniC) 135 35, cel b5 ([Str ((rows.getD i dPk).name), .slice none 0 0]) 132, own vo out.length (out.flatMap pkC) 132 2, bag (out.map (enO 135))] (congrArg (fun z_ => [z_, cel b5 ([Str ((rows.getD i dPk).name), .slice none 0 0]) 132, own vo out.length (out.flatMap pkC) 132 2, bag (out.map (enO 135))]) (show own (.slice none 0 0) (([] : List Eni).length) (([] : List Eni).flatMap eniC) 135 35 = own (.slice none 0 0) (((rows.getD i dPk).es.take 0).length) (((rows.getD i dPk).es.take 0).flatMap eniC) 135 35 from ownA_cast rfl)) ?_
    refine tk_H [own (.slice none 0 0) (((rows.getD i dPk).es.take 0).length) (((rows.getD i dPk).es.take 0).flatMap eniC) 135 35, cel b5 ([Str ((rows.getD i dPk).name), .slice none 0 0]) 132, own vo out.length (out.flatMap pkC) 132 2, bag (out.map (enO 135))] (congrArg (fun z_ => [own (.slice none 0 0) (((rows.getD i dPk).es.take 0).length) (((rows.getD i dPk).es.take 0).flatMap eniC) 135 35, cel b5 z_ 132, own vo out.length (out.flatMap pkC) 132 2, bag (out.map (enO 135))]) (show [Str ((rows.getD i dPk).name), .slice none 0 0] = [Str ((rows.getD i dPk).name), .slice none 0 0] from rfl)) ?_
    refine tk_loop (X := Nat × Value) (fun (j, ve) => j ≤ (rows.getD i dPk).es.length) (fun (j, ve) => [(0, v), (2, .slice none 0 0), (3, vo), (4, I ((i : Nat) : Int)), (5, .pointer (some ⟨b5, 0, none⟩)), (6, I ((j : Nat) : Int))]) (fun (j, ve) => [own ve (((rows.getD i dPk).es.take j).length) (((rows.getD i dPk).es.take j).flatMap eniC) 135 35, cel b5 ([Str ((rows.getD i dPk).name), ve]) 132, own vo out.length (out.flatMap pkC) 132 2, bag (out.map (enO 135))]) (fun (j, ve) => (rows.getD i dPk).es.length - j) ((0, .slice none 0 0)) (Nat.zero_le _) (by repeat (first | exact trivial | refine ⟨rfl, ?_⟩)) ((List.Sublist.refl _)) ?_
    rintro ⟨j, ve⟩ hJ
    dsimp only at hJ ⊢
    have hjt : ((rows.getD i dPk).es.take j).length = j := by rw [List.length_take]; omega
    refine tk_ownA (.head _) fun hfe => ?_; refine tk_seq ?_; refine s_r ?_; refine s_q rfl (y_move rfl) ?_; refine s_q rfl (y_move rfl) ?_; refine s_q rfl (y_move rfl) ?_; refine s_q rfl (y_ixE (i := i) (k := 2) rfl rfl h1.1 lenP (by kernel_rfl)) ?_; refine s_q rfl (y_fldE (o := i * 2 + 0) (off := 1) rfl (by kernel_rfl)) ?_; refine s_q rfl (y_loadE1 (i := i) (k := 2) (o := 1) (f := pkC) (l := rows) (d0 := dPk) (u := (rows.getD i dPk).v) rfl rfl pkC_len lenP rfl (fun w hw => Ro.rdC h1 hw)) ?_
    refine s_q rfl (y_lenE rfl (hes _ (getD_mem lenP)).1 rfl) ?_; refine s_q rfl (y_lss rfl rfl) ?_; refine s_n ?_; refine tk_condP rfl (fun ht27 => ?_) (fun ht27 => ?_)
    · skip
      have heh : ((rows.getD i dPk).es.getD j dEni).id.length = 32 := ((rows.getD i dPk).es.getD j dEni).h
      refine tk_skip ?_; refine tk_then ?_; refine tk_seq ?_; refine tk_block ?_; refine s_r ?_; refine s_q rfl (y_move rfl) ?_; refine s_q rfl (y_move rfl) ?_; refine s_q rfl (y_ixE (i := i) (k := 2) rfl rfl h1.1 lenP (by kernel_rfl)) ?_; refine s_q rfl (y_fldE (o := i * 2 + 0) (off := 1) rfl (by kernel_rfl)) ?_; refine s_q rfl (y_loadE1 (i := i) (k := 2) (o := 1) (f := pkC) (l := rows) (d0 := dPk) (u := (rows.getD i dPk).v) rfl rfl pkC_len lenP rfl (fun w hw => Ro.rdC h1 hw)) ?_
      refine s_q rfl (y_move rfl) ?_; refine s_q rfl (y_ixE (i := j) (k := 35) rfl rfl (hes _ (getD_mem lenP)).1 lenP (by kernel_rfl)) ?_; refine s_q rfl (y_loadE (i := j) (k := 35) (o := 0) (f := eniC) (l := (rows.getD i dPk).es) (d0 := dEni) (vs := ((((rows.getD i dPk).es).getD j dEni).id).map B ++ ([I ((((rows.getD i dPk).es).getD j dEni).kind), I ((((rows.getD i dPk).es).getD j dEni).off), I ((((rows.getD i dPk).es).getD j dEni).len)])) 35 rfl (by kernel_rfl) (by rw [List.length_append, List.length_map, (((rows.getD i dPk).es).getD j dEni).h]; rfl) eniC_len lenP (eni_all _) (fun w hw => Ro.rdC (hes _ (getD_mem lenP)) hw)) ?_
      refine tk_act rfl ?_; refine a_allocL (cs := (List.replicate 32 0).map B ++ ([I 0, I 0, I 0])) (by kernel_rfl) rfl fun b7 => ?_; refine tk_act rfl ?_; refine a_storeW (H1 := []) (vs := ((((rows.getD i dPk).es).getD j dEni).id).map B ++ ([I ((((rows.getD i dPk).es).getD j dEni).kind), I ((((rows.getD i dPk).es).getD j dEni).off), I ((((rows.getD i dPk).es).getD j dEni).len)])) 35 rfl rfl (by kernel_rfl) rfl ⟨lenP, lenP⟩ (List.forall_mem_append.2 ⟨oneB, (List.forall_mem_cons.2 ⟨rfl, (List.forall_mem_cons.2 ⟨rfl, (List.forall_mem_cons.2 ⟨rfl, (fun _ h => nomatch h)⟩)⟩)⟩)⟩) ?_
      refine s_n ?_; refine tk_region ?_; refine s_q rfl (y_fldN (o := 0) 1 rfl (by kernel_rfl)) ?_; refine s_q rfl (y_load rfl rfl (hc (o := 1) (.tail _ (.tail _ (.head _))) (rfl))) ?_; refine s_q rfl (y_fld0 (o := 0) rfl (by kernel_rfl)) ?_; refine s_q rfl (y_loadA (vs := ((((rows.getD i dPk).es).getD j dEni).id).map B) 32 rfl (by kernel_rfl) lenP (hseg (pre := ([] : List Value)) (post := [I ((((rows.getD i dPk).es).getD j dEni).kind), I ((((rows.getD i dPk).es).getD j dEni).off), I ((((rows.getD i dPk).es).getD j dEni).len)]) (.head _) lenP (by simp))) ?_
      refine s_q rfl (y_fldN (o := 0) 32 rfl (by kernel_rfl)) ?_; refine s_q rfl (y_load rfl rfl (hc (o := 32) (.head _) (gA (k := 32) (i := 0) (by rw [List.length_map]; exact (((rows.getD i dPk).es).getD j dEni).h) (by omega) (rfl)))) ?_; refine s_q rfl (y_fldN (o := 0) 33 rfl (by kernel_rfl)) ?_; refine s_q rfl (y_load rfl rfl (hc (o := 33) (.head _) (gA (k := 32) (i := 1) (by rw [List.length_map]; exact (((rows.getD i dPk).es).getD j dEni).h) (by omega) (rfl)))) ?_
      refine s_q rfl (y_fldN (o := 0) 34 rfl (by kernel_rfl)) ?_; refine s_q rfl (y_load rfl rfl (hc (o := 34) (.head _) (gA (k := 32) (i := 2) (by rw [List.length_map]; exact (((rows.getD i dPk).es).getD j dEni).h) (by omega) (rfl)))) ?_; refine s_q rfl (y_build (v := .agg (((((rows.getD i dPk).es).getD j dEni).id).map B ++ ([I ((((rows.getD i dPk).es).getD j dEni).kind), I ((((rows.getD i dPk).es).getD j dEni).off), I ((((rows.getD i dPk).es).getD j dEni).len)])).toArray) (vs := [(0, .agg (((((rows.getD i dPk).es).getD j dEni).id).map B).toArray), (1, I ((((rows.getD i dPk).es).getD j dEni).kind)), (2, I ((((rows.getD i dPk).es).getD j dEni).off)), (3, I ((((rows.getD i dPk).es).getD j dEni).len))]) rfl (run_build (zs := (List.replicate 32 0).map B ++ ([I 0, I 0, I 0])) (pl := [(0, 32), (32, 1), (33, 1), (34, 1)]) Tryz.underlying135 (fun _ => by kernel_rfl) (fun _ => by kernel_rfl) (fillP4 (a := ((((rows.getD i dPk).es).getD j dEni).id).map B) lenP (by simp) rfl))) ?_
      refine tk_act rfl ?_; refine a_slitE (k := 35) (cs := ((((rows.getD i dPk).es).getD j dEni).id).map B ++ ([I ((((rows.getD i dPk).es).getD j dEni).kind), I ((((rows.getD i dPk).es).getD j dEni).off), I ((((rows.getD i dPk).es).getD j dEni).len)])) rfl EL130 lenP (by decide) rfl fun b49 => ?_; refine tk_act rfl ?_; refine a_appE (H1 := [_, _]) (f := eniC) (l := (rows.getD i dPk).es.take j) (e := ((rows.getD i dPk).es.getD j dEni)) (b := b49) (k := 35) rfl rfl EL130 rfl rfl (.head _) (eniC_len _) (List.forall_mem_append.2 ⟨oneB, (List.forall_mem_cons.2 ⟨rfl, (List.forall_mem_cons.2 ⟨rfl, (List.forall_mem_cons.2 ⟨rfl, (fun _ h => nomatch h)⟩)⟩)⟩)⟩) lenP lenP fun v50 => ?_
      refine tk_ownA (.tail _ (.tail _ (.head _))) fun hfv50 => ?_; refine s_q rfl (y_fldN (o := 0) 1 rfl (by kernel_rfl)) ?_; refine tk_act rfl ?_; refine a_storeE (H1 := [_, _, _]) (o := 1) (v := v50) (cs' := [Str ((rows.getD i dPk).name), v50]) rfl rfl (by kernel_rfl) (RdC.one hfv50.choose_spec) rfl (by first | (simp; done) | (simp; omega)) (rfl) ?_; refine tk_nil ?_; refine tk_in_normal ?_; refine tk_then ?_
      refine tk_region ?_; refine s_q rfl (y_move rfl) ?_; refine s_q rfl (y_addN (a := j) (b := 1) rfl rfl (by omega)) ?_; refine s_q rfl (y_assign rfl) ?_; refine tk_nil ?_; refine tk_H [cel b49 (((((rows.getD i dPk).es).getD j dEni).id).map B ++ ([I ((((rows.getD i dPk).es).getD j dEni).kind), I ((((rows.getD i dPk).es).getD j dEni).off), I ((((rows.getD i dPk).es).getD j dEni).len)])) 135, cel b7 (((((rows.getD i dPk).es).getD j dEni).id).map B ++ ([I ((((rows.getD i dPk).es).getD j dEni).kind), I ((((rows.getD i dPk).es).getD j dEni).off), I ((((rows.getD i dPk).es).getD j dEni).len)])) 157, own v50 (((rows.getD i dPk).es.take (j + 1)).length) (((rows.getD i dPk).es.take (j + 1)).flatMap eniC) 135 35, cel b5 ([Str ((rows.getD i dPk).name), v50]) 132, own vo out.length (out.flatMap pkC) 132 2, bag (out.map (enO 135))] (congrArg (fun z_ => [cel b49 (((((rows.getD i dPk).es).getD j dEni).id).map B ++ ([I ((((rows.getD i dPk).es).getD j dEni).kind), I ((((rows.getD i dPk).es).getD j dEni).off), I ((((rows.getD i dPk).es).getD j dEni).len)])) 135, cel b7 (((((rows.getD i dPk).es).getD j dEni).id).map B ++ ([I ((((rows.getD i dPk).es).getD j dEni).kind), I ((((rows.getD i dPk).es).getD j dEni).off), I ((((rows.getD i dPk).es).getD j dEni).len)])) 157, z_, cel b5 ([Str ((rows.getD i dPk).name), v50]) 132, own vo out.length (out.flatMap pkC) 132 2, bag (out.map (enO 135))]) (show own v50 ((((rows.getD i dPk).es.take j) ++ [((rows.getD i dPk).es.getD j dEni)]).length) ((((rows.getD i dPk).es.take j) ++ [((rows.getD i dPk).es.getD j dEni)]).flatMap eniC) 135 35 = own v50 (((rows.getD i dPk).es.take (j + 1)).length) (((rows.getD i dPk).es.take (j + 1)).flatMap eniC) 135 35 from ownA_cast (take_snoc (by omega)))) ?_
      exact tk_again ((j + 1, v50)) (by dsimp only; omega) (by dsimp only; omega) (by repeat (first | exact trivial | refine ⟨rfl, ?_⟩)) (.cons _ (.cons _ (List.Sublist.refl _)))
    · skip
      refine tk_exit ?_; refine tk_then_exit ?_; refine tk_then_exit ?_; refine tk_in_hit ?_; refine tk_then ?_; refine tk_region ?_
      have hje : j = (rows.getD i dPk).es.length := by omega
      refine tk_H [own ve (((rows.getD i dPk).es).length) (((rows.getD i dPk).es).flatMap eniC) 135 35, cel b5 ([Str ((rows.getD i dPk).name), ve]) 132, own vo out.length (out.flatMap pkC) 132 2, bag (out.map (enO 135))] (congrArg (fun z_ => [z_, cel b5 ([Str ((rows.getD i dPk).name), ve]) 132, own vo out.length (out.flatMap pkC) 132 2, bag (out.map (enO 135))]) (show own ve (((rows.getD i dPk).es.take j).length) (((rows.getD i dPk).es.take j).flatMap eniC) 135 35 = own ve (((rows.getD i dPk).es).length) (((rows.getD i dPk).es).flatMap eniC) 135 35 from ownA_cast (by rw [hje, List.take_length]))) ?_
      refine s_q rfl (y_move rfl) ?_; refine s_q rfl (y_loadA 2 rfl (by kernel_rfl) lenP (hcw (.tail _ (.head _)))) ?_; refine tk_act rfl ?_; refine a_slitE (k := 2) (cs := [Str ((rows.getD i dPk).name), ve]) rfl EL38 lenP (by decide) rfl fun b54 => ?_; refine tk_act rfl ?_; refine a_appE (H1 := [_, _, _]) (f := pkC) (l := out) (e := (⟨(rows.getD i dPk).name, ve, (rows.getD i dPk).es⟩ : Pk)) (b := b54) (k := 2) rfl rfl EL38 rfl rfl (.head _) (pkC_len _) (List.forall_mem_cons.2 ⟨rfl, (List.forall_mem_cons.2 ⟨(RdC.one hfe.choose_spec), (fun _ h => nomatch h)⟩)⟩) lenP lenP fun v55 => ?_
      refine tk_ownA (.tail _ (.tail _ (.tail _ (.head _)))) fun hfv55 => ?_; refine tk_perm _ mv4 ?_; refine tk_perm _ mv2 ?_; refine tk_bag ?_; refine tk_H [bag ((out ++ [(⟨(rows.getD i dPk).name, ve, (rows.getD i dPk).es⟩ : Pk)]).map (enO 135)), cel b54 ([Str ((rows.getD i dPk).name), ve]) 132, cel b5 ([Str ((rows.getD i dPk).name), ve]) 132, own v55 ((out ++ [(⟨(rows.getD i dPk).name, ve, (rows.getD i dPk).es⟩ : Pk)]).length) ((out ++ [(⟨(rows.getD i dPk).name, ve, (rows.getD i dPk).es⟩ : Pk)]).flatMap pkC) 132 2] (congrArg (fun z_ => [z_, cel b54 ([Str ((rows.getD i dPk).name), ve]) 132, cel b5 ([Str ((rows.getD i dPk).name), ve]) 132, own v55 ((out ++ [(⟨(rows.getD i dPk).name, ve, (rows.getD i dPk).es⟩ : Pk)]).length) ((out ++ [(⟨(rows.getD i dPk).name, ve, (rows.getD i dPk).es⟩ : Pk)]).flatMap pkC) 132 2]) (show bag ((out.map (enO 135)) ++ [own ve (((rows.getD i dPk).es).length) (((rows.getD i dPk).es).flatMap eniC) 135 35]) = bag ((out ++ [(⟨(rows.getD i dPk).name, ve, (rows.getD i dPk).es⟩ : Pk)]).map (enO 135)) from by rw [List.map_append]; rfl)) ?_
      refine s_q rfl (y_assign rfl) ?_; refine tk_nil ?_; refine tk_in_normal ?_; refine tk_then ?_; refine tk_region ?_; refine s_q rfl (y_move rfl) ?_; refine s_q rfl (y_addN (a := i) (b := 1) rfl rfl (by omega)) ?_; refine s_q rfl (y_assign rfl) ?_; refine tk_nil ?_; refine tk_perm _ mv3 ?_
      exact tk_again ((i + 1, v55, out ++ [(⟨(rows.getD i dPk).name, ve, (rows.getD i dPk).es⟩ : Pk)])) (⟨by dsimp only; omega, by dsimp only; rw [List.map_append, hI.2, ← take_snoc (d := dPk) (show i < rows.length by omega), List.map_append]; rfl⟩) (by dsimp only; omega) (by repeat (first | exact trivial | refine ⟨rfl, ?_⟩)) (.cons_cons _ (.cons_cons _ (List.nil_sublist _)))
  · skip
    refine tk_exit ?_; refine tk_then_exit ?_; refine tk_then_exit ?_; refine tk_in_hit ?_; refine tk_then ?_; refine s_r ?_; refine s_q rfl (y_move rfl) ?_; refine s_q rfl (y_assign rfl) ?_; refine s_n ?_; refine tk_retc ?_
    exact tk_ret ((vo, out)) ((by have e : i = rows.length := (by omega); dsimp only; rw [hI.2, e, List.take_length])) (.inl rfl) (r1 rfl rfl) (List.Sublist.refl _)
theorem fromPacks_spec {v : Value} {rows : List Pk} {w : World} (h1 : Ro (Fs []) w (rdC v rows.length (rows.flatMap pkC))) (hes : ∀ u ∈ rows, Ro (Fs []) w (rdC u.v u.es.length (u.es.flatMap eniC))) (hl : Small rows) :
    Spec Tryz.prog 63 [v] w [] (fun p : Value × List Pk => p.2.map Pk.dat = rows.map Pk.dat) (fun p => p.1) (fun p => [ownA pkC 2 p.1 p.2 125, bag (p.2.map (enO 157))]) := by
  refine spec_of (n := 57) Tryz.func63 rfl rfl trivial trivial rfl ?_
  have hl12 := hl.1
  refine s_r ?_; refine s_q rfl (y_assign rfl) ?_; refine s_n ?_; refine s_r ?_; refine s_q rfl (y_assign rfl) ?_; refine s_n ?_; refine tk_seq ?_; refine s_r ?_; refine s_q rfl (y_assign rfl) ?_; refine s_n ?_; refine tk_block ?_; refine tk_bag0 ?_; refine tk_ownA0 (f := pkC) 2 125 ?_; refine tk_H [own (.slice none 0 0) (([] : List Pk).length) (([] : List Pk).flatMap pkC) 125 2, bag (([] : List Pk).map (enO 157))] (congrArg (fun z_ => [own (.slice none 0 0) (([] : List Pk).length) (([] : List Pk).flatMap pkC) 125 2, z_]) (show bag [] = bag (([] : List Pk).map (enO 157)) from rfl)) ?_
  refine tk_loop (X := Nat × Value × List Pk) (fun (i, vo, out) => i ≤ rows.length ∧ out.map Pk.dat = (rows.take i).map Pk.dat) (fun (i, vo, out) => [(0, v), (2, .slice none 0 0), (3, vo), (4, I ((i : Nat) : Int))]) (fun (i, vo, out) => [own vo out.length (out.flatMap pkC) 125 2, bag (out.map (enO 157))]) (fun (i, vo, out) => rows.length - i) ((0, .slice none 0 0, [])) (⟨Nat.zero_le _, rfl⟩) (by repeat (first | exact trivial | refine ⟨rfl, ?_⟩)) ((List.Sublist.refl _)) ?_
  rintro ⟨i, vo, out⟩ hI
  try dsimp only at hI ⊢
  have hlt : (rows.take i).length = i := by rw [List.length_take]; omega
  have hol := dat_len hI.2
  refine tk_ownA (.head _) fun hfo => ?_; refine tk_seq ?_; refine s_r ?_; refine s_q rfl (y_move rfl) ?_; refine s_q rfl (y_move rfl) ?_; refine s_q rfl (y_lenE rfl h1.1 rfl) ?_; refine s_q rfl (y_lss rfl rfl) ?_; refine s_n ?_; refine tk_condP rfl (fun ht11 => ?_) (fun ht11 => ?_)
  · skip
    have hs1 := hl.2 _ (getD_mem (d := dPk) (l := rows) (i := i) (by omega))
    refine tk_skip ?_; refine tk_then ?_; refine tk_seq ?_; refine tk_block ?_; refine s_r ?_; refine s_q rfl (y_move rfl) ?_; refine s_q rfl (y_move rfl) ?_; refine s_q rfl (y_ixE (i := i) (k := 2) rfl rfl h1.1 lenP (by kernel_rfl)) ?_; refine s_q rfl (y_fldE (o := i * 2 + 0) (off := 0) rfl (by kernel_rfl)) ?_; refine s_q rfl (y_loadE1 (i := i) (k := 2) (o := 0) (f := pkC) (l := rows) (d0 := dPk) (u := Str ((rows.getD i dPk).name)) rfl rfl pkC_len lenP rfl (fun w hw => Ro.rdC h1 hw)) ?_
    refine s_q rfl (y_build (v := .agg ([Str ((rows.getD i dPk).name), .slice none 0 0]).toArray) (vs := [(0, Str ((rows.getD i dPk).name))]) rfl (run_build (zs := [Str [], .slice none 0 0]) (pl := [(0, 1), (1, 1)]) Tryz.underlying125 (fun _ => by kernel_rfl) (fun _ => by kernel_rfl) (by simp [fillL, Value.cells]))) ?_; refine tk_act rfl ?_; refine a_allocL (cs := [Str [], .slice none 0 0]) (by kernel_rfl) rfl fun b5 => ?_
    refine tk_act rfl ?_; refine a_storeW (H1 := []) (vs := [Str ((rows.getD i dPk).name), .slice none 0 0]) 2 rfl rfl (by kernel_rfl) rfl ⟨lenP, lenP⟩ (List.forall_mem_cons.2 ⟨rfl, (List.forall_mem_cons.2 ⟨(RdS.one (RdS.nil (w := default))), (fun _ h => nomatch h)⟩)⟩) ?_; refine s_n ?_; refine tk_seq ?_; refine s_r ?_; refine s_q rfl (y_assign rfl) ?_; refine s_n ?_; refine tk_block ?_; refine tk_ownA0 (f := eniC) 35 157 ?_
    refine tk_H [own (.slice none 0 0) (((rows.getD i dPk).es.take 0).length) (((rows.getD i dPk).es.take 0).flatMap eniC) 157 35, cel b5 ([Str ((rows.getD i dPk).name), .slice none 0 0]) 125, own vo out.length (out.flatMap pkC) 125 2, bag (out.map (enO 157))] (congrArg (fun z_ => [z_, cel b5 ([Str ((rows.getD i dPk).name), .slice none 0 0]) 125, own vo out.length (out.flatMap pkC) 125 2, bag (out.map (enO 157))]) (show own (.slice none 0 0) (([] : List Eni).length) (([] : List Eni).flatMap eniC) 157 35 = own (.slice none 0 0) (((rows.getD i dPk).es.take 0).length) (((rows.getD i dPk).es.take 0).flatMap eniC) 157 35 from ownA_cast rfl)) ?_
    refine tk_H [own (.slice none 0 0) (((rows.getD i dPk).es.take 0).length) (((rows.getD i dPk).es.take 0).flatMap eniC) 157 35, cel b5 ([Str ((rows.getD i dPk).name), .slice none 0 0]) 125, own vo out.length (out.flatMap pkC) 125 2, bag (out.map (enO 157))] (congrArg (fun z_ => [own (.slice none 0 0) (((rows.getD i dPk).es.take 0).length) (((rows.getD i dPk).es.take 0).flatMap eniC) 157 35, cel b5 z_ 125, own vo out.length (out.flatMap pkC) 125 2, bag (out.map (enO 157))]) (show [Str ((rows.getD i dPk).name), .slice none 0 0] = [Str ((rows.getD i dPk).name), .slice none 0 0] from rfl)) ?_
    refine tk_loop (X := Nat × Value) (fun (j, ve) => j ≤ (rows.getD i dPk).es.length) (fun (j, ve) => [(0, v), (2, .slice none 0 0), (3, vo), (4, I ((i : Nat) : Int)), (5, .pointer (some ⟨b5, 0, none⟩)), (6, I ((j : Nat) : Int))]) (fun (j, ve) => [own ve (((rows.getD i dPk).es.take j).length) (((rows.getD i dPk).es.take j).flatMap eniC) 157 35, cel b5 ([Str ((rows.getD i dPk).name), ve]) 125, own vo out.length (out.flatMap pkC) 125 2, bag (out.map (enO 157))]) (fun (j, ve) => (rows.getD i dPk).es.length - j) ((0, .slice none 0 0)) (Nat.zero_le _) (by repeat (first | exact trivial | refine ⟨rfl, ?_⟩)) ((List.Sublist.refl _)) ?_
    rintro ⟨j, ve⟩ hJ
    dsimp only at hJ ⊢
    have hjt : ((rows.getD i dPk).es.take j).length = j := by rw [List.length_take]; omega
    refine tk_ownA (.head _) fun hfe => ?_; refine tk_seq ?_; refine s_r ?_; refine s_q rfl (y_move rfl) ?_; refine s_q rfl (y_move rfl) ?_; refine s_q rfl (y_move rfl) ?_; refine s_q rfl (y_ixE (i := i) (k := 2) rfl rfl h1.1 lenP (by kernel_rfl)) ?_; refine s_q rfl (y_fldE (o := i * 2 + 0) (off := 1) rfl (by kernel_rfl)) ?_; refine s_q rfl (y_loadE1 (i := i) (k := 2) (o := 1) (f := pkC) (l := rows) (d0 := dPk) (u := (rows.getD i dPk).v) rfl rfl pkC_len lenP rfl (fun w hw => Ro.rdC h1 hw)) ?_
    refine s_q rfl (y_lenE rfl (hes _ (getD_mem lenP)).1 rfl) ?_; refine s_q rfl (y_lss rfl rfl) ?_; refine s_n ?_; refine tk_condP rfl (fun ht27 => ?_) (fun ht27 => ?_)
    · skip
      have heh : ((rows.getD i dPk).es.getD j dEni).id.length = 32 := ((rows.getD i dPk).es.getD j dEni).h
      refine tk_skip ?_; refine tk_then ?_; refine tk_seq ?_; refine tk_block ?_; refine s_r ?_; refine s_q rfl (y_move rfl) ?_; refine s_q rfl (y_move rfl) ?_; refine s_q rfl (y_ixE (i := i) (k := 2) rfl rfl h1.1 lenP (by kernel_rfl)) ?_; refine s_q rfl (y_fldE (o := i * 2 + 0) (off := 1) rfl (by kernel_rfl)) ?_; refine s_q rfl (y_loadE1 (i := i) (k := 2) (o := 1) (f := pkC) (l := rows) (d0 := dPk) (u := (rows.getD i dPk).v) rfl rfl pkC_len lenP rfl (fun w hw => Ro.rdC h1 hw)) ?_
      refine s_q rfl (y_move rfl) ?_; refine s_q rfl (y_ixE (i := j) (k := 35) rfl rfl (hes _ (getD_mem lenP)).1 lenP (by kernel_rfl)) ?_; refine s_q rfl (y_loadE (i := j) (k := 35) (o := 0) (f := eniC) (l := (rows.getD i dPk).es) (d0 := dEni) (vs := ((((rows.getD i dPk).es).getD j dEni).id).map B ++ ([I ((((rows.getD i dPk).es).getD j dEni).kind), I ((((rows.getD i dPk).es).getD j dEni).off), I ((((rows.getD i dPk).es).getD j dEni).len)])) 35 rfl (by kernel_rfl) (by rw [List.length_append, List.length_map, (((rows.getD i dPk).es).getD j dEni).h]; rfl) eniC_len lenP (eni_all _) (fun w hw => Ro.rdC (hes _ (getD_mem lenP)) hw)) ?_
      refine tk_act rfl ?_; refine a_allocL (cs := (List.replicate 32 0).map B ++ ([I 0, I 0, I 0])) (by kernel_rfl) rfl fun b7 => ?_; refine tk_act rfl ?_; refine a_storeW (H1 := []) (vs := ((((rows.getD i dPk).es).getD j dEni).id).map B ++ ([I ((((rows.getD i dPk).es).getD j dEni).kind), I ((((rows.getD i dPk).es).getD j dEni).off), I ((((rows.getD i dPk).es).getD j dEni).len)])) 35 rfl rfl (by kernel_rfl) rfl ⟨lenP, lenP⟩ (List.forall_mem_append.2 ⟨oneB, (List.forall_mem_cons.2 ⟨rfl, (List.forall_mem_cons.2 ⟨rfl, (List.forall_mem_cons.2 ⟨rfl, (fun _ h => nomatch h)⟩)⟩)⟩)⟩) ?_
      refine s_n ?_; refine tk_region ?_; refine s_q rfl (y_fldN (o := 0) 1 rfl (by kernel_rfl)) ?_; refine s_q rfl (y_load rfl rfl (hc (o := 1) (.tail _ (.tail _ (.head _))) (rfl))) ?_; refine s_q rfl (y_fld0 (o := 0) rfl (by kernel_rfl)) ?_; refine s_q rfl (y_loadA (vs := ((((rows.getD i dPk).es).getD j dEni).id).map B) 32 rfl (by kernel_rfl) lenP (hseg (pre := ([] : List Value)) (post := [I ((((rows.getD i dPk).es).getD j dEni).kind), I ((((rows.getD i dPk).es).getD j dEni).off), I ((((rows.getD i dPk).es).getD j dEni).len)]) (.head _) lenP (by simp))) ?_
      refine s_q rfl (y_fldN (o := 0) 32 rfl (by kernel_rfl)) ?_; refine s_q rfl (y_load rfl rfl (hc (o := 32) (.head _) (gA (k := 32) (i := 0) (by rw [List.length_map]; exact (((rows.getD i dPk).es).getD j dEni).h) (by omega) (rfl)))) ?_; refine s_q rfl (y_fldN (o := 0) 33 rfl (by kernel_rfl)) ?_; refine s_q rfl (y_load rfl rfl (hc (o := 33) (.head _) (gA (k := 32) (i := 1) (by rw [List.length_map]; exact (((rows.getD i dPk).es).getD j dEni).h) (by omega) (rfl)))) ?_
      refine s_q rfl (y_fldN (o := 0) 34 rfl (by kernel_rfl)) ?_; refine s_q rfl (y_load rfl rfl (hc (o := 34) (.head _) (gA (k := 32) (i := 2) (by rw [List.length_map]; exact (((rows.getD i dPk).es).getD j dEni).h) (by omega) (rfl)))) ?_; refine s_q rfl (y_build (v := .agg (((((rows.getD i dPk).es).getD j dEni).id).map B ++ ([I ((((rows.getD i dPk).es).getD j dEni).kind), I ((((rows.getD i dPk).es).getD j dEni).off), I ((((rows.getD i dPk).es).getD j dEni).len)])).toArray) (vs := [(0, .agg (((((rows.getD i dPk).es).getD j dEni).id).map B).toArray), (1, I ((((rows.getD i dPk).es).getD j dEni).kind)), (2, I ((((rows.getD i dPk).es).getD j dEni).off)), (3, I ((((rows.getD i dPk).es).getD j dEni).len))]) rfl (run_build (zs := (List.replicate 32 0).map B ++ ([I 0, I 0, I 0])) (pl := [(0, 32), (32, 1), (33, 1), (34, 1)]) Tryz.underlying157 (fun _ => by kernel_rfl) (fun _ => by kernel_rfl) (fillP4 (a := ((((rows.getD i dPk).es).getD j dEni).id).map B) lenP (by simp) rfl))) ?_
      refine tk_act rfl ?_; refine a_slitE (k := 35) (cs := ((((rows.getD i dPk).es).getD j dEni).id).map B ++ ([I ((((rows.getD i dPk).es).getD j dEni).kind), I ((((rows.getD i dPk).es).getD j dEni).off), I ((((rows.getD i dPk).es).getD j dEni).len)])) rfl EL123 lenP (by decide) rfl fun b49 => ?_; refine tk_act rfl ?_; refine a_appE (H1 := [_, _]) (f := eniC) (l := (rows.getD i dPk).es.take j) (e := ((rows.getD i dPk).es.getD j dEni)) (b := b49) (k := 35) rfl rfl EL123 rfl rfl (.head _) (eniC_len _) (List.forall_mem_append.2 ⟨oneB, (List.forall_mem_cons.2 ⟨rfl, (List.forall_mem_cons.2 ⟨rfl, (List.forall_mem_cons.2 ⟨rfl, (fun _ h => nomatch h)⟩)⟩)⟩)⟩) lenP lenP fun v50 => ?_
      refine tk_ownA (.tail _ (.tail _ (.head _))) fun hfv50 => ?_; refine s_q rfl (y_fldN (o := 0) 1 rfl (by kernel_rfl)) ?_; refine tk_act rfl ?_; refine a_storeE (H1 := [_, _, _]) (o := 1) (v := v50) (cs' := [Str ((rows.getD i dPk).name), v50]) rfl rfl (by kernel_rfl) (RdC.one hfv50.choose_spec) rfl (by first | (simp; done) | (simp; omega)) (rfl) ?_; refine tk_nil ?_; refine tk_in_normal ?_; refine tk_then ?_
      refine tk_region ?_; refine s_q rfl (y_move rfl) ?_; refine s_q rfl (y_addN (a := j) (b := 1) rfl rfl (by omega)) ?_; refine s_q rfl (y_assign rfl) ?_; refine tk_nil ?_; refine tk_H [cel b49 (((((rows.getD i dPk).es).getD j dEni).id).map B ++ ([I ((((rows.getD i dPk).es).getD j dEni).kind), I ((((rows.getD i dPk).es).getD j dEni).off), I ((((rows.getD i dPk).es).getD j dEni).len)])) 157, cel b7 (((((rows.getD i dPk).es).getD j dEni).id).map B ++ ([I ((((rows.getD i dPk).es).getD j dEni).kind), I ((((rows.getD i dPk).es).getD j dEni).off), I ((((rows.getD i dPk).es).getD j dEni).len)])) 135, own v50 (((rows.getD i dPk).es.take (j + 1)).length) (((rows.getD i dPk).es.take (j + 1)).flatMap eniC) 157 35, cel b5 ([Str ((rows.getD i dPk).name), v50]) 125, own vo out.length (out.flatMap pkC) 125 2, bag (out.map (enO 157))] (congrArg (fun z_ => [cel b49 (((((rows.getD i dPk).es).getD j dEni).id).map B ++ ([I ((((rows.getD i dPk).es).getD j dEni).kind), I ((((rows.getD i dPk).es).getD j dEni).off), I ((((rows.getD i dPk).es).getD j dEni).len)])) 157, cel b7 (((((rows.getD i dPk).es).getD j dEni).id).map B ++ ([I ((((rows.getD i dPk).es).getD j dEni).kind), I ((((rows.getD i dPk).es).getD j dEni).off), I ((((rows.getD i dPk).es).getD j dEni).len)])) 135, z_, cel b5 ([Str ((rows.getD i dPk).name), v50]) 125, own vo out.length (out.flatMap pkC) 125 2, bag (out.map (enO 157))]) (show own v50 ((((rows.getD i dPk).es.take j) ++ [((rows.getD i dPk).es.getD j dEni)]).length) ((((rows.getD i dPk).es.take j) ++ [((rows.getD i dPk).es.getD j dEni)]).flatMap eniC) 157 35 = own v50 (((rows.getD i dPk).es.take (j + 1)).length) (((rows.getD i dPk).es.take (j + 1)).flatMap eniC) 157 35 from ownA_cast (take_snoc (by omega)))) ?_
      exact tk_again ((j + 1, v50)) (by dsimp only; omega) (by dsimp only; omega) (by repeat (first | exact trivial | refine ⟨rfl, ?_⟩)) (.cons _ (.cons _ (List.Sublist.refl _)))
    · skip
      refine tk_exit ?_; refine tk_then_exit ?_; refine tk_then_exit ?_; refine tk_in_hit ?_; refine tk_then ?_; refine tk_region ?_
      have hje : j = (rows.getD i dPk).es.length := by omega
      refine tk_H [own ve (((rows.getD i dPk).es).length) (((rows.getD i dPk).es).flatMap eniC) 157 35, cel b5 ([Str ((rows.getD i dPk).name), ve]) 125, own vo out.length (out.flatMap pkC) 125 2, bag (out.map (enO 157))] (congrArg (fun z_ => [z_, cel b5 ([Str ((rows.getD i dPk).name), ve]) 125, own vo out.length (out.flatMap pkC) 125 2, bag (out.map (enO 157))]) (show own ve (((rows.getD i dPk).es.take j).length) (((rows.getD i dPk).es.take j).flatMap eniC) 157 35 = own ve (((rows.getD i dPk).es).length) (((rows.getD i dPk).es).flatMap eniC) 157 35 from ownA_cast (by rw [hje, List.take_length]))) ?_
      refine s_q rfl (y_move rfl) ?_; refine s_q rfl (y_loadA 2 rfl (by kernel_rfl) lenP (hcw (.tail _ (.head _)))) ?_; refine tk_act rfl ?_; refine a_slitE (k := 2) (cs := [Str ((rows.getD i dPk).name), ve]) rfl EL22 lenP (by decide) rfl fun b54 => ?_; refine tk_act rfl ?_; refine a_appE (H1 := [_, _, _]) (f := pkC) (l := out) (e := (⟨(rows.getD i dPk).name, ve, (rows.getD i dPk).es⟩ : Pk)) (b := b54) (k := 2) rfl rfl EL22 rfl rfl (.head _) (pkC_len _) (List.forall_mem_cons.2 ⟨rfl, (List.forall_mem_cons.2 ⟨(RdC.one hfe.choose_spec), (fun _ h => nomatch h)⟩)⟩) lenP lenP fun v55 => ?_
      refine tk_ownA (.tail _ (.tail _ (.tail _ (.head _)))) fun hfv55 => ?_; refine tk_perm _ mv4 ?_; refine tk_perm _ mv2 ?_; refine tk_bag ?_; refine tk_H [bag ((out ++ [(⟨(rows.getD i dPk).name, ve, (rows.getD i dPk).es⟩ : Pk)]).map (enO 157)), cel b54 ([Str ((rows.getD i dPk).name), ve]) 125, cel b5 ([Str ((rows.getD i dPk).name), ve]) 125, own v55 ((out ++ [(⟨(rows.getD i dPk).name, ve, (rows.getD i dPk).es⟩ : Pk)]).length) ((out ++ [(⟨(rows.getD i dPk).name, ve, (rows.getD i dPk).es⟩ : Pk)]).flatMap pkC) 125 2] (congrArg (fun z_ => [z_, cel b54 ([Str ((rows.getD i dPk).name), ve]) 125, cel b5 ([Str ((rows.getD i dPk).name), ve]) 125, own v55 ((out ++ [(⟨(rows.getD i dPk).name, ve, (rows.getD i dPk).es⟩ : Pk)]).length) ((out ++ [(⟨(rows.getD i dPk).name, ve, (rows.getD i dPk).es⟩ : Pk)]).flatMap pkC) 125 2]) (show bag ((out.map (enO 157)) ++ [own ve (((rows.getD i dPk).es).length) (((rows.getD i dPk).es).flatMap eniC) 157 35]) = bag ((out ++ [(⟨(rows.getD i dPk).name, ve, (rows.getD i dPk).es⟩ : Pk)]).map (enO 157)) from by rw [List.map_append]; rfl)) ?_
      refine s_q rfl (y_assign rfl) ?_; refine tk_nil ?_; refine tk_in_normal ?_; refine tk_then ?_; refine tk_region ?_; refine s_q rfl (y_move rfl) ?_; refine s_q rfl (y_addN (a := i) (b := 1) rfl rfl (by omega)) ?_; refine s_q rfl (y_assign rfl) ?_; refine tk_nil ?_; refine tk_perm _ mv3 ?_
      exact tk_again ((i + 1, v55, out ++ [(⟨(rows.getD i dPk).name, ve, (rows.getD i dPk).es⟩ : Pk)])) (⟨by dsimp only; omega, by dsimp only; rw [List.map_append, hI.2, ← take_snoc (d := dPk) (show i < rows.length by omega), List.map_append]; rfl⟩) (by dsimp only; omega) (by repeat (first | exact trivial | refine ⟨rfl, ?_⟩)) (.cons_cons _ (.cons_cons _ (List.nil_sublist _)))
  · skip
    refine tk_exit ?_; refine tk_then_exit ?_; refine tk_then_exit ?_; refine tk_in_hit ?_; refine tk_then ?_; refine s_r ?_; refine s_q rfl (y_move rfl) ?_; refine s_q rfl (y_assign rfl) ?_; refine s_n ?_; refine tk_retc ?_
    exact tk_ret ((vo, out)) ((by have e : i = rows.length := (by omega); dsimp only; rw [hI.2, e, List.take_length])) (.inl rfl) (r1 rfl rfl) (List.Sublist.refl _)
end Go.Proofs.YtkkjfojgjmglpaaGreatDoor
set_option linter.unusedSimpArgs false
set_option linter.unusedVariables false
namespace Go.Proofs.YtkkjfojgjmglpaaGreatDoor
open Go Go.RowKit
set_option maxRecDepth 100000
def fewF (rows : List Pk) : List Pk := (rows.take (min rows.length 12)).map fewP
def fewS (ol : List (List UInt8)) : List (List UInt8) := (ol.take (min ol.length 20)).map fewO
theorem fewO_step {ol : List (List UInt8)} {i : Nat} (h : i < ol.length) : (ol.take i).map fewO ++ [(ol.getD i []).take (min (ol.getD i []).length 300)] = (ol.take (i + 1)).map fewO := by
  rw [← take_snoc (d := []) h, List.map_append]; rfl
theorem fewP_step {rows : List Pk} {i : Nat} (h : i < rows.length) : (rows.take i).map fewP ++ [fewP (rows.getD i dPk)] = (rows.take (i + 1)).map fewP := by
  rw [← take_snoc (d := dPk) h, List.map_append]; rfl
theorem few_spec {pv ov : Value} {rows : List Pk} {ol : List (List UInt8)} {w : World} (h1 : Ro (Fs []) w (rdC pv rows.length (rows.flatMap pkC))) (hes : ∀ u ∈ rows, Ro (Fs []) w (rdC u.v u.es.length (u.es.flatMap eniC))) (ho : Ro (Fs []) w (rd ov (ol.map Str)))
    (hrl : rows.length < 9223372036854775808) (hol : ol.length < 9223372036854775808) (hos : ∀ s ∈ ol, s.length < 9223372036854775808) (hpk : ∀ u ∈ rows, u.es.length < 9223372036854775808 ∧ u.name.length < 9223372036854775808) :
    Spec Tryz.prog 10 [.agg [pv, ov].toArray] w [] (fun _ : Value × Value => True) (fun p => .agg [p.1, p.2].toArray) (fun p => [ownA pkC 2 p.1 (fewF rows) 125, ownM Str p.2 (fewS ol) 9]) := by
  refine spec_of (n := 74) Tryz.func10 rfl rfl trivial trivial rfl ?_; refine s_r ?_; refine tk_act rfl ?_; refine a_boxL (cs := [pv, ov]) rfl rfl fun b1 => ?_; refine tk_act rfl ?_; refine a_allocL (cs := [Value.slice none 0 0, .slice none 0 0]) (by kernel_rfl) rfl fun b2 => ?_; refine s_n ?_; refine s_r ?_; refine s_q rfl (y_build (v := .agg ([Value.slice none 0 0, .slice none 0 0]).toArray) (vs := []) rfl (fun _ => by kernel_rfl)) ?_
  refine tk_act rfl ?_; refine a_allocL (cs := [Value.slice none 0 0, .slice none 0 0]) (by kernel_rfl) rfl fun b3 => ?_; refine tk_act rfl ?_; refine a_storeW (H1 := []) (vs := [Value.slice none 0 0, .slice none 0 0]) 2 rfl rfl (by kernel_rfl) rfl ⟨lenP, lenP⟩ (List.forall_mem_cons.2 ⟨(RdS.one (RdS.nil (w := default))), (List.forall_mem_cons.2 ⟨(RdS.one (RdS.nil (w := default))), (fun _ h => nomatch h)⟩)⟩) ?_
  refine s_n ?_; refine tk_seq ?_; refine s_r ?_; refine s_q rfl (y_assign rfl) ?_; refine s_n ?_; refine tk_block ?_; refine tk_ownM0 (f := Str) 9 ?_; refine tk_ownA0 (f := pkC) 2 125 ?_; refine tk_H [own (.slice none 0 0) (([] : List Pk).length) (([] : List Pk).flatMap pkC) 125 2, own (.slice none 0 0) ((((ol.take 0).map fewO)).length) ((((ol.take 0).map fewO)).map Str) 9 1, cel b3 ([Value.slice none 0 0, .slice none 0 0]) 25, cel b2 ([Value.slice none 0 0, .slice none 0 0]) 25, cel b1 ([pv, ov]) 25] (congrArg (fun z_ => [own (.slice none 0 0) (([] : List Pk).length) (([] : List Pk).flatMap pkC) 125 2, z_, cel b3 ([Value.slice none 0 0, .slice none 0 0]) 25, cel b2 ([Value.slice none 0 0, .slice none 0 0]) 25, cel b1 ([pv, ov]) 25]) (show own (.slice none 0 0) ((([] : List (List UInt8))).length) ((([] : List (List UInt8))).map Str) 9 1 = own (.slice none 0 0) ((((ol.take 0).map fewO)).length) ((((ol.take 0).map fewO)).map Str) 9 1 from rfl)) ?_
  refine tk_H [own (.slice none 0 0) (([] : List Pk).length) (([] : List Pk).flatMap pkC) 125 2, own (.slice none 0 0) ((((ol.take 0).map fewO)).length) ((((ol.take 0).map fewO)).map Str) 9 1, cel b3 ([Value.slice none 0 0, .slice none 0 0]) 25, cel b2 ([Value.slice none 0 0, .slice none 0 0]) 25, cel b1 ([pv, ov]) 25] (congrArg (fun z_ => [own (.slice none 0 0) (([] : List Pk).length) (([] : List Pk).flatMap pkC) 125 2, own (.slice none 0 0) ((((ol.take 0).map fewO)).length) ((((ol.take 0).map fewO)).map Str) 9 1, cel b3 z_ 25, cel b2 ([Value.slice none 0 0, .slice none 0 0]) 25, cel b1 ([pv, ov]) 25]) (show [Value.slice none 0 0, .slice none 0 0] = [Value.slice none 0 0, .slice none 0 0] from rfl)) ?_
  refine tk_loop (X := Nat × Value) (fun (i, vw) => i ≤ ol.length ∧ i ≤ 20) (fun (i, vw) => [(1, .pointer (some ⟨b1, 0, none⟩)), (2, .pointer (some ⟨b2, 0, none⟩)), (3, .pointer (some ⟨b3, 0, none⟩)), (4, I ((i : Nat) : Int))]) (fun (i, vw) => [own (.slice none 0 0) (([] : List Pk).length) (([] : List Pk).flatMap pkC) 125 2, own vw ((((ol.take i).map fewO)).length) ((((ol.take i).map fewO)).map Str) 9 1, cel b3 ([Value.slice none 0 0, vw]) 25, cel b2 ([Value.slice none 0 0, .slice none 0 0]) 25, cel b1 ([pv, ov]) 25]) (fun (i, vw) => 20 - i) ((0, .slice none 0 0)) (⟨Nat.zero_le _, by omega⟩) (by repeat (first | exact trivial | refine ⟨rfl, ?_⟩)) ((List.Sublist.refl _)) ?_
  rintro ⟨i, vw⟩ hI
  try dsimp only at hI ⊢
  have hol2 : (((ol.take i).map fewO)).length = i := by rw [List.length_map, List.length_take]; omega
  refine tk_own1 (.tail _ (.head _)) fun hfw => ?_; refine tk_seq ?_; refine s_r ?_; refine s_q rfl (y_move rfl) ?_; refine s_q rfl (y_fldN (o := 0) 1 rfl (by kernel_rfl)) ?_; refine s_q rfl (y_load rfl rfl (hc (o := 1) (.tail _ (.tail _ (.tail _ (.tail _ (.head _))))) (rfl))) ?_; refine s_q rfl (y_lenRN (n' := ol.length) rfl ho.1 rfl (by first | rfl | (rw [List.length_map]; omega) | simp)) ?_; refine tk_qs rfl rfl rfl (y_lss rfl rfl) (fun hs3_4 => ?_) (fun hs3_4 => ?_)
  · skip
    refine s_q rfl (y_move rfl) ?_; refine s_g rfl (y_move rfl) ?_; refine s_g rfl (y_lss rfl rfl) ?_; refine s_q rfl (y_pick1 rfl rfl) ?_; refine s_n ?_; refine tk_condP rfl (fun ht16 => ?_) (fun ht16 => ?_)
    · skip
      refine tk_skip ?_; refine tk_then ?_; refine tk_seq ?_; refine tk_block ?_; refine tk_drawH [own (.slice none 0 0) (([] : List Pk).length) (([] : List Pk).flatMap pkC) 125 2, cel b3 ([Value.slice none 0 0, vw]) 25, cel b2 ([Value.slice none 0 0, .slice none 0 0]) 25, cel b1 ([pv, ov]) 25] [18] (by kernel_rfl) ?_; refine s_x 0 rfl (y_fldN (o := 0) 1 rfl (by kernel_rfl)) ?_; refine s_l 1 rfl (fun _ h => h.sub (.cons_cons _ (.cons _ (List.Sublist.refl _)))) (y_load rfl rfl (hc (o := 1) (.tail _ (.head _)) (rfl))) ?_
      refine s_x 2 rfl (y_fldN (o := 0) 1 rfl (by kernel_rfl)) ?_; refine s_l 3 rfl (fun _ h => h.sub (.cons_cons _ (.cons _ (List.Sublist.refl _)))) (y_load rfl rfl (hc (o := 1) (.tail _ (.tail _ (.tail _ (.head _)))) (rfl))) ?_; refine s_x 4 rfl (y_move rfl) ?_; refine s_x 5 rfl (y_ixR (j := i) rfl rfl ho.1 lenP (by kernel_rfl)) ?_; refine s_l 6 rfl (fun _ h => h.sub (.cons_cons _ (.cons _ (List.Sublist.refl _)))) (y_load rfl rfl (fun w hw => ((fun w hw => Ro.rd ho hw) w hw).cell (gM (d := []) lenP))) ?_
      refine s_x 7 rfl (y_fldN (o := 0) 1 rfl (by kernel_rfl)) ?_; refine s_l 8 rfl (fun _ h => h.sub (.cons_cons _ (.cons _ (List.Sublist.refl _)))) (y_load rfl rfl (hc (o := 1) (.tail _ (.tail _ (.tail _ (.head _)))) (rfl))) ?_; refine s_x 9 rfl (y_move rfl) ?_; refine s_x 10 rfl (y_ixR (j := i) rfl rfl ho.1 lenP (by kernel_rfl)) ?_; refine s_l 11 rfl (fun _ h => h.sub (.cons_cons _ (.cons _ (List.Sublist.refl _)))) (y_load rfl rfl (fun w hw => ((fun w hw => Ro.rd ho hw) w hw).cell (gM (d := []) lenP))) ?_
      refine s_x 12 rfl (y_lenStr (l := ol.getD i []) rfl rfl) ?_; refine s_x 13 rfl (y_minN (a := (ol.getD i []).length) (b := 300) rfl rfl) ?_; refine s_x 14 rfl (y_cutTh (l := ol.getD i []) (hi := min ((ol.getD i []).length) 300) rfl rfl rfl (by omega)) ?_; refine tx_a 15 rfl (by kernel_rfl) rfl ?_; refine a_slitN (vs := [Str ((ol.getD i []).take (min ((ol.getD i []).length) 300))]) rfl (List.forall_mem_cons.2 ⟨rfl, (fun _ h => nomatch h)⟩) (EL23) rfl rfl (by decide) fun b34 => ?_
      refine tk_S (fun _ h => h.sub (.cons _ (.cons_cons _ (.cons _ (List.Sublist.refl _))))) ?_; refine tx_a 16 rfl (by kernel_rfl) rfl ?_; refine a_appM (H1 := [_, _]) (f := Str) (l := ((ol.take i).map fewO)) (m := [(ol.getD i []).take (min ((ol.getD i []).length) 300)]) rfl rfl EL23 rfl rfl (fun w hw => cel_rdE (o := 0) (m := 1) (cp := 1) (vs := ([(ol.getD i []).take (min ((ol.getD i []).length) 300)]).map Str) (hw.mem (.head _)) (rfl) (by first | rfl | exact lenP | (simp; omega)) lenP) (fun _ => rfl) ⟨lenP, lenP⟩ fun v35 => ?_
      refine tk_own1 (.tail _ (.tail _ (.head _))) fun hfv35 => ?_; refine tk_S (fun _ h => h.sub (.cons _ (.cons_cons _ (.cons _ (List.Sublist.refl _))))) ?_; refine s_x 17 rfl (y_fldN (o := 0) 1 rfl (by kernel_rfl)) ?_; refine tx_x 18 rfl (by kernel_rfl) rfl rfl ?_; refine a_storeE (H1 := [_, _, _]) (o := 1) (v := v35) (cs' := [Value.slice none 0 0, v35]) rfl rfl (by kernel_rfl) (RdS.one hfv35.choose_spec) rfl (by first | (simp; done) | (simp; omega)) (rfl) ?_
      refine tx_done (by kernel_rfl) ?_; refine tk_in_normal ?_; refine tk_then ?_; refine tk_region ?_; refine s_q rfl (y_move rfl) ?_; refine s_q rfl (y_addN (a := i) (b := 1) rfl rfl (by omega)) ?_; refine s_q rfl (y_assign rfl) ?_; refine tk_nil ?_; refine tk_H [cel b34 ([Str ((ol.getD i []).take (min ((ol.getD i []).length) 300))]) 9, own (.slice none 0 0) (([] : List Pk).length) (([] : List Pk).flatMap pkC) 125 2, own v35 ((((ol.take (i + 1)).map fewO)).length) ((((ol.take (i + 1)).map fewO)).map Str) 9 1, cel b3 ([Value.slice none 0 0, v35]) 25, cel b2 ([Value.slice none 0 0, .slice none 0 0]) 25, cel b1 ([pv, ov]) 25] (congrArg (fun z_ => [cel b34 ([Str ((ol.getD i []).take (min ((ol.getD i []).length) 300))]) 9, own (.slice none 0 0) (([] : List Pk).length) (([] : List Pk).flatMap pkC) 125 2, z_, cel b3 ([Value.slice none 0 0, v35]) 25, cel b2 ([Value.slice none 0 0, .slice none 0 0]) 25, cel b1 ([pv, ov]) 25]) (show own v35 (((((ol.take i).map fewO)) ++ ([(ol.getD i []).take (min ((ol.getD i []).length) 300)])).length) (((((ol.take i).map fewO)) ++ ([(ol.getD i []).take (min ((ol.getD i []).length) 300)])).map Str) 9 1 = own v35 ((((ol.take (i + 1)).map fewO)).length) ((((ol.take (i + 1)).map fewO)).map Str) 9 1 from ownM_cast (fewO_step (by omega)))) ?_
      exact tk_again ((i + 1, v35)) (⟨by dsimp only; omega, by dsimp only; omega⟩) (by dsimp only; omega) (by repeat (first | exact trivial | refine ⟨rfl, ?_⟩)) (.cons _ (List.Sublist.refl _))
    · skip
      refine tk_exit ?_; refine tk_then_exit ?_; refine tk_then_exit ?_; refine tk_in_hit ?_; refine tk_then ?_; refine tk_seq ?_; refine s_r ?_; refine tk_H [own (.slice none 0 0) (([] : List Pk).length) (([] : List Pk).flatMap pkC) 125 2, own vw ((((ol.take (min ol.length 20)).map fewO)).length) ((((ol.take (min ol.length 20)).map fewO)).map Str) 9 1, cel b3 ([Value.slice none 0 0, vw]) 25, cel b2 ([Value.slice none 0 0, .slice none 0 0]) 25, cel b1 ([pv, ov]) 25] (congrArg (fun z_ => [own (.slice none 0 0) (([] : List Pk).length) (([] : List Pk).flatMap pkC) 125 2, z_, cel b3 ([Value.slice none 0 0, vw]) 25, cel b2 ([Value.slice none 0 0, .slice none 0 0]) 25, cel b1 ([pv, ov]) 25]) (show own vw ((((ol.take i).map fewO)).length) ((((ol.take i).map fewO)).map Str) 9 1 = own vw ((((ol.take (min ol.length 20)).map fewO)).length) ((((ol.take (min ol.length 20)).map fewO)).map Str) 9 1 from ownM_cast (by rw [show i = min ol.length 20 by omega]))) ?_
      refine s_q rfl (y_assign rfl) ?_; refine s_n ?_; refine tk_block ?_; refine tk_H [own (.slice none 0 0) ((((rows.take 0).map fewP)).length) ((((rows.take 0).map fewP)).flatMap pkC) 125 2, own vw ((((ol.take (min ol.length 20)).map fewO)).length) ((((ol.take (min ol.length 20)).map fewO)).map Str) 9 1, cel b3 ([Value.slice none 0 0, vw]) 25, cel b2 ([Value.slice none 0 0, .slice none 0 0]) 25, cel b1 ([pv, ov]) 25] (congrArg (fun z_ => [z_, own vw ((((ol.take (min ol.length 20)).map fewO)).length) ((((ol.take (min ol.length 20)).map fewO)).map Str) 9 1, cel b3 ([Value.slice none 0 0, vw]) 25, cel b2 ([Value.slice none 0 0, .slice none 0 0]) 25, cel b1 ([pv, ov]) 25]) (show own (.slice none 0 0) (([] : List Pk).length) (([] : List Pk).flatMap pkC) 125 2 = own (.slice none 0 0) ((((rows.take 0).map fewP)).length) ((((rows.take 0).map fewP)).flatMap pkC) 125 2 from rfl)) ?_
      refine tk_loop (X := Nat × Value) (fun (i, vp) => i ≤ rows.length ∧ i ≤ 12) (fun (i, vp) => [(1, .pointer (some ⟨b1, 0, none⟩)), (2, .pointer (some ⟨b2, 0, none⟩)), (3, .pointer (some ⟨b3, 0, none⟩)), (5, I ((i : Nat) : Int))]) (fun (i, vp) => [own vp ((((rows.take i).map fewP)).length) ((((rows.take i).map fewP)).flatMap pkC) 125 2, own vw ((((ol.take (min ol.length 20)).map fewO)).length) ((((ol.take (min ol.length 20)).map fewO)).map Str) 9 1, cel b3 ([vp, vw]) 25, cel b2 ([Value.slice none 0 0, .slice none 0 0]) 25, cel b1 ([pv, ov]) 25]) (fun (i, vp) => 12 - i) ((0, .slice none 0 0)) (⟨Nat.zero_le _, by omega⟩) (by repeat (first | exact trivial | refine ⟨rfl, ?_⟩)) ((List.Sublist.refl _)) ?_
      rintro ⟨i, vp⟩ hJ
      dsimp only at hJ ⊢
      have hop2 : (((rows.take i).map fewP)).length = i := by rw [List.length_map, List.length_take]; omega
      refine tk_ownA (.head _) fun hfp => ?_; refine tk_seq ?_; refine s_r ?_; refine s_q rfl (y_move rfl) ?_; refine s_q rfl (y_fld0 (o := 0) rfl (by kernel_rfl)) ?_; refine s_q rfl (y_load rfl rfl (hc (o := 0) (.tail _ (.tail _ (.tail _ (.tail _ (.head _))))) (rfl))) ?_; refine s_q rfl (y_lenE rfl h1.1 rfl) ?_; refine tk_qs rfl rfl rfl (y_lss rfl rfl) (fun hs7_4 => ?_) (fun hs7_4 => ?_)
      · skip
        refine s_q rfl (y_move rfl) ?_; refine s_g rfl (y_move rfl) ?_; refine s_g rfl (y_lss rfl rfl) ?_; refine s_q rfl (y_pick1 rfl rfl) ?_; refine s_n ?_; refine tk_condP rfl (fun ht45 => ?_) (fun ht45 => ?_)
        · skip
          refine tk_skip ?_; refine tk_then ?_; refine tk_seq ?_; refine tk_block ?_; refine s_r ?_; refine s_q rfl (y_fld0 (o := 0) rfl (by kernel_rfl)) ?_; refine s_q rfl (y_load rfl rfl (hc (o := 0) (.tail _ (.tail _ (.tail _ (.tail _ (.head _))))) (rfl))) ?_; refine s_q rfl (y_move rfl) ?_; refine s_q rfl (y_ixE (i := i) (k := 2) rfl rfl h1.1 lenP (by kernel_rfl)) ?_; refine s_q rfl (y_loadE (i := i) (k := 2) (o := 0) (f := pkC) (l := rows) (d0 := dPk) (vs := [Str ((rows.getD i dPk).name), (rows.getD i dPk).v]) 2 rfl (by kernel_rfl) rfl pkC_len lenP rfl (fun w hw => Ro.rdC h1 hw)) ?_
          refine tk_act rfl ?_; refine a_allocL (cs := [Str [], .slice none 0 0]) (by kernel_rfl) rfl fun b6 => ?_; refine tk_act rfl ?_; refine a_storeW (H1 := []) (vs := [Str ((rows.getD i dPk).name), (rows.getD i dPk).v]) 2 rfl rfl (by kernel_rfl) rfl ⟨lenP, lenP⟩ (List.forall_mem_cons.2 ⟨rfl, (List.forall_mem_cons.2 ⟨(RdC.one (hes _ (getD_mem lenP)).1), (fun _ h => nomatch h)⟩)⟩) ?_; refine s_n ?_
          refine tk_drawH [cel b6 ([Str ((rows.getD i dPk).name), (rows.getD i dPk).v]) 125, own vw ((((ol.take (min ol.length 20)).map fewO)).length) ((((ol.take (min ol.length 20)).map fewO)).map Str) 9 1, cel b3 ([vp, vw]) 25, cel b2 ([Value.slice none 0 0, .slice none 0 0]) 25, cel b1 ([pv, ov]) 25] [20] (by kernel_rfl) ?_; refine s_x 0 rfl (y_fld0 (o := 0) rfl (by kernel_rfl)) ?_; refine s_l 1 rfl (fun _ h => h.sub (.cons_cons _ (.cons _ (List.Sublist.refl _)))) (y_load rfl rfl (hc (o := 0) (.tail _ (.tail _ (.head _))) (rfl))) ?_
          refine s_x 2 rfl (y_fld0 (o := 0) rfl (by kernel_rfl)) ?_; refine s_l 3 rfl (fun _ h => h.sub (.cons_cons _ (.cons _ (List.Sublist.refl _)))) (y_load rfl rfl (hc (o := 0) (.head _) (rfl))) ?_; refine s_x 4 rfl (y_fld0 (o := 0) rfl (by kernel_rfl)) ?_; refine s_l 5 rfl (fun _ h => h.sub (.cons_cons _ (.cons _ (List.Sublist.refl _)))) (y_load rfl rfl (hc (o := 0) (.head _) (rfl))) ?_; refine s_x 6 rfl (y_lenStr (l := (rows.getD i dPk).name) rfl rfl) ?_
          refine s_x 7 rfl (y_minN (a := ((rows.getD i dPk).name).length) (b := 300) rfl rfl) ?_; refine s_x 8 rfl (y_cutTh (l := (rows.getD i dPk).name) (hi := min (((rows.getD i dPk).name).length) 300) rfl rfl rfl (by omega)) ?_; refine s_x 9 rfl (y_fldN (o := 0) 1 rfl (by kernel_rfl)) ?_; refine s_l 10 rfl (fun _ h => h.sub (.cons_cons _ (.cons _ (List.Sublist.refl _)))) (y_load rfl rfl (hc (o := 1) (.head _) (rfl))) ?_
          refine s_x 11 rfl (y_fldN (o := 0) 1 rfl (by kernel_rfl)) ?_; refine s_l 12 rfl (fun _ h => h.sub (.cons_cons _ (.cons _ (List.Sublist.refl _)))) (y_load rfl rfl (hc (o := 1) (.head _) (rfl))) ?_; refine s_x 13 rfl (y_lenE rfl (hes _ (getD_mem lenP)).1 rfl) ?_; refine s_x 14 rfl (y_minN (a := ((rows.getD i dPk).es).length) (b := 12) rfl rfl) ?_; refine s_x 15 rfl (y_cutE (sz := 35) (min (((rows.getD i dPk).es).length) 12) rfl rfl (hes _ (getD_mem lenP)).1 (by kernel_rfl) lenP rfl) ?_
          refine s_x 16 rfl (y_build (v := .agg ([Str (((rows.getD i dPk).name).take (min (((rows.getD i dPk).name).length) 300)), cutR ((rows.getD i dPk).v) 0 (min (((rows.getD i dPk).es).length) 12)]).toArray) (vs := [(0, Str (((rows.getD i dPk).name).take (min (((rows.getD i dPk).name).length) 300))), (1, cutR ((rows.getD i dPk).v) 0 (min (((rows.getD i dPk).es).length) 12))]) rfl (run_build (zs := [Str [], .slice none 0 0]) (pl := [(0, 1), (1, 1)]) Tryz.underlying125 (fun _ => by kernel_rfl) (fun _ => by kernel_rfl) (fill_sv rfl (RdC.cells (ro_takeE (k := 35) (hes _ (getD_mem lenP)) eniC_len lenP).1)))) ?_
          refine tx_a 17 rfl (by kernel_rfl) rfl ?_; refine a_slitE (k := 2) (cs := [Str (((rows.getD i dPk).name).take (min (((rows.getD i dPk).name).length) 300)), cutR ((rows.getD i dPk).v) 0 (min (((rows.getD i dPk).es).length) 12)]) rfl EL22 lenP (by decide) rfl fun b70 => ?_; refine tk_S (fun _ h => h.sub (.cons _ (.cons_cons _ (.cons _ (List.Sublist.refl _))))) ?_; refine tx_a 18 rfl (by kernel_rfl) rfl ?_; refine a_appE (H1 := [_, _]) (f := pkC) (l := ((rows.take i).map fewP)) (e := (fewP (rows.getD i dPk))) (b := b70) (k := 2) rfl rfl EL22 rfl rfl (.head _) (pkC_len _) (List.forall_mem_cons.2 ⟨rfl, (List.forall_mem_cons.2 ⟨(RdC.one (ro_takeE (k := 35) (hes _ (getD_mem lenP)) eniC_len lenP).1), (fun _ h => nomatch h)⟩)⟩) lenP lenP fun v71 => ?_
          refine tk_ownA (.tail _ (.tail _ (.head _))) fun hfv71 => ?_; refine tk_S (fun _ h => h.sub (.cons _ (.cons_cons _ (.cons _ (List.Sublist.refl _))))) ?_; refine s_x 19 rfl (y_fld0 (o := 0) rfl (by kernel_rfl)) ?_; refine tx_x 20 rfl (by kernel_rfl) rfl rfl ?_; refine a_storeE (H1 := [_, _, _, _]) (o := 0) (v := v71) (cs' := [v71, vw]) rfl rfl (by kernel_rfl) (RdC.one hfv71.choose_spec) rfl (by first | (simp; done) | (simp; omega)) (rfl) ?_
          refine tx_done (by kernel_rfl) ?_; refine tk_in_normal ?_; refine tk_then ?_; refine tk_region ?_; refine s_q rfl (y_move rfl) ?_; refine s_q rfl (y_addN (a := i) (b := 1) rfl rfl (by omega)) ?_; refine s_q rfl (y_assign rfl) ?_; refine tk_nil ?_; refine tk_H [cel b70 ([Str (((rows.getD i dPk).name).take (min (((rows.getD i dPk).name).length) 300)), cutR ((rows.getD i dPk).v) 0 (min (((rows.getD i dPk).es).length) 12)]) 125, cel b6 ([Str ((rows.getD i dPk).name), (rows.getD i dPk).v]) 125, own v71 ((((rows.take (i + 1)).map fewP)).length) ((((rows.take (i + 1)).map fewP)).flatMap pkC) 125 2, own vw ((((ol.take (min ol.length 20)).map fewO)).length) ((((ol.take (min ol.length 20)).map fewO)).map Str) 9 1, cel b3 ([v71, vw]) 25, cel b2 ([Value.slice none 0 0, .slice none 0 0]) 25, cel b1 ([pv, ov]) 25] (congrArg (fun z_ => [cel b70 ([Str (((rows.getD i dPk).name).take (min (((rows.getD i dPk).name).length) 300)), cutR ((rows.getD i dPk).v) 0 (min (((rows.getD i dPk).es).length) 12)]) 125, cel b6 ([Str ((rows.getD i dPk).name), (rows.getD i dPk).v]) 125, z_, own vw ((((ol.take (min ol.length 20)).map fewO)).length) ((((ol.take (min ol.length 20)).map fewO)).map Str) 9 1, cel b3 ([v71, vw]) 25, cel b2 ([Value.slice none 0 0, .slice none 0 0]) 25, cel b1 ([pv, ov]) 25]) (show own v71 (((((rows.take i).map fewP)) ++ [(fewP (rows.getD i dPk))]).length) (((((rows.take i).map fewP)) ++ [(fewP (rows.getD i dPk))]).flatMap pkC) 125 2 = own v71 ((((rows.take (i + 1)).map fewP)).length) ((((rows.take (i + 1)).map fewP)).flatMap pkC) 125 2 from ownA_cast (fewP_step (by omega)))) ?_
          exact tk_again ((i + 1, v71)) (⟨by dsimp only; omega, by dsimp only; omega⟩) (by dsimp only; omega) (by repeat (first | exact trivial | refine ⟨rfl, ?_⟩)) (.cons _ (.cons _ (List.Sublist.refl _)))
        · skip
          refine tk_exit ?_; refine tk_then_exit ?_; refine tk_then_exit ?_; refine tk_in_hit ?_; refine tk_then ?_; refine s_r ?_; refine s_q rfl (y_loadA 2 rfl (by kernel_rfl) lenP (hcw (.tail _ (.tail _ (.head _))))) ?_; refine tk_act rfl ?_; refine a_storeW (H1 := [_, _, _]) (vs := [vp, vw]) 2 rfl rfl (by kernel_rfl) rfl ⟨lenP, lenP⟩ (List.forall_mem_cons.2 ⟨(RdC.one hfp.choose_spec), (List.forall_mem_cons.2 ⟨(RdS.one hfw.choose_spec), (fun _ h => nomatch h)⟩)⟩) ?_
          refine s_n ?_; refine tk_retc ?_; refine tk_H [own vp ((((rows.take (min rows.length 12)).map fewP)).length) ((((rows.take (min rows.length 12)).map fewP)).flatMap pkC) 125 2, own vw ((((ol.take (min ol.length 20)).map fewO)).length) ((((ol.take (min ol.length 20)).map fewO)).map Str) 9 1, cel b3 ([vp, vw]) 25, cel b2 ([vp, vw]) 25, cel b1 ([pv, ov]) 25] (congrArg (fun z_ => [z_, own vw ((((ol.take (min ol.length 20)).map fewO)).length) ((((ol.take (min ol.length 20)).map fewO)).map Str) 9 1, cel b3 ([vp, vw]) 25, cel b2 ([vp, vw]) 25, cel b1 ([pv, ov]) 25]) (show own vp ((((rows.take i).map fewP)).length) ((((rows.take i).map fewP)).flatMap pkC) 125 2 = own vp ((((rows.take (min rows.length 12)).map fewP)).length) ((((rows.take (min rows.length 12)).map fewP)).flatMap pkC) 125 2 from ownA_cast (by rw [show i = min rows.length 12 by omega]))) ?_
          exact tk_ret ((vp, vw)) (trivial) (.inl rfl) (rc (vs := [vp, vw]) rfl rfl (by simp; kernel_rfl) (hcw (.tail _ (.tail _ (.tail _ (.head _)))))) (.cons_cons _ (.cons_cons _ (List.nil_sublist _)))
      · skip
        refine s_q rfl (y_move rfl) ?_; refine tk_gno rfl rfl rfl ?_; refine tk_gno rfl rfl rfl ?_; refine s_q rfl (y_pick0 rfl rfl) ?_; refine s_n ?_; refine tk_cond0 rfl ?_; refine tk_exit ?_; refine tk_then_exit ?_; refine tk_then_exit ?_; refine tk_in_hit ?_; refine tk_then ?_; refine s_r ?_; refine s_q rfl (y_loadA 2 rfl (by kernel_rfl) lenP (hcw (.tail _ (.tail _ (.head _))))) ?_; refine tk_act rfl ?_; refine a_storeW (H1 := [_, _, _]) (vs := [vp, vw]) 2 rfl rfl (by kernel_rfl) rfl ⟨lenP, lenP⟩ (List.forall_mem_cons.2 ⟨(RdC.one hfp.choose_spec), (List.forall_mem_cons.2 ⟨(RdS.one hfw.choose_spec), (fun _ h => nomatch h)⟩)⟩) ?_
        refine s_n ?_; refine tk_retc ?_; refine tk_H [own vp ((((rows.take (min rows.length 12)).map fewP)).length) ((((rows.take (min rows.length 12)).map fewP)).flatMap pkC) 125 2, own vw ((((ol.take (min ol.length 20)).map fewO)).length) ((((ol.take (min ol.length 20)).map fewO)).map Str) 9 1, cel b3 ([vp, vw]) 25, cel b2 ([vp, vw]) 25, cel b1 ([pv, ov]) 25] (congrArg (fun z_ => [z_, own vw ((((ol.take (min ol.length 20)).map fewO)).length) ((((ol.take (min ol.length 20)).map fewO)).map Str) 9 1, cel b3 ([vp, vw]) 25, cel b2 ([vp, vw]) 25, cel b1 ([pv, ov]) 25]) (show own vp ((((rows.take i).map fewP)).length) ((((rows.take i).map fewP)).flatMap pkC) 125 2 = own vp ((((rows.take (min rows.length 12)).map fewP)).length) ((((rows.take (min rows.length 12)).map fewP)).flatMap pkC) 125 2 from ownA_cast (by rw [show i = min rows.length 12 by omega]))) ?_
        exact tk_ret ((vp, vw)) (trivial) (.inl rfl) (rc (vs := [vp, vw]) rfl rfl (by simp; kernel_rfl) (hcw (.tail _ (.tail _ (.tail _ (.head _)))))) (.cons_cons _ (.cons_cons _ (List.nil_sublist _)))
  · skip
    refine s_q rfl (y_move rfl) ?_; refine tk_gno rfl rfl rfl ?_; refine tk_gno rfl rfl rfl ?_; refine s_q rfl (y_pick0 rfl rfl) ?_; refine s_n ?_; refine tk_cond0 rfl ?_; refine tk_exit ?_; refine tk_then_exit ?_; refine tk_then_exit ?_; refine tk_in_hit ?_; refine tk_then ?_; refine tk_seq ?_; refine s_r ?_; refine tk_H [own (.slice none 0 0) (([] : List Pk).length) (([] : List Pk).flatMap pkC) 125 2, own vw ((((ol.take (min ol.length 20)).map fewO)).length) ((((ol.take (min ol.length 20)).map fewO)).map Str) 9 1, cel b3 ([Value.slice none 0 0, vw]) 25, cel b2 ([Value.slice none 0 0, .slice none 0 0]) 25, cel b1 ([pv, ov]) 25] (congrArg (fun z_ => [own (.slice none 0 0) (([] : List Pk).length) (([] : List Pk).flatMap pkC) 125 2, z_, cel b3 ([Value.slice none 0 0, vw]) 25, cel b2 ([Value.slice none 0 0, .slice none 0 0]) 25, cel b1 ([pv, ov]) 25]) (show own vw ((((ol.take i).map fewO)).length) ((((ol.take i).map fewO)).map Str) 9 1 = own vw ((((ol.take (min ol.length 20)).map fewO)).length) ((((ol.take (min ol.length 20)).map fewO)).map Str) 9 1 from ownM_cast (by rw [show i = min ol.length 20 by omega]))) ?_
    refine s_q rfl (y_assign rfl) ?_; refine s_n ?_; refine tk_block ?_; refine tk_H [own (.slice none 0 0) ((((rows.take 0).map fewP)).length) ((((rows.take 0).map fewP)).flatMap pkC) 125 2, own vw ((((ol.take (min ol.length 20)).map fewO)).length) ((((ol.take (min ol.length 20)).map fewO)).map Str) 9 1, cel b3 ([Value.slice none 0 0, vw]) 25, cel b2 ([Value.slice none 0 0, .slice none 0 0]) 25, cel b1 ([pv, ov]) 25] (congrArg (fun z_ => [z_, own vw ((((ol.take (min ol.length 20)).map fewO)).length) ((((ol.take (min ol.length 20)).map fewO)).map Str) 9 1, cel b3 ([Value.slice none 0 0, vw]) 25, cel b2 ([Value.slice none 0 0, .slice none 0 0]) 25, cel b1 ([pv, ov]) 25]) (show own (.slice none 0 0) (([] : List Pk).length) (([] : List Pk).flatMap pkC) 125 2 = own (.slice none 0 0) ((((rows.take 0).map fewP)).length) ((((rows.take 0).map fewP)).flatMap pkC) 125 2 from rfl)) ?_
    refine tk_loop (X := Nat × Value) (fun (i, vp) => i ≤ rows.length ∧ i ≤ 12) (fun (i, vp) => [(1, .pointer (some ⟨b1, 0, none⟩)), (2, .pointer (some ⟨b2, 0, none⟩)), (3, .pointer (some ⟨b3, 0, none⟩)), (5, I ((i : Nat) : Int))]) (fun (i, vp) => [own vp ((((rows.take i).map fewP)).length) ((((rows.take i).map fewP)).flatMap pkC) 125 2, own vw ((((ol.take (min ol.length 20)).map fewO)).length) ((((ol.take (min ol.length 20)).map fewO)).map Str) 9 1, cel b3 ([vp, vw]) 25, cel b2 ([Value.slice none 0 0, .slice none 0 0]) 25, cel b1 ([pv, ov]) 25]) (fun (i, vp) => 12 - i) ((0, .slice none 0 0)) (⟨Nat.zero_le _, by omega⟩) (by repeat (first | exact trivial | refine ⟨rfl, ?_⟩)) ((List.Sublist.refl _)) ?_
    rintro ⟨i, vp⟩ hJ
    dsimp only at hJ ⊢
    have hop2 : (((rows.take i).map fewP)).length = i := by rw [List.length_map, List.length_take]; omega
    refine tk_ownA (.head _) fun hfp => ?_; refine tk_seq ?_; refine s_r ?_; refine s_q rfl (y_move rfl) ?_; refine s_q rfl (y_fld0 (o := 0) rfl (by kernel_rfl)) ?_; refine s_q rfl (y_load rfl rfl (hc (o := 0) (.tail _ (.tail _ (.tail _ (.tail _ (.head _))))) (rfl))) ?_; refine s_q rfl (y_lenE rfl h1.1 rfl) ?_; refine tk_qs rfl rfl rfl (y_lss rfl rfl) (fun hs7_4 => ?_) (fun hs7_4 => ?_)
    · skip
      refine s_q rfl (y_move rfl) ?_; refine s_g rfl (y_move rfl) ?_; refine s_g rfl (y_lss rfl rfl) ?_; refine s_q rfl (y_pick1 rfl rfl) ?_; refine s_n ?_; refine tk_condP rfl (fun ht45 => ?_) (fun ht45 => ?_)
      · skip
        refine tk_skip ?_; refine tk_then ?_; refine tk_seq ?_; refine tk_block ?_; refine s_r ?_; refine s_q rfl (y_fld0 (o := 0) rfl (by kernel_rfl)) ?_; refine s_q rfl (y_load rfl rfl (hc (o := 0) (.tail _ (.tail _ (.tail _ (.tail _ (.head _))))) (rfl))) ?_; refine s_q rfl (y_move rfl) ?_; refine s_q rfl (y_ixE (i := i) (k := 2) rfl rfl h1.1 lenP (by kernel_rfl)) ?_; refine s_q rfl (y_loadE (i := i) (k := 2) (o := 0) (f := pkC) (l := rows) (d0 := dPk) (vs := [Str ((rows.getD i dPk).name), (rows.getD i dPk).v]) 2 rfl (by kernel_rfl) rfl pkC_len lenP rfl (fun w hw => Ro.rdC h1 hw)) ?_
        refine tk_act rfl ?_; refine a_allocL (cs := [Str [], .slice none 0 0]) (by kernel_rfl) rfl fun b6 => ?_; refine tk_act rfl ?_; refine a_storeW (H1 := []) (vs := [Str ((rows.getD i dPk).name), (rows.getD i dPk).v]) 2 rfl rfl (by kernel_rfl) rfl ⟨lenP, lenP⟩ (List.forall_mem_cons.2 ⟨rfl, (List.forall_mem_cons.2 ⟨(RdC.one (hes _ (getD_mem lenP)).1), (fun _ h => nomatch h)⟩)⟩) ?_; refine s_n ?_
        refine tk_drawH [cel b6 ([Str ((rows.getD i dPk).name), (rows.getD i dPk).v]) 125, own vw ((((ol.take (min ol.length 20)).map fewO)).length) ((((ol.take (min ol.length 20)).map fewO)).map Str) 9 1, cel b3 ([vp, vw]) 25, cel b2 ([Value.slice none 0 0, .slice none 0 0]) 25, cel b1 ([pv, ov]) 25] [20] (by kernel_rfl) ?_; refine s_x 0 rfl (y_fld0 (o := 0) rfl (by kernel_rfl)) ?_; refine s_l 1 rfl (fun _ h => h.sub (.cons_cons _ (.cons _ (List.Sublist.refl _)))) (y_load rfl rfl (hc (o := 0) (.tail _ (.tail _ (.head _))) (rfl))) ?_
        refine s_x 2 rfl (y_fld0 (o := 0) rfl (by kernel_rfl)) ?_; refine s_l 3 rfl (fun _ h => h.sub (.cons_cons _ (.cons _ (List.Sublist.refl _)))) (y_load rfl rfl (hc (o := 0) (.head _) (rfl))) ?_; refine s_x 4 rfl (y_fld0 (o := 0) rfl (by kernel_rfl)) ?_; refine s_l 5 rfl (fun _ h => h.sub (.cons_cons _ (.cons _ (List.Sublist.refl _)))) (y_load rfl rfl (hc (o := 0) (.head _) (rfl))) ?_; refine s_x 6 rfl (y_lenStr (l := (rows.getD i dPk).name) rfl rfl) ?_
        refine s_x 7 rfl (y_minN (a := ((rows.getD i dPk).name).length) (b := 300) rfl rfl) ?_; refine s_x 8 rfl (y_cutTh (l := (rows.getD i dPk).name) (hi := min (((rows.getD i dPk).name).length) 300) rfl rfl rfl (by omega)) ?_; refine s_x 9 rfl (y_fldN (o := 0) 1 rfl (by kernel_rfl)) ?_; refine s_l 10 rfl (fun _ h => h.sub (.cons_cons _ (.cons _ (List.Sublist.refl _)))) (y_load rfl rfl (hc (o := 1) (.head _) (rfl))) ?_
        refine s_x 11 rfl (y_fldN (o := 0) 1 rfl (by kernel_rfl)) ?_; refine s_l 12 rfl (fun _ h => h.sub (.cons_cons _ (.cons _ (List.Sublist.refl _)))) (y_load rfl rfl (hc (o := 1) (.head _) (rfl))) ?_; refine s_x 13 rfl (y_lenE rfl (hes _ (getD_mem lenP)).1 rfl) ?_; refine s_x 14 rfl (y_minN (a := ((rows.getD i dPk).es).length) (b := 12) rfl rfl) ?_; refine s_x 15 rfl (y_cutE (sz := 35) (min (((rows.getD i dPk).es).length) 12) rfl rfl (hes _ (getD_mem lenP)).1 (by kernel_rfl) lenP rfl) ?_
        refine s_x 16 rfl (y_build (v := .agg ([Str (((rows.getD i dPk).name).take (min (((rows.getD i dPk).name).length) 300)), cutR ((rows.getD i dPk).v) 0 (min (((rows.getD i dPk).es).length) 12)]).toArray) (vs := [(0, Str (((rows.getD i dPk).name).take (min (((rows.getD i dPk).name).length) 300))), (1, cutR ((rows.getD i dPk).v) 0 (min (((rows.getD i dPk).es).length) 12))]) rfl (run_build (zs := [Str [], .slice none 0 0]) (pl := [(0, 1), (1, 1)]) Tryz.underlying125 (fun _ => by kernel_rfl) (fun _ => by kernel_rfl) (fill_sv rfl (RdC.cells (ro_takeE (k := 35) (hes _ (getD_mem lenP)) eniC_len lenP).1)))) ?_
        refine tx_a 17 rfl (by kernel_rfl) rfl ?_; refine a_slitE (k := 2) (cs := [Str (((rows.getD i dPk).name).take (min (((rows.getD i dPk).name).length) 300)), cutR ((rows.getD i dPk).v) 0 (min (((rows.getD i dPk).es).length) 12)]) rfl EL22 lenP (by decide) rfl fun b70 => ?_; refine tk_S (fun _ h => h.sub (.cons _ (.cons_cons _ (.cons _ (List.Sublist.refl _))))) ?_; refine tx_a 18 rfl (by kernel_rfl) rfl ?_; refine a_appE (H1 := [_, _]) (f := pkC) (l := ((rows.take i).map fewP)) (e := (fewP (rows.getD i dPk))) (b := b70) (k := 2) rfl rfl EL22 rfl rfl (.head _) (pkC_len _) (List.forall_mem_cons.2 ⟨rfl, (List.forall_mem_cons.2 ⟨(RdC.one (ro_takeE (k := 35) (hes _ (getD_mem lenP)) eniC_len lenP).1), (fun _ h => nomatch h)⟩)⟩) lenP lenP fun v71 => ?_
        refine tk_ownA (.tail _ (.tail _ (.head _))) fun hfv71 => ?_; refine tk_S (fun _ h => h.sub (.cons _ (.cons_cons _ (.cons _ (List.Sublist.refl _))))) ?_; refine s_x 19 rfl (y_fld0 (o := 0) rfl (by kernel_rfl)) ?_; refine tx_x 20 rfl (by kernel_rfl) rfl rfl ?_; refine a_storeE (H1 := [_, _, _, _]) (o := 0) (v := v71) (cs' := [v71, vw]) rfl rfl (by kernel_rfl) (RdC.one hfv71.choose_spec) rfl (by first | (simp; done) | (simp; omega)) (rfl) ?_
        refine tx_done (by kernel_rfl) ?_; refine tk_in_normal ?_; refine tk_then ?_; refine tk_region ?_; refine s_q rfl (y_move rfl) ?_; refine s_q rfl (y_addN (a := i) (b := 1) rfl rfl (by omega)) ?_; refine s_q rfl (y_assign rfl) ?_; refine tk_nil ?_; refine tk_H [cel b70 ([Str (((rows.getD i dPk).name).take (min (((rows.getD i dPk).name).length) 300)), cutR ((rows.getD i dPk).v) 0 (min (((rows.getD i dPk).es).length) 12)]) 125, cel b6 ([Str ((rows.getD i dPk).name), (rows.getD i dPk).v]) 125, own v71 ((((rows.take (i + 1)).map fewP)).length) ((((rows.take (i + 1)).map fewP)).flatMap pkC) 125 2, own vw ((((ol.take (min ol.length 20)).map fewO)).length) ((((ol.take (min ol.length 20)).map fewO)).map Str) 9 1, cel b3 ([v71, vw]) 25, cel b2 ([Value.slice none 0 0, .slice none 0 0]) 25, cel b1 ([pv, ov]) 25] (congrArg (fun z_ => [cel b70 ([Str (((rows.getD i dPk).name).take (min (((rows.getD i dPk).name).length) 300)), cutR ((rows.getD i dPk).v) 0 (min (((rows.getD i dPk).es).length) 12)]) 125, cel b6 ([Str ((rows.getD i dPk).name), (rows.getD i dPk).v]) 125, z_, own vw ((((ol.take (min ol.length 20)).map fewO)).length) ((((ol.take (min ol.length 20)).map fewO)).map Str) 9 1, cel b3 ([v71, vw]) 25, cel b2 ([Value.slice none 0 0, .slice none 0 0]) 25, cel b1 ([pv, ov]) 25]) (show own v71 (((((rows.take i).map fewP)) ++ [(fewP (rows.getD i dPk))]).length) (((((rows.take i).map fewP)) ++ [(fewP (rows.getD i dPk))]).flatMap pkC) 125 2 = own v71 ((((rows.take (i + 1)).map fewP)).length) ((((rows.take (i + 1)).map fewP)).flatMap pkC) 125 2 from ownA_cast (fewP_step (by omega)))) ?_
        exact tk_again ((i + 1, v71)) (⟨by dsimp only; omega, by dsimp only; omega⟩) (by dsimp only; omega) (by repeat (first | exact trivial | refine ⟨rfl, ?_⟩)) (.cons _ (.cons _ (List.Sublist.refl _)))
      · skip
        refine tk_exit ?_; refine tk_then_exit ?_; refine tk_then_exit ?_; refine tk_in_hit ?_; refine tk_then ?_; refine s_r ?_; refine s_q rfl (y_loadA 2 rfl (by kernel_rfl) lenP (hcw (.tail _ (.tail _ (.head _))))) ?_; refine tk_act rfl ?_; refine a_storeW (H1 := [_, _, _]) (vs := [vp, vw]) 2 rfl rfl (by kernel_rfl) rfl ⟨lenP, lenP⟩ (List.forall_mem_cons.2 ⟨(RdC.one hfp.choose_spec), (List.forall_mem_cons.2 ⟨(RdS.one hfw.choose_spec), (fun _ h => nomatch h)⟩)⟩) ?_
        refine s_n ?_; refine tk_retc ?_; refine tk_H [own vp ((((rows.take (min rows.length 12)).map fewP)).length) ((((rows.take (min rows.length 12)).map fewP)).flatMap pkC) 125 2, own vw ((((ol.take (min ol.length 20)).map fewO)).length) ((((ol.take (min ol.length 20)).map fewO)).map Str) 9 1, cel b3 ([vp, vw]) 25, cel b2 ([vp, vw]) 25, cel b1 ([pv, ov]) 25] (congrArg (fun z_ => [z_, own vw ((((ol.take (min ol.length 20)).map fewO)).length) ((((ol.take (min ol.length 20)).map fewO)).map Str) 9 1, cel b3 ([vp, vw]) 25, cel b2 ([vp, vw]) 25, cel b1 ([pv, ov]) 25]) (show own vp ((((rows.take i).map fewP)).length) ((((rows.take i).map fewP)).flatMap pkC) 125 2 = own vp ((((rows.take (min rows.length 12)).map fewP)).length) ((((rows.take (min rows.length 12)).map fewP)).flatMap pkC) 125 2 from ownA_cast (by rw [show i = min rows.length 12 by omega]))) ?_
        exact tk_ret ((vp, vw)) (trivial) (.inl rfl) (rc (vs := [vp, vw]) rfl rfl (by simp; kernel_rfl) (hcw (.tail _ (.tail _ (.tail _ (.head _)))))) (.cons_cons _ (.cons_cons _ (List.nil_sublist _)))
    · skip
      refine s_q rfl (y_move rfl) ?_; refine tk_gno rfl rfl rfl ?_; refine tk_gno rfl rfl rfl ?_; refine s_q rfl (y_pick0 rfl rfl) ?_; refine s_n ?_; refine tk_cond0 rfl ?_; refine tk_exit ?_; refine tk_then_exit ?_; refine tk_then_exit ?_; refine tk_in_hit ?_; refine tk_then ?_; refine s_r ?_; refine s_q rfl (y_loadA 2 rfl (by kernel_rfl) lenP (hcw (.tail _ (.tail _ (.head _))))) ?_; refine tk_act rfl ?_; refine a_storeW (H1 := [_, _, _]) (vs := [vp, vw]) 2 rfl rfl (by kernel_rfl) rfl ⟨lenP, lenP⟩ (List.forall_mem_cons.2 ⟨(RdC.one hfp.choose_spec), (List.forall_mem_cons.2 ⟨(RdS.one hfw.choose_spec), (fun _ h => nomatch h)⟩)⟩) ?_
      refine s_n ?_; refine tk_retc ?_; refine tk_H [own vp ((((rows.take (min rows.length 12)).map fewP)).length) ((((rows.take (min rows.length 12)).map fewP)).flatMap pkC) 125 2, own vw ((((ol.take (min ol.length 20)).map fewO)).length) ((((ol.take (min ol.length 20)).map fewO)).map Str) 9 1, cel b3 ([vp, vw]) 25, cel b2 ([vp, vw]) 25, cel b1 ([pv, ov]) 25] (congrArg (fun z_ => [z_, own vw ((((ol.take (min ol.length 20)).map fewO)).length) ((((ol.take (min ol.length 20)).map fewO)).map Str) 9 1, cel b3 ([vp, vw]) 25, cel b2 ([vp, vw]) 25, cel b1 ([pv, ov]) 25]) (show own vp ((((rows.take i).map fewP)).length) ((((rows.take i).map fewP)).flatMap pkC) 125 2 = own vp ((((rows.take (min rows.length 12)).map fewP)).length) ((((rows.take (min rows.length 12)).map fewP)).flatMap pkC) 125 2 from ownA_cast (by rw [show i = min rows.length 12 by omega]))) ?_
      exact tk_ret ((vp, vw)) (trivial) (.inl rfl) (rc (vs := [vp, vw]) rfl rfl (by simp; kernel_rfl) (hcw (.tail _ (.tail _ (.tail _ (.head _)))))) (.cons_cons _ (.cons_cons _ (List.nil_sublist _)))
end Go.Proofs.YtkkjfojgjmglpaaGreatDoor
set_option linter.unusedSimpArgs false
set_option linter.unusedVariables false
namespace Go.Proofs.YtkkjfojgjmglpaaGreatDoor.Cip
open Go Go.RowKit
set_option maxRecDepth 100000
theorem ofNat_mod256 (m : Nat) : UInt8.ofNat (m % 256) = UInt8.ofNat m := by apply UInt8.toNat_inj.1; simp
theorem get_app {l r : List Value} {i : Nat} {v : Value} (h : l[i]? = some v) : (l ++ r)[i]? = some v := by
  rw [List.getElem?_append_left (List.getElem?_eq_some_iff.1 h).1]; exact h
theorem set_map_app {l : List UInt8} {r : List Value} {i : Nat} {b : UInt8} (h : i < l.length) : (l.set i b).map B ++ r = (l.map B ++ r).set i (B b) := by
  rw [List.map_set, List.set_append_left _ _ (by simpa using h)]
theorem plusTo_le {N : List UInt8} {n k : Nat} : (plusTo N n k).2 ≤ n := by
  induction k with
  | zero => exact Nat.le_refl _
  | succ k ih =>
    simp only [plusTo]; split
    · exact ih
    · have := b_lt ((plusTo N n k).1.getD (15 - k) 0)
      simp only; omega
theorem sl7 {a k : Nat} (ha : a < 256) (hk : k ≤ 7) : a * 2 ^ k < 65536 := by
  have h1 : 2 ^ k ≤ 2 ^ 7 := Nat.pow_le_pow_right (by decide) hk
  have : a * 2 ^ k ≤ 255 * 2 ^ 7 := Nat.mul_le_mul (by omega) h1
  omega
theorem p6 (k : Nat) : 283 * 2 ^ (6 - k) < 65536 := by
  have h1 : 2 ^ (6 - k) ≤ 2 ^ 6 := Nat.pow_le_pow_right (by decide) (by omega)
  omega
attribute [local irreducible] plus
set_option maxHeartbeats 400000 in
theorem plus_spec (N : List UInt8) (n : Nat) (w : World) (hN : N.length = 16) (hn : n < 2 ^ 63 - 256) : Spec Tryz.prog 116 [Str N, I (n : Int)] w [] (fun _ : Unit => True) (fun _ => Str (plus N n)) (fun _ => []) := by
  refine spec_of (n := 34) Tryz.func116 rfl rfl trivial trivial rfl ?_; refine s_r ?_; refine s_q rfl (y_assign rfl) ?_; refine s_n ?_; refine s_r ?_; refine s_q rfl (y_move rfl) ?_; refine tk_act rfl ?_; refine a_s2b rfl rfl rfl rfl rfl fun b8 cap rest hcap => ?_; refine s_q rfl (y_assign rfl) ?_; refine s_n ?_; refine tk_seqI (X := Unit) (fun _ => True) (fun _ => [(5, .slice (some ⟨b8, 0, none⟩) N.length cap)]) (fun _ => [cel b8 ((plus N n).map B ++ rest) 5]) ?_ ?_
  · skip
    refine s_r ?_; refine s_q rfl (y_assign rfl) ?_; refine s_n ?_; refine tk_block ?_; refine tk_loop (X := Nat) (fun k => k ≤ 16) (fun k => [(5, .slice (some ⟨b8, 0, none⟩) N.length cap), (1, I ((plusTo N n k).2 : Int)), (6, I (15 - (k : Int)))]) (fun k => [cel b8 ((plusTo N n k).1.map B ++ rest) 5]) (fun k => 16 - k) (0) (by omega) (by repeat (first | exact trivial | refine ⟨rfl, ?_⟩)) (List.Sublist.refl _) ?_
    intro k hI
    have hcr := plusTo_le (N := N) (n := n) (k := k)
    have hb8 := b_lt ((plusTo N n k).1.getD (15 - k) 0)
    refine tk_seq ?_; refine s_r ?_; refine s_q rfl (y_move rfl) ?_; refine tk_qs rfl rfl rfl (y_geq rfl rfl) (fun hs3_1 => ?_) (fun hs3_1 => ?_)
    · skip
      refine s_q rfl (y_move rfl) ?_; refine s_g rfl (y_move rfl) ?_; refine tk_gqs rfl rfl rfl (y_gtr rfl rfl) (fun hs3_4 => ?_) (fun hs3_4 => ?_)
      · skip
        refine s_q rfl (y_pick1 rfl rfl) ?_; refine s_n ?_; refine tk_cond1 rfl ?_; refine tk_skip ?_; refine tk_then ?_; refine tk_seq ?_; refine tk_block ?_; refine s_r ?_; refine s_q rfl (y_move rfl) ?_; refine s_q rfl (y_move rfl) ?_; refine s_q rfl (y_move rfl) ?_; refine s_q rfl (y_ixS0I (15 - k) rfl rfl (by kernel_rfl) (by omega)) ?_; refine s_q rfl (y_load rfl rfl (hc (.head _) (get_app (getB (by simp [hN] <;> omega))))) ?_
        refine s_q rfl (y_conv8i rfl rfl rfl) ?_; refine s_q rfl (y_addN rfl rfl (by omega)) ?_; refine s_q rfl (y_assign rfl) ?_; refine s_n ?_; refine s_r ?_; refine s_q rfl (y_move rfl) ?_; refine s_q rfl (y_move rfl) ?_; refine s_q rfl (y_move rfl) ?_; refine s_q rfl (y_remN (b := 256) rfl rfl (by omega)) ?_; refine tk_qe (B (UInt8.ofNat ((plusTo N n k).2 + ((plusTo N n k).1.getD (15 - k) 0).toNat))) rfl rfl rfl (y_convi8 rfl rfl rfl) (by rw [ofNat_mod256]) ?_
        refine s_q rfl (y_ixS0I (15 - k) rfl rfl (by kernel_rfl) (by omega)) ?_; refine tk_act rfl ?_; refine a_store1 (H1 := []) rfl rfl (by kernel_rfl) rfl rfl (by simp [hN] <;> omega) ?_; refine s_n ?_; refine tk_region ?_; refine s_q rfl (y_move rfl) ?_; refine s_q rfl (y_quoN (b := 256) rfl rfl (by omega)) ?_; refine s_q rfl (y_assign rfl) ?_; refine tk_nil ?_; refine tk_in_normal ?_; refine tk_then ?_
        refine tk_region ?_; refine s_q rfl (y_move rfl) ?_; refine tk_qe (I (15 - ((k + 1 : Nat) : Int))) rfl rfl rfl (y_subI rfl rfl (by omega)) (by congr 1; omega) ?_; refine s_q rfl (y_assign rfl) ?_; refine tk_nil ?_; refine tk_again (k + 1) (by omega) (by omega) ⟨rfl, ?_, rfl, trivial⟩ ?_
        · simp only [plusTo]; rw [if_neg (by omega)]; rfl
        · simp only [plusTo]; rw [if_neg (by omega), set_map_app (by simp [hN] <;> omega)]; exact List.Sublist.refl _
      · skip
        refine s_q rfl (y_pick1 rfl rfl) ?_; refine s_n ?_; refine tk_cond0 rfl ?_; refine tk_exit ?_; refine tk_then_exit ?_; refine tk_then_exit ?_; refine tk_in_hit ?_
        exact tk_to () trivial (by repeat (first | exact trivial | refine ⟨rfl, ?_⟩)) (by rw [plus_at (k := k) (by omega) (by omega)]; exact List.Sublist.refl _)
    · skip
      refine s_q rfl (y_move rfl) ?_; refine tk_gno rfl rfl rfl ?_; refine tk_gno rfl rfl rfl ?_; refine s_q rfl (y_pick0 rfl rfl) ?_; refine s_n ?_; refine tk_cond0 rfl ?_; refine tk_exit ?_; refine tk_then_exit ?_; refine tk_then_exit ?_; refine tk_in_hit ?_
      exact tk_to () trivial (by repeat (first | exact trivial | refine ⟨rfl, ?_⟩)) (by rw [plus_at (k := k) (by omega) (by omega)]; exact List.Sublist.refl _)
  · intro _ _
    refine s_r ?_; refine s_q rfl (y_move rfl) ?_; refine s_q rfl (y_str (l := plus N n) rfl rfl rfl rfl (fun w hw => cel_rd (o := 0) (hw.mem (.head _)) (by simp) (by rw [List.length_map, plus_len]) (by omega))) ?_; refine s_q rfl (y_assign rfl) ?_; refine s_n ?_; refine tk_retc ?_
    exact tk_ret () trivial (.inl rfl) (r1 rfl rfl) (List.nil_sublist _)
theorem times_spec (a b : Nat) (w : World) (ha : a < 256) (hb : b < 256) : Spec Tryz.prog 114 [I (a : Int), I (b : Int)] w [] (fun _ : Unit => True) (fun _ => I (timesN a b : Int)) (fun _ => []) := by
  refine spec_of (n := 37) Tryz.func114 rfl rfl trivial trivial rfl ?_; refine s_r ?_; refine s_q rfl (y_assign rfl) ?_; refine s_n ?_; refine s_r ?_; refine s_q rfl (y_assign rfl) ?_; refine s_n ?_; refine tk_seq ?_; refine s_r ?_; refine s_q rfl (y_assign rfl) ?_; refine s_n ?_; refine tk_block ?_; refine tk_loop (X := Nat) (fun k => k ≤ 8) (fun k => [(0, I (a : Int)), (1, I (b : Int)), (5, I (tmA a b k : Int)), (6, I (k : Int))]) (fun _ => []) (fun k => 8 - k) (0) (by omega) (by repeat (first | exact trivial | refine ⟨rfl, ?_⟩)) (List.Sublist.refl _) ?_
  intro k hI
  have hA := tmA_lt (b := b) ha hI
  refine tk_seq ?_; refine s_r ?_; refine s_q rfl (y_move rfl) ?_; refine s_q rfl (y_lss rfl rfl) ?_; refine s_n ?_; refine tk_condP rfl (fun h9 => ?_) (fun h9 => ?_)
  · skip
    have hk7 : k ≤ 7 := by omega
    refine tk_skip ?_; refine tk_then ?_; refine tk_seqI (X := Unit) (fun _ => True) (fun _ => [(0, I (a : Int)), (1, I (b : Int)), (5, I (tmA a b (k + 1) : Int)), (6, I (k : Int))]) (fun _ => []) ?_ ?_
    · skip
      refine tk_block ?_; refine s_r ?_; refine s_q rfl (y_move rfl) ?_; refine s_q rfl (y_move rfl) ?_; refine s_q rfl (y_shrI rfl rfl (by omega)) ?_; refine s_q rfl (y_and1 rfl rfl (by have := Nat.div_le_self b (2 ^ k); omega)) ?_; refine s_q rfl (y_eql rfl rfl) ?_; refine s_n ?_; refine tk_condP rfl (fun h16 => ?_) (fun h16 => ?_)
      · skip
        refine tk_region ?_; refine s_q rfl (y_move rfl) ?_; refine s_q rfl (y_move rfl) ?_; refine s_q rfl (y_move rfl) ?_; refine s_q rfl (y_shlI rfl rfl (by omega) (by have := sl7 ha hk7; omega)) ?_; refine s_q rfl (y_xorN rfl rfl ⟨by omega, by have := sl7 ha hk7; omega⟩) ?_; refine s_q rfl (y_assign rfl) ?_; refine tk_nil ?_; refine tk_in_normal ?_
        exact tk_to () trivial ⟨rfl, rfl, by rw [tmA_on (by omega)]; rfl, rfl, trivial⟩ (List.Sublist.refl _)
      · skip
        refine tk_skip ?_; refine tk_in_normal ?_
        exact tk_to () trivial ⟨rfl, rfl, by rw [tmA_off (by omega)]; rfl, rfl, trivial⟩ (List.Sublist.refl _)
    · intro _ _
      refine tk_region ?_; refine s_q rfl (y_move rfl) ?_; refine tk_qe (I ((k + 1 : Nat) : Int)) rfl rfl rfl (y_addI rfl rfl (by omega)) (by congr 1) ?_; refine s_q rfl (y_assign rfl) ?_; refine tk_nil ?_
      exact tk_again (k + 1) (by omega) (by omega) (by repeat (first | exact trivial | refine ⟨rfl, ?_⟩)) (List.Sublist.refl _)
  · skip
    obtain rfl : k = 8 := by omega
    refine tk_exit ?_; refine tk_then_exit ?_; refine tk_then_exit ?_; refine tk_in_hit ?_; refine tk_then ?_; refine tk_seq ?_; refine s_r ?_; refine s_q rfl (y_assign rfl) ?_; refine s_n ?_; refine tk_block ?_; refine tk_loop (X := Nat) (fun k => k ≤ 7) (fun k => [(0, I (a : Int)), (1, I (b : Int)), (5, I (tmB (tmA a b 8) k : Int)), (7, I ((14 - k : Nat) : Int))]) (fun _ => []) (fun k => 7 - k) (0) (by omega) (by repeat (first | exact trivial | refine ⟨rfl, ?_⟩)) (List.Sublist.refl _) ?_
    intro k hI
    have hB := tmB_lt (tmA_lt (b := b) ha (Nat.le_refl 8)) hI
    refine tk_seq ?_; refine s_r ?_; refine s_q rfl (y_move rfl) ?_; refine s_q rfl (y_geq rfl rfl) ?_; refine s_n ?_; refine tk_condP rfl (fun h23 => ?_) (fun h23 => ?_)
    · skip
      have hk6 : k ≤ 6 := by omega
      refine tk_skip ?_; refine tk_then ?_; refine tk_seqI (X := Unit) (fun _ => True) (fun _ => [(0, I (a : Int)), (1, I (b : Int)), (5, I (tmB (tmA a b 8) (k + 1) : Int)), (7, I ((14 - k : Nat) : Int))]) (fun _ => []) ?_ ?_
      · skip
        refine tk_block ?_; refine s_r ?_; refine s_q rfl (y_move rfl) ?_; refine s_q rfl (y_move rfl) ?_; refine s_q rfl (y_shrI rfl rfl (by omega)) ?_; refine s_q rfl (y_and1 rfl rfl (by have := Nat.div_le_self (tmB (tmA a b 8) k) (2 ^ (14 - k)); omega)) ?_; refine s_q rfl (y_eql rfl rfl) ?_; refine s_n ?_; refine tk_condP rfl (fun h30 => ?_) (fun h30 => ?_)
        · skip
          refine tk_region ?_; refine s_q rfl (y_move rfl) ?_; refine s_q rfl (y_move rfl) ?_; refine tk_qe (I ((6 - k : Nat) : Int)) rfl rfl rfl (y_subI rfl rfl (by omega)) (by congr 1; omega) ?_; refine s_q rfl (y_shlI (a := 283) rfl rfl (by omega) (by have := p6 k; omega)) ?_; refine s_q rfl (y_xorN rfl rfl ⟨by omega, by have := p6 k; omega⟩) ?_; refine s_q rfl (y_assign rfl) ?_; refine tk_nil ?_
          refine tk_in_normal ?_
          exact tk_to () trivial ⟨rfl, rfl, by rw [tmB_on (by omega)]; rfl, rfl, trivial⟩ (List.Sublist.refl _)
        · skip
          refine tk_skip ?_; refine tk_in_normal ?_
          exact tk_to () trivial ⟨rfl, rfl, by rw [tmB_off (by omega)]; rfl, rfl, trivial⟩ (List.Sublist.refl _)
      · intro _ _
        refine tk_region ?_; refine s_q rfl (y_move rfl) ?_; refine tk_qe (I ((14 - (k + 1) : Nat) : Int)) rfl rfl rfl (y_subI rfl rfl (by omega)) (by congr 1; omega) ?_; refine s_q rfl (y_assign rfl) ?_; refine tk_nil ?_
        exact tk_again (k + 1) (by omega) (by omega) (by repeat (first | exact trivial | refine ⟨rfl, ?_⟩)) (List.Sublist.refl _)
    · skip
      obtain rfl : k = 7 := by omega
      refine tk_exit ?_; refine tk_then_exit ?_; refine tk_then_exit ?_; refine tk_in_hit ?_; refine tk_then ?_; refine s_r ?_; refine s_q rfl (y_move rfl) ?_; refine s_q rfl (y_assign rfl) ?_; refine s_n ?_; refine tk_retc ?_
      exact tk_ret () trivial (.inl rfl) (r1 rfl rfl) (List.Sublist.refl _)
end Go.Proofs.YtkkjfojgjmglpaaGreatDoor.Cip
set_option linter.unusedSimpArgs false
set_option linter.unusedVariables false
namespace Go.Proofs.YtkkjfojgjmglpaaGreatDoor.Cip
theorem box_fwd : (List.range 256).map boxN = fwd.map UInt8.toNat := by kernel_rfl
end Go.Proofs.YtkkjfojgjmglpaaGreatDoor.Cip
set_option linter.unusedSimpArgs false
set_option linter.unusedVariables false
namespace Go.Proofs.YtkkjfojgjmglpaaGreatDoor.Cip
open Go Go.RowKit
set_option maxRecDepth 100000
abbrev II (u : UInt8) : Value := I (u.toNat : Int)
def bxTo (x : Nat) : List Value := (List.range x).map (fun i => I (boxN i : Int)) ++ List.replicate (256 - x) (I 0)
theorem bx_set {x : Nat} (h : x < 256) : (bxTo x).set x (I (boxN x : Int)) = bxTo (x + 1) := by
  unfold bxTo
  rw [List.set_append_right _ _ (by simp)]
  simp only [List.length_map, List.length_range, Nat.sub_self, List.range_succ, List.map_append, List.append_assoc]
  rw [show 256 - x = (256 - (x + 1)) + 1 by omega, List.replicate_succ]; rfl
theorem bx_all : bxTo 256 = fwd.map II := by
  have h := congrArg (List.map fun n : Nat => I (n : Int)) box_fwd
  rw [List.map_map, List.map_map] at h
  unfold bxTo
  rw [Nat.sub_self, List.replicate_zero, List.append_nil]; exact h
theorem dl {v m : Nat} (h : v < 256) : v / 2 ^ m < 4611686018427387904 := by have := Nat.div_le_self v (2 ^ m); omega
theorem xl {a b : Nat} (ha : a < 4611686018427387904) (hb : b < 4611686018427387904) : a ^^^ b < 4611686018427387904 := xor_lt 62 ha hb
theorem mx_lt {v i : Nat} (h : i ≤ 7) : mixN v i < 256 := by
  have h1 := mixN_lt (v := v) (i := i)
  have h2 : 2 ^ i ≤ 2 ^ 7 := Nat.pow_le_pow_right (by decide) h
  omega
theorem invN_pos {x : Nat} (h : x ≠ 0) : invN x = invTo x 255 1 := by
  unfold invN
  have : Nat.beq x 0 = false := by
    cases hb : Nat.beq x 0 with
    | false => rfl
    | true => exact (h (Nat.eq_of_beq_eq_true hb)).elim
  rw [this]; rfl
theorem inv_hit {x y : Nat} (hy : y < 256) (h : timesN x y = 1) : invTo x (256 - y) y = y := by
  rw [show 256 - y = (255 - y) + 1 by omega]; simp only [invTo]; rw [h]; rfl
theorem inv_miss {x y : Nat} (hy : y < 256) (h : ¬ timesN x y = 1) : invTo x (256 - y) y = invTo x (256 - (y + 1)) (y + 1) := by
  rw [show 256 - y = (256 - (y + 1)) + 1 by omega]; simp only [invTo]
  have : Nat.beq (timesN x y) 1 = false := by
    cases hb : Nat.beq (timesN x y) 1 with
    | false => rfl
    | true => exact (h (Nat.eq_of_beq_eq_true hb)).elim
  rw [this]; rfl
theorem inv_end {x y : Nat} (hy : y = 256) (h : x ≠ 0 → invTo x (256 - y) y = invN x) : invN x = 0 := by
  subst hy
  by_cases h0 : x = 0
  · subst h0; rfl
  · rw [← h h0]; rfl
theorem kcell {v : Value} {W : List UInt8} {o m : Nat} (ho : o = 1 + m) (hm : m < W.length) : (v :: W.map II)[o]? = some (II (W.getD m 0)) := by
  subst ho
  rw [Nat.add_comm, List.getElem?_cons_succ, List.getElem?_map, List.getElem?_eq_getElem hm, List.getD_eq_getElem?_getD, List.getElem?_eq_getElem hm]; rfl
theorem kset {v : Value} {W : List UInt8} {o m : Nat} {u : UInt8} (ho : o = 1 + m) : v :: (W.set m u).map II = (v :: W.map II).set o (II u) := by
  subst ho
  rw [Nat.add_comm, List.set_cons_succ, List.map_set]
theorem ref_same {b : List UInt8} {i : Nat} (h : i < 8 ∨ ¬ i % 8 = 0) : (refW b (i + 1)).2 = (refW b i).2 := by
  rcases Nat.lt_or_ge i 8 with h1 | h1
  · rw [refW_lo (by omega), refW_lo (by omega)]
  · obtain ⟨n, rfl⟩ : ∃ n, i = n + 8 := ⟨i - 8, by omega⟩
    rw [show n + 8 + 1 = (n + 1) + 8 by omega, refW_hi, refW_hi, con_same (by omega)]
theorem fcell (u : UInt8) : (fwd.map II)[u.toNat]? = some (II (sbox u)) := by rw [List.getElem?_map, sbox_at]; rfl
section
variable {P : Program} {n : Nat} {S : World → Prop} {L : Sl} {dst : Option Tmp} {rty : TypeId} {pos : String} {af : Array Edge} {gd : Option (Nat × Bool)} {t t' : TypeId} {x y : Operand}
theorem y_xorII {a b : UInt8} (hx : ev L x = some (II a)) (hy : ev L y = some (II b)) : Y P n S L ⟨dst, .binOp .xor t x y t', rty, pos, af, gd⟩ (II (a ^^^ b)) :=
  (y_xorN hx hy ⟨by have := b_lt a; omega, by have := b_lt b; omega⟩).cast (by rw [← UInt8.toNat_xor])
end
set_option maxHeartbeats 1000000 in
theorem box_spec (w : World) : Spec Tryz.prog 113 [] w [] (fun _ : Nat => True) (fun b => .slice (some ⟨b, 0, none⟩) 256 256) (fun b => [cel b (fwd.map II) 3]) := by
  refine spec_of (n := 71) Tryz.func113 rfl rfl trivial trivial rfl ?_; refine s_r ?_; refine s_q rfl (y_assign rfl) ?_; refine s_n ?_; refine s_r ?_; refine tk_act rfl ?_; refine a_make (m := 256) (z := I 0) (bytes := 8) rfl rfl rfl ⟨_, rfl, rfl, rfl, rfl⟩ rfl rfl (by omega) fun b8 => ?_; refine s_q rfl (y_assign rfl) ?_; refine s_n ?_; refine tk_seq ?_; refine s_r ?_; refine s_q rfl (y_assign rfl) ?_
  refine s_n ?_; refine tk_block ?_; refine tk_loop (X := Nat) (fun x => x ≤ 256) (fun x => [(1, .slice (some ⟨b8, 0, none⟩) 256 256), (2, I (x : Int))]) (fun x => [cel b8 (bxTo x) 3]) (fun x => 256 - x) (0) (by omega) (by repeat (first | exact trivial | refine ⟨rfl, ?_⟩)) (List.Sublist.refl _) ?_
  intro x hI
  refine tk_seq ?_; refine s_r ?_; refine s_q rfl (y_move rfl) ?_; refine s_q rfl (y_lss rfl rfl) ?_; refine s_n ?_; refine tk_condP rfl (fun h10 => ?_) (fun h10 => ?_)
  · skip
    refine tk_skip ?_; refine tk_then ?_; refine tk_seq ?_; refine tk_block ?_; refine s_r ?_; refine s_q rfl (y_assign rfl) ?_; refine s_n ?_; refine tk_seqI (X := Unit) (fun _ => True) (fun _ => [(1, .slice (some ⟨b8, 0, none⟩) 256 256), (2, I (x : Int)), (3, I (invN x : Int))]) (fun _ => [cel b8 (bxTo x) 3]) ?_ ?_
    · skip
      refine s_r ?_; refine s_q rfl (y_assign rfl) ?_; refine s_n ?_; refine tk_block ?_; refine tk_loop (X := Nat) (fun y => 1 ≤ y ∧ y ≤ 256 ∧ (x ≠ 0 → invTo x (256 - y) y = invN x)) (fun y => [(1, .slice (some ⟨b8, 0, none⟩) 256 256), (2, I (x : Int)), (3, I 0), (4, I (y : Int))]) (fun y => [cel b8 (bxTo x) 3]) (fun y => 256 - y) (1) (⟨Nat.le_refl _, by omega, fun h => (invN_pos h).symm⟩) (by repeat (first | exact trivial | refine ⟨rfl, ?_⟩)) (List.Sublist.refl _) ?_
      rintro y ⟨hy1, hy2, hy3⟩
      refine tk_seq ?_; refine s_r ?_; refine s_q rfl (y_move rfl) ?_; refine tk_qs rfl rfl rfl (y_lss rfl rfl) (fun hs7_1 => ?_) (fun hs7_1 => ?_)
      · skip
        refine s_q rfl (y_move rfl) ?_; refine s_g rfl (y_move rfl) ?_; refine tk_gqs rfl rfl rfl (y_gtr rfl rfl) (fun hs7_4 => ?_) (fun hs7_4 => ?_)
        · skip
          refine s_q rfl (y_pick1 rfl rfl) ?_; refine s_n ?_; refine tk_cond1 rfl ?_; refine tk_skip ?_; refine tk_then ?_; refine tk_seq ?_; refine tk_block ?_; refine s_r ?_; refine s_q rfl (y_move rfl) ?_; refine s_q rfl (y_move rfl) ?_; refine tk_act rfl ?_; refine a_callv [] _ rfl (by kernel_rfl) rfl (fun w' hw' => times_spec x y w' (by omega) (by omega)) rfl fun _ _ => ?_; refine s_q rfl (y_eql rfl rfl) ?_
          refine s_n ?_; refine tk_condP rfl (fun h24 => ?_) (fun h24 => ?_)
          · skip
            refine s_r ?_; refine s_q rfl (y_move rfl) ?_; refine s_q rfl (y_assign rfl) ?_; refine s_n ?_; refine tk_exit ?_; refine tk_in_miss rfl ?_; refine tk_then_exit ?_; refine tk_then_exit ?_; refine tk_in_hit ?_
            exact tk_to () trivial ⟨rfl, rfl, by rw [← hy3 (by omega), inv_hit (by omega) (by omega)]; rfl, trivial⟩ (List.Sublist.refl _)
          · skip
            refine tk_skip ?_; refine tk_in_normal ?_; refine tk_then ?_; refine tk_region ?_; refine s_q rfl (y_move rfl) ?_; refine tk_qe (I ((y + 1 : Nat) : Int)) rfl rfl rfl (y_addI rfl rfl (by omega)) (by congr 1) ?_; refine s_q rfl (y_assign rfl) ?_; refine tk_nil ?_
            exact tk_again (y + 1) ⟨by omega, by omega, fun h => by rw [← hy3 h]; exact (inv_miss (by omega) (by omega)).symm⟩ (by omega) (by repeat (first | exact trivial | refine ⟨rfl, ?_⟩)) (List.Sublist.refl _)
        · skip
          refine s_q rfl (y_pick1 rfl rfl) ?_; refine s_n ?_; refine tk_cond0 rfl ?_; refine tk_exit ?_; refine tk_then_exit ?_; refine tk_then_exit ?_; refine tk_in_hit ?_
          exact tk_to () trivial ⟨rfl, rfl, by rw [show x = 0 by omega]; rfl, trivial⟩ (List.Sublist.refl _)
      · skip
        refine s_q rfl (y_move rfl) ?_; refine tk_gno rfl rfl rfl ?_; refine tk_gno rfl rfl rfl ?_; refine s_q rfl (y_pick0 rfl rfl) ?_; refine s_n ?_; refine tk_cond0 rfl ?_; refine tk_exit ?_; refine tk_then_exit ?_; refine tk_then_exit ?_; refine tk_in_hit ?_
        exact tk_to () trivial ⟨rfl, rfl, by rw [inv_end (by omega) hy3]; rfl, trivial⟩ (List.Sublist.refl _)
    · intro _ _
      have hv := invN_lt (x := x)
      generalize hvx : invN x = v at hv ⊢
      refine s_r ?_; refine s_q rfl (y_assign rfl) ?_; refine s_n ?_; refine tk_seq ?_; refine s_r ?_; refine s_q rfl (y_assign rfl) ?_; refine s_n ?_; refine tk_block ?_; refine tk_loop (X := Nat) (fun i => i ≤ 8) (fun i => [(1, .slice (some ⟨b8, 0, none⟩) 256 256), (2, I (x : Int)), (3, I (v : Int)), (5, I (mixN v i : Int)), (6, I (i : Int))]) (fun i => [cel b8 (bxTo x) 3]) (fun i => 8 - i) (0) (by omega) (by repeat (first | exact trivial | refine ⟨rfl, ?_⟩)) (List.Sublist.refl _) ?_
      intro i hI
      refine tk_seq ?_; refine s_r ?_; refine s_q rfl (y_move rfl) ?_; refine s_q rfl (y_lss rfl rfl) ?_; refine s_n ?_; refine tk_condP rfl (fun h27 => ?_) (fun h27 => ?_)
      · skip
        have hi7 : i ≤ 7 := by omega
        refine tk_skip ?_; refine tk_then ?_; refine tk_seq ?_; refine tk_block ?_; refine tk_seq ?_; refine tk_drawS [] (by kernel_rfl) ?_; refine s_x 0 rfl (y_move rfl) ?_; refine s_x 1 rfl (y_move rfl) ?_; refine s_x 2 rfl (y_shrI rfl rfl (by omega)) ?_; refine s_x 3 rfl (y_move rfl) ?_; refine s_x 4 rfl (y_move rfl) ?_; refine s_x 5 rfl (y_addN (b := 4) rfl rfl (by omega)) ?_; refine s_x 6 rfl (y_remN (b := 8) rfl rfl (by omega)) ?_
        refine s_x 7 rfl (y_shrI rfl rfl (by omega)) ?_; refine s_x 8 rfl (y_xorN rfl rfl ⟨(dl hv), (dl hv)⟩) ?_; refine s_x 9 rfl (y_move rfl) ?_; refine s_x 10 rfl (y_move rfl) ?_; refine s_x 11 rfl (y_addN (b := 5) rfl rfl (by omega)) ?_; refine s_x 12 rfl (y_remN (b := 8) rfl rfl (by omega)) ?_; refine s_x 13 rfl (y_shrI rfl rfl (by omega)) ?_; refine s_x 14 rfl (y_xorN rfl rfl ⟨(xl (dl hv) (dl hv)), (dl hv)⟩) ?_
        refine s_x 15 rfl (y_move rfl) ?_; refine s_x 16 rfl (y_move rfl) ?_; refine s_x 17 rfl (y_addN (b := 6) rfl rfl (by omega)) ?_; refine s_x 18 rfl (y_remN (b := 8) rfl rfl (by omega)) ?_; refine s_x 19 rfl (y_shrI rfl rfl (by omega)) ?_; refine s_x 20 rfl (y_xorN rfl rfl ⟨(xl (xl (dl hv) (dl hv)) (dl hv)), (dl hv)⟩) ?_; refine s_x 21 rfl (y_move rfl) ?_; refine s_x 22 rfl (y_move rfl) ?_; refine s_x 23 rfl (y_addN (b := 7) rfl rfl (by omega)) ?_
        refine s_x 24 rfl (y_remN (b := 8) rfl rfl (by omega)) ?_; refine s_x 25 rfl (y_shrI rfl rfl (by omega)) ?_; refine s_x 26 rfl (y_xorN rfl rfl ⟨(xl (xl (xl (dl hv) (dl hv)) (dl hv)) (dl hv)), (dl hv)⟩) ?_; refine s_x 27 rfl (y_move rfl) ?_; refine s_x 28 rfl (y_shrI (a := 99) rfl rfl (by omega)) ?_; refine s_x 29 rfl (y_xorN rfl rfl ⟨(xl (xl (xl (xl (dl hv) (dl hv)) (dl hv)) (dl hv)) (dl hv)), (dl (by decide))⟩) ?_
        refine s_x 30 rfl (y_assign rfl) ?_; refine tx_done (by kernel_rfl) ?_; refine tk_then ?_; refine tk_region ?_; refine s_q rfl (y_move rfl) ?_; refine s_q rfl (y_move rfl) ?_; refine s_q rfl (y_remN (b := 2) rfl rfl (by omega)) ?_; refine s_q rfl (y_move rfl) ?_; refine s_q rfl (y_shlI rfl rfl (by omega) (by have := sl7 (a := bit1 v i) (by simp only [bit1]; omega) hi7; simp only [bit1] at this; omega)) ?_
        refine s_q rfl (y_addN rfl rfl (by have := sl7 (a := bit1 v i) (by simp only [bit1]; omega) hi7; simp only [bit1] at this; have := mx_lt (v := v) hi7; omega)) ?_; refine s_q rfl (y_assign rfl) ?_; refine tk_nil ?_; refine tk_in_normal ?_; refine tk_then ?_; refine tk_region ?_; refine s_q rfl (y_move rfl) ?_; refine tk_qe (I ((i + 1 : Nat) : Int)) rfl rfl rfl (y_addI rfl rfl (by omega)) (by congr 1) ?_
        refine s_q rfl (y_assign rfl) ?_; refine tk_nil ?_
        exact tk_again (i + 1) (by omega) (by omega) (by repeat (first | exact trivial | refine ⟨rfl, ?_⟩)) (List.Sublist.refl _)
      · skip
        obtain rfl : i = 8 := by omega
        refine tk_exit ?_; refine tk_then_exit ?_; refine tk_then_exit ?_; refine tk_in_hit ?_; refine tk_then ?_; refine tk_region ?_; refine s_q rfl (y_move rfl) ?_; refine s_q rfl (y_move rfl) ?_; refine s_q rfl (y_move rfl) ?_; refine s_q rfl (y_ixS01 (i := x) rfl rfl (by kernel_rfl) (by omega)) ?_; refine tk_act rfl ?_; refine a_store1 (H1 := []) rfl rfl (by kernel_rfl) rfl rfl (by simp [bxTo] <;> omega) ?_
        refine tk_nil ?_; refine tk_in_normal ?_; refine tk_then ?_; refine tk_region ?_; refine s_q rfl (y_move rfl) ?_; refine tk_qe (I ((x + 1 : Nat) : Int)) rfl rfl rfl (y_addI rfl rfl (by omega)) (by congr 1) ?_; refine s_q rfl (y_assign rfl) ?_; refine tk_nil ?_
        exact tk_again (x + 1) (by omega) (by omega) (by repeat (first | exact trivial | refine ⟨rfl, ?_⟩)) (by rw [← bx_set (by omega)]; unfold boxN; rw [hvx]; exact List.Sublist.refl _)
  · skip
    obtain rfl : x = 256 := by omega
    refine tk_exit ?_; refine tk_then_exit ?_; refine tk_then_exit ?_; refine tk_in_hit ?_; refine tk_then ?_; refine s_r ?_; refine s_q rfl (y_move rfl) ?_; refine s_q rfl (y_assign rfl) ?_; refine s_n ?_; refine tk_retc ?_
    exact tk_ret b8 trivial (.inl rfl) (r1 rfl rfl) (by rw [bx_all]; exact List.Sublist.refl _)
attribute [local irreducible] expW refW inW keyW tv
set_option maxHeartbeats 1000000 in
theorem rmake_spec (b : List UInt8) (w : World) (hb : b.length = 32) : Spec Tryz.prog 67 [Str b] w [] (fun _ : Nat × Nat => True) (fun x => .pointer (some ⟨x.1, 0, none⟩)) (fun x => [cel x.1 (.slice (some ⟨x.2, 0, none⟩) 256 256 :: (keyW b).map II) 231, cel x.2 (fwd.map II) 3]) := by
  refine spec_of (n := 107) Tryz.func67 rfl rfl trivial trivial rfl ?_; refine s_r ?_; refine s_q rfl (y_assign rfl) ?_; refine s_n ?_; refine s_r ?_; refine tk_act rfl ?_; refine a_callv [] _ rfl (by kernel_rfl) rfl (fun w' hw' => box_spec w') rfl fun bb _ => ?_; refine s_q rfl (y_build (v := .agg ((.slice (some ⟨bb, 0, none⟩) 256 256) :: (List.replicate 240 0).map II).toArray) rfl (fun _ => by kernel_rfl)) ?_
  refine tk_act rfl ?_; refine a_boxL rfl rfl fun b10 => ?_; refine s_q rfl (y_assign rfl) ?_; refine s_n ?_; refine s_r ?_; refine s_q rfl (y_assign rfl) ?_; refine s_n ?_; refine tk_seq ?_; refine s_r ?_; refine s_q rfl (y_assign rfl) ?_; refine s_n ?_; refine tk_block ?_; refine tk_loop (X := Nat) (fun i => i ≤ 60) (fun i => [(0, Str b), (3, .pointer (some ⟨b10, 0, none⟩)), (4, II (refW b i).2), (5, I (i : Int))]) (fun i => [cel b10 ((.slice (some ⟨bb, 0, none⟩) 256 256) :: ((refW b i).1).map II) 231, cel bb (fwd.map II) 3]) (fun i => 60 - i) (0) (by omega) (by rw [ref0]; exact ⟨rfl, rfl, rfl, rfl, trivial⟩) (by rw [ref0]; exact List.Sublist.refl _) ?_
  intro i hI
  refine tk_seq ?_; refine s_r ?_; refine s_q rfl (y_move rfl) ?_; refine s_q rfl (y_lss rfl rfl) ?_; refine s_n ?_; refine tk_condP rfl (fun h12 => ?_) (fun h12 => ?_)
  · skip
    refine tk_skip ?_; refine tk_then ?_; refine tk_seqI (X := Unit) (fun _ => True) (fun _ => [(0, Str b), (3, .pointer (some ⟨b10, 0, none⟩)), (4, II (refW b (i + 1)).2), (5, I (i : Int))]) (fun _ => [cel b10 ((.slice (some ⟨bb, 0, none⟩) 256 256) :: ((refW b (i + 1)).1).map II) 231, cel bb (fwd.map II) 3]) ?_ ?_
    · skip
      refine tk_block ?_; refine tk_seq ?_; refine s_r ?_; refine s_q rfl (y_assign rfl) ?_; refine s_n ?_; refine tk_block ?_; refine tk_loop (X := Nat) (fun j => j ≤ 4) (fun j => [(0, Str b), (3, .pointer (some ⟨b10, 0, none⟩)), (4, II (refW b i).2), (5, I (i : Int)), (6, I (j : Int))]) (fun j => [cel b10 ((.slice (some ⟨bb, 0, none⟩) 256 256) :: (inW b i j).map II) 231, cel bb (fwd.map II) 3]) (fun j => 4 - j) (0) (by omega) (by repeat (first | exact trivial | refine ⟨rfl, ?_⟩)) (by rw [inW_zero]; exact List.Sublist.refl _) ?_
      intro j hJ
      refine tk_seq ?_; refine s_r ?_; refine s_q rfl (y_move rfl) ?_; refine s_q rfl (y_lss rfl rfl) ?_; refine s_n ?_; refine tk_condP rfl (fun h16 => ?_) (fun h16 => ?_)
      · skip
        refine tk_skip ?_; refine tk_then ?_; refine tk_seqI (X := Unit) (fun _ => True) (fun _ => [(0, Str b), (3, .pointer (some ⟨b10, 0, none⟩)), (4, II (refW b i).2), (5, I (i : Int)), (6, I (j : Int))]) (fun _ => [cel b10 ((.slice (some ⟨bb, 0, none⟩) 256 256) :: (inW b i (j + 1)).map II) 231, cel bb (fwd.map II) 3]) ?_ ?_
        · skip
          refine tk_block ?_; refine tk_seq ?_; refine s_r ?_; refine s_q rfl (y_move rfl) ?_; refine s_q rfl (y_lss rfl rfl) ?_; refine s_n ?_; refine tk_condP rfl (fun h20 => ?_) (fun h20 => ?_)
          · skip
            refine tk_seq ?_; refine tk_drawS [14] (by kernel_rfl) ?_; refine s_x 0 rfl (y_move rfl) ?_; refine s_x 1 rfl (y_move rfl) ?_; refine s_x 2 rfl (y_move rfl) ?_; refine s_x 3 rfl (y_move rfl) ?_; refine s_x 4 rfl (y_move rfl) ?_; refine s_x 5 rfl ((y_mulI rfl rfl (by omega)).cast (v := _) (u := I ((i * 4 : Nat) : Int)) (by congr 1; omega)) ?_; refine s_x 6 rfl (y_move rfl) ?_; refine s_x 7 rfl ((y_addI rfl rfl (by omega)).cast (v := _) (u := I ((i * 4 + j : Nat) : Int)) (by congr 1)) ?_
            refine s_x 8 rfl (y_ixT (i := i * 4 + j) rfl rfl rfl ⟨rfl, by omega⟩) ?_; refine s_x 9 rfl (y_conv8i rfl rfl rfl) ?_; refine s_x 10 rfl (y_nilCheck rfl) ?_; refine s_x 11 rfl (y_fldN 1 rfl (by kernel_rfl)) ?_; refine s_x 12 rfl (y_ixAN 60 4 rfl rfl (by kernel_rfl) (by omega)) ?_; refine s_x 13 rfl (y_ixAN1 4 rfl rfl (by kernel_rfl) (by omega)) ?_; refine tx_x 14 rfl (by kernel_rfl) rfl rfl ?_; refine a_store1 (H1 := []) rfl rfl (by kernel_rfl) rfl rfl (by simp [inW_len hb (show j ≤ 4 by omega)] <;> omega) ?_
            refine tx_done (by kernel_rfl) ?_; refine tk_then ?_; refine tk_exit ?_; refine tk_then_exit ?_; refine tk_in_hit ?_
            exact tk_to () trivial (by repeat (first | exact trivial | refine ⟨rfl, ?_⟩)) (by rw [inW_lo_succ hb (by omega) (by omega), kset (o := 0 + 1 + i * 4 + j) (m := i * 4 + j) (by omega)]; exact List.Sublist.refl _)
          · skip
            obtain ⟨n, rfl⟩ : ∃ n, i = n + 8 := ⟨i - 8, by omega⟩
            rw [refW_hi (b := b) (n := n)]
            refine tk_skip ?_; refine tk_then ?_; refine s_r ?_; refine s_q rfl (y_move rfl) ?_; refine s_q rfl (y_move rfl) ?_; refine tk_qe (I ((n + 7 : Nat) : Int)) rfl rfl rfl (y_subI rfl rfl (by omega)) (by congr 1; omega) ?_; refine s_q rfl (y_move rfl) ?_; refine s_q rfl (y_nilCheck rfl) ?_; refine s_q rfl (y_fldN 1 rfl (by kernel_rfl)) ?_; refine s_q rfl (y_ixAN 60 4 rfl rfl (by kernel_rfl) (by omega)) ?_
            refine s_q rfl (y_ixAN1 4 rfl rfl (by kernel_rfl) (by omega)) ?_; refine s_q rfl (y_load rfl rfl (hc (.head _) (kcell (m := (n + 7) * 4 + j) (by omega) (by rw [inW_len hb (by omega)]; omega)))) ?_; refine s_q rfl (y_assign rfl) ?_; refine s_n ?_; refine tk_seqI (X := Unit) (fun _ => True) (fun _ => [(0, Str b), (3, .pointer (some ⟨b10, 0, none⟩)), (4, II (expW b n).2), (5, I ((n + 8 : Nat) : Int)), (6, I (j : Int)), (7, II ((tv (expW b n).1 n (expW b n).2).getD j 0))]) (fun _ => [cel b10 ((.slice (some ⟨bb, 0, none⟩) 256 256) :: (inW b (n + 8) j).map II) 231, cel bb (fwd.map II) 3]) ?_ ?_
            · skip
              refine s_r ?_; refine s_q rfl (y_move rfl) ?_; refine s_q rfl (y_remN (b := 8) rfl rfl (by omega)) ?_; refine s_q rfl (y_eql rfl rfl) ?_; refine s_n ?_; refine tk_condP rfl (fun h46 => ?_) (fun h46 => ?_)
              · skip
                refine tk_seq ?_; refine tk_drawS [] (by kernel_rfl) ?_; refine s_x 0 rfl (y_move rfl) ?_; refine s_x 1 rfl (y_nilCheck rfl) ?_; refine s_x 2 rfl (y_fld0 rfl (by kernel_rfl)) ?_; refine s_l 3 rfl (fun _ h => h) (y_load rfl rfl (hc (.head _) rfl)) ?_; refine s_x 4 rfl (y_move rfl) ?_; refine s_x 5 rfl (y_move rfl) ?_; refine s_x 6 rfl ((y_subI rfl rfl (by omega)).cast (v := _) (u := I ((n + 7 : Nat) : Int)) (by congr 1; omega)) ?_
                refine s_x 7 rfl (y_move rfl) ?_; refine s_x 8 rfl ((y_addI rfl rfl (by omega)).cast (v := _) (u := I ((j + 1 : Nat) : Int)) (by congr 1)) ?_; refine s_x 9 rfl (y_remN (b := 4) rfl rfl (by omega)) ?_; refine s_x 10 rfl (y_nilCheck rfl) ?_; refine s_x 11 rfl (y_fldN 1 rfl (by kernel_rfl)) ?_; refine s_x 12 rfl (y_ixAN 60 4 rfl rfl (by kernel_rfl) (by omega)) ?_; refine s_x 13 rfl (y_ixAN1 4 rfl rfl (by kernel_rfl) (by omega)) ?_
                refine s_l 14 rfl (fun _ h => h) (y_load rfl rfl (hc (.head _) (kcell (m := (n + 7) * 4 + (j + 1) % 4) (by omega) (by rw [inW_len hb (by omega)]; omega)))) ?_; refine s_x 15 rfl (y_ixS01 (i := UInt8.toNat _) rfl rfl (by kernel_rfl) (b_lt _)) ?_; refine s_l 16 rfl (fun _ h => h) (y_load rfl rfl (hc (.tail _ (.head _)) (fcell _))) ?_; refine s_x 17 rfl (y_assign rfl) ?_; refine tx_done (by kernel_rfl) ?_
                refine tk_then ?_; refine s_r ?_; refine s_q rfl (y_move rfl) ?_; refine s_q rfl (y_eql rfl rfl) ?_; refine s_n ?_; refine tk_condP rfl (fun h65 => ?_) (fun h65 => ?_)
                · skip
                  refine tk_region ?_; refine s_q rfl (y_move rfl) ?_; refine s_q rfl (y_move rfl) ?_; refine s_q rfl (y_xorII rfl rfl) ?_; refine s_q rfl (y_assign rfl) ?_; refine tk_nil ?_
                  exact tk_to () trivial ⟨rfl, rfl, rfl, rfl, rfl, by rw [show j = 0 by omega, tv_at00 (by omega), ← inW_low (j := 0) (by omega)]; rfl, trivial⟩ (List.Sublist.refl _)
                · skip
                  refine tk_skip ?_
                  exact tk_to () trivial ⟨rfl, rfl, rfl, rfl, rfl, by rw [tv_at0 (by omega) (by omega) (by omega), ← inW_low (j := j) (by omega)]; rfl, trivial⟩ (List.Sublist.refl _)
              · skip
                refine s_r ?_; refine s_q rfl (y_move rfl) ?_; refine s_q rfl (y_remN (b := 8) rfl rfl (by omega)) ?_; refine s_q rfl (y_eql rfl rfl) ?_; refine s_n ?_; refine tk_condP rfl (fun h71 => ?_) (fun h71 => ?_)
                · skip
                  refine tk_region ?_; refine s_q rfl (y_move rfl) ?_; refine s_q rfl (y_nilCheck rfl) ?_; refine s_q rfl (y_fld0 rfl (by kernel_rfl)) ?_; refine s_q rfl (y_load rfl rfl (hc (.head _) rfl)) ?_; refine s_q rfl (y_move rfl) ?_; refine s_q rfl (y_ixS01 (i := UInt8.toNat _) rfl rfl (by kernel_rfl) (b_lt _)) ?_; refine s_q rfl (y_load rfl rfl (hc (.tail _ (.head _)) (fcell _))) ?_; refine s_q rfl (y_assign rfl) ?_
                  refine tk_nil ?_
                  exact tk_to () trivial ⟨rfl, rfl, rfl, rfl, rfl, by rw [tv_at4 (by omega) (by omega) (by omega) (by omega) (expW_len hb), ← inW_low (j := j) (by omega)]; rfl, trivial⟩ (List.Sublist.refl _)
                · skip
                  refine tk_skip ?_
                  exact tk_to () trivial ⟨rfl, rfl, rfl, rfl, rfl, by rw [tv_atx (by omega) (by omega) (by omega), ← inW_low (j := j) (by omega)]; rfl, trivial⟩ (List.Sublist.refl _)
            · intro _ _
              refine tk_drawS [18] (by kernel_rfl) ?_; refine s_x 0 rfl (y_move rfl) ?_; refine s_x 1 rfl (y_move rfl) ?_; refine s_x 2 rfl (y_move rfl) ?_; refine s_x 3 rfl (y_move rfl) ?_; refine s_x 4 rfl (y_move rfl) ?_; refine s_x 5 rfl ((y_subI rfl rfl (by omega)).cast (v := _) (u := I ((n : Nat) : Int)) (by congr 1; omega)) ?_; refine s_x 6 rfl (y_move rfl) ?_; refine s_x 7 rfl (y_nilCheck rfl) ?_
              refine s_x 8 rfl (y_fldN 1 rfl (by kernel_rfl)) ?_; refine s_x 9 rfl (y_ixAN 60 4 rfl rfl (by kernel_rfl) (by omega)) ?_; refine s_x 10 rfl (y_ixAN1 4 rfl rfl (by kernel_rfl) (by omega)) ?_; refine s_l 11 rfl (fun _ h => h) (y_load rfl rfl (hc (.head _) (kcell (m := n * 4 + j) (by omega) (by rw [inW_len hb (by omega)]; omega)))) ?_; refine s_x 12 rfl (y_move rfl) ?_; refine s_x 13 rfl (y_xorII rfl rfl) ?_
              refine s_x 14 rfl (y_nilCheck rfl) ?_; refine s_x 15 rfl (y_fldN 1 rfl (by kernel_rfl)) ?_; refine s_x 16 rfl (y_ixAN 60 4 rfl rfl (by kernel_rfl) (by omega)) ?_; refine s_x 17 rfl (y_ixAN1 4 rfl rfl (by kernel_rfl) (by omega)) ?_; refine tx_x 18 rfl (by kernel_rfl) rfl rfl ?_; refine a_store1 (H1 := []) rfl rfl (by kernel_rfl) rfl rfl (by simp [inW_len hb (show j ≤ 4 by omega)] <;> omega) ?_
              refine tx_done (by kernel_rfl) ?_; refine tk_in_normal ?_
              exact tk_to () trivial (by repeat (first | exact trivial | refine ⟨rfl, ?_⟩)) (by rw [inW_hi_succ, kset (o := 0 + 1 + (n + 8) * 4 + j) (m := (n + 8) * 4 + j) (by omega)]; exact List.Sublist.refl _)
        · intro _ _
          refine tk_region ?_; refine s_q rfl (y_move rfl) ?_; refine tk_qe (I ((j + 1 : Nat) : Int)) rfl rfl rfl (y_addI rfl rfl (by omega)) (by congr 1) ?_; refine s_q rfl (y_assign rfl) ?_; refine tk_nil ?_
          exact tk_again (j + 1) (by omega) (by omega) (by repeat (first | exact trivial | refine ⟨rfl, ?_⟩)) (List.Sublist.refl _)
      · skip
        obtain rfl : j = 4 := by omega
        refine tk_exit ?_; refine tk_then_exit ?_; refine tk_then_exit ?_; refine tk_in_hit ?_; refine tk_then ?_; refine s_r ?_; refine s_q rfl (y_move rfl) ?_; refine tk_qs rfl rfl rfl (y_geq rfl rfl) (fun hs19_1 => ?_) (fun hs19_1 => ?_)
        · skip
          refine s_q rfl (y_move rfl) ?_; refine s_g rfl (y_move rfl) ?_; refine s_g rfl (y_remN (b := 8) rfl rfl (by omega)) ?_; refine tk_gqs rfl rfl rfl (y_eql rfl rfl) (fun hs19_5 => ?_) (fun hs19_5 => ?_)
          · skip
            refine s_q rfl (y_pick1 rfl rfl) ?_; refine s_n ?_; refine tk_cond1 rfl ?_; refine tk_region ?_
            obtain ⟨n, rfl⟩ : ∃ n, i = n + 8 := ⟨i - 8, by omega⟩
            rw [refW_hi (b := b) (n := n)]
            refine s_q rfl (y_move rfl) ?_; refine tk_act rfl ?_; refine a_callv [] _ rfl (by kernel_rfl) rfl (fun w' hw' => times_spec (expW b n).2.toNat 2 w' (b_lt _) (by decide)) rfl fun _ _ => ?_; refine s_q rfl (y_assign rfl) ?_; refine tk_nil ?_; refine tk_in_normal ?_
            exact tk_to () trivial ⟨rfl, rfl, by rw [show n + 8 + 1 = (n + 1) + 8 by omega, refW_hi]; show some (I ((timesN (expW b n).2.toNat 2 : Nat) : Int)) = some (I (((expW b (n + 1)).2.toNat : Nat) : Int)); rw [con_twice (by omega) (by omega)], rfl, trivial⟩ (by rw [← inW_four]; exact List.Sublist.refl _)
          · skip
            refine s_q rfl (y_pick1 rfl rfl) ?_; refine s_n ?_; refine tk_cond0 rfl ?_; refine tk_skip ?_; refine tk_in_normal ?_
            exact tk_to () trivial ⟨rfl, rfl, by rw [ref_same (b := b) (by omega)]; rfl, rfl, trivial⟩ (by rw [← inW_four]; exact List.Sublist.refl _)
        · skip
          refine s_q rfl (y_move rfl) ?_; refine tk_gno rfl rfl rfl ?_; refine tk_gno rfl rfl rfl ?_; refine tk_gno rfl rfl rfl ?_; refine s_q rfl (y_pick0 rfl rfl) ?_; refine s_n ?_; refine tk_cond0 rfl ?_; refine tk_skip ?_; refine tk_in_normal ?_
          exact tk_to () trivial ⟨rfl, rfl, by rw [ref_same (b := b) (by omega)]; rfl, rfl, trivial⟩ (by rw [← inW_four]; exact List.Sublist.refl _)
    · intro _ _
      refine tk_region ?_; refine s_q rfl (y_move rfl) ?_; refine tk_qe (I ((i + 1 : Nat) : Int)) rfl rfl rfl (y_addI rfl rfl (by omega)) (by congr 1) ?_; refine s_q rfl (y_assign rfl) ?_; refine tk_nil ?_
      exact tk_again (i + 1) (by omega) (by omega) (by repeat (first | exact trivial | refine ⟨rfl, ?_⟩)) (List.Sublist.refl _)
  · skip
    obtain rfl : i = 60 := by omega
    refine tk_exit ?_; refine tk_then_exit ?_; refine tk_then_exit ?_; refine tk_in_hit ?_; refine tk_then ?_; refine s_r ?_; refine s_q rfl (y_move rfl) ?_; refine s_q rfl (y_assign rfl) ?_; refine s_n ?_; refine tk_retc ?_
    exact tk_ret (b10, bb) trivial (.inl rfl) (r1 rfl rfl) (by rw [ref60]; exact List.Sublist.refl _)
end Go.Proofs.YtkkjfojgjmglpaaGreatDoor.Cip
set_option linter.unusedSimpArgs false
set_option linter.unusedVariables false
namespace Go.Proofs.YtkkjfojgjmglpaaGreatDoor.Cip
open Go Go.RowKit
set_option maxRecDepth 100000
attribute [local irreducible] turn plus keyW hideL rfTo
/-- the reference's key, as it lies in memory -/
def RK (w : World) (kb bb : Nat) (K : List UInt8) : Prop := w.cell? ⟨kb, 0, none⟩ = some (.slice (some ⟨bb, 0, none⟩) 256 256) ∧ (∀ m, m < 240 → w.cell? ⟨kb, 1 + m, none⟩ = some (II (K.getD m 0))) ∧ ∀ u : UInt8, w.cell? ⟨bb, u.toNat, none⟩ = some (II (sbox u))
theorem rkK {w : World} {kb bb : Nat} {K : List UInt8} (h : RK w kb bb K) {o m : Nat} (ho : o = 1 + m) (hm : m < 240) : w.cell? ⟨kb, o, none⟩ = some (II (K.getD m 0)) := by subst ho; exact h.2.1 m hm
theorem icell {W : List UInt8} {o m : Nat} (ho : o = m) (hm : m < W.length) : (W.map II)[o]? = some (II (W.getD m 0)) := by
  subst ho
  rw [List.getElem?_map, List.getElem?_eq_getElem hm, List.getD_eq_getElem?_getD, List.getElem?_eq_getElem hm]; rfl
theorem iset {W : List UInt8} {o m : Nat} {u : UInt8} (ho : o = m) : (W.set m u).map II = (W.map II).set o (II u) := by subst ho; rw [List.map_set]
theorem oneI {l : List UInt8} : ∀ u ∈ l.map II, u.oneCell' = true := by
  intro u hu
  obtain ⟨a, _, rfl⟩ := List.mem_map.1 hu
  rfl
theorem mxb_at {U : List UInt8} {c r : Nat} (hr : r < 4) : mxb U (c * 4 + r) = twice8 (U.getD (c * 4 + r) 0) ^^^ (twice8 (U.getD (c * 4 + (r + 1) % 4) 0) ^^^ U.getD (c * 4 + (r + 1) % 4) 0) ^^^ U.getD (c * 4 + (r + 2) % 4) 0 ^^^ U.getD (c * 4 + (r + 3) % 4) 0 := by
  unfold mxb
  rw [show (c * 4 + r) / 4 = c by omega, show (c * 4 + r) % 4 = r by omega]
theorem own_tk {v : Value} {F : List UInt8} {i : Nat} {e : TypeId} (h : i < F.length) : ownB v (F.take (i + 1)) e = own v ((F.take i).length + 1) ((F.take i).map B ++ [B (F.getD i 0)]) e 1 := by
  have e1 : F.take (i + 1) = F.take i ++ [F.getD i 0] := by
    rw [List.take_add_one, List.getElem?_eq_getElem h, List.getD_eq_getElem?_getD, List.getElem?_eq_getElem h]; rfl
  simp only [ownB, e1, List.map_append, List.length_append]; rfl
theorem times2_spec (u : UInt8) (w : World) : Spec Tryz.prog 114 [II u, I 2] w [] (fun _ : Unit => True) (fun _ => II (twice8 u)) (fun _ => []) := by
  have h := times_spec u.toNat 2 w (b_lt u) (by decide)
  rw [times2] at h; exact h
theorem times3_spec (u : UInt8) (w : World) : Spec Tryz.prog 114 [II u, I 3] w [] (fun _ : Unit => True) (fun _ => II (twice8 u ^^^ u)) (fun _ => []) := by
  have h := times_spec u.toNat 3 w (b_lt u) (by decide)
  rw [times3] at h; exact h
set_option maxHeartbeats 2000000 in
theorem rturn_spec (kb bb : Nat) (K V : List UInt8) (w : World) (hV : V.length = 16) (hk : RK w kb bb K) : Spec Tryz.prog 115 [.pointer (some ⟨kb, 0, none⟩), Str V] w [] (fun _ : Unit => True) (fun _ => Str (turn K V)) (fun _ => []) := by
  refine spec_of (n := 165) Tryz.func115 rfl rfl trivial trivial rfl ?_; refine s_r ?_; refine s_q rfl (y_assign rfl) ?_; refine s_n ?_; refine s_r ?_; refine tk_act rfl ?_; refine a_allocL (cs := (List.replicate 16 0).map II) (by kernel_rfl) rfl fun b5 => ?_; refine s_n ?_; refine tk_seq ?_; refine s_r ?_; refine s_q rfl (y_assign rfl) ?_; refine s_n ?_; refine tk_block ?_; refine tk_loop (X := Nat) (fun i => i ≤ 16) (fun i => [(0, .pointer (some ⟨kb, 0, none⟩)), (5, .pointer (some ⟨b5, 0, none⟩)), (1, Str V), (6, I (i : Int))]) (fun i => [cel b5 ((adTo K 0 V (List.replicate 16 0) i).map II) 271]) (fun i => 16 - i) (0) (by omega) (by repeat (first | exact trivial | refine ⟨rfl, ?_⟩)) (List.Sublist.refl _) ?_
  intro i hI
  refine tk_seq ?_; refine s_r ?_; refine s_q rfl (y_move rfl) ?_; refine s_q rfl (y_lss rfl rfl) ?_; refine s_n ?_; refine tk_condP rfl (fun h19 => ?_) (fun h19 => ?_)
  · skip
    refine tk_skip ?_; refine tk_then ?_; refine tk_seq ?_; refine tk_block ?_; refine tk_drawS [21] (by kernel_rfl) ?_; refine s_x 0 rfl (y_move rfl) ?_; refine s_x 1 rfl (y_quoN (b := 4) rfl rfl (by omega)) ?_; refine s_x 2 rfl (y_move rfl) ?_; refine s_x 3 rfl (y_remN (b := 4) rfl rfl (by omega)) ?_; refine s_x 4 rfl (y_move rfl) ?_; refine s_x 5 rfl (y_move rfl) ?_; refine s_x 6 rfl (y_ixT (i := i) rfl rfl rfl ⟨rfl, by omega⟩) ?_
    refine s_x 7 rfl (y_conv8i rfl rfl rfl) ?_; refine s_x 8 rfl (y_move rfl) ?_; refine s_x 9 rfl (y_move rfl) ?_; refine s_x 10 rfl (y_quoN (b := 4) rfl rfl (by omega)) ?_; refine s_x 11 rfl (y_move rfl) ?_; refine s_x 12 rfl (y_remN (b := 4) rfl rfl (by omega)) ?_; refine s_x 13 rfl (y_nilCheck rfl) ?_; refine s_x 14 rfl (y_fldN 1 rfl (by kernel_rfl)) ?_; refine s_x 15 rfl (y_ixAN 60 4 rfl rfl (by kernel_rfl) (by omega)) ?_
    refine s_x 16 rfl (y_ixAN1 4 rfl rfl (by kernel_rfl) (by omega)) ?_; refine s_l 17 rfl (fun _ h => h) (y_load rfl rfl (hro (rkK hk (m := 16 * 0 + i) (by omega) (by omega)) (fun h => h))) ?_; refine s_x 18 rfl (y_xorII rfl rfl) ?_; refine s_x 19 rfl (y_ixAN 4 4 rfl rfl (by kernel_rfl) (by omega)) ?_; refine s_x 20 rfl (y_ixAN1 4 rfl rfl (by kernel_rfl) (by omega)) ?_; refine tx_x 21 rfl (by kernel_rfl) rfl rfl ?_; refine a_store1 (H1 := []) rfl rfl (by kernel_rfl) rfl rfl (by simp <;> omega) ?_
    refine tx_done (by kernel_rfl) ?_; refine tk_in_normal ?_; refine tk_then ?_; refine tk_region ?_; refine s_q rfl (y_move rfl) ?_; refine tk_qe (I ((i + 1 : Nat) : Int)) rfl rfl rfl (y_addI rfl rfl (by omega)) (by congr 1) ?_; refine s_q rfl (y_assign rfl) ?_; refine tk_nil ?_
    exact tk_again (i + 1) (by omega) (by omega) (by repeat (first | exact trivial | refine ⟨rfl, ?_⟩)) (by simp only [adTo]; rw [iset (o := 0 + i / 4 * 4 + i % 4) (m := i) (by omega)]; exact List.Sublist.refl _)
  · skip
    obtain rfl : i = 16 := by omega
    refine tk_exit ?_; refine tk_then_exit ?_; refine tk_then_exit ?_; refine tk_in_hit ?_; refine tk_then ?_; refine tk_seq ?_; refine s_r ?_; refine s_q rfl (y_assign rfl) ?_; refine s_n ?_; refine tk_block ?_; refine tk_loop (X := Nat) (fun rd => rd ≤ 14) (fun rd => [(0, .pointer (some ⟨kb, 0, none⟩)), (5, .pointer (some ⟨b5, 0, none⟩)), (7, I ((rd + 1 : Nat) : Int))]) (fun rd => [cel b5 ((rfTo K V rd).map II) 271]) (fun rd => 14 - rd) (0) (by omega) (by repeat (first | exact trivial | refine ⟨rfl, ?_⟩)) (by rw [ad_eq hV (by simp)]; simp only [rfTo]; exact List.Sublist.refl _) ?_
    intro rd hI
    have hSl := rf_len (K := K) hV rd
    generalize hSd : rfTo K V rd = S at hSl ⊢
    refine tk_seq ?_; refine s_r ?_; refine s_q rfl (y_move rfl) ?_; refine s_q rfl (y_lss rfl rfl) ?_; refine s_n ?_; refine tk_condP rfl (fun h44 => ?_) (fun h44 => ?_)
    · skip
      refine tk_skip ?_; refine tk_then ?_; refine tk_seq ?_; refine tk_block ?_; refine s_r ?_; refine tk_act rfl ?_; refine a_allocL (cs := (List.replicate 16 0).map II) (by kernel_rfl) rfl fun b8 => ?_; refine s_n ?_; refine tk_seq ?_; refine s_r ?_; refine s_q rfl (y_assign rfl) ?_; refine s_n ?_; refine tk_block ?_; refine tk_loop (X := Nat) (fun c => c ≤ 4) (fun c => [(0, .pointer (some ⟨kb, 0, none⟩)), (5, .pointer (some ⟨b5, 0, none⟩)), (7, I ((rd + 1 : Nat) : Int)), (8, .pointer (some ⟨b8, 0, none⟩)), (9, I (c : Int))]) (fun c => [cel b8 ((shTo S (c * 4)).map II) 271, cel b5 (S.map II) 271]) (fun c => 4 - c) (0) (by omega) (by repeat (first | exact trivial | refine ⟨rfl, ?_⟩)) (List.Sublist.refl _) ?_
      intro c hC
      refine tk_seq ?_; refine s_r ?_; refine s_q rfl (y_move rfl) ?_; refine s_q rfl (y_lss rfl rfl) ?_; refine s_n ?_; refine tk_condP rfl (fun h48 => ?_) (fun h48 => ?_)
      · skip
        refine tk_skip ?_; refine tk_then ?_; refine tk_seq ?_; refine tk_block ?_; refine s_r ?_; refine s_q rfl (y_assign rfl) ?_; refine s_n ?_; refine tk_block ?_; refine tk_loop (X := Nat) (fun r => r ≤ 4) (fun r => [(0, .pointer (some ⟨kb, 0, none⟩)), (5, .pointer (some ⟨b5, 0, none⟩)), (7, I ((rd + 1 : Nat) : Int)), (8, .pointer (some ⟨b8, 0, none⟩)), (9, I (c : Int)), (10, I (r : Int))]) (fun r => [cel b8 ((shTo S (c * 4 + r)).map II) 271, cel b5 (S.map II) 271]) (fun r => 4 - r) (0) (by omega) (by repeat (first | exact trivial | refine ⟨rfl, ?_⟩)) (List.Sublist.refl _) ?_
        intro r hr4
        refine tk_seq ?_; refine s_r ?_; refine s_q rfl (y_move rfl) ?_; refine s_q rfl (y_lss rfl rfl) ?_; refine s_n ?_; refine tk_condP rfl (fun h52 => ?_) (fun h52 => ?_)
        · skip
          refine tk_skip ?_; refine tk_then ?_; refine tk_seq ?_; refine tk_block ?_; refine tk_drawS [18] (by kernel_rfl) ?_; refine s_x 0 rfl (y_move rfl) ?_; refine s_x 1 rfl (y_move rfl) ?_; refine s_x 2 rfl (y_move rfl) ?_; refine s_x 3 rfl (y_nilCheck rfl) ?_; refine s_x 4 rfl (y_fld0 rfl (by kernel_rfl)) ?_; refine s_l 5 rfl (fun _ h => h) (y_load rfl rfl (hro hk.1 (fun h => h))) ?_; refine s_x 6 rfl (y_move rfl) ?_
          refine s_x 7 rfl (y_move rfl) ?_; refine s_x 8 rfl (y_addN rfl rfl (by omega)) ?_; refine s_x 9 rfl (y_remN (b := 4) rfl rfl (by omega)) ?_; refine s_x 10 rfl (y_move rfl) ?_; refine s_x 11 rfl (y_ixAN 4 4 rfl rfl (by kernel_rfl) (by omega)) ?_; refine s_x 12 rfl (y_ixAN1 4 rfl rfl (by kernel_rfl) (by omega)) ?_; refine s_l 13 rfl (fun _ h => h) (y_load rfl rfl (hc (.tail _ (.head _)) (icell (m := (c * 4 + r + (c * 4 + r) % 4 * 4) % 16) (by omega) (by simp [hSl] <;> omega)))) ?_
          refine s_x 14 rfl (y_ixS01 (i := UInt8.toNat _) rfl rfl (by kernel_rfl) (b_lt _)) ?_; refine s_l 15 rfl (fun _ h => h) (y_load rfl rfl (hro (hk.2.2 _) (fun h => h))) ?_; refine s_x 16 rfl (y_ixAN 4 4 rfl rfl (by kernel_rfl) (by omega)) ?_; refine s_x 17 rfl (y_ixAN1 4 rfl rfl (by kernel_rfl) (by omega)) ?_; refine tx_x 18 rfl (by kernel_rfl) rfl rfl ?_; refine a_store1 (H1 := []) rfl rfl (by kernel_rfl) rfl rfl (by simp [hSl] <;> omega) ?_
          refine tx_done (by kernel_rfl) ?_; refine tk_in_normal ?_; refine tk_then ?_; refine tk_region ?_; refine s_q rfl (y_move rfl) ?_; refine tk_qe (I ((r + 1 : Nat) : Int)) rfl rfl rfl (y_addI rfl rfl (by omega)) (by congr 1) ?_; refine s_q rfl (y_assign rfl) ?_; refine tk_nil ?_
          exact tk_again (r + 1) (by omega) (by omega) (by repeat (first | exact trivial | refine ⟨rfl, ?_⟩)) (by rw [← Nat.add_assoc]; simp only [shTo_succ]; rw [iset (o := 0 + c * 4 + r) (m := c * 4 + r) (by omega)]; exact List.Sublist.refl _)
        · skip
          obtain rfl : r = 4 := by omega
          refine tk_exit ?_; refine tk_then_exit ?_; refine tk_then_exit ?_; refine tk_in_hit ?_; refine tk_in_normal ?_; refine tk_then ?_; refine tk_region ?_; refine s_q rfl (y_move rfl) ?_; refine tk_qe (I ((c + 1 : Nat) : Int)) rfl rfl rfl (y_addI rfl rfl (by omega)) (by congr 1) ?_; refine s_q rfl (y_assign rfl) ?_; refine tk_nil ?_
          exact tk_again (c + 1) (by omega) (by omega) (by repeat (first | exact trivial | refine ⟨rfl, ?_⟩)) (by rw [show (c + 1) * 4 = c * 4 + 4 by omega]; exact List.Sublist.refl _)
      · skip
        obtain rfl : c = 4 := by omega
        refine tk_exit ?_; refine tk_then_exit ?_; refine tk_then_exit ?_; refine tk_in_hit ?_; refine tk_then ?_; refine tk_seqI (X := Unit) (fun _ => True) (fun _ => [(0, .pointer (some ⟨kb, 0, none⟩)), (5, .pointer (some ⟨b5, 0, none⟩)), (7, I ((rd + 1 : Nat) : Int)), (8, .pointer (some ⟨b8, 0, none⟩))]) (fun _ => [cel b8 ((if rd + 1 < 14 then mxTo (shTo S 16) 16 else shTo S 16).map II) 271, cel b5 (S.map II) 271]) ?_ ?_
        · skip
          refine s_r ?_; refine s_q rfl (y_move rfl) ?_; refine s_q rfl (y_lss rfl rfl) ?_; refine s_n ?_; refine tk_condP rfl (fun h74 => ?_) (fun h74 => ?_)
          · skip
            refine s_r ?_; refine s_q rfl (y_loadA 16 rfl (by kernel_rfl) (by simp [hSl]) (hcw (.head _))) ?_; refine tk_act rfl ?_; refine a_allocL (cs := (List.replicate 16 0).map II) (by kernel_rfl) rfl fun b11 => ?_; refine tk_act rfl ?_; refine a_storeW (H1 := []) 16 rfl rfl (by kernel_rfl) rfl ⟨by simp, by simp⟩ oneI ?_; refine s_n ?_; refine s_r ?_; refine s_q rfl (y_assign rfl) ?_; refine s_n ?_
            refine tk_block ?_; refine tk_loop (X := Nat) (fun c => c ≤ 4) (fun c => [(0, .pointer (some ⟨kb, 0, none⟩)), (5, .pointer (some ⟨b5, 0, none⟩)), (7, I ((rd + 1 : Nat) : Int)), (8, .pointer (some ⟨b8, 0, none⟩)), (11, .pointer (some ⟨b11, 0, none⟩)), (12, I (c : Int))]) (fun c => [cel b11 ((shTo S 16).map II) 271, cel b8 ((mxTo (shTo S 16) (c * 4)).map II) 271, cel b5 (S.map II) 271]) (fun c => 4 - c) (0) (by omega) (by repeat (first | exact trivial | refine ⟨rfl, ?_⟩)) (List.Sublist.refl _) ?_
            intro c hC
            refine tk_seq ?_; refine s_r ?_; refine s_q rfl (y_move rfl) ?_; refine s_q rfl (y_lss rfl rfl) ?_; refine s_n ?_; refine tk_condP rfl (fun h77 => ?_) (fun h77 => ?_)
            · skip
              refine tk_skip ?_; refine tk_then ?_; refine tk_seq ?_; refine tk_block ?_; refine s_r ?_; refine s_q rfl (y_assign rfl) ?_; refine s_n ?_; refine tk_block ?_; refine tk_loop (X := Nat) (fun r => r ≤ 4) (fun r => [(0, .pointer (some ⟨kb, 0, none⟩)), (5, .pointer (some ⟨b5, 0, none⟩)), (7, I ((rd + 1 : Nat) : Int)), (8, .pointer (some ⟨b8, 0, none⟩)), (11, .pointer (some ⟨b11, 0, none⟩)), (12, I (c : Int)), (13, I (r : Int))]) (fun r => [cel b11 ((shTo S 16).map II) 271, cel b8 ((mxTo (shTo S 16) (c * 4 + r)).map II) 271, cel b5 (S.map II) 271]) (fun r => 4 - r) (0) (by omega) (by repeat (first | exact trivial | refine ⟨rfl, ?_⟩)) (List.Sublist.refl _) ?_
              intro r hr4
              refine tk_seq ?_; refine s_r ?_; refine s_q rfl (y_move rfl) ?_; refine s_q rfl (y_lss rfl rfl) ?_; refine s_n ?_; refine tk_condP rfl (fun h81 => ?_) (fun h81 => ?_)
              · skip
                refine tk_skip ?_; refine tk_then ?_; refine tk_seq ?_; refine tk_block ?_; refine tk_drawS [35] (by kernel_rfl) ?_; refine s_x 0 rfl (y_move rfl) ?_; refine s_x 1 rfl (y_move rfl) ?_; refine s_x 2 rfl (y_move rfl) ?_; refine s_x 3 rfl (y_move rfl) ?_; refine s_x 4 rfl (y_ixAN 4 4 rfl rfl (by kernel_rfl) (by omega)) ?_; refine s_x 5 rfl (y_ixAN1 4 rfl rfl (by kernel_rfl) (by omega)) ?_
                refine s_l 6 rfl (fun _ h => h) (y_load rfl rfl (hc (.head _) (icell (m := c * 4 + r) (by omega) (by simp [hSl] <;> omega)))) ?_; refine s_x 8 rfl (y_move rfl) ?_; refine s_x 9 rfl (y_move rfl) ?_; refine s_x 10 rfl (y_addN (b := 1) rfl rfl (by omega)) ?_; refine s_x 11 rfl (y_remN (b := 4) rfl rfl (by omega)) ?_; refine s_x 12 rfl (y_ixAN 4 4 rfl rfl (by kernel_rfl) (by omega)) ?_
                refine s_x 13 rfl (y_ixAN1 4 rfl rfl (by kernel_rfl) (by omega)) ?_; refine s_l 14 rfl (fun _ h => h) (y_load rfl rfl (hc (.head _) (icell (m := c * 4 + (r + 1) % 4) (by omega) (by simp [hSl] <;> omega)))) ?_; refine s_x 17 rfl (y_move rfl) ?_; refine s_x 18 rfl (y_move rfl) ?_; refine s_x 19 rfl (y_addN (b := 2) rfl rfl (by omega)) ?_; refine s_x 20 rfl (y_remN (b := 4) rfl rfl (by omega)) ?_
                refine s_x 21 rfl (y_ixAN 4 4 rfl rfl (by kernel_rfl) (by omega)) ?_; refine s_x 22 rfl (y_ixAN1 4 rfl rfl (by kernel_rfl) (by omega)) ?_; refine s_l 23 rfl (fun _ h => h) (y_load rfl rfl (hc (.head _) (icell (m := c * 4 + (r + 2) % 4) (by omega) (by simp [hSl] <;> omega)))) ?_; refine s_x 25 rfl (y_move rfl) ?_; refine s_x 26 rfl (y_move rfl) ?_; refine s_x 27 rfl (y_addN (b := 3) rfl rfl (by omega)) ?_
                refine s_x 28 rfl (y_remN (b := 4) rfl rfl (by omega)) ?_; refine s_x 29 rfl (y_ixAN 4 4 rfl rfl (by kernel_rfl) (by omega)) ?_; refine s_x 30 rfl (y_ixAN1 4 rfl rfl (by kernel_rfl) (by omega)) ?_; refine s_l 31 rfl (fun _ h => h) (y_load rfl rfl (hc (.head _) (icell (m := c * 4 + (r + 3) % 4) (by omega) (by simp [hSl] <;> omega)))) ?_; refine s_x 33 rfl (y_ixAN 4 4 rfl rfl (by kernel_rfl) (by omega)) ?_
                refine tx_a 7 rfl (by kernel_rfl) rfl ?_; refine a_callv [] _ rfl (by kernel_rfl) rfl (fun w' hw' => times2_spec _ w') rfl fun _ _ => ?_; refine tk_S (fun _ h => h) ?_; refine tx_a 15 rfl (by kernel_rfl) rfl ?_; refine a_callv [] _ rfl (by kernel_rfl) rfl (fun w' hw' => times3_spec _ w') rfl fun _ _ => ?_; refine tk_S (fun _ h => h) ?_; refine s_x 16 rfl (y_xorII rfl rfl) ?_; refine s_x 24 rfl (y_xorII rfl rfl) ?_
                refine s_x 32 rfl (y_xorII rfl rfl) ?_; refine s_x 34 rfl (y_ixAN1 4 rfl rfl (by kernel_rfl) (by omega)) ?_; refine tx_x 35 rfl (by kernel_rfl) rfl rfl ?_; refine a_store1 (H1 := [_]) rfl rfl (by kernel_rfl) rfl rfl (by simp [hSl] <;> omega) ?_; refine tx_done (by kernel_rfl) ?_; refine tk_in_normal ?_; refine tk_then ?_; refine tk_region ?_; refine s_q rfl (y_move rfl) ?_; refine tk_qe (I ((r + 1 : Nat) : Int)) rfl rfl rfl (y_addI rfl rfl (by omega)) (by congr 1) ?_
                refine s_q rfl (y_assign rfl) ?_; refine tk_nil ?_
                exact tk_again (r + 1) (by omega) (by omega) (by repeat (first | exact trivial | refine ⟨rfl, ?_⟩)) (by rw [← Nat.add_assoc]; simp only [mxTo]; rw [mxb_at (by omega), iset (o := 0 + c * 4 + r) (m := c * 4 + r) (by omega)]; exact List.Sublist.refl _)
              · skip
                obtain rfl : r = 4 := by omega
                refine tk_exit ?_; refine tk_then_exit ?_; refine tk_then_exit ?_; refine tk_in_hit ?_; refine tk_in_normal ?_; refine tk_then ?_; refine tk_region ?_; refine s_q rfl (y_move rfl) ?_; refine tk_qe (I ((c + 1 : Nat) : Int)) rfl rfl rfl (y_addI rfl rfl (by omega)) (by congr 1) ?_; refine s_q rfl (y_assign rfl) ?_; refine tk_nil ?_
                exact tk_again (c + 1) (by omega) (by omega) (by repeat (first | exact trivial | refine ⟨rfl, ?_⟩)) (by rw [show (c + 1) * 4 = c * 4 + 4 by omega]; exact List.Sublist.refl _)
            · skip
              obtain rfl : c = 4 := by omega
              refine tk_exit ?_; refine tk_then_exit ?_; refine tk_then_exit ?_; refine tk_in_hit ?_
              exact tk_to () trivial (by repeat (first | exact trivial | refine ⟨rfl, ?_⟩)) (by rw [if_pos (by omega)]; exact List.Sublist.cons _ (List.Sublist.refl _))
          · skip
            refine tk_skip ?_
            exact tk_to () trivial (by repeat (first | exact trivial | refine ⟨rfl, ?_⟩)) (by rw [if_neg (by omega)]; exact List.Sublist.refl _)
        · intro _ _
          have hT : (if rd + 1 < 14 then mxTo (shTo S 16) 16 else shTo S 16).length = 16 := by split <;> simp
          generalize hTd : (if rd + 1 < 14 then mxTo (shTo S 16) 16 else shTo S 16) = T at hT ⊢
          refine s_r ?_; refine s_q rfl (y_assign rfl) ?_; refine s_n ?_; refine tk_block ?_; refine tk_loop (X := Nat) (fun c => c ≤ 4) (fun c => [(0, .pointer (some ⟨kb, 0, none⟩)), (5, .pointer (some ⟨b5, 0, none⟩)), (7, I ((rd + 1 : Nat) : Int)), (8, .pointer (some ⟨b8, 0, none⟩)), (14, I (c : Int))]) (fun c => [cel b8 (T.map II) 271, cel b5 ((adTo K (rd + 1) T S (c * 4)).map II) 271]) (fun c => 4 - c) (0) (by omega) (by repeat (first | exact trivial | refine ⟨rfl, ?_⟩)) (List.Sublist.refl _) ?_
          intro c hC
          refine tk_seq ?_; refine s_r ?_; refine s_q rfl (y_move rfl) ?_; refine s_q rfl (y_lss rfl rfl) ?_; refine s_n ?_; refine tk_condP rfl (fun h120 => ?_) (fun h120 => ?_)
          · skip
            refine tk_skip ?_; refine tk_then ?_; refine tk_seq ?_; refine tk_block ?_; refine s_r ?_; refine s_q rfl (y_assign rfl) ?_; refine s_n ?_; refine tk_block ?_; refine tk_loop (X := Nat) (fun r => r ≤ 4) (fun r => [(0, .pointer (some ⟨kb, 0, none⟩)), (5, .pointer (some ⟨b5, 0, none⟩)), (7, I ((rd + 1 : Nat) : Int)), (8, .pointer (some ⟨b8, 0, none⟩)), (14, I (c : Int)), (15, I (r : Int))]) (fun r => [cel b8 (T.map II) 271, cel b5 ((adTo K (rd + 1) T S (c * 4 + r)).map II) 271]) (fun r => 4 - r) (0) (by omega) (by repeat (first | exact trivial | refine ⟨rfl, ?_⟩)) (List.Sublist.refl _) ?_
            intro r hr4
            refine tk_seq ?_; refine s_r ?_; refine s_q rfl (y_move rfl) ?_; refine s_q rfl (y_lss rfl rfl) ?_; refine s_n ?_; refine tk_condP rfl (fun h124 => ?_) (fun h124 => ?_)
            · skip
              refine tk_skip ?_; refine tk_then ?_; refine tk_seq ?_; refine tk_block ?_; refine tk_drawS [21] (by kernel_rfl) ?_; refine s_x 0 rfl (y_move rfl) ?_; refine s_x 1 rfl (y_move rfl) ?_; refine s_x 2 rfl (y_move rfl) ?_; refine s_x 3 rfl (y_move rfl) ?_; refine s_x 4 rfl (y_ixAN 4 4 rfl rfl (by kernel_rfl) (by omega)) ?_; refine s_x 5 rfl (y_ixAN1 4 rfl rfl (by kernel_rfl) (by omega)) ?_
              refine s_l 6 rfl (fun _ h => h) (y_load rfl rfl (hc (.head _) (icell (m := c * 4 + r) (by omega) (by omega)))) ?_; refine s_x 7 rfl (y_move rfl) ?_; refine s_x 8 rfl (y_move rfl) ?_; refine s_x 9 rfl (y_mulN (a := 4) rfl rfl (by omega)) ?_; refine s_x 10 rfl (y_move rfl) ?_; refine s_x 11 rfl (y_addN rfl rfl (by omega)) ?_; refine s_x 12 rfl (y_move rfl) ?_; refine s_x 13 rfl (y_nilCheck rfl) ?_
              refine s_x 14 rfl (y_fldN 1 rfl (by kernel_rfl)) ?_; refine s_x 15 rfl (y_ixAN 60 4 rfl rfl (by kernel_rfl) (by omega)) ?_; refine s_x 16 rfl (y_ixAN1 4 rfl rfl (by kernel_rfl) (by omega)) ?_; refine s_l 17 rfl (fun _ h => h) (y_load rfl rfl (hro (rkK hk (m := 16 * (rd + 1) + (c * 4 + r)) (by omega) (by omega)) (fun h => h))) ?_; refine s_x 18 rfl (y_xorII rfl rfl) ?_; refine s_x 19 rfl (y_ixAN 4 4 rfl rfl (by kernel_rfl) (by omega)) ?_
              refine s_x 20 rfl (y_ixAN1 4 rfl rfl (by kernel_rfl) (by omega)) ?_; refine tx_x 21 rfl (by kernel_rfl) rfl rfl ?_; refine a_store1 (H1 := [_]) rfl rfl (by kernel_rfl) rfl rfl (by simp [hSl] <;> omega) ?_; refine tx_done (by kernel_rfl) ?_; refine tk_in_normal ?_; refine tk_then ?_; refine tk_region ?_; refine s_q rfl (y_move rfl) ?_; refine tk_qe (I ((r + 1 : Nat) : Int)) rfl rfl rfl (y_addI rfl rfl (by omega)) (by congr 1) ?_
              refine s_q rfl (y_assign rfl) ?_; refine tk_nil ?_
              exact tk_again (r + 1) (by omega) (by omega) (by repeat (first | exact trivial | refine ⟨rfl, ?_⟩)) (by rw [← Nat.add_assoc]; simp only [adTo]; rw [iset (o := 0 + c * 4 + r) (m := c * 4 + r) (by omega)]; exact List.Sublist.refl _)
            · skip
              obtain rfl : r = 4 := by omega
              refine tk_exit ?_; refine tk_then_exit ?_; refine tk_then_exit ?_; refine tk_in_hit ?_; refine tk_in_normal ?_; refine tk_then ?_; refine tk_region ?_; refine s_q rfl (y_move rfl) ?_; refine tk_qe (I ((c + 1 : Nat) : Int)) rfl rfl rfl (y_addI rfl rfl (by omega)) (by congr 1) ?_; refine s_q rfl (y_assign rfl) ?_; refine tk_nil ?_
              exact tk_again (c + 1) (by omega) (by omega) (by repeat (first | exact trivial | refine ⟨rfl, ?_⟩)) (by rw [show (c + 1) * 4 = c * 4 + 4 by omega]; exact List.Sublist.refl _)
          · skip
            obtain rfl : c = 4 := by omega
            refine tk_exit ?_; refine tk_then_exit ?_; refine tk_then_exit ?_; refine tk_in_hit ?_; refine tk_in_normal ?_; refine tk_then ?_; refine tk_region ?_; refine s_q rfl (y_move rfl) ?_; refine tk_qe (I ((rd + 1 + 1 : Nat) : Int)) rfl rfl rfl (y_addI rfl rfl (by omega)) (by congr 1) ?_; refine s_q rfl (y_assign rfl) ?_; refine tk_nil ?_
            exact tk_again (rd + 1) (by omega) (by omega) (by repeat (first | exact trivial | refine ⟨rfl, ?_⟩)) (by simp only [rfTo]; rw [hSd, hTd]; exact List.Sublist.cons _ (List.Sublist.refl _))
    · skip
      obtain rfl : rd = 14 := by omega
      refine tk_exit ?_; refine tk_then_exit ?_; refine tk_then_exit ?_; refine tk_in_hit ?_; refine tk_then ?_; refine s_r ?_
      rw [← rf14 hV, hSd]
      refine tk_own0 5 ?_; refine s_q rfl (y_assign rfl) ?_; refine s_n ?_; refine tk_seq ?_; refine s_r ?_; refine s_q rfl (y_assign rfl) ?_; refine s_n ?_; refine tk_block ?_; refine tk_loop (X := Nat × Value) (fun x => x.1 ≤ 16) (fun x => [(5, .pointer (some ⟨b5, 0, none⟩)), (16, x.2), (17, I (x.1 : Int))]) (fun x => [ownB x.2 (S.take x.1) 5, cel b5 (S.map II) 271]) (fun x => 16 - x.1) ((0, .slice none 0 0)) (Nat.zero_le _) (by repeat (first | exact trivial | refine ⟨rfl, ?_⟩)) (List.Sublist.refl _) ?_
      rintro ⟨i, vo⟩ hI
      dsimp only at hI ⊢
      refine tk_seq ?_; refine s_r ?_; refine s_q rfl (y_move rfl) ?_; refine s_q rfl (y_lss rfl rfl) ?_; refine s_n ?_; refine tk_condP rfl (fun h149 => ?_) (fun h149 => ?_)
      · skip
        refine tk_skip ?_; refine tk_then ?_; refine tk_seq ?_; refine tk_block ?_; refine tk_region ?_; refine s_q rfl (y_move rfl) ?_; refine s_q rfl (y_move rfl) ?_; refine s_q rfl (y_quoN (b := 4) rfl rfl (by omega)) ?_; refine s_q rfl (y_move rfl) ?_; refine s_q rfl (y_remN (b := 4) rfl rfl (by omega)) ?_; refine s_q rfl (y_ixAN 4 4 rfl rfl (by kernel_rfl) (by omega)) ?_; refine s_q rfl (y_ixAN1 4 rfl rfl (by kernel_rfl) (by omega)) ?_
        refine s_q rfl (y_load rfl rfl (hc (.tail _ (.head _)) (icell (W := S) (m := i) (by omega) (by omega)))) ?_; refine tk_qe (B (S.getD i 0)) rfl rfl rfl (y_convi8 rfl rfl rfl) (by rw [UInt8.ofNat_toNat]) ?_; refine tk_act rfl ?_; refine a_slit1 rfl rfl el5 rfl fun b37 => ?_; refine tk_act rfl ?_; refine a_append (H1 := [_]) (news := [_]) rfl rfl el5 rfl rfl rfl (hcw (.head _)) (by simp [Value.oneCell']) (by simp [hSl] <;> omega) fun vo2 => ?_
        refine s_q rfl (y_assign rfl) ?_; refine tk_nil ?_; refine tk_in_normal ?_; refine tk_then ?_; refine tk_region ?_; refine s_q rfl (y_move rfl) ?_; refine tk_qe (I ((i + 1 : Nat) : Int)) rfl rfl rfl (y_addI rfl rfl (by omega)) (by congr 1) ?_; refine s_q rfl (y_assign rfl) ?_; refine tk_nil ?_
        exact tk_again (i + 1, vo2) (by show i + 1 ≤ 16; omega) (by show 16 - (i + 1) < 16 - i; omega) (by repeat (first | exact trivial | refine ⟨rfl, ?_⟩)) (by dsimp only; rw [own_tk (F := S) (by omega)]; exact List.Sublist.cons _ (List.Sublist.refl _))
      · skip
        obtain rfl : i = 16 := by omega
        rw [List.take_of_length_le (by omega)]
        refine tk_exit ?_; refine tk_then_exit ?_; refine tk_then_exit ?_; refine tk_in_hit ?_; refine tk_then ?_; refine s_r ?_; refine s_q rfl (y_move rfl) ?_; refine s_q rfl (y_str (l := S) rfl rfl rfl rfl (fun w hw => own_rd (hw.mem (.head _)))) ?_; refine s_q rfl (y_assign rfl) ?_; refine s_n ?_; refine tk_retc ?_
        exact tk_ret () trivial (.inl rfl) (r1 rfl rfl) (List.nil_sublist _)
end Go.Proofs.YtkkjfojgjmglpaaGreatDoor.Cip
set_option linter.unusedSimpArgs false
set_option linter.unusedVariables false
namespace Go.Proofs.YtkkjfojgjmglpaaGreatDoor.Cip
open Go Go.RowKit
set_option maxRecDepth 100000
attribute [local irreducible] turn plus keyW hideL
theorem RK.fo {w w' : World} {E : Nat → Prop} {kb bb : Nat} {K : List UInt8} (h : RK w kb bb K) (hf : Fo E w w') (h1 : ¬ E kb) (h2 : ¬ E bb) : RK w' kb bb K :=
  ⟨hf.cell h.1 h1, fun m hm => hf.cell (h.2.1 m hm) h1, fun u => hf.cell (h.2.2 u) h2⟩
theorem RK.of {w : World} {kb bb : Nat} {K : List UInt8} (h1 : (cel kb (.slice (some ⟨bb, 0, none⟩) 256 256 :: K.map II) 231).holds w) (h2 : (cel bb (fwd.map II) 3).holds w) (hK : K.length = 240) : RK w kb bb K :=
  ⟨cel_cell h1 rfl, fun m hm => cel_cell h1 (kcell (m := m) rfl (by omega)), fun u => cel_cell h2 (fcell u)⟩
theorem take_len {l : List UInt8} {i : Nat} (h : i ≤ l.length) : (l.take i).length = i := by simp; omega
theorem getD_get {l : List UInt8} {i : Nat} (h : i < l.length) : l.getD i 0 = l[i] := by rw [List.getD_eq_getElem?_getD, List.getElem?_eq_getElem h]; rfl
set_option maxHeartbeats 1000000 in
theorem rhide_spec (kb bb a : Nat) (K N l : List UInt8) (w : World) (hN : N.length = 16) (hk : RK w kb bb K) (ha : a < 2 ^ 61) (hl : l.length < 2 ^ 46) :
    Spec Tryz.prog 68 [.pointer (some ⟨kb, 0, none⟩), Str N, I (a : Int), Str l] w [] (fun _ : Unit => True) (fun _ => Str (hideL K N a l)) (fun _ => []) := by
  refine spec_of (n := 48) Tryz.func68 rfl rfl trivial trivial rfl ?_; refine s_r ?_; refine s_q rfl (y_assign rfl) ?_; refine s_n ?_; refine s_r ?_; refine s_q rfl (y_assign rfl) ?_; refine s_n ?_; refine s_r ?_; refine s_q rfl (y_assign rfl) ?_; refine s_q rfl (y_assign rfl) ?_; refine s_n ?_; refine tk_seq ?_; refine s_r ?_; refine tk_own0 5 ?_; refine s_q rfl (y_assign rfl) ?_; refine s_n ?_; refine tk_block ?_
  refine tk_loop (X := Nat × Value × Int × List UInt8) (fun x => x.1 ≤ l.length ∧ (x.2.2.1 = -1 ∨ ∃ q : Nat, x.2.2.1 = (q : Int) ∧ x.2.2.2 = turn K (plus N q))) (fun x => [(0, .pointer (some ⟨kb, 0, none⟩)), (1, Str N), (2, I (a : Int)), (3, Str l), (9, x.2.1), (10, Str x.2.2.2), (11, I x.2.2.1), (12, I (x.1 : Int))]) (fun x => [ownB x.2.1 (hideL K N a (l.take x.1)) 5]) (fun x => l.length - x.1) ((0, .slice none 0 0, -1, [])) (⟨Nat.zero_le _, .inl rfl⟩) (by repeat (first | exact trivial | refine ⟨rfl, ?_⟩)) (by show List.Sublist [ownB (.slice none 0 0) (hideL K N a (l.take 0)) 5] _; rw [List.take_zero, hideL_nil]; exact List.Sublist.refl _) ?_
  rintro ⟨i, vo, hv, sb⟩ ⟨hi0, hq⟩
  dsimp only at hi0 hq ⊢
  refine tk_seq ?_; refine s_r ?_; refine s_q rfl (y_move rfl) ?_; refine s_q rfl (y_move rfl) ?_; refine s_q rfl (y_lenStr rfl rfl) ?_; refine s_q rfl (y_lss rfl rfl) ?_; refine s_n ?_; refine tk_condP rfl (fun h17 => ?_) (fun h17 => ?_)
  · skip
    have hi : i < l.length := by omega
    refine tk_skip ?_; refine tk_then ?_; refine tk_seq ?_; refine tk_block ?_; refine s_r ?_; refine s_q rfl (y_move rfl) ?_; refine s_q rfl (y_move rfl) ?_; refine s_q rfl (y_addN rfl rfl (by omega)) ?_; refine s_q rfl (y_quoN (b := 16) rfl rfl (by omega)) ?_; refine s_q rfl (y_assign rfl) ?_; refine s_n ?_; refine tk_seqI (X := Unit) (fun _ => True) (fun _ => [(0, .pointer (some ⟨kb, 0, none⟩)), (1, Str N), (2, I (a : Int)), (3, Str l), (9, vo), (10, Str (turn K (plus N ((a + i) / 16)))), (11, I (((a + i) / 16 : Nat) : Int)), (12, I (i : Int))]) (fun _ => [ownB vo (hideL K N a (l.take i)) 5]) ?_ ?_
    · skip
      refine s_r ?_; refine s_q rfl (y_move rfl) ?_; refine s_q rfl (y_move rfl) ?_; refine s_q rfl (y_neq rfl rfl) ?_; refine s_n ?_; refine tk_condP rfl (fun h26 => ?_) (fun h26 => ?_)
      · skip
        refine tk_region ?_; refine s_q rfl (y_move rfl) ?_; refine s_q rfl (y_move rfl) ?_; refine s_q rfl (y_move rfl) ?_; refine tk_act rfl ?_; refine a_callv [] _ rfl (by kernel_rfl) rfl (fun w' hw' => plus_spec N ((a + i) / 16) w' hN (by omega)) rfl fun _ _ => ?_; refine tk_act rfl ?_; refine a_callv [] _ rfl (by kernel_rfl) rfl (fun w' hw' => rturn_spec kb bb K (plus N ((a + i) / 16)) w' (by simp [hN]) (hk.fo hw'.fr (fun h => h) (fun h => h))) rfl fun _ _ => ?_
        refine s_q rfl (y_move rfl) ?_; refine s_q rfl (y_assign rfl) ?_; refine s_q rfl (y_assign rfl) ?_; refine tk_nil ?_
        exact tk_to () trivial (by repeat (first | exact trivial | refine ⟨rfl, ?_⟩)) (List.Sublist.refl _)
      · skip
        refine tk_skip ?_
        rcases hq with hq | ⟨q', hq, hq2⟩
        · exfalso; omega
        · have hq1 : q' = (a + i) / 16 := by omega
          exact tk_to () trivial ⟨rfl, rfl, rfl, rfl, rfl, by show some (Str sb) = _; rw [hq2, hq1], by show some (I hv) = _; rw [hq, hq1], rfl, trivial⟩ (List.Sublist.refl _)
    · intro _ _
      refine tk_draw (fun _ => True) [] (by kernel_rfl) ?_; refine s_x 0 rfl (y_move rfl) ?_; refine s_x 1 rfl (y_move rfl) ?_; refine s_x 2 rfl (y_move rfl) ?_; refine s_x 3 rfl (y_ixT (i := i) rfl rfl rfl ⟨rfl, by omega⟩) ?_; refine s_x 4 rfl (y_move rfl) ?_; refine s_x 5 rfl (y_move rfl) ?_; refine s_x 6 rfl (y_move rfl) ?_; refine s_x 7 rfl (y_addN rfl rfl (by omega)) ?_; refine s_x 8 rfl (y_remN (b := 16) rfl rfl (by omega)) ?_
      refine s_x 9 rfl (y_ixT (i := (a + i) % 16) rfl rfl rfl ⟨rfl, by rw [turn_len (by simp [hN])]; omega⟩) ?_; refine s_x 10 rfl (y_xor8 rfl rfl) ?_; refine tx_a 11 rfl (by kernel_rfl) rfl ?_; refine a_slit1 rfl rfl el5 rfl fun b44 => ?_; refine tk_S (fun _ _ => trivial) ?_; refine tx_a 12 rfl (by kernel_rfl) rfl ?_; refine a_append (H1 := [_]) (news := [_]) rfl rfl el5 rfl rfl rfl (hcw (.head _)) (by simp [Value.oneCell']) (by simp only [hideL_len, List.length_take]; omega) fun vo2 => ?_
      refine tk_S (fun _ _ => trivial) ?_; refine s_x 13 rfl (y_assign rfl) ?_; refine tx_done (by kernel_rfl) ?_; refine tk_in_normal ?_; refine tk_then ?_; refine tk_region ?_; refine s_q rfl (y_move rfl) ?_; refine tk_qe (I ((i + 1 : Nat) : Int)) rfl rfl rfl (y_addI rfl rfl (by omega)) (by congr 1) ?_; refine s_q rfl (y_assign rfl) ?_; refine tk_nil ?_
      exact tk_again (i + 1, vo2, (((a + i) / 16 : Nat) : Int), (turn K (plus N ((a + i) / 16)))) ⟨by show i + 1 ≤ l.length; omega, .inr ⟨(a + i) / 16, rfl, rfl⟩⟩ (by show l.length - (i + 1) < l.length - i; omega) (by repeat (first | exact trivial | refine ⟨rfl, ?_⟩)) (by dsimp only; rw [take_snoc (List.getElem?_eq_getElem hi), own_snoc, take_len hi0, ← getD_get hi]; exact List.Sublist.cons _ (List.Sublist.refl _))
  · skip
    obtain rfl : i = l.length := by omega
    rw [List.take_length]
    refine tk_exit ?_; refine tk_then_exit ?_; refine tk_then_exit ?_; refine tk_in_hit ?_; refine tk_then ?_; refine s_r ?_; refine s_q rfl (y_move rfl) ?_; refine s_q rfl (y_str (l := hideL K N a l) rfl rfl rfl rfl (fun w hw => own_rd (hw.mem (.head _)))) ?_; refine s_q rfl (y_assign rfl) ?_; refine s_n ?_; refine tk_retc ?_
    exact tk_ret () trivial (.inl rfl) (r1 rfl rfl) (List.nil_sublist _)
end Go.Proofs.YtkkjfojgjmglpaaGreatDoor.Cip
set_option linter.unusedSimpArgs false
set_option linter.unusedVariables false
namespace Go.Proofs.YtkkjfojgjmglpaaGreatDoor
open Go Go.RowKit
set_option maxRecDepth 100000
attribute [local irreducible] hidL markL sealL sealF keyedL Cip.keyW Cip.hideL
theorem rmark_spec {hk mk name N h : List UInt8} {kind : UInt8} {w : World} (h2 : hk.length = 32 ∧ mk.length = 32) (hb : name.length < 4294967296 ∧ N.length < 4294967296 ∧ h.length < 4294967296) :
    Spec Tryz.prog 69 [.agg (hk.map B ++ (mk.map B)).toArray, B kind, Str name, Str N, Str h] w [] (fun _ : Unit => True) (fun _ => Str (markL mk kind name N h)) (fun _ => []) := by
  obtain ⟨hk32, mk32⟩ := h2
  refine spec_of (n := 27) Tryz.func69 rfl rfl trivial trivial rfl ?_; refine s_r ?_; refine tk_act rfl ?_; refine a_boxL (cs := hk.map B ++ (mk.map B)) rfl rfl fun b5 => ?_; refine s_q rfl (y_assign rfl) ?_; refine s_n ?_; refine tk_seq ?_; refine tk_drawH [cel b5 (hk.map B ++ (mk.map B)) 35] [] (by kernel_rfl) ?_; refine s_x 0 rfl (y_fldN (o := 0) 32 rfl (by kernel_rfl)) ?_; refine s_x 1 rfl (y_cutA (m := 32) (sz := 1) rfl (by kernel_rfl)) ?_
  refine s_l 2 rfl (fun _ h => h.sub (List.Sublist.refl _)) (y_str (l := mk) rfl rfl rfl rfl (fun w hw => cel_rdE (o := 32) (m := 32) (cp := 32) (vs := mk.map B) (hw.mem (.head _)) (dsA (k := 32) (i := 0) (by rw [List.length_map]; exact hk32) (by omega) (dsW)) (by first | rfl | exact lenP | (simp; omega)) lenP)) ?_; refine s_x 3 rfl (y_move rfl) ?_; refine s_x 4 rfl (y_move rfl) ?_; refine s_x 5 rfl (y_lenStr (l := name) rfl rfl) ?_
  refine s_x 6 rfl (y_convi8 (m := name.length) rfl rfl rfl) ?_; refine s_x 9 rfl (y_move rfl) ?_; refine s_x 11 rfl (y_move rfl) ?_; refine s_x 13 rfl (y_move rfl) ?_; refine tx_a 7 rfl (by kernel_rfl) rfl ?_; refine a_slitN (vs := [B kind, B (UInt8.ofNat name.length)]) rfl (List.forall_mem_cons.2 ⟨rfl, (List.forall_mem_cons.2 ⟨rfl, (fun _ h => nomatch h)⟩)⟩) (EL42) rfl rfl (by decide) fun b18 => ?_
  refine tk_S (fun _ h => h.sub (.cons _ (List.Sublist.refl _))) ?_; refine tx_more [cel b18 ([B kind, B (UInt8.ofNat name.length)]) 5, cel b5 (hk.map B ++ (mk.map B)) 35] (fun _ h => h.sub (.cons _ (List.Sublist.refl _))) (fun _ h => h.sub (List.Sublist.refl _)) ?_; refine s_l 8 rfl (fun _ h => h.sub (List.Sublist.refl _)) (y_str (l := [kind, UInt8.ofNat name.length]) rfl rfl rfl rfl (fun w hw => cel_rdE (o := 0) (m := 2) (cp := 2) (vs := [kind, UInt8.ofNat name.length].map B) (hw.mem (.head _)) (rfl) (by first | rfl | exact lenP | (simp; omega)) lenP)) ?_
  refine s_x 10 rfl (y_catT (l := [kind, UInt8.ofNat name.length]) (m := name) rfl rfl lenP) ?_; refine s_x 12 rfl (y_catT (l := [kind, UInt8.ofNat name.length] ++ name) (m := N) rfl rfl lenP) ?_; refine s_x 14 rfl (y_catT (l := ([kind, UInt8.ofNat name.length] ++ name) ++ N) (m := h) rfl rfl lenP) ?_; refine tx_a 15 rfl (by kernel_rfl) rfl ?_; refine a_callv [] _ rfl (by kernel_rfl) rfl (fun w' hw' => rkeyed_spec (k := mk) (l := (([kind, UInt8.ofNat name.length] ++ name) ++ N) ++ h) lenP lenP) rfl fun _ _ => ?_
  refine tk_S (fun _ h => h.sub (List.Sublist.refl _)) ?_; refine s_x 16 rfl ((y_assign rfl).cast (v := _) (u := Str (markL mk kind name N h)) (by rw [markL_def])) ?_; refine tx_done (by kernel_rfl) ?_; refine tk_then ?_; refine tk_retc ?_
  exact tk_ret (()) (trivial) (.inl rfl) (r1 rfl rfl) (List.nil_sublist _)
theorem dseal_spec {hk mk name N l : List UInt8} {kind : UInt8} {w : World} (h3 : hk.length = 32 ∧ mk.length = 32 ∧ N.length = 16) (hb : name.length < 4294967296 ∧ l.length < 4294967296) :
    Spec Tryz.prog 19 [.agg (hk.map B ++ (mk.map B)).toArray, B kind, Str name, Ag N, Str l] w [] (fun _ : Unit => True) (fun _ => .tuple #[Str (sealF hk mk kind name N l).1, I (((sealF hk mk kind name N l).2 : Nat) : Int)]) (fun _ => []) := by
  refine spec_of (n := 39) Tryz.func19 rfl rfl trivial trivial rfl ?_
  obtain ⟨hk32, mk32, hN⟩ := h3
  refine s_r ?_; refine tk_act rfl ?_; refine a_boxL (cs := hk.map B ++ (mk.map B)) rfl rfl fun b5 => ?_; refine tk_act rfl ?_; refine a_boxL (cs := N.map B) rfl rfl fun b8 => ?_; refine s_q rfl (y_assign rfl) ?_; refine s_q rfl (y_assign rfl) ?_; refine s_n ?_; refine tk_seq ?_; refine s_r ?_; refine s_q rfl (y_move rfl) ?_; refine s_q rfl (y_lenStr (l := name) rfl rfl) ?_; refine s_q rfl (y_gtr rfl rfl) ?_
  refine s_n ?_; refine tk_condP rfl (fun ht16 => ?_) (fun ht16 => ?_)
  · skip
    refine s_r ?_; refine s_q rfl (y_assign rfl) ?_; refine s_q rfl (y_assign rfl) ?_; refine s_n ?_; refine tk_retc ?_; refine tk_then_ret ?_; refine tk_re 10 (Str []) (Str ((sealF hk mk kind name N l).1)) rfl (by rw [sealF_name (by omega)]) ?_; refine tk_re 11 (I 5) (I (((sealF hk mk kind name N l).2 : Nat) : Int)) rfl (by rw [sealF_name (by omega)]; rfl) ?_
    exact tk_ret (()) (trivial) (.inl rfl) (r2 rfl rfl rfl) (List.nil_sublist _)
  · skip
    refine tk_skip ?_; refine tk_then ?_; refine tk_seq ?_; refine s_r ?_; refine s_q rfl (y_move rfl) ?_; refine s_q rfl (y_lenStr (l := l) rfl rfl) ?_; refine s_q rfl (y_gtr rfl rfl) ?_; refine s_n ?_; refine tk_condP rfl (fun ht19 => ?_) (fun ht19 => ?_)
    · skip
      refine s_r ?_; refine s_q rfl (y_assign rfl) ?_; refine s_q rfl (y_assign rfl) ?_; refine s_n ?_; refine tk_retc ?_; refine tk_then_ret ?_; refine tk_re 10 (Str []) (Str ((sealF hk mk kind name N l).1)) rfl (by rw [sealF_big (by omega) (by omega)]) ?_; refine tk_re 11 (I 4) (I (((sealF hk mk kind name N l).2 : Nat) : Int)) rfl (by rw [sealF_big (by omega) (by omega)]; rfl) ?_
      exact tk_ret (()) (trivial) (.inl rfl) (r2 rfl rfl rfl) (List.nil_sublist _)
    · skip
      refine tk_skip ?_; refine tk_then ?_; refine s_r ?_; refine s_q rfl (y_cutA (m := 16) (sz := 1) rfl (by kernel_rfl)) ?_; refine s_q rfl (y_str (l := N) rfl rfl rfl rfl (fun w hw => cel_rdE (o := 0) (m := 16) (cp := 16) (vs := N.map B) (hw.mem (.head _)) (dsW) (by first | rfl | exact lenP | (simp; omega)) lenP)) ?_; refine s_q rfl (y_assign rfl) ?_; refine s_n ?_; refine s_r ?_; refine s_q rfl (y_fld0 (o := 0) rfl (by kernel_rfl)) ?_
      refine s_q rfl (y_cutA (m := 32) (sz := 1) rfl (by kernel_rfl)) ?_; refine s_q rfl (y_str (l := hk) rfl rfl rfl rfl (fun w hw => cel_rdE (o := 0) (m := 32) (cp := 32) (vs := hk.map B) (hw.mem (.tail _ (.head _))) (dsW1) (by first | rfl | exact lenP | (simp; omega)) lenP)) ?_; refine tk_act rfl ?_; refine a_callv [] _ rfl (by kernel_rfl) rfl (fun w' hw' => Cip.rmake_spec hk w' lenP) rfl fun ⟨r25, q25⟩ _ => ?_
      refine s_q rfl (y_move rfl) ?_; refine s_q rfl (y_move rfl) ?_; refine tk_act rfl ?_; refine a_callv [] _ rfl (by kernel_rfl) rfl (fun w' hw' => Cip.rhide_spec r25 q25 0 (Cip.keyW hk) N l w' lenP (Cip.RK.of (hw'.mem (.head _)) (hw'.mem (.tail _ (.head _))) (Cip.keyW_len lenP)) (by decide) lenP) rfl fun _ _ => ?_; refine tk_re 28 (Str (Cip.hideL (Cip.keyW hk) N 0 l)) (Str (hidL hk N l)) rfl (by rw [hidL_def]) ?_
      refine s_q rfl (y_assign rfl) ?_; refine s_n ?_; refine s_r ?_; refine s_q rfl (y_move rfl) ?_; refine s_q rfl (y_move rfl) ?_; refine s_q rfl (y_catT (l := N) (m := hidL hk N l) rfl rfl lenP) ?_; refine s_q rfl (y_loadA 64 rfl (by kernel_rfl) lenP (hcw (.tail _ (.tail _ (.tail _ (.head _)))))) ?_; refine s_q rfl (y_move rfl) ?_; refine s_q rfl (y_move rfl) ?_; refine s_q rfl (y_move rfl) ?_
      refine s_q rfl (y_move rfl) ?_; refine tk_act rfl ?_; refine a_callv [] _ rfl (by kernel_rfl) rfl (fun w' hw' => rmark_spec (hk := hk) (mk := mk) (kind := kind) (name := name) (N := N) (h := hidL hk N l) ⟨lenP, lenP⟩ ⟨lenP, lenP, lenP⟩) rfl fun _ _ => ?_; refine s_q rfl (y_catT (l := N ++ (hidL hk N l)) (m := markL mk kind name N (hidL hk N l)) rfl rfl lenP) ?_; refine s_q rfl (y_assign rfl) ?_
      refine s_q rfl (y_assign rfl) ?_; refine s_n ?_; refine tk_retc ?_; refine tk_re 10 (Str ((N ++ (hidL hk N l)) ++ (markL mk kind name N (hidL hk N l)))) (Str ((sealF hk mk kind name N l).1)) rfl (by rw [sealF_ok (by omega) (by omega)]; exact congrArg Str sealL_def) ?_; refine tk_re 11 (I 0) (I (((sealF hk mk kind name N l).2 : Nat) : Int)) rfl (by rw [sealF_ok (by omega) (by omega)]; rfl) ?_
      exact tk_ret (()) (trivial) (.inl rfl) (r2 rfl rfl rfl) (List.nil_sublist _)
end Go.Proofs.YtkkjfojgjmglpaaGreatDoor
set_option linter.unusedSimpArgs false
set_option linter.unusedVariables false
namespace Go.Proofs.YtkkjfojgjmglpaaGreatDoor
open Go Go.RowKit
set_option maxRecDepth 100000
attribute [local irreducible] sumL keyedL hexL
def rg (n k : UInt8) : List UInt8 := [n, k, 0, 0, 0, 0, 0, 0, 0, 0, 0, 0, 0, 0, 0, 0, 0, 0, 0, 0, 0, 0, 0, 0, 0, 0, 0, 0, 0, 0, 0, 0]
@[simp] theorem rg_len {n k : UInt8} : (rg n k).length = 32 := rfl
def nameX (l : List UInt8) : List UInt8 := [120, 47] ++ (hexL (sumL l)).take 40
theorem pen13_spec {n : UInt8} {w : World} : Spec Tryz.prog 11 [B n] w [] (fun _ : Nat × Value => True)
    (fun x => .tuple #[.agg ((rg n 1).map B ++ ((rg n 2).map B ++ ((List.replicate 32 0 : List UInt8).map B ++ [Value.pointer (some ⟨x.1, 0, none⟩)]))).toArray, .agg ((rg n 1).map B ++ (rg n 2).map B).toArray]) (fun x => [cel x.1 [x.2, .int .u64 ((0 : Nat) : Int), .slice none 0 0] 201, ownB x.2 [n] 5]) := by
  refine spec_of (n := 21) Tryz.func11 rfl rfl trivial trivial rfl ?_; refine s_r ?_; refine tk_act rfl ?_; refine a_allocL (cs := (List.replicate 32 0).map B ++ ((List.replicate 32 0).map B ++ ((List.replicate 32 0).map B ++ ([Value.pointer none])))) (by kernel_rfl) rfl fun b2 => ?_; refine tk_act rfl ?_; refine a_allocL (cs := (List.replicate 32 0).map B ++ ((List.replicate 32 0).map B)) (by kernel_rfl) rfl fun b3 => ?_
  refine s_n ?_; refine s_r ?_; refine s_q rfl (y_move rfl) ?_; refine s_q rfl (y_build (v := .agg (([n, 1, 0, 0, 0, 0, 0, 0, 0, 0, 0, 0, 0, 0, 0, 0, 0, 0, 0, 0, 0, 0, 0, 0, 0, 0, 0, 0, 0, 0, 0, 0] : List UInt8).map B).toArray) (vs := [(0, B n), (1, B 1)]) rfl (fun _ => by kernel_rfl)) ?_; refine tk_re 6 (.agg (([n, 1, 0, 0, 0, 0, 0, 0, 0, 0, 0, 0, 0, 0, 0, 0, 0, 0, 0, 0, 0, 0, 0, 0, 0, 0, 0, 0, 0, 0, 0, 0] : List UInt8).map B).toArray) (.agg ((rg n 1).map B).toArray) rfl (rfl) ?_
  refine s_q rfl (y_move rfl) ?_; refine s_q rfl (y_build (v := .agg (([n, 2, 0, 0, 0, 0, 0, 0, 0, 0, 0, 0, 0, 0, 0, 0, 0, 0, 0, 0, 0, 0, 0, 0, 0, 0, 0, 0, 0, 0, 0, 0] : List UInt8).map B).toArray) (vs := [(0, B n), (1, B 2)]) rfl (fun _ => by kernel_rfl)) ?_; refine tk_re 8 (.agg (([n, 2, 0, 0, 0, 0, 0, 0, 0, 0, 0, 0, 0, 0, 0, 0, 0, 0, 0, 0, 0, 0, 0, 0, 0, 0, 0, 0, 0, 0, 0, 0] : List UInt8).map B).toArray) (.agg ((rg n 2).map B).toArray) rfl (rfl) ?_
  refine s_q rfl (y_build (v := .agg ((rg n 1).map B ++ ((rg n 2).map B)).toArray) (vs := [(0, .agg ((rg n 1).map B).toArray), (1, .agg ((rg n 2).map B).toArray)]) rfl (run_build (zs := (List.replicate 32 0).map B ++ ((List.replicate 32 0).map B)) (pl := [(0, 32), (32, 32)]) Tryz.underlying29 (fun _ => by kernel_rfl) (fun _ => by kernel_rfl) (fillP2 (a := (rg n 1).map B) (b := (rg n 2).map B) lenP (by simp) (by simp) (by simp)))) ?_
  refine tk_act rfl ?_; refine a_allocL (cs := (List.replicate 32 0).map B ++ ((List.replicate 32 0).map B)) (by kernel_rfl) rfl fun b4 => ?_; refine tk_act rfl ?_; refine a_storeW (H1 := []) (vs := (rg n 1).map B ++ ((rg n 2).map B)) 64 rfl rfl (by kernel_rfl) rfl ⟨lenP, lenP⟩ (List.forall_mem_append.2 ⟨oneB, oneB⟩) ?_; refine s_n ?_; refine tk_seq ?_; refine tk_drawH [cel b4 ((rg n 1).map B ++ ((rg n 2).map B)) 29] [] (by kernel_rfl) ?_
  refine s_l 0 rfl (fun _ h => h.sub (.cons_cons _ (List.nil_sublist _))) (y_loadA 64 rfl (by kernel_rfl) lenP (hcw (.head _))) ?_; refine s_x 1 rfl (y_build (v := .agg ((rg n 1).map B ++ ((rg n 2).map B ++ ((List.replicate 32 0).map B))).toArray) (vs := [(0, .agg ((rg n 1).map B ++ ((rg n 2).map B)).toArray)]) rfl (run_build (zs := (List.replicate 32 0).map B ++ ((List.replicate 32 0).map B ++ ((List.replicate 32 0).map B))) (pl := [(0, 64), (64, 32)]) Tryz.underlying31 (fun _ => by kernel_rfl) (fun _ => by kernel_rfl) (fillP1 (a := (rg n 1).map B ++ ((rg n 2).map B)) lenP (by simp) (by simp)))) ?_
  refine s_x 2 rfl (y_move rfl) ?_; refine s_x 6 rfl (y_fld0 (o := 0) rfl (by kernel_rfl)) ?_; refine s_l 7 rfl (fun _ h => h.sub (.cons_cons _ (List.nil_sublist _))) (y_loadA (vs := (rg n 1).map B) 32 rfl (by kernel_rfl) lenP (hseg (pre := ([] : List Value)) (post := (rg n 2).map B) (.head _) lenP (by simp))) ?_; refine s_x 8 rfl (y_fldN (o := 0) 32 rfl (by kernel_rfl)) ?_; refine s_l 9 rfl (fun _ h => h.sub (.cons_cons _ (List.nil_sublist _))) (y_loadA (vs := (rg n 2).map B) 32 rfl (by kernel_rfl) lenP (hseg (pre := (rg n 1).map B) (post := ([] : List Value)) (.head _) lenP (by simp))) ?_
  refine s_x 10 rfl (y_build (v := .agg ((rg n 1).map B ++ ((rg n 2).map B)).toArray) (vs := [(0, .agg ((rg n 1).map B).toArray), (1, .agg ((rg n 2).map B).toArray)]) rfl (run_build (zs := (List.replicate 32 0).map B ++ ((List.replicate 32 0).map B)) (pl := [(0, 32), (32, 32)]) Tryz.underlying35 (fun _ => by kernel_rfl) (fun _ => by kernel_rfl) (fillP2 (a := (rg n 1).map B) (b := (rg n 2).map B) lenP (by simp) (by simp) (by simp)))) ?_
  refine tx_a 3 rfl (by kernel_rfl) rfl ?_; refine a_slitN (vs := [B n]) rfl (List.forall_mem_cons.2 ⟨rfl, (fun _ h => nomatch h)⟩) (EL42) rfl rfl (by decide) fun b13 => ?_; refine tk_S (fun _ h => h.sub (.cons _ (.cons_cons _ (List.nil_sublist _)))) ?_; refine tx_more [cel b13 ([B n]) 5, cel b4 ((rg n 1).map B ++ ((rg n 2).map B)) 29] (fun _ h => h.sub (.cons _ (List.Sublist.refl _))) (fun _ h => h.sub (.cons_cons _ (.cons_cons _ (List.nil_sublist _)))) ?_
  refine tx_a 4 rfl (by kernel_rfl) rfl ?_; refine a_callv [] _ rfl (by kernel_rfl) rfl (fun w' hw' => wind_spec (b := [n]) (Ro.cel (H0 := []) (b := b13) (o := 0) (m := 1) (cp := 1) (vs := [n].map B) hw' (.head _) (rfl) (by first | rfl | exact lenP | (simp; omega)) lenP) lenP) rfl fun ⟨tb14, vb14⟩ _ => ?_; refine tk_S (fun _ h => h.sub (.cons _ (.cons _ (.cons_cons _ (.cons_cons _ (List.nil_sublist _)))))) ?_
  refine s_x 5 rfl (y_build (v := .agg ((rg n 1).map B ++ ((rg n 2).map B ++ ((List.replicate 32 0).map B ++ ([Value.pointer (some ⟨tb14, 0, none⟩)])))).toArray) (vs := [(0, .agg ((rg n 1).map B ++ ((rg n 2).map B ++ ((List.replicate 32 0).map B))).toArray), (1, .pointer (some ⟨tb14, 0, none⟩))]) rfl (run_build (zs := (List.replicate 32 0).map B ++ ((List.replicate 32 0).map B ++ ((List.replicate 32 0).map B ++ ([Value.pointer none])))) (pl := [(0, 96), (96, 1)]) Tryz.underlying34 (fun _ => by kernel_rfl) (fun _ => by kernel_rfl) (fillP2 (a := (rg n 1).map B ++ ((rg n 2).map B ++ ((List.replicate 32 0).map B))) (b := [Value.pointer (some ⟨tb14, 0, none⟩)]) lenP rfl (by simp) (by simp)))) ?_
  refine tx_a 11 rfl (by kernel_rfl) rfl ?_; refine a_storeW (H1 := [_, _, _, _, _]) (vs := (rg n 1).map B ++ ((rg n 2).map B ++ ((List.replicate 32 0).map B ++ ([Value.pointer (some ⟨tb14, 0, none⟩)])))) 97 rfl rfl (by kernel_rfl) rfl ⟨lenP, lenP⟩ (List.forall_mem_append.2 ⟨oneB, (List.forall_mem_append.2 ⟨oneB, (List.forall_mem_append.2 ⟨oneB, (List.forall_mem_cons.2 ⟨rfl, (fun _ h => nomatch h)⟩)⟩)⟩)⟩) ?_
  refine tk_S (fun _ h => h.sub (.cons _ (.cons _ (.cons_cons _ (.cons_cons _ (List.nil_sublist _)))))) ?_; refine tx_a 12 rfl (by kernel_rfl) rfl ?_; refine a_storeW (H1 := [_, _, _, _]) (vs := (rg n 1).map B ++ ((rg n 2).map B)) 64 rfl rfl (by kernel_rfl) rfl ⟨lenP, lenP⟩ (List.forall_mem_append.2 ⟨oneB, oneB⟩) ?_; refine tk_S (fun _ h => h.sub (.cons _ (.cons _ (.cons_cons _ (.cons_cons _ (List.nil_sublist _)))))) ?_
  refine tx_done (by kernel_rfl) ?_; refine tk_then ?_; refine tk_retc ?_
  exact tk_ret ((tb14, vb14)) (trivial) (.inl rfl) (rcc (vs := (rg n 1).map B ++ ((rg n 2).map B ++ ((List.replicate 32 0).map B ++ ([Value.pointer (some ⟨tb14, 0, none⟩)])))) (vs2 := (rg n 1).map B ++ ((rg n 2).map B)) rfl rfl (by simp; kernel_rfl) (hcw (.tail _ (.tail _ (.tail _ (.tail _ (.tail _ (.head _))))))) rfl (by simp; kernel_rfl) (hcw (.tail _ (.tail _ (.tail _ (.tail _ (.head _))))))) (.cons_cons _ (.cons_cons _ (List.nil_sublist _)))
theorem to_spec {pv ov : Value} {rows : List Pk} {ol : List (List UInt8)} {w : World} (h1 : Ro (Fs []) w (rdC pv rows.length (rows.flatMap pkC))) (hes : ∀ u ∈ rows, Ro (Fs []) w (rdC u.v u.es.length (u.es.flatMap eniC))) (ho : Ro (Fs []) w (rd ov (ol.map Str))) (hl : Small rows) (hol : ol.length ≤ 20) :
    Spec Tryz.prog 12 [.agg [pv, ov].toArray] w [] (fun p : Value × List Pk × Value => p.2.1.map Pk.dat = rows.map Pk.dat) (fun p => .agg [p.1, p.2.2].toArray) (fun p => [ownA pkC 2 p.1 p.2.1 132, bag (p.2.1.map (enO 135)), ownM Str p.2.2 ol 9]) := by
  refine spec_of (n := 11) Tryz.func12 rfl rfl trivial trivial rfl ?_; refine s_r ?_; refine tk_act rfl ?_; refine a_boxL (cs := [pv, ov]) rfl rfl fun b1 => ?_; refine tk_act rfl ?_; refine a_allocL (cs := [Value.slice none 0 0, .slice none 0 0]) (by kernel_rfl) rfl fun b2 => ?_; refine s_n ?_; refine tk_seq ?_; refine tk_drawH [cel b1 ([pv, ov]) 25] [] (by kernel_rfl) ?_; refine s_x 0 rfl (y_fld0 (o := 0) rfl (by kernel_rfl)) ?_
  refine s_l 1 rfl (fun _ h => h.sub (.cons _ (List.Sublist.refl _))) (y_load rfl rfl (hc (o := 0) (.head _) (rfl))) ?_; refine s_x 4 rfl (y_fldN (o := 0) 1 rfl (by kernel_rfl)) ?_; refine s_l 5 rfl (fun _ h => h.sub (.cons _ (List.Sublist.refl _))) (y_load rfl rfl (hc (o := 1) (.head _) (rfl))) ?_; refine tx_all (is := [2, 3]) (by kernel_rfl) rfl ⟨⟨_, rfl, rfl, ?_⟩, ⟨_, rfl, rfl, ?_⟩, trivial⟩
  · skip
    skip; refine a_callv [] _ rfl (by kernel_rfl) rfl (fun w' hw' => toPacks_spec (rows := rows) (Ro.call (H0 := []) h1 hw') (fun u hu => Ro.call (H0 := []) (hes u hu) hw') hl) rfl fun ⟨v5, l5⟩ hx5 => ?_
    dsimp only at hx5 ⊢
    refine tk_ownA (.head _) fun hfo5 => ?_; refine tk_S (fun _ h => h.sub (.cons _ (.cons _ (.cons _ (List.Sublist.refl _))))) ?_; refine tx_more [own v5 l5.length (l5.flatMap pkC) 132 2, bag (l5.map (enO 135)), cel b1 ([pv, ov]) 25] (fun _ h => h.sub (.cons _ (.cons _ (List.Sublist.refl _)))) (fun _ h => h.sub (.cons_cons _ (.cons_cons _ (.cons _ (List.Sublist.refl _))))) ?_; refine tx_a 3 rfl (by kernel_rfl) rfl ?_; refine a_slit0 EL23 rfl fun v6 => ?_
    refine tk_S (fun _ h => h.sub (.cons _ (.cons_cons _ (.cons_cons _ (.cons _ (List.Sublist.refl _)))))) ?_; refine tx_a 6 rfl (by kernel_rfl) rfl ?_; refine a_appM (H1 := []) (f := Str) (l := []) (m := ol) rfl rfl EL23 rfl rfl (fun w hw => Ro.rd ho hw) (fun _ => rfl) ⟨lenP, lenP⟩ fun v9 => ?_; refine tk_own1 (.head _) fun hfv9 => ?_; refine tk_S (fun _ h => h.sub (.cons _ (.cons_cons _ (.cons_cons _ (.cons _ (List.Sublist.refl _)))))) ?_
    refine s_x 7 rfl (y_build (v := .agg ([v5, v9]).toArray) (vs := [(0, v5), (1, v9)]) rfl (run_build (zs := [Value.slice none 0 0, .slice none 0 0]) (pl := [(0, 1), (1, 1)]) Tryz.underlying40 (fun _ => by kernel_rfl) (fun _ => by kernel_rfl) (fill_sv (RdC.cells hfo5.choose_spec) (RdS.cells hfv9.choose_spec)))) ?_; refine tx_a 8 rfl (by kernel_rfl) rfl ?_; refine a_storeW (H1 := [_, _, _]) (vs := [v5, v9]) 2 rfl rfl (by kernel_rfl) rfl ⟨lenP, lenP⟩ (List.forall_mem_cons.2 ⟨(RdC.one hfo5.choose_spec), (List.forall_mem_cons.2 ⟨(RdS.one hfv9.choose_spec), (fun _ h => nomatch h)⟩)⟩) ?_
    refine tk_S (fun _ h => h.sub (.cons _ (.cons_cons _ (.cons_cons _ (.cons _ (List.Sublist.refl _)))))) ?_; refine tx_done (by kernel_rfl) ?_; refine tk_then ?_; refine tk_retc ?_; refine tk_perm _ mv2 ?_; refine tk_perm _ mv2 ?_
    exact tk_ret ((v5, l5, v9)) (hx5) (.inl rfl) (rc (vs := [v5, v9]) rfl rfl (by simp; kernel_rfl) (hcw (.tail _ (.tail _ (.tail _ (.head _)))))) (.cons_cons _ (.cons_cons _ (.cons_cons _ (List.nil_sublist _))))
  · skip
    skip; refine a_slit0 EL23 rfl fun v6 => ?_
    refine tk_S (fun _ h => h.sub (.cons _ (.cons _ (List.Sublist.refl _)))) ?_; refine tx_a 2 rfl (by kernel_rfl) rfl ?_; refine a_callv [] _ rfl (by kernel_rfl) rfl (fun w' hw' => toPacks_spec (rows := rows) (Ro.call (H0 := []) h1 hw') (fun u hu => Ro.call (H0 := []) (hes u hu) hw') hl) rfl fun ⟨v5, l5⟩ hx5 => ?_
    dsimp only at hx5 ⊢
    refine tk_ownA (.head _) fun hfo5 => ?_; refine tk_S (fun _ h => h.sub (.cons _ (.cons _ (.cons _ (.cons _ (List.Sublist.refl _)))))) ?_; refine tx_more [own v5 l5.length (l5.flatMap pkC) 132 2, bag (l5.map (enO 135)), cel b1 ([pv, ov]) 25] (fun _ h => h.sub (.cons _ (.cons _ (List.Sublist.refl _)))) (fun _ h => h.sub (.cons_cons _ (.cons_cons _ (.cons _ (.cons _ (List.Sublist.refl _)))))) ?_; refine tx_a 6 rfl (by kernel_rfl) rfl ?_; refine a_appM (H1 := [_, _]) (f := Str) (l := []) (m := ol) rfl rfl EL23 rfl rfl (fun w hw => Ro.rd ho hw) (fun _ => rfl) ⟨lenP, lenP⟩ fun v9 => ?_
    refine tk_own1 (.tail _ (.tail _ (.head _))) fun hfv9 => ?_; refine tk_S (fun _ h => h.sub (.cons_cons _ (.cons_cons _ (.cons _ (.cons _ (List.Sublist.refl _)))))) ?_; refine s_x 7 rfl (y_build (v := .agg ([v5, v9]).toArray) (vs := [(0, v5), (1, v9)]) rfl (run_build (zs := [Value.slice none 0 0, .slice none 0 0]) (pl := [(0, 1), (1, 1)]) Tryz.underlying40 (fun _ => by kernel_rfl) (fun _ => by kernel_rfl) (fill_sv (RdC.cells hfo5.choose_spec) (RdS.cells hfv9.choose_spec)))) ?_
    refine tx_a 8 rfl (by kernel_rfl) rfl ?_; refine a_storeW (H1 := [_, _, _]) (vs := [v5, v9]) 2 rfl rfl (by kernel_rfl) rfl ⟨lenP, lenP⟩ (List.forall_mem_cons.2 ⟨(RdC.one hfo5.choose_spec), (List.forall_mem_cons.2 ⟨(RdS.one hfv9.choose_spec), (fun _ h => nomatch h)⟩)⟩) ?_; refine tk_S (fun _ h => h.sub (.cons_cons _ (.cons_cons _ (.cons _ (.cons _ (List.Sublist.refl _)))))) ?_; refine tx_done (by kernel_rfl) ?_
    refine tk_then ?_; refine tk_retc ?_
    exact tk_ret ((v5, l5, v9)) (hx5) (.inl rfl) (rc (vs := [v5, v9]) rfl rfl (by simp; kernel_rfl) (hcw (.tail _ (.tail _ (.tail _ (.head _)))))) (.cons_cons _ (.cons_cons _ (.cons_cons _ (List.nil_sublist _))))
theorem from_spec {pv ov : Value} {rows : List Pk} {ol : List (List UInt8)} {w : World} (h1 : Ro (Fs []) w (rdC pv rows.length (rows.flatMap pkC))) (hes : ∀ u ∈ rows, Ro (Fs []) w (rdC u.v u.es.length (u.es.flatMap eniC))) (ho : Ro (Fs []) w (rd ov (ol.map Str))) (hl : Small rows) :
    Spec Tryz.prog 16 [.agg [pv, ov].toArray] w [] (fun p : Value × List Pk => p.2.map Pk.dat = rows.map Pk.dat) (fun p => .agg [p.1, ov].toArray) (fun p => [ownA pkC 2 p.1 p.2 125, bag (p.2.map (enO 157))]) := by
  refine spec_of (n := 9) Tryz.func16 rfl rfl trivial trivial rfl ?_; refine s_r ?_; refine tk_act rfl ?_; refine a_boxL (cs := [pv, ov]) rfl rfl fun b1 => ?_; refine tk_act rfl ?_; refine a_allocL (cs := [Value.slice none 0 0, .slice none 0 0]) (by kernel_rfl) rfl fun b2 => ?_; refine s_n ?_; refine tk_seq ?_; refine tk_drawH [cel b1 ([pv, ov]) 40] [] (by kernel_rfl) ?_; refine s_x 0 rfl (y_fld0 (o := 0) rfl (by kernel_rfl)) ?_
  refine s_l 1 rfl (fun _ h => h.sub (.cons _ (List.Sublist.refl _))) (y_load rfl rfl (hc (o := 0) (.head _) (rfl))) ?_; refine s_x 3 rfl (y_fldN (o := 0) 1 rfl (by kernel_rfl)) ?_; refine s_l 4 rfl (fun _ h => h.sub (.cons _ (List.Sublist.refl _))) (y_load rfl rfl (hc (o := 1) (.head _) (rfl))) ?_; refine tx_a 2 rfl (by kernel_rfl) rfl ?_; refine a_callv [] _ rfl (by kernel_rfl) rfl (fun w' hw' => fromPacks_spec (rows := rows) (Ro.call (H0 := []) h1 hw') (fun u hu => Ro.call (H0 := []) (hes u hu) hw') hl) rfl fun ⟨v5, l5⟩ hx5 => ?_
  dsimp only at hx5 ⊢
  refine tk_ownA (.head _) fun hfo5 => ?_; refine tk_S (fun _ h => h.sub (.cons _ (.cons _ (.cons _ (List.Sublist.refl _))))) ?_; refine s_x 5 rfl (y_build (v := .agg ([v5, ov]).toArray) (vs := [(0, v5), (1, ov)]) rfl (run_build (zs := [Value.slice none 0 0, .slice none 0 0]) (pl := [(0, 1), (1, 1)]) Tryz.underlying25 (fun _ => by kernel_rfl) (fun _ => by kernel_rfl) (fill_sv (RdC.cells hfo5.choose_spec) (RdS.cells ho.1)))) ?_
  refine tx_a 6 rfl (by kernel_rfl) rfl ?_; refine a_storeW (H1 := [_, _]) (vs := [v5, ov]) 2 rfl rfl (by kernel_rfl) rfl ⟨lenP, lenP⟩ (List.forall_mem_cons.2 ⟨(RdC.one hfo5.choose_spec), (List.forall_mem_cons.2 ⟨(RdS.one ho.1), (fun _ h => nomatch h)⟩)⟩) ?_; refine tk_S (fun _ h => h.sub (.cons _ (.cons _ (.cons _ (List.Sublist.refl _))))) ?_; refine tx_done (by kernel_rfl) ?_; refine tk_then ?_; refine tk_retc ?_
  exact tk_ret ((v5, l5)) (hx5) (.inl rfl) (rc (vs := [v5, ov]) rfl rfl (by simp; kernel_rfl) (hcw (.tail _ (.tail _ (.head _))))) (.cons_cons _ (.cons_cons _ (List.nil_sublist _)))
theorem r6text_spec {l : List UInt8} {w : World} (hl : l.length < 1099511627776) : Spec Tryz.prog 72 [Str l] w [] (fun _ : Unit => True) (fun _ => Str (textL l)) (fun _ => []) := by
  refine spec_of (n := 8) Tryz.func72 rfl rfl trivial trivial rfl ?_
  have hn9 := numL_len 8 (n := l.length) (by omega)
  refine s_r ?_; refine s_q rfl (y_assign rfl) ?_; refine s_n ?_; refine s_r ?_; refine s_q rfl (y_move rfl) ?_; refine s_q rfl (y_lenStr (l := l) rfl rfl) ?_; refine tk_act rfl ?_; refine a_callv [] _ rfl (by kernel_rfl) rfl (fun w' hw' => rnum_spec (n := l.length) lenP) rfl fun _ _ => ?_; refine s_q rfl (y_move rfl) ?_; refine s_q rfl (y_catT (l := numL l.length) (m := l) rfl rfl lenP) ?_; refine s_q rfl (y_assign rfl) ?_
  refine s_n ?_; refine tk_retc ?_
  exact tk_ret (()) (trivial) (.inl rfl) (r1 rfl rfl) (List.Sublist.refl _)
theorem r13name_spec {l : List UInt8} {w : World} (hl : l.length < 1099511627776) : Spec Tryz.prog 21 [Str l] w [] (fun _ : Unit => True) (fun _ => Str (nameX l)) (fun _ => []) := by
  refine spec_of (n := 8) Tryz.func21 rfl rfl trivial trivial rfl ?_
  have hx64 : (hexL (sumL l)).length = 64 := by rw [hexL_len, sumL_len]
  refine s_r ?_; refine s_q rfl (y_assign rfl) ?_; refine s_n ?_; refine s_r ?_; refine s_q rfl (y_move rfl) ?_; refine tk_act rfl ?_; refine a_callv [] _ rfl (by kernel_rfl) rfl (fun w' hw' => rof_spec (l := l) lenP) rfl fun _ _ => ?_; refine tk_act rfl ?_; refine a_callv [] _ rfl (by kernel_rfl) rfl (fun w' hw' => rtext_spec (l := sumL l) lenP) rfl fun _ _ => ?_; refine s_q rfl (y_cutTh (l := hexL (sumL l)) (hi := 40) rfl rfl rfl (by omega)) ?_
  refine s_q rfl (y_catT (l := [120, 47]) (m := (hexL (sumL l)).take 40) rfl rfl lenP) ?_; refine s_q rfl (y_assign rfl) ?_; refine s_n ?_; refine tk_retc ?_
  exact tk_ret (()) (trivial) (.inl rfl) (r1 rfl rfl) (List.Sublist.refl _)
end Go.Proofs.YtkkjfojgjmglpaaGreatDoor
set_option linter.unusedSimpArgs false
set_option linter.unusedVariables false
namespace Go.Proofs.YtkkjfojgjmglpaaGreatDoor
open Go Go.RowKit
set_option maxRecDepth 100000
attribute [local irreducible] sumL keyedL hexL
theorem texts_succ {l : List (List UInt8)} {i : Nat} (h : i < l.length) : (l.take (i + 1)).flatMap textL = (l.take i).flatMap textL ++ textL (l.getD i []) := by
  rw [← take_snoc (d := []) h, List.flatMap_append]; simp
theorem texts_pre {l : List (List UInt8)} (i : Nat) : ((l.take i).flatMap textL).length ≤ (l.flatMap textL).length := by
  have h : l.flatMap textL = (l.take i).flatMap textL ++ (l.drop i).flatMap textL := by rw [← List.flatMap_append, List.take_append_drop]
  rw [h, List.length_append]; omega
theorem gtext_spec {ob : Nat} {sv v : Value} {b : List UInt8} {l : List (List UInt8)} {w : World} (hn : Ro (Fs [cel ob [v, I 0] 204, ownB v b 5]) w (rd sv (l.map Str))) (h17 : ∀ s ∈ l, s.length ≤ 131072) (hnl : l.length < 1000000) (hb : b.length + (l.flatMap textL).length < 109951162777) (hh : Pre w [cel ob [v, I 0] 204, ownB v b 5]) :
    Spec Tryz.prog 54 [.pointer (some ⟨ob, 0, none⟩), sv] w [cel ob [v, I 0] 204, ownB v b 5] (fun _ : Value => True) (fun _ => .pointer (some ⟨ob, 0, none⟩)) (fun x => [cel ob [x, I 0] 204, ownB x (b ++ l.flatMap textL) 5]) := by
  refine spec_of (n := 44) Tryz.func54 rfl rfl hh.1 hh.2 rfl ?_; refine tk_own1 (.tail _ (.head _)) fun hfv => ?_; refine s_r ?_; refine s_q rfl (y_assign rfl) ?_; refine s_n ?_; refine tk_seq ?_; refine s_r ?_; refine s_q rfl (y_move rfl) ?_; refine s_q rfl (y_lenRN (n' := l.length) rfl hn.1 rfl (by first | rfl | (rw [List.length_map]; omega) | simp)) ?_; refine s_q rfl (y_move rfl) ?_; refine s_n ?_
  refine tk_block ?_; refine tk_H [cel ob ([v, I 0]) 204, own v ((b ++ (l.take 0).flatMap textL).length) ((b ++ (l.take 0).flatMap textL).map B) 5 1] (congrArg (fun z_ => [cel ob ([v, I 0]) 204, z_]) (show own v b.length (b.map B) 5 1 = own v ((b ++ (l.take 0).flatMap textL).length) ((b ++ (l.take 0).flatMap textL).map B) 5 1 from ownM_cast (by simp))) ?_; refine tk_loop (X := Nat × Value) (fun (i, va) => i ≤ l.length) (fun (i, va) => [(0, .pointer (some ⟨ob, 0, none⟩)), (4, .pointer none), (7, sv), (8, I ((l.length : Nat) : Int)), (9, I ((i : Nat) : Int))]) (fun (i, va) => [cel ob ([va, I 0]) 204, own va ((b ++ (l.take i).flatMap textL).length) ((b ++ (l.take i).flatMap textL).map B) 5 1]) (fun (i, va) => l.length - i) ((0, v)) (Nat.zero_le _) (by repeat (first | exact trivial | refine ⟨rfl, ?_⟩)) ((List.Sublist.refl _)) ?_
  rintro ⟨i, va⟩ hI
  try dsimp only at hI ⊢
  have hfl := texts_pre (l := l) i
  refine tk_own1 (.tail _ (.head _)) fun hfa => ?_; refine s_r ?_; refine s_q rfl (y_lss rfl rfl) ?_; refine s_n ?_; refine tk_seq ?_; refine tk_condP rfl (fun ht10 => ?_) (fun ht10 => ?_)
  · skip
    have hsl := h17 _ (getD_mem (d := []) (l := l) (i := i) (by omega))
    have hn9 := numL_len 8 (n := (l.getD i []).length) (by omega)
    have hfl2 := texts_pre (l := l) (i + 1)
    have hfl3 : ((l.take i).flatMap textL).length + ((numL (l.getD i []).length).length + (l.getD i []).length) = ((l.take (i + 1)).flatMap textL).length := by rw [texts_succ (by omega)]; simp only [List.length_append, textL]
    refine tk_skip ?_; refine tk_then ?_; refine tk_seq ?_; refine tk_block ?_; refine s_r ?_; refine s_q rfl (y_ixR (j := i) rfl rfl hn.1 lenP (by kernel_rfl)) ?_; refine s_q rfl (y_load rfl rfl (fun w hw => ((fun w hw => Ro.rd hn hw) w hw).cell (gM (d := []) lenP))) ?_; refine s_q rfl (y_assign rfl) ?_; refine s_n ?_; refine tk_block ?_; refine s_r ?_; refine s_q rfl (y_move rfl) ?_; refine s_q rfl (y_pnil rfl rfl rfl) ?_
    refine s_q rfl (y_move rfl) ?_; refine s_g rfl (y_move rfl) ?_; refine s_g rfl (y_nilCheck rfl) ?_; refine s_g rfl (y_fldN (o := 0) 1 rfl (by kernel_rfl)) ?_; refine s_g rfl (y_load rfl rfl (hc (o := 1) (.head _) (rfl))) ?_; refine s_g rfl ((y_neq rfl rfl).cast (bool_f (by decide))) ?_; refine s_q rfl (y_pick0 rfl rfl) ?_; refine s_q rfl (y_assign rfl) ?_; refine s_n ?_; refine tk_cond0 rfl ?_
    refine s_r ?_; refine s_q rfl (y_move rfl) ?_; refine s_q rfl (y_lenStr (l := l.getD i []) rfl rfl) ?_; refine tk_qe (.bool false) rfl rfl rfl (y_gtr rfl rfl) (bool_f (by omega)) ?_; refine s_q rfl (y_assign rfl) ?_; refine s_n ?_; refine tk_cond0 rfl ?_; refine s_r ?_; refine s_q rfl (y_move rfl) ?_; refine s_q rfl (y_move rfl) ?_; refine s_q rfl (y_lenStr (l := l.getD i []) rfl rfl) ?_; refine tk_act rfl ?_; refine a_callv [] _ rfl (by kernel_rfl) rfl (fun w' hw' => gnum1_spec (ob := ob) (v := va) (b := b ++ (l.take i).flatMap textL) (n := (l.getD i []).length) lenP lenP (St.pre hw')) rfl fun v16 _ => ?_
    refine s_n ?_; refine tk_region ?_; refine s_q rfl (y_move rfl) ?_; refine s_q rfl (y_move rfl) ?_; refine s_q rfl (y_nilCheck rfl) ?_; refine s_q rfl (y_fld0 (o := 0) rfl (by kernel_rfl)) ?_; refine s_q rfl (y_load rfl rfl (hc (o := 0) (.head _) (rfl))) ?_; refine s_q rfl (y_move rfl) ?_; refine tk_act rfl ?_; refine a_appStr (H1 := [_]) (l := (b ++ (l.take i).flatMap textL) ++ numL ((l.getD i []).length)) (m := l.getD i []) rfl rfl EL42 Tryz.underlying9 rfl rfl ⟨lenP, lenP⟩ fun v23 => ?_
    refine tk_own1 (.tail _ (.head _)) fun hfv23 => ?_; refine s_q rfl (y_nilCheck rfl) ?_; refine s_q rfl (y_fld0 (o := 0) rfl (by kernel_rfl)) ?_; refine tk_act rfl ?_; refine a_storeE (H1 := []) (o := 0) (v := v23) (cs' := [v23, I 0]) rfl rfl (by kernel_rfl) (RdS.one hfv23.choose_spec) rfl (by first | (simp; done) | (simp; omega)) (rfl) ?_; refine tk_nil ?_; refine tk_in_normal ?_; refine tk_in_normal ?_
    refine tk_then ?_; refine tk_region ?_; refine s_q rfl (y_addN (a := i) (b := 1) rfl rfl (by omega)) ?_; refine s_q rfl (y_move rfl) ?_; refine tk_nil ?_; refine tk_H [cel ob ([v23, I 0]) 204, own v23 ((b ++ (l.take (i + 1)).flatMap textL).length) ((b ++ (l.take (i + 1)).flatMap textL).map B) 5 1] (congrArg (fun z_ => [cel ob ([v23, I 0]) 204, z_]) (show own v23 ((((b ++ (l.take i).flatMap textL) ++ numL ((l.getD i []).length)) ++ (l.getD i [])).length) ((((b ++ (l.take i).flatMap textL) ++ numL ((l.getD i []).length)) ++ (l.getD i [])).map B) 5 1 = own v23 ((b ++ (l.take (i + 1)).flatMap textL).length) ((b ++ (l.take (i + 1)).flatMap textL).map B) 5 1 from ownM_cast (by rw [texts_succ (by omega)]; simp [textL]))) ?_
    exact tk_again ((i + 1, v23)) (by dsimp only; omega) (by dsimp only; omega) (by repeat (first | exact trivial | refine ⟨rfl, ?_⟩)) (List.Sublist.refl _)
  · skip
    refine tk_exit ?_; refine tk_then_exit ?_; refine tk_then_exit ?_; refine tk_in_hit ?_; refine tk_then ?_; refine s_r ?_; refine s_q rfl (y_move rfl) ?_; refine s_q rfl (y_assign rfl) ?_; refine s_n ?_; refine tk_retc ?_; refine tk_H [cel ob ([va, I 0]) 204, own va ((b ++ l.flatMap textL).length) ((b ++ l.flatMap textL).map B) 5 1] (congrArg (fun z_ => [cel ob ([va, I 0]) 204, z_]) (show own va ((b ++ (l.take i).flatMap textL).length) ((b ++ (l.take i).flatMap textL).map B) 5 1 = own va ((b ++ l.flatMap textL).length) ((b ++ l.flatMap textL).map B) 5 1 from ownM_cast (by rw [show i = l.length by omega, List.take_length]))) ?_
    exact tk_ret (va) (trivial) (.inl rfl) (r1 rfl rfl) (List.Sublist.refl _)
def bareA (rows : List Pk) (i : Nat) : List UInt8 := [72, 89, 120] ++ numL rows.length ++ ((rows.take i).map Pk.dat).flatMap (fun p => pkL p.1 p.2)
theorem bareA_0 {rows : List Pk} : [72, 89, 120] ++ numL rows.length = bareA rows 0 := by simp [bareA]
theorem bareA_succ {rows : List Pk} {i : Nat} (h : i < rows.length) : bareA rows i ++ (textL (rows.getD i dPk).name ++ numL (rows.getD i dPk).es.length ++ (rows.getD i dPk).es.flatMap entL2) = bareA rows (i + 1) := by
  unfold bareA
  rw [← take_snoc (d := dPk) h, List.map_append, List.flatMap_append]
  simp [pkL, Pk.dat]
theorem bareA_all {rows : List Pk} {ol : List (List UInt8)} : bareA rows rows.length ++ numL ol.length ++ ol.flatMap textL = bareL rows ol := by
  unfold bareA bareL; rw [List.take_length]
/-- an entry whose numbers are small -/
def EOk (e : Eni) : Prop := 0 ≤ e.kind ∧ e.kind ≤ 2 ∧ 0 ≤ e.off ∧ e.off ≤ 1048576 ∧ 0 ≤ e.len ∧ e.len ≤ 1048576
theorem flatLe {α : Type} {f : α → List UInt8} {c : Nat} : ∀ {l : List α}, (∀ a ∈ l, (f a).length ≤ c) → (l.flatMap f).length ≤ l.length * c
  | [], _ => by simp
  | a :: l, h => by
    have h1 := h a (by simp)
    have h2 := flatLe (f := f) (c := c) (l := l) (fun b hb => h b (by simp [hb]))
    rw [List.flatMap_cons, List.length_append, List.length_cons, Nat.add_mul]; omega
theorem entL2_len {e : Eni} (h : EOk e) : (entL2 e).length ≤ 59 := by
  obtain ⟨h1, h2, h3, h4, h5, h6⟩ := h
  have a1 := numL_len 8 (n := e.kind.toNat) (by omega)
  have a2 := numL_len 8 (n := e.off.toNat) (by omega)
  have a3 := numL_len 8 (n := e.len.toNat) (by omega)
  have a4 := e.h
  simp only [entL2, List.length_append]; omega
theorem enis_len {es : List Eni} (h : es.length ≤ 12) (hok : ∀ e ∈ es, EOk e) (j : Nat) : ((es.take j).flatMap entL2).length ≤ 708 := by
  have h1 := flatLe (f := entL2) (c := 59) (l := es.take j) (fun a ha => entL2_len (hok a (List.mem_of_mem_take ha)))
  rw [List.length_take] at h1
  have : min j es.length ≤ 12 := by omega
  have := Nat.mul_le_mul_right 59 this
  omega
theorem pkL_len {n : List UInt8} {es : List Eni} (hn : n.length ≤ 300) (h : es.length ≤ 12) (hok : ∀ e ∈ es, EOk e) : (pkL n es).length ≤ 1026 := by
  have h1 := enis_len h hok es.length
  rw [List.take_length] at h1
  have a1 := numL_len 8 (n := n.length) (by omega)
  have a2 := numL_len 8 (n := es.length) (by omega)
  simp only [pkL, textL, List.length_append]; omega
theorem bareA_len {rows : List Pk} (hl : Small rows) (hok : ∀ u ∈ rows, ∀ e ∈ u.es, EOk e) (i : Nat) : (bareA rows i).length ≤ 20000 := by
  have h1 := flatLe (f := fun p : List UInt8 × List Eni => pkL p.1 p.2) (c := 1026) (l := (rows.take i).map Pk.dat) (fun a ha => by
    obtain ⟨u, hu, rfl⟩ := List.mem_map.1 ha
    have hu := List.mem_of_mem_take hu
    exact pkL_len (hl.2 u hu).2 (hl.2 u hu).1 (hok u hu))
  rw [List.length_map, List.length_take] at h1
  have h2 : min i rows.length ≤ 12 := by have := hl.1; omega
  have h3 := Nat.mul_le_mul_right 1026 h2
  have a1 := numL_len 8 (n := rows.length) (by have := hl.1; omega)
  unfold bareA
  simp only [List.length_append, List.length_cons, List.length_nil]; omega
theorem texts_len {l : List (List UInt8)} (h : l.length ≤ 20 ∧ ∀ s ∈ l, s.length ≤ 300) : (l.flatMap textL).length ≤ 6180 := by
  have h1 := flatLe (f := textL) (c := 309) (l := l) (fun s hs => by
    have h2 := h.2 s hs
    have a1 := numL_len 8 (n := s.length) (by omega)
    simp only [textL, List.length_append]; omega)
  have := Nat.mul_le_mul_right 309 h.1
  omega
theorem bare_spec {pv ov : Value} {rows : List Pk} {ol : List (List UInt8)} {w : World} (h1 : Ro (Fs []) w (rdC pv rows.length (rows.flatMap pkC))) (hes : ∀ u ∈ rows, Ro (Fs []) w (rdC u.v u.es.length (u.es.flatMap eniC))) (ho : Ro (Fs []) w (rd ov (ol.map Str))) (hl : Small rows) (hos2 : ol.length ≤ 20 ∧ ∀ s ∈ ol, s.length ≤ 300) (hok : ∀ u ∈ rows, ∀ e ∈ u.es, EOk e) :
    Spec Tryz.prog 20 [.agg [pv, ov].toArray] w [] (fun _ : Unit => True) (fun _ => Str (bareL rows ol)) (fun _ => []) := by
  refine spec_of (n := 91) Tryz.func20 rfl rfl trivial trivial rfl ?_
  have hl12 := hl.1
  have hr9 := numL_len 8 (n := rows.length) (by omega)
  have ho9 := numL_len 8 (n := ol.length) (by omega)
  have hbn := bareA_len hl hok rows.length
  have hol3 := texts_len (l := ol) hos2
  obtain ⟨hol, hos⟩ := hos2
  refine s_r ?_; refine tk_act rfl ?_; refine a_boxL (cs := [pv, ov]) rfl rfl fun b1 => ?_; refine s_q rfl (y_assign rfl) ?_; refine s_n ?_; refine s_r ?_; refine s_q rfl (y_assign rfl) ?_; refine s_n ?_; refine tk_seq ?_; refine tk_drawH [cel b1 ([pv, ov]) 25] [] (by kernel_rfl) ?_; refine s_x 0 rfl (y_move rfl) ?_; refine s_x 2 rfl (y_fld0 (o := 0) rfl (by kernel_rfl)) ?_; refine s_l 3 rfl (fun _ h => h.sub (List.Sublist.refl _)) (y_load rfl rfl (hc (o := 0) (.head _) (rfl))) ?_
  refine s_x 4 rfl (y_lenE rfl h1.1 rfl) ?_; refine tx_a 1 rfl (by kernel_rfl) rfl ?_; refine a_callv [] _ rfl (by kernel_rfl) rfl (fun w' hw' => rbegin_spec (kind := 120)) rfl fun _ _ => ?_; refine tk_S (fun _ h => h.sub (List.Sublist.refl _)) ?_; refine tx_a 5 rfl (by kernel_rfl) rfl ?_; refine a_callv [] _ rfl (by kernel_rfl) rfl (fun w' hw' => rnum_spec (n := rows.length) lenP) rfl fun _ _ => ?_
  refine tk_S (fun _ h => h.sub (List.Sublist.refl _)) ?_; refine s_x 6 rfl (y_catT (l := [72, 89, 120]) (m := numL rows.length) rfl rfl lenP) ?_; refine tk_ownM0 (f := B) 5 ?_; refine tx_a 7 rfl (by kernel_rfl) rfl ?_; refine a_appStr (H1 := []) (l := []) (m := [72, 89, 120] ++ (numL rows.length)) rfl rfl EL42 Tryz.underlying9 rfl rfl ⟨lenP, lenP⟩ fun v16 => ?_; refine tk_own1 (.head _) fun hfv16 => ?_
  refine tk_S (fun _ h => h.sub (.cons _ (List.Sublist.refl _))) ?_; refine s_x 8 rfl (y_assign rfl) ?_; refine tx_done (by kernel_rfl) ?_; refine tk_then ?_; refine tk_seq ?_; refine s_r ?_; refine s_q rfl (y_assign rfl) ?_; refine s_n ?_; refine tk_block ?_; refine tk_H [own v16 ((bareA rows 0).length) ((bareA rows 0).map B) 5 1, cel b1 ([pv, ov]) 25] (congrArg (fun z_ => [z_, cel b1 ([pv, ov]) 25]) (show own v16 (([72, 89, 120] ++ (numL rows.length)).length) (([72, 89, 120] ++ (numL rows.length)).map B) 5 1 = own v16 ((bareA rows 0).length) ((bareA rows 0).map B) 5 1 from ownM_cast (bareA_0))) ?_
  refine tk_loop (X := Nat × Value) (fun (i, va) => i ≤ rows.length) (fun (i, va) => [(1, .pointer (some ⟨b1, 0, none⟩)), (2, Str []), (3, va), (4, I ((i : Nat) : Int))]) (fun (i, va) => [own va ((bareA rows i).length) ((bareA rows i).map B) 5 1, cel b1 ([pv, ov]) 25]) (fun (i, va) => rows.length - i) ((0, v16)) (Nat.zero_le _) (by repeat (first | exact trivial | refine ⟨rfl, ?_⟩)) ((List.Sublist.refl _)) ?_
  rintro ⟨i, va⟩ hI
  try dsimp only at hI ⊢
  refine tk_own1 (.head _) fun hfa => ?_; refine tk_seq ?_; refine s_r ?_; refine s_q rfl (y_move rfl) ?_; refine s_q rfl (y_fld0 (o := 0) rfl (by kernel_rfl)) ?_; refine s_q rfl (y_load rfl rfl (hc (o := 0) (.tail _ (.head _)) (rfl))) ?_; refine s_q rfl (y_lenE rfl h1.1 rfl) ?_; refine s_q rfl (y_lss rfl rfl) ?_; refine s_n ?_; refine tk_condP rfl (fun ht21 => ?_) (fun ht21 => ?_)
  · skip
    have hs1 := hl.2 _ (getD_mem (d := dPk) (l := rows) (i := i) (by omega))
    have hok1 := hok _ (getD_mem (d := dPk) (l := rows) (i := i) (by omega))
    have hn9 := numL_len 8 (n := (rows.getD i dPk).name.length) (by omega)
    have he9 := numL_len 8 (n := (rows.getD i dPk).es.length) (by omega)
    have hbl := bareA_len hl hok i
    have htn : (textL (rows.getD i dPk).name).length = (numL (rows.getD i dPk).name.length).length + (rows.getD i dPk).name.length := by simp [textL]
    refine tk_skip ?_; refine tk_then ?_; refine tk_seq ?_; refine tk_block ?_; refine s_r ?_; refine s_q rfl (y_fld0 (o := 0) rfl (by kernel_rfl)) ?_; refine s_q rfl (y_load rfl rfl (hc (o := 0) (.tail _ (.head _)) (rfl))) ?_; refine s_q rfl (y_move rfl) ?_; refine s_q rfl (y_ixE (i := i) (k := 2) rfl rfl h1.1 lenP (by kernel_rfl)) ?_; refine s_q rfl (y_loadE (i := i) (k := 2) (o := 0) (f := pkC) (l := rows) (d0 := dPk) (vs := [Str ((rows.getD i dPk).name), (rows.getD i dPk).v]) 2 rfl (by kernel_rfl) rfl pkC_len lenP rfl (fun w hw => Ro.rdC h1 hw)) ?_
    refine tk_act rfl ?_; refine a_allocL (cs := [Str [], .slice none 0 0]) (by kernel_rfl) rfl fun b5 => ?_; refine tk_act rfl ?_; refine a_storeW (H1 := []) (vs := [Str ((rows.getD i dPk).name), (rows.getD i dPk).v]) 2 rfl rfl (by kernel_rfl) rfl ⟨lenP, lenP⟩ (List.forall_mem_cons.2 ⟨rfl, (List.forall_mem_cons.2 ⟨(RdC.one (hes _ (getD_mem lenP)).1), (fun _ h => nomatch h)⟩)⟩) ?_; refine s_n ?_; refine tk_seq ?_
    refine tk_drawH [cel b5 ([Str ((rows.getD i dPk).name), (rows.getD i dPk).v]) 125, cel b1 ([pv, ov]) 25] [] (by kernel_rfl) ?_; refine s_x 0 rfl (y_move rfl) ?_; refine s_x 1 rfl (y_fld0 (o := 0) rfl (by kernel_rfl)) ?_; refine s_l 2 rfl (fun _ h => h.sub (.cons_cons _ (.cons _ (List.Sublist.refl _)))) (y_load rfl rfl (hc (o := 0) (.head _) (rfl))) ?_; refine s_x 4 rfl (y_fldN (o := 0) 1 rfl (by kernel_rfl)) ?_
    refine s_l 5 rfl (fun _ h => h.sub (.cons_cons _ (.cons _ (List.Sublist.refl _)))) (y_load rfl rfl (hc (o := 1) (.head _) (rfl))) ?_; refine s_x 6 rfl (y_lenE rfl (hes _ (getD_mem lenP)).1 rfl) ?_; refine tx_a 3 rfl (by kernel_rfl) rfl ?_; refine a_callv [] _ rfl (by kernel_rfl) rfl (fun w' hw' => r6text_spec (l := (rows.getD i dPk).name) lenP) rfl fun _ _ => ?_; refine tk_S (fun _ h => h.sub (.cons_cons _ (.cons _ (List.Sublist.refl _)))) ?_
    refine tx_a 7 rfl (by kernel_rfl) rfl ?_; refine a_callv [] _ rfl (by kernel_rfl) rfl (fun w' hw' => rnum_spec (n := ((rows.getD i dPk).es).length) lenP) rfl fun _ _ => ?_; refine tk_S (fun _ h => h.sub (.cons_cons _ (.cons _ (List.Sublist.refl _)))) ?_; refine s_x 8 rfl (y_catT (l := textL ((rows.getD i dPk).name)) (m := numL (((rows.getD i dPk).es).length)) rfl rfl lenP) ?_; refine tx_a 9 rfl (by kernel_rfl) rfl ?_; refine a_appStr (H1 := [_]) (l := bareA rows i) (m := (textL ((rows.getD i dPk).name)) ++ (numL (((rows.getD i dPk).es).length))) rfl rfl EL42 Tryz.underlying9 rfl rfl ⟨lenP, lenP⟩ fun v38 => ?_
    refine tk_own1 (.tail _ (.head _)) fun hfv38 => ?_; refine tk_S (fun _ h => h.sub (.cons_cons _ (.cons _ (List.Sublist.refl _)))) ?_; refine s_x 10 rfl (y_assign rfl) ?_; refine tx_done (by kernel_rfl) ?_; refine tk_then ?_; refine s_r ?_; refine s_q rfl (y_assign rfl) ?_; refine s_n ?_; refine tk_block ?_; refine tk_H [cel b5 ([Str ((rows.getD i dPk).name), (rows.getD i dPk).v]) 125, own v38 ((bareA rows i ++ (textL (rows.getD i dPk).name ++ numL (rows.getD i dPk).es.length ++ ((rows.getD i dPk).es.take 0).flatMap entL2)).length) ((bareA rows i ++ (textL (rows.getD i dPk).name ++ numL (rows.getD i dPk).es.length ++ ((rows.getD i dPk).es.take 0).flatMap entL2)).map B) 5 1, cel b1 ([pv, ov]) 25] (congrArg (fun z_ => [cel b5 ([Str ((rows.getD i dPk).name), (rows.getD i dPk).v]) 125, z_, cel b1 ([pv, ov]) 25]) (show own v38 (((bareA rows i) ++ ((textL ((rows.getD i dPk).name)) ++ (numL (((rows.getD i dPk).es).length)))).length) (((bareA rows i) ++ ((textL ((rows.getD i dPk).name)) ++ (numL (((rows.getD i dPk).es).length)))).map B) 5 1 = own v38 ((bareA rows i ++ (textL (rows.getD i dPk).name ++ numL (rows.getD i dPk).es.length ++ ((rows.getD i dPk).es.take 0).flatMap entL2)).length) ((bareA rows i ++ (textL (rows.getD i dPk).name ++ numL (rows.getD i dPk).es.length ++ ((rows.getD i dPk).es.take 0).flatMap entL2)).map B) 5 1 from ownM_cast (by simp))) ?_
    refine tk_loop (X := Nat × Value) (fun (j, vb) => j ≤ (rows.getD i dPk).es.length) (fun (j, vb) => [(1, .pointer (some ⟨b1, 0, none⟩)), (2, Str []), (3, vb), (4, I ((i : Nat) : Int)), (5, .pointer (some ⟨b5, 0, none⟩)), (6, I ((j : Nat) : Int))]) (fun (j, vb) => [cel b5 ([Str ((rows.getD i dPk).name), (rows.getD i dPk).v]) 125, own vb ((bareA rows i ++ (textL (rows.getD i dPk).name ++ numL (rows.getD i dPk).es.length ++ ((rows.getD i dPk).es.take j).flatMap entL2)).length) ((bareA rows i ++ (textL (rows.getD i dPk).name ++ numL (rows.getD i dPk).es.length ++ ((rows.getD i dPk).es.take j).flatMap entL2)).map B) 5 1, cel b1 ([pv, ov]) 25]) (fun (j, vb) => (rows.getD i dPk).es.length - j) ((0, v38)) (Nat.zero_le _) (by repeat (first | exact trivial | refine ⟨rfl, ?_⟩)) ((List.Sublist.refl _)) ?_
    rintro ⟨j, vb⟩ hJ
    dsimp only at hJ ⊢
    have hel := enis_len hs1.1 hok1 j
    refine tk_own1 (.tail _ (.head _)) fun hfb => ?_; refine tk_seq ?_; refine s_r ?_; refine s_q rfl (y_move rfl) ?_; refine s_q rfl (y_fldN (o := 0) 1 rfl (by kernel_rfl)) ?_; refine s_q rfl (y_load rfl rfl (hc (o := 1) (.head _) (rfl))) ?_; refine s_q rfl (y_lenE rfl (hes _ (getD_mem lenP)).1 rfl) ?_; refine s_q rfl (y_lss rfl rfl) ?_; refine s_n ?_; refine tk_condP rfl (fun ht43 => ?_) (fun ht43 => ?_)
    · skip
      have hok2 := hok1 _ (getD_mem (d := dEni) (l := (rows.getD i dPk).es) (i := j) (by omega))
      obtain ⟨hk0, hk1, ho0, ho1, hl0, hl1⟩ := hok2
      have heh : (((rows.getD i dPk).es.getD j dEni)).id.length = 32 := (((rows.getD i dPk).es.getD j dEni)).h
      have hqkind := numL_len 8 (n := ((rows.getD i dPk).es.getD j dEni).kind.toNat) (by omega)
      have hqoff := numL_len 8 (n := ((rows.getD i dPk).es.getD j dEni).off.toNat) (by omega)
      have hqlen := numL_len 8 (n := ((rows.getD i dPk).es.getD j dEni).len.toNat) (by omega)
      refine tk_skip ?_; refine tk_then ?_; refine tk_seq ?_; refine tk_block ?_; refine s_r ?_; refine s_q rfl (y_fldN (o := 0) 1 rfl (by kernel_rfl)) ?_; refine s_q rfl (y_load rfl rfl (hc (o := 1) (.head _) (rfl))) ?_; refine s_q rfl (y_move rfl) ?_; refine s_q rfl (y_ixE (i := j) (k := 35) rfl rfl (hes _ (getD_mem lenP)).1 lenP (by kernel_rfl)) ?_; refine s_q rfl (y_loadE (i := j) (k := 35) (o := 0) (f := eniC) (l := (rows.getD i dPk).es) (d0 := dEni) (vs := ((((rows.getD i dPk).es).getD j dEni).id).map B ++ ([I ((((rows.getD i dPk).es).getD j dEni).kind), I ((((rows.getD i dPk).es).getD j dEni).off), I ((((rows.getD i dPk).es).getD j dEni).len)])) 35 rfl (by kernel_rfl) (by rw [List.length_append, List.length_map, (((rows.getD i dPk).es).getD j dEni).h]; rfl) eniC_len lenP (eni_all _) (fun w hw => Ro.rdC (hes _ (getD_mem lenP)) hw)) ?_
      refine tk_act rfl ?_; refine a_allocL (cs := (List.replicate 32 0).map B ++ ([I 0, I 0, I 0])) (by kernel_rfl) rfl fun b7 => ?_; refine tk_act rfl ?_; refine a_storeW (H1 := []) (vs := ((((rows.getD i dPk).es).getD j dEni).id).map B ++ ([I ((((rows.getD i dPk).es).getD j dEni).kind), I ((((rows.getD i dPk).es).getD j dEni).off), I ((((rows.getD i dPk).es).getD j dEni).len)])) 35 rfl rfl (by kernel_rfl) rfl ⟨lenP, lenP⟩ (List.forall_mem_append.2 ⟨oneB, (List.forall_mem_cons.2 ⟨rfl, (List.forall_mem_cons.2 ⟨rfl, (List.forall_mem_cons.2 ⟨rfl, (fun _ h => nomatch h)⟩)⟩)⟩)⟩) ?_
      refine s_n ?_; refine tk_drawH [cel b7 (((((rows.getD i dPk).es).getD j dEni).id).map B ++ ([I ((((rows.getD i dPk).es).getD j dEni).kind), I ((((rows.getD i dPk).es).getD j dEni).off), I ((((rows.getD i dPk).es).getD j dEni).len)])) 157, cel b5 ([Str ((rows.getD i dPk).name), (rows.getD i dPk).v]) 125, cel b1 ([pv, ov]) 25] [] (by kernel_rfl) ?_; refine s_x 0 rfl (y_move rfl) ?_; refine s_x 1 rfl (y_fld0 (o := 0) rfl (by kernel_rfl)) ?_
      refine s_x 2 rfl (y_cutA (m := 32) (sz := 1) rfl (by kernel_rfl)) ?_; refine s_l 3 rfl (fun _ h => h.sub (.cons_cons _ (.cons_cons _ (.cons _ (List.Sublist.refl _))))) (y_str (l := (((rows.getD i dPk).es).getD j dEni).id) rfl rfl rfl rfl (fun w hw => cel_rdE (o := 0) (m := 32) (cp := 32) (vs := ((((rows.getD i dPk).es).getD j dEni).id).map B) (hw.mem (.head _)) (dsW1) (by first | rfl | exact lenP | (simp; omega)) lenP)) ?_
      refine s_x 4 rfl (y_fldN (o := 0) 32 rfl (by kernel_rfl)) ?_; refine s_l 5 rfl (fun _ h => h.sub (.cons_cons _ (.cons_cons _ (.cons _ (List.Sublist.refl _))))) (y_load rfl rfl (hc (o := 32) (.head _) (gA (k := 32) (i := 0) (by rw [List.length_map]; exact (((rows.getD i dPk).es).getD j dEni).h) (by omega) (rfl)))) ?_; refine tk_re 56 (I ((((rows.getD i dPk).es).getD j dEni).kind)) (I ((((rows.getD i dPk).es.getD j dEni).kind.toNat : Nat) : Int)) rfl (congrArg I (Int.toNat_of_nonneg hk0).symm) ?_
      refine s_x 8 rfl (y_fldN (o := 0) 33 rfl (by kernel_rfl)) ?_; refine s_l 9 rfl (fun _ h => h.sub (.cons_cons _ (.cons_cons _ (.cons _ (List.Sublist.refl _))))) (y_load rfl rfl (hc (o := 33) (.head _) (gA (k := 32) (i := 1) (by rw [List.length_map]; exact (((rows.getD i dPk).es).getD j dEni).h) (by omega) (rfl)))) ?_; refine tk_re 60 (I ((((rows.getD i dPk).es).getD j dEni).off)) (I ((((rows.getD i dPk).es.getD j dEni).off.toNat : Nat) : Int)) rfl (congrArg I (Int.toNat_of_nonneg ho0).symm) ?_
      refine s_x 12 rfl (y_fldN (o := 0) 34 rfl (by kernel_rfl)) ?_; refine s_l 13 rfl (fun _ h => h.sub (.cons_cons _ (.cons_cons _ (.cons _ (List.Sublist.refl _))))) (y_load rfl rfl (hc (o := 34) (.head _) (gA (k := 32) (i := 2) (by rw [List.length_map]; exact (((rows.getD i dPk).es).getD j dEni).h) (by omega) (rfl)))) ?_; refine tk_re 64 (I ((((rows.getD i dPk).es).getD j dEni).len)) (I ((((rows.getD i dPk).es.getD j dEni).len.toNat : Nat) : Int)) rfl (congrArg I (Int.toNat_of_nonneg hl0).symm) ?_
      refine tx_a 6 rfl (by kernel_rfl) rfl ?_; refine a_callv [] _ rfl (by kernel_rfl) rfl (fun w' hw' => rnum_spec (n := ((rows.getD i dPk).es.getD j dEni).kind.toNat) lenP) rfl fun _ _ => ?_; refine tk_S (fun _ h => h.sub (.cons_cons _ (.cons_cons _ (.cons _ (List.Sublist.refl _))))) ?_; refine s_x 7 rfl (y_catT (l := (((rows.getD i dPk).es).getD j dEni).id) (m := numL (((rows.getD i dPk).es.getD j dEni).kind.toNat)) rfl rfl lenP) ?_
      refine tx_a 10 rfl (by kernel_rfl) rfl ?_; refine a_callv [] _ rfl (by kernel_rfl) rfl (fun w' hw' => rnum_spec (n := ((rows.getD i dPk).es.getD j dEni).off.toNat) lenP) rfl fun _ _ => ?_; refine tk_S (fun _ h => h.sub (.cons_cons _ (.cons_cons _ (.cons _ (List.Sublist.refl _))))) ?_; refine s_x 11 rfl (y_catT (l := ((((rows.getD i dPk).es).getD j dEni).id) ++ (numL (((rows.getD i dPk).es.getD j dEni).kind.toNat))) (m := numL (((rows.getD i dPk).es.getD j dEni).off.toNat)) rfl rfl lenP) ?_
      refine tx_a 14 rfl (by kernel_rfl) rfl ?_; refine a_callv [] _ rfl (by kernel_rfl) rfl (fun w' hw' => rnum_spec (n := ((rows.getD i dPk).es.getD j dEni).len.toNat) lenP) rfl fun _ _ => ?_; refine tk_S (fun _ h => h.sub (.cons_cons _ (.cons_cons _ (.cons _ (List.Sublist.refl _))))) ?_; refine s_x 15 rfl (y_catT (l := (((((rows.getD i dPk).es).getD j dEni).id) ++ (numL (((rows.getD i dPk).es.getD j dEni).kind.toNat))) ++ (numL (((rows.getD i dPk).es.getD j dEni).off.toNat))) (m := numL (((rows.getD i dPk).es.getD j dEni).len.toNat)) rfl rfl lenP) ?_
      refine tx_a 16 rfl (by kernel_rfl) rfl ?_; refine a_appStr (H1 := [_, _]) (l := bareA rows i ++ (textL (rows.getD i dPk).name ++ numL (rows.getD i dPk).es.length ++ ((rows.getD i dPk).es.take j).flatMap entL2)) (m := ((((((rows.getD i dPk).es).getD j dEni).id) ++ (numL (((rows.getD i dPk).es.getD j dEni).kind.toNat))) ++ (numL (((rows.getD i dPk).es.getD j dEni).off.toNat))) ++ (numL (((rows.getD i dPk).es.getD j dEni).len.toNat))) rfl rfl EL42 Tryz.underlying9 rfl rfl ⟨lenP, lenP⟩ fun v67 => ?_
      refine tk_own1 (.tail _ (.tail _ (.head _))) fun hfv67 => ?_; refine tk_S (fun _ h => h.sub (.cons_cons _ (.cons_cons _ (.cons _ (List.Sublist.refl _))))) ?_; refine s_x 17 rfl (y_assign rfl) ?_; refine tx_done (by kernel_rfl) ?_; refine tk_in_normal ?_; refine tk_then ?_; refine tk_region ?_; refine s_q rfl (y_move rfl) ?_; refine s_q rfl (y_addN (a := j) (b := 1) rfl rfl (by omega)) ?_; refine s_q rfl (y_assign rfl) ?_
      refine tk_nil ?_; refine tk_H [cel b7 (((((rows.getD i dPk).es).getD j dEni).id).map B ++ ([I ((((rows.getD i dPk).es).getD j dEni).kind), I ((((rows.getD i dPk).es).getD j dEni).off), I ((((rows.getD i dPk).es).getD j dEni).len)])) 157, cel b5 ([Str ((rows.getD i dPk).name), (rows.getD i dPk).v]) 125, own v67 ((bareA rows i ++ (textL (rows.getD i dPk).name ++ numL (rows.getD i dPk).es.length ++ ((rows.getD i dPk).es.take (j + 1)).flatMap entL2)).length) ((bareA rows i ++ (textL (rows.getD i dPk).name ++ numL (rows.getD i dPk).es.length ++ ((rows.getD i dPk).es.take (j + 1)).flatMap entL2)).map B) 5 1, cel b1 ([pv, ov]) 25] (congrArg (fun z_ => [cel b7 (((((rows.getD i dPk).es).getD j dEni).id).map B ++ ([I ((((rows.getD i dPk).es).getD j dEni).kind), I ((((rows.getD i dPk).es).getD j dEni).off), I ((((rows.getD i dPk).es).getD j dEni).len)])) 157, cel b5 ([Str ((rows.getD i dPk).name), (rows.getD i dPk).v]) 125, z_, cel b1 ([pv, ov]) 25]) (show own v67 (((bareA rows i ++ (textL (rows.getD i dPk).name ++ numL (rows.getD i dPk).es.length ++ ((rows.getD i dPk).es.take j).flatMap entL2)) ++ (((((((rows.getD i dPk).es).getD j dEni).id) ++ (numL (((rows.getD i dPk).es.getD j dEni).kind.toNat))) ++ (numL (((rows.getD i dPk).es.getD j dEni).off.toNat))) ++ (numL (((rows.getD i dPk).es.getD j dEni).len.toNat)))).length) (((bareA rows i ++ (textL (rows.getD i dPk).name ++ numL (rows.getD i dPk).es.length ++ ((rows.getD i dPk).es.take j).flatMap entL2)) ++ (((((((rows.getD i dPk).es).getD j dEni).id) ++ (numL (((rows.getD i dPk).es.getD j dEni).kind.toNat))) ++ (numL (((rows.getD i dPk).es.getD j dEni).off.toNat))) ++ (numL (((rows.getD i dPk).es.getD j dEni).len.toNat)))).map B) 5 1 = own v67 ((bareA rows i ++ (textL (rows.getD i dPk).name ++ numL (rows.getD i dPk).es.length ++ ((rows.getD i dPk).es.take (j + 1)).flatMap entL2)).length) ((bareA rows i ++ (textL (rows.getD i dPk).name ++ numL (rows.getD i dPk).es.length ++ ((rows.getD i dPk).es.take (j + 1)).flatMap entL2)).map B) 5 1 from ownM_cast (by rw [← take_snoc (d := dEni) (show j < (rows.getD i dPk).es.length by omega)]; simp [entL2]))) ?_
      exact tk_again ((j + 1, v67)) (by dsimp only; omega) (by dsimp only; omega) (by repeat (first | exact trivial | refine ⟨rfl, ?_⟩)) (.cons _ (List.Sublist.refl _))
    · skip
      refine tk_exit ?_; refine tk_then_exit ?_; refine tk_then_exit ?_; refine tk_in_hit ?_; refine tk_in_normal ?_; refine tk_then ?_; refine tk_region ?_; refine s_q rfl (y_move rfl) ?_; refine s_q rfl (y_addN (a := i) (b := 1) rfl rfl (by omega)) ?_; refine s_q rfl (y_assign rfl) ?_; refine tk_nil ?_; refine tk_H [cel b5 ([Str ((rows.getD i dPk).name), (rows.getD i dPk).v]) 125, own vb ((bareA rows (i + 1)).length) ((bareA rows (i + 1)).map B) 5 1, cel b1 ([pv, ov]) 25] (congrArg (fun z_ => [cel b5 ([Str ((rows.getD i dPk).name), (rows.getD i dPk).v]) 125, z_, cel b1 ([pv, ov]) 25]) (show own vb ((bareA rows i ++ (textL (rows.getD i dPk).name ++ numL (rows.getD i dPk).es.length ++ ((rows.getD i dPk).es.take j).flatMap entL2)).length) ((bareA rows i ++ (textL (rows.getD i dPk).name ++ numL (rows.getD i dPk).es.length ++ ((rows.getD i dPk).es.take j).flatMap entL2)).map B) 5 1 = own vb ((bareA rows (i + 1)).length) ((bareA rows (i + 1)).map B) 5 1 from ownM_cast (by rw [show j = (rows.getD i dPk).es.length by omega, List.take_length]; exact bareA_succ (by omega)))) ?_
      exact tk_again ((i + 1, vb)) (by dsimp only; omega) (by dsimp only; omega) (by repeat (first | exact trivial | refine ⟨rfl, ?_⟩)) (.cons _ (List.Sublist.refl _))
  · skip
    refine tk_exit ?_; refine tk_then_exit ?_; refine tk_then_exit ?_; refine tk_in_hit ?_; refine tk_then ?_; refine s_r ?_; refine tk_H [own va ((bareA rows rows.length).length) ((bareA rows rows.length).map B) 5 1, cel b1 ([pv, ov]) 25] (congrArg (fun z_ => [z_, cel b1 ([pv, ov]) 25]) (show own va ((bareA rows i).length) ((bareA rows i).map B) 5 1 = own va ((bareA rows rows.length).length) ((bareA rows rows.length).map B) 5 1 from ownM_cast (by rw [show i = rows.length by omega]))) ?_
    refine s_q rfl (y_move rfl) ?_; refine s_q rfl (y_fldN (o := 0) 1 rfl (by kernel_rfl)) ?_; refine s_q rfl (y_load rfl rfl (hc (o := 1) (.tail _ (.head _)) (rfl))) ?_; refine s_q rfl (y_lenRN (n' := ol.length) rfl ho.1 rfl (by first | rfl | (rw [List.length_map]; omega) | simp)) ?_; refine tk_act rfl ?_; refine a_callv [] _ rfl (by kernel_rfl) rfl (fun w' hw' => rnum_spec (n := ol.length) lenP) rfl fun _ _ => ?_
    refine tk_act rfl ?_; refine a_appStr (H1 := []) (l := bareA rows rows.length) (m := numL ol.length) rfl rfl EL42 Tryz.underlying9 rfl rfl ⟨lenP, lenP⟩ fun v73 => ?_; refine tk_own1 (.head _) fun hfv73 => ?_; refine s_q rfl (y_assign rfl) ?_; refine s_n ?_; refine tk_seq ?_; refine s_r ?_; refine s_q rfl (y_assign rfl) ?_; refine s_n ?_; refine tk_block ?_; refine tk_H [own v73 ((bareA rows rows.length ++ numL ol.length ++ (ol.take 0).flatMap textL).length) ((bareA rows rows.length ++ numL ol.length ++ (ol.take 0).flatMap textL).map B) 5 1, cel b1 ([pv, ov]) 25] (congrArg (fun z_ => [z_, cel b1 ([pv, ov]) 25]) (show own v73 (((bareA rows rows.length) ++ (numL ol.length)).length) (((bareA rows rows.length) ++ (numL ol.length)).map B) 5 1 = own v73 ((bareA rows rows.length ++ numL ol.length ++ (ol.take 0).flatMap textL).length) ((bareA rows rows.length ++ numL ol.length ++ (ol.take 0).flatMap textL).map B) 5 1 from ownM_cast (by simp))) ?_
    refine tk_loop (X := Nat × Value) (fun (k, vc) => k ≤ ol.length) (fun (k, vc) => [(1, .pointer (some ⟨b1, 0, none⟩)), (2, Str []), (3, vc), (8, I ((k : Nat) : Int))]) (fun (k, vc) => [own vc ((bareA rows rows.length ++ numL ol.length ++ (ol.take k).flatMap textL).length) ((bareA rows rows.length ++ numL ol.length ++ (ol.take k).flatMap textL).map B) 5 1, cel b1 ([pv, ov]) 25]) (fun (k, vc) => ol.length - k) ((0, v73)) (Nat.zero_le _) (by repeat (first | exact trivial | refine ⟨rfl, ?_⟩)) ((List.Sublist.refl _)) ?_
    rintro ⟨k, vc⟩ hK
    dsimp only at hK ⊢
    have htl := texts_pre (l := ol) k
    refine tk_own1 (.head _) fun hfc => ?_; refine tk_seq ?_; refine s_r ?_; refine s_q rfl (y_move rfl) ?_; refine s_q rfl (y_fldN (o := 0) 1 rfl (by kernel_rfl)) ?_; refine s_q rfl (y_load rfl rfl (hc (o := 1) (.tail _ (.head _)) (rfl))) ?_; refine s_q rfl (y_lenRN (n' := ol.length) rfl ho.1 rfl (by first | rfl | (rw [List.length_map]; omega) | simp)) ?_; refine s_q rfl (y_lss rfl rfl) ?_; refine s_n ?_
    refine tk_condP rfl (fun ht78 => ?_) (fun ht78 => ?_)
    · skip
      have hsl := hos _ (getD_mem (d := []) (l := ol) (i := k) (by omega))
      have hn9 := numL_len 8 (n := (ol.getD k []).length) (by omega)
      have htn : (textL (ol.getD k [])).length = (numL (ol.getD k []).length).length + (ol.getD k []).length := by simp [textL]
      refine tk_skip ?_; refine tk_then ?_; refine tk_seq ?_; refine tk_block ?_; refine tk_region ?_; refine s_q rfl (y_move rfl) ?_; refine s_q rfl (y_fldN (o := 0) 1 rfl (by kernel_rfl)) ?_; refine s_q rfl (y_load rfl rfl (hc (o := 1) (.tail _ (.head _)) (rfl))) ?_; refine s_q rfl (y_move rfl) ?_; refine s_q rfl (y_ixR (j := k) rfl rfl ho.1 lenP (by kernel_rfl)) ?_; refine s_q rfl (y_load rfl rfl (fun w hw => ((fun w hw => Ro.rd ho hw) w hw).cell (gM (d := []) lenP))) ?_
      refine tk_act rfl ?_; refine a_callv [] _ rfl (by kernel_rfl) rfl (fun w' hw' => r6text_spec (l := ol.getD k []) lenP) rfl fun _ _ => ?_; refine tk_act rfl ?_; refine a_appStr (H1 := []) (l := bareA rows rows.length ++ numL ol.length ++ (ol.take k).flatMap textL) (m := textL (ol.getD k [])) rfl rfl EL42 Tryz.underlying9 rfl rfl ⟨lenP, lenP⟩ fun v88 => ?_; refine tk_own1 (.head _) fun hfv88 => ?_
      refine s_q rfl (y_assign rfl) ?_; refine tk_nil ?_; refine tk_in_normal ?_; refine tk_then ?_; refine tk_region ?_; refine s_q rfl (y_move rfl) ?_; refine s_q rfl (y_addN (a := k) (b := 1) rfl rfl (by omega)) ?_; refine s_q rfl (y_assign rfl) ?_; refine tk_nil ?_; refine tk_H [own v88 ((bareA rows rows.length ++ numL ol.length ++ (ol.take (k + 1)).flatMap textL).length) ((bareA rows rows.length ++ numL ol.length ++ (ol.take (k + 1)).flatMap textL).map B) 5 1, cel b1 ([pv, ov]) 25] (congrArg (fun z_ => [z_, cel b1 ([pv, ov]) 25]) (show own v88 (((bareA rows rows.length ++ numL ol.length ++ (ol.take k).flatMap textL) ++ (textL (ol.getD k []))).length) (((bareA rows rows.length ++ numL ol.length ++ (ol.take k).flatMap textL) ++ (textL (ol.getD k []))).map B) 5 1 = own v88 ((bareA rows rows.length ++ numL ol.length ++ (ol.take (k + 1)).flatMap textL).length) ((bareA rows rows.length ++ numL ol.length ++ (ol.take (k + 1)).flatMap textL).map B) 5 1 from ownM_cast (by rw [texts_succ (by omega)]; simp))) ?_
      exact tk_again ((k + 1, v88)) (by dsimp only; omega) (by dsimp only; omega) (by repeat (first | exact trivial | refine ⟨rfl, ?_⟩)) (List.Sublist.refl _)
    · skip
      refine tk_exit ?_; refine tk_then_exit ?_; refine tk_then_exit ?_; refine tk_in_hit ?_; refine tk_then ?_; refine s_r ?_; refine tk_H [own vc ((bareL rows ol).length) ((bareL rows ol).map B) 5 1, cel b1 ([pv, ov]) 25] (congrArg (fun z_ => [z_, cel b1 ([pv, ov]) 25]) (show own vc ((bareA rows rows.length ++ numL ol.length ++ (ol.take k).flatMap textL).length) ((bareA rows rows.length ++ numL ol.length ++ (ol.take k).flatMap textL).map B) 5 1 = own vc ((bareL rows ol).length) ((bareL rows ol).map B) 5 1 from ownM_cast (by rw [show k = ol.length by omega, List.take_length]; exact bareA_all))) ?_
      refine s_q rfl (y_move rfl) ?_; refine s_q rfl (y_str (l := bareL rows ol) rfl rfl rfl rfl (fun w hw => own_rdS (hw.mem (.head _)))) ?_; refine s_q rfl (y_assign rfl) ?_; refine s_n ?_; refine tk_retc ?_
      exact tk_ret (()) (trivial) (.inl rfl) (r1 rfl rfl) (List.nil_sublist _)
end Go.Proofs.YtkkjfojgjmglpaaGreatDoor
