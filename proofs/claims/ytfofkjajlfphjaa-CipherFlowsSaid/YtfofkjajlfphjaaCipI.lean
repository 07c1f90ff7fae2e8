/- cipher's reference: Hide; the walks over the laws CipherTurns and CipherFlows. -/
import Derived.Test.YtfofkjajlfphjaaCipH
import Derived.Test.YtfofkjajlfphjaaCipRounds
namespace Go.Proofs.Ytfofkjajlfphjaa
open Go Go.RowKit
attribute [local irreducible] turn plus keyW hideL
theorem RK.fo {w w' : World} {E : Nat → Prop} {kb bb : Nat} {K : List UInt8} (h : RK w kb bb K) (hf : Fo E w w') (h1 : ¬ E kb) (h2 : ¬ E bb) : RK w' kb bb K :=
  ⟨hf.cell h.1 h1, fun m hm => hf.cell (h.2.1 m hm) h1, fun u => hf.cell (h.2.2 u) h2⟩
theorem RK.of {w : World} {kb bb : Nat} {K : List UInt8} (h1 : (cel kb (.slice (some ⟨bb, 0, none⟩) 256 256 :: K.map II) 71).holds w) (h2 : (cel bb (fwd.map II) 3).holds w) (hK : K.length = 240) : RK w kb bb K :=
  ⟨cel_cell h1 rfl, fun m hm => cel_cell h1 (kcell (m := m) rfl (by omega)), fun u => cel_cell h2 (fcell u)⟩
theorem take_len {l : List UInt8} {i : Nat} (h : i ≤ l.length) : (l.take i).length = i := by simp; omega
theorem getD_get {l : List UInt8} {i : Nat} (h : i < l.length) : l.getD i 0 = l[i] := by rw [List.getD_eq_getElem?_getD, List.getElem?_eq_getElem h]; rfl
theorem turnNil_spec (V : List UInt8) (w : World) : Spec Try.prog 13 [.pointer none, Ag V] w [] (fun _ : Unit => True) (fun _ => Ag (List.replicate 16 0)) (fun _ => []) := by
  refine spec_of (n := 24) Try.func13 rfl rfl trivial trivial rfl ?_
  refine tk_seq ?_
  refine tk_region ?_
  refine tk_act rfl ?_; refine a_boxL rfl rfl fun b3 => ?_
  refine tk_act rfl ?_; refine a_allocL (cs := (List.replicate 16 0).map B) (by kernel_rfl) rfl fun b4 => ?_
  refine tk_nil ?_
  refine tk_then ?_
  refine tk_seq ?_
  refine tk_seq ?_
  refine tk_region ?_
  refine tk_q rfl rfl rfl (y_move rfl) ?_
  refine tk_qe (.bool true) rfl rfl rfl (y_pnil rfl rfl rfl) (rfl) ?_
  refine tk_nil ?_
  refine tk_then ?_
  refine tk_cond1 rfl ?_
  refine tk_seq ?_
  refine tk_region ?_
  refine tk_q rfl rfl rfl (y_build (v := Ag (List.replicate 16 0)) (vs := []) rfl (fun _ => by kernel_rfl)) ?_
  refine tk_act rfl ?_; refine a_storeW (H1 := []) 16 rfl rfl (by kernel_rfl) rfl ⟨by simp, by simp⟩ oneB ?_
  refine tk_nil ?_
  refine tk_then ?_
  refine tk_retc ?_
  refine tk_then_ret ?_
  exact tk_ret () trivial (.inl rfl) (rc rfl rfl (by simp; kernel_rfl) (hcw (.head _))) (List.nil_sublist _)
set_option maxHeartbeats 1000000 in
theorem rhide_spec (kb bb a : Nat) (K N l : List UInt8) (w : World) (hN : N.length = 16) (hk : RK w kb bb K) (ha : a < 2 ^ 61) (hl : l.length < 2 ^ 46) :
    Spec Try.prog 22 [.pointer (some ⟨kb, 0, none⟩), Str N, I (a : Int), Str l] w [] (fun _ : Unit => True) (fun _ => Str (hideL K N a l)) (fun _ => []) := by
  refine spec_of (n := 48) Try.func22 rfl rfl trivial trivial rfl ?_
  refine tk_seq ?_
  refine tk_region ?_
  refine tk_q rfl rfl rfl (y_assign rfl) ?_
  refine tk_nil ?_
  refine tk_then ?_
  refine tk_seq ?_
  refine tk_region ?_
  refine tk_q rfl rfl rfl (y_assign rfl) ?_
  refine tk_nil ?_
  refine tk_then ?_
  refine tk_seq ?_
  refine tk_region ?_
  refine tk_q rfl rfl rfl (y_assign rfl) ?_
  refine tk_q rfl rfl rfl (y_assign rfl) ?_
  refine tk_nil ?_
  refine tk_then ?_
  refine tk_seq ?_
  refine tk_seq ?_
  refine tk_region ?_
  refine tk_own0 5 ?_
  refine tk_q rfl rfl rfl (y_assign rfl) ?_
  refine tk_nil ?_
  refine tk_then ?_
  refine tk_block ?_
  refine tk_loop (X := Nat × Value × Int × List UInt8) (fun x => x.1 ≤ l.length ∧ (x.2.2.1 = -1 ∨ ∃ q : Nat, x.2.2.1 = (q : Int) ∧ x.2.2.2 = turn K (plus N q))) (fun x => [(0, .pointer (some ⟨kb, 0, none⟩)), (1, Str N), (2, I (a : Int)), (3, Str l), (9, x.2.1), (10, Str x.2.2.2), (11, I x.2.2.1), (12, I (x.1 : Int))]) (fun x => [ownB x.2.1 (hideL K N a (l.take x.1)) 5]) (fun x => l.length - x.1) ((0, .slice none 0 0, -1, [])) (⟨Nat.zero_le _, .inl rfl⟩) (by repeat (first | exact trivial | refine ⟨rfl, ?_⟩)) (by show List.Sublist [ownB (.slice none 0 0) (hideL K N a (l.take 0)) 5] _; rw [List.take_zero, hideL_nil]; exact List.Sublist.refl _) ?_
  rintro ⟨i, vo, hv, sb⟩ ⟨hi0, hq⟩
  dsimp only at hi0 hq ⊢
  refine tk_seq ?_
  refine tk_seq ?_
  refine tk_region ?_
  refine tk_q rfl rfl rfl (y_move rfl) ?_
  refine tk_q rfl rfl rfl (y_move rfl) ?_
  refine tk_q rfl rfl rfl (y_lenStr rfl rfl) ?_
  refine tk_q rfl rfl rfl (y_lss rfl rfl) ?_
  refine tk_nil ?_
  refine tk_then ?_
  refine tk_condP rfl (fun h17 => ?_) (fun h17 => ?_)
  · skip
    have hi : i < l.length := by omega
    refine tk_skip ?_
    refine tk_then ?_
    refine tk_seq ?_
    refine tk_block ?_
    refine tk_seq ?_
    refine tk_region ?_
    refine tk_q rfl rfl rfl (y_move rfl) ?_
    refine tk_q rfl rfl rfl (y_move rfl) ?_
    refine tk_q rfl rfl rfl (y_addN rfl rfl (by omega)) ?_
    refine tk_q rfl rfl rfl (y_quoN (b := 16) rfl rfl (by omega)) ?_
    refine tk_q rfl rfl rfl (y_assign rfl) ?_
    refine tk_nil ?_
    refine tk_then ?_
    refine tk_seqI (X := Unit) (fun _ => True) (fun _ => [(0, .pointer (some ⟨kb, 0, none⟩)), (1, Str N), (2, I (a : Int)), (3, Str l), (9, vo), (10, Str (turn K (plus N ((a + i) / 16)))), (11, I (((a + i) / 16 : Nat) : Int)), (12, I (i : Int))]) (fun _ => [ownB vo (hideL K N a (l.take i)) 5]) ?_ ?_
    · skip
      refine tk_seq ?_
      refine tk_region ?_
      refine tk_q rfl rfl rfl (y_move rfl) ?_
      refine tk_q rfl rfl rfl (y_move rfl) ?_
      refine tk_q rfl rfl rfl (y_neq rfl rfl) ?_
      refine tk_nil ?_
      refine tk_then ?_
      refine tk_condP rfl (fun h26 => ?_) (fun h26 => ?_)
      · skip
        refine tk_region ?_
        refine tk_q rfl rfl rfl (y_move rfl) ?_
        refine tk_q rfl rfl rfl (y_move rfl) ?_
        refine tk_q rfl rfl rfl (y_move rfl) ?_
        refine tk_act rfl ?_; refine a_callv [] _ rfl (by kernel_rfl) rfl (fun w' hw' => plus_spec N ((a + i) / 16) w' hN (by omega)) rfl fun _ _ => ?_
        refine tk_act rfl ?_; refine a_callv [] _ rfl (by kernel_rfl) rfl (fun w' hw' => rturn_spec kb bb K (plus N ((a + i) / 16)) w' (by simp [hN]) (hk.fo hw'.fr (fun h => h) (fun h => h))) rfl fun _ _ => ?_
        refine tk_q rfl rfl rfl (y_move rfl) ?_
        refine tk_q rfl rfl rfl (y_assign rfl) ?_
        refine tk_q rfl rfl rfl (y_assign rfl) ?_
        refine tk_nil ?_
        exact tk_to () trivial (by repeat (first | exact trivial | refine ⟨rfl, ?_⟩)) (List.Sublist.refl _)
      · skip
        refine tk_skip ?_
        rcases hq with hq | ⟨q', hq, hq2⟩
        · exfalso; omega
        · have hq1 : q' = (a + i) / 16 := by omega
          exact tk_to () trivial ⟨rfl, rfl, rfl, rfl, rfl, by show some (Str sb) = _; rw [hq2, hq1], by show some (I hv) = _; rw [hq, hq1], rfl, trivial⟩ (List.Sublist.refl _)
    · intro _ _
      refine tk_draw (fun _ => True) [] (by kernel_rfl) ?_
      refine tx_q 0 rfl (by kernel_rfl) rfl rfl rfl (fun _ _ _ h => h) (y_move rfl) ?_
      refine tx_q 1 rfl (by kernel_rfl) rfl rfl rfl (fun _ _ _ h => h) (y_move rfl) ?_
      refine tx_q 2 rfl (by kernel_rfl) rfl rfl rfl (fun _ _ _ h => h) (y_move rfl) ?_
      refine tx_q 3 rfl (by kernel_rfl) rfl rfl rfl (fun _ _ _ h => h) (y_ixT (i := i) rfl rfl rfl ⟨rfl, by omega⟩) ?_
      refine tx_q 4 rfl (by kernel_rfl) rfl rfl rfl (fun _ _ _ h => h) (y_move rfl) ?_
      refine tx_q 5 rfl (by kernel_rfl) rfl rfl rfl (fun _ _ _ h => h) (y_move rfl) ?_
      refine tx_q 6 rfl (by kernel_rfl) rfl rfl rfl (fun _ _ _ h => h) (y_move rfl) ?_
      refine tx_q 7 rfl (by kernel_rfl) rfl rfl rfl (fun _ _ _ h => h) (y_addN rfl rfl (by omega)) ?_
      refine tx_q 8 rfl (by kernel_rfl) rfl rfl rfl (fun _ _ _ h => h) (y_remN (b := 16) rfl rfl (by omega)) ?_
      refine tx_q 9 rfl (by kernel_rfl) rfl rfl rfl (fun _ _ _ h => h) (y_ixT (i := (a + i) % 16) rfl rfl rfl ⟨rfl, by rw [turn_len (by simp [hN])]; omega⟩) ?_
      refine tx_q 10 rfl (by kernel_rfl) rfl rfl rfl (fun _ _ _ h => h) (y_xor8 rfl rfl) ?_
      refine tx_a 11 rfl (by kernel_rfl) rfl ?_; refine a_slit1 rfl rfl el5 rfl fun b44 => ?_
      refine tk_S (fun _ _ => trivial) ?_
      refine tx_a 12 rfl (by kernel_rfl) rfl ?_; refine a_append (H1 := [_]) (news := [_]) rfl rfl el5 rfl rfl rfl (hcw (.head _)) (by simp [Value.oneCell']) (by simp only [hideL_len, List.length_take]; omega) fun vo2 => ?_
      refine tk_S (fun _ _ => trivial) ?_
      refine tx_q 13 rfl (by kernel_rfl) rfl rfl rfl (fun _ _ _ h => h) (y_assign rfl) ?_
      refine tx_done (by kernel_rfl) ?_
      refine tk_in_normal ?_
      refine tk_then ?_
      refine tk_region ?_
      refine tk_q rfl rfl rfl (y_move rfl) ?_
      refine tk_qe (I ((i + 1 : Nat) : Int)) rfl rfl rfl (y_addI rfl rfl (by omega)) (by congr 1) ?_
      refine tk_q rfl rfl rfl (y_assign rfl) ?_
      refine tk_nil ?_
      exact tk_again (i + 1, vo2, (((a + i) / 16 : Nat) : Int), (turn K (plus N ((a + i) / 16)))) ⟨by show i + 1 ≤ l.length; omega, .inr ⟨(a + i) / 16, rfl, rfl⟩⟩ (by show l.length - (i + 1) < l.length - i; omega) (by repeat (first | exact trivial | refine ⟨rfl, ?_⟩)) (by dsimp only; rw [take_snoc (List.getElem?_eq_getElem hi), own_snoc, take_len hi0, ← getD_get hi]; exact List.Sublist.cons _ (List.Sublist.refl _))
  · skip
    obtain rfl : i = l.length := by omega
    rw [List.take_length]
    refine tk_exit ?_
    refine tk_then_exit ?_
    refine tk_then_exit ?_
    refine tk_in_hit ?_
    refine tk_then ?_
    refine tk_seq ?_
    refine tk_region ?_
    refine tk_q rfl rfl rfl (y_move rfl) ?_
    refine tk_q rfl rfl rfl (y_str (l := hideL K N a l) rfl rfl rfl rfl (fun w hw => own_rd (hw.mem (.head _)))) ?_
    refine tk_q rfl rfl rfl (y_assign rfl) ?_
    refine tk_nil ?_
    refine tk_then ?_
    refine tk_retc ?_
    exact tk_ret () trivial (.inl rfl) (r1 rfl rfl) (List.nil_sublist _)
set_option maxHeartbeats 1000000 in
theorem turns_spec (Kb V : List UInt8) (w : World) (hK : Kb.length = 32) (hV : V.length = 16) : Spec Try.prog 3 [Ag Kb, Ag V] w [] (fun _ : Unit => True) (fun _ => .bool true) (fun _ => []) := by
  refine spec_of (n := 60) Try.func3 rfl rfl trivial trivial rfl ?_
  refine tk_seq ?_
  refine tk_region ?_
  refine tk_act rfl ?_; refine a_boxL rfl rfl fun b2 => ?_
  refine tk_act rfl ?_; refine a_boxL rfl rfl fun b3 => ?_
  refine tk_q rfl rfl rfl (y_assign rfl) ?_
  refine tk_nil ?_
  refine tk_then ?_
  refine tk_seq ?_
  refine tk_region ?_
  refine tk_q rfl rfl rfl (y_cutA (m := 32) (sz := 1) rfl (by kernel_rfl)) ?_
  refine tk_act rfl ?_; refine a_callv [] _ rfl (by kernel_rfl) rfl (fun w' hw' => makeR_spec _ Kb w' hK (cel_rd (o := 0) (hw'.mem (.tail _ (.head _))) (by rw [List.drop_zero, List.take_length]) (by rw [List.length_map, hK]) (by omega))) rfl fun kb _ => ?_
  refine tk_q rfl rfl rfl (y_move rfl) ?_
  refine tk_q rfl rfl rfl (y_extract rfl rfl) ?_
  refine tk_q rfl rfl rfl (y_extract rfl rfl) ?_
  refine tk_q rfl rfl rfl (y_assign rfl) ?_
  refine tk_q rfl rfl rfl (y_assign rfl) ?_
  refine tk_nil ?_
  refine tk_then ?_
  refine tk_seq ?_
  refine tk_region ?_
  refine tk_q rfl rfl rfl (y_move rfl) ?_
  refine tk_q rfl rfl rfl (y_loadA 16 rfl (by kernel_rfl) (by simp [hV]) (hcw (.tail _ (.head _)))) ?_
  refine tk_act rfl ?_; refine a_callv [] _ rfl (by kernel_rfl) rfl (fun w' hw' => begin_spec kb V w' hV) rfl fun fb _ => ?_
  refine tk_q rfl rfl rfl (y_move rfl) ?_
  refine tk_q rfl rfl rfl (y_extract rfl rfl) ?_
  refine tk_q rfl rfl rfl (y_extract rfl rfl) ?_
  refine tk_q rfl rfl rfl (y_assign rfl) ?_
  refine tk_q rfl rfl rfl (y_assign rfl) ?_
  refine tk_nil ?_
  refine tk_then ?_
  refine tk_seq ?_
  refine tk_seq ?_
  refine tk_drawS [13] (by kernel_rfl) ?_
  refine tx_a 0 rfl (by kernel_rfl) rfl ?_; refine a_callv [] _ rfl (by kernel_rfl) rfl (fun w' hw' => hides_spec w') rfl fun _ _ => ?_
  refine tk_S (fun _ h => h) ?_
  refine tx_q 1 rfl (by kernel_rfl) rfl rfl rfl (fun _ _ _ h => h) (y_not rfl) ?_
  refine tx_q 2 rfl (by kernel_rfl) rfl rfl rfl (fun _ _ _ h => h) (y_move rfl) ?_
  refine tx_q 3 rfl (by kernel_rfl) rfl rfl rfl (fun _ _ _ h => h) (y_move rfl) ?_
  refine tx_q 4 rfl (by kernel_rfl) rfl rfl rfl (fun _ _ _ h => h) ((y_neq rfl rfl).cast (v := _) (u := .bool false) (bool_f (by omega))) ?_
  refine tx_q 5 rfl (by kernel_rfl) rfl rfl rfl (fun _ _ _ h => h) (y_pick0 rfl rfl) ?_
  refine tx_q 6 rfl (by kernel_rfl) rfl rfl rfl (fun _ _ _ h => h) (y_move rfl) ?_
  refine tx_q 7 rfl (by kernel_rfl) rfl rfl rfl (fun _ _ _ h => h) (y_move rfl) ?_
  refine tx_q 8 rfl (by kernel_rfl) rfl rfl rfl (fun _ _ _ h => h) ((y_neq rfl rfl).cast (v := _) (u := .bool false) (bool_f (by omega))) ?_
  refine tx_q 9 rfl (by kernel_rfl) rfl rfl rfl (fun _ _ _ h => h) (y_pick0 rfl rfl) ?_
  refine tx_q 10 rfl (by kernel_rfl) rfl rfl rfl (fun _ _ _ h => h) (y_move rfl) ?_
  refine tx_l 12 rfl (by kernel_rfl) (by kernel_rfl) rfl rfl rfl (fun _ _ _ h => h) (fun _ h => h) (y_loadA 16 rfl (by kernel_rfl) (by simp [hV]) (hcw (.tail _ (.tail _ (.head _))))) ?_
  refine tx_q 14 rfl (by kernel_rfl) rfl rfl rfl (fun _ _ _ h => h) (y_build (v := Ag (List.replicate 16 0)) (vs := []) rfl (fun _ => by kernel_rfl)) ?_
  refine tx_a 11 rfl (by kernel_rfl) rfl ?_; refine a_callv [] _ rfl (by kernel_rfl) rfl (fun w' hw' => nobody_spec w') rfl fun _ _ => ?_
  refine tk_S (fun _ h => h) ?_
  refine tx_x 13 rfl (by kernel_rfl) rfl rfl ?_; refine a_callv [] _ rfl (by kernel_rfl) rfl (fun w' hw' => turnNil_spec V w') rfl fun _ _ => ?_
  refine tx_q 15 rfl (by kernel_rfl) rfl rfl rfl (fun _ _ _ h => h) ((y_agNe rfl rfl rfl rfl (by kernel_rfl) (by kernel_rfl) ⟨by simp [hV], by simp [hV]⟩).cast (v := _) (u := .bool false) (bool_f (fun h => h rfl))) ?_
  refine tx_q 16 rfl (by kernel_rfl) rfl rfl rfl (fun _ _ _ h => h) (y_pick0 rfl rfl) ?_
  refine tx_done (by kernel_rfl) ?_
  refine tk_then ?_
  refine tk_cond0 rfl ?_
  refine tk_skip ?_
  refine tk_then ?_
  refine tk_seq ?_
  refine tk_region ?_
  refine tk_q rfl rfl rfl (y_move rfl) ?_
  refine tk_q rfl rfl rfl (y_loadA 16 rfl (by kernel_rfl) (by simp [hV]) (hcw (.tail _ (.tail _ (.head _))))) ?_
  refine tk_act rfl ?_; refine a_callv [] _ rfl (by kernel_rfl) rfl (fun w' hw' => turn_spec kb (keyW Kb) V w' hV (fun j hj => cel_cell (hw'.mem (.tail _ (.head _))) (getB (by rw [keyW_len hK]; exact hj)))) rfl fun _ _ => ?_
  refine tk_act rfl ?_; refine a_allocL (cs := (List.replicate 16 0).map B) (by kernel_rfl) rfl fun b9 => ?_
  refine tk_act rfl ?_; refine a_storeW (H1 := []) 16 rfl rfl (by kernel_rfl) rfl ⟨by simp [hV], by simp⟩ oneB ?_
  refine tk_nil ?_
  refine tk_then ?_
  refine tk_seq ?_
  refine tk_drawS [] (by kernel_rfl) ?_
  refine tx_q 0 rfl (by kernel_rfl) rfl rfl rfl (fun _ _ _ h => h) (y_cutA (m := 16) (sz := 1) rfl (by kernel_rfl)) ?_
  refine tx_l 1 rfl (by kernel_rfl) (by kernel_rfl) rfl rfl rfl (fun _ _ _ h => h) (fun _ h => h) (y_str (l := turn (keyW Kb) V) rfl rfl rfl rfl (fun w hw => cel_rd (o := 0) (hw.mem (.head _)) (by rw [List.drop_zero, List.take_length]) (by rw [List.length_map, turn_len hV]) (by omega))) ?_
  refine tx_q 2 rfl (by kernel_rfl) rfl rfl rfl (fun _ _ _ h => h) (y_cutA (m := 32) (sz := 1) rfl (by kernel_rfl)) ?_
  refine tx_l 3 rfl (by kernel_rfl) (by kernel_rfl) rfl rfl rfl (fun _ _ _ h => h) (fun _ h => h) (y_str (l := Kb) rfl rfl rfl rfl (fun w hw => cel_rd (o := 0) (hw.mem (.tail _ (.tail _ (.tail _ (.tail _ (.head _)))))) (by rw [List.drop_zero, List.take_length]) (by rw [List.length_map, hK]) (by omega))) ?_
  refine tx_q 5 rfl (by kernel_rfl) rfl rfl rfl (fun _ _ _ h => h) (y_cutA (m := 16) (sz := 1) rfl (by kernel_rfl)) ?_
  refine tx_l 6 rfl (by kernel_rfl) (by kernel_rfl) rfl rfl rfl (fun _ _ _ h => h) (fun _ h => h) (y_str (l := V) rfl rfl rfl rfl (fun w hw => cel_rd (o := 0) (hw.mem (.tail _ (.tail _ (.tail _ (.head _))))) (by rw [List.drop_zero, List.take_length]) (by rw [List.length_map, hV]) (by omega))) ?_
  refine tx_a 4 rfl (by kernel_rfl) rfl ?_; refine a_callv [] _ rfl (by kernel_rfl) rfl (fun w' hw' => rmake_spec Kb w' hK) rfl fun rk _ => ?_
  refine tk_S (fun _ h => h.sub (List.Sublist.cons _ (List.Sublist.cons _ (List.Sublist.refl _)))) ?_
  refine tx_a 7 rfl (by kernel_rfl) rfl ?_; refine a_callv [] _ rfl (by kernel_rfl) rfl (fun w' hw' => rturn_spec rk.1 rk.2 (keyW Kb) V w' hV (RK.of (hw'.mem (.head _)) (hw'.mem (.tail _ (.head _))) (keyW_len hK))) rfl fun _ _ => ?_
  refine tk_S (fun _ h => h.sub (List.Sublist.cons _ (List.Sublist.cons _ (List.Sublist.refl _)))) ?_
  refine tx_q 8 rfl (by kernel_rfl) rfl rfl rfl (fun _ _ _ h => h) ((y_strEq rfl rfl).cast (v := _) (u := .bool true) (bool_t (rfl))) ?_
  refine tx_q 9 rfl (by kernel_rfl) rfl rfl rfl (fun _ _ _ h => h) (y_move rfl) ?_
  refine tx_q 10 rfl (by kernel_rfl) rfl rfl rfl (fun _ _ _ h => h) (y_move rfl) ?_
  refine tx_q 11 rfl (by kernel_rfl) rfl rfl rfl (fun _ _ _ h => h) (y_nilCheck rfl) ?_
  refine tx_q 12 rfl (by kernel_rfl) rfl rfl rfl (fun _ _ _ h => h) (y_fld0 rfl (by kernel_rfl)) ?_
  refine tx_l 13 rfl (by kernel_rfl) (by kernel_rfl) rfl rfl rfl (fun _ _ _ h => h) (fun _ h => h.sub (List.Sublist.cons _ (List.Sublist.cons _ (List.Sublist.refl _)))) (y_load rfl rfl (hc (.tail _ (.head _)) rfl)) ?_
  refine tx_l 14 rfl (by kernel_rfl) (by kernel_rfl) rfl rfl rfl (fun _ _ _ h => h) (fun _ h => h.sub (List.Sublist.cons _ (List.Sublist.cons _ (List.Sublist.refl _)))) (y_loadA 16 rfl (by kernel_rfl) (by simp [hV]) (hcw (.tail _ (.tail _ (.tail _ (.head _)))))) ?_
  refine tx_l 16 rfl (by kernel_rfl) (by kernel_rfl) rfl rfl rfl (fun _ _ _ h => h) (fun _ h => h.sub (List.Sublist.cons _ (List.Sublist.cons _ (List.Sublist.refl _)))) (y_loadA 16 rfl (by kernel_rfl) (by simp [hV]) (hcw (.head _))) ?_
  refine tx_a 15 rfl (by kernel_rfl) rfl ?_; refine a_callv [] _ rfl (by kernel_rfl) rfl (fun w' hw' => turn_spec kb (keyW Kb) V w' hV (fun j hj => cel_cell (hw'.mem (.tail _ (.tail _ (.tail _ (.tail _ (.head _)))))) (getB (by rw [keyW_len hK]; exact hj)))) rfl fun _ _ => ?_
  refine tk_S (fun _ h => h.sub (List.Sublist.cons _ (List.Sublist.cons _ (List.Sublist.refl _)))) ?_
  refine tx_q 17 rfl (by kernel_rfl) rfl rfl rfl (fun _ _ _ h => h) ((y_agEq rfl rfl rfl rfl (by kernel_rfl) (by kernel_rfl) ⟨by simp [hV], by simp [hV]⟩).cast (v := _) (u := .bool true) (bool_t (rfl))) ?_
  refine tx_q 18 rfl (by kernel_rfl) rfl rfl rfl (fun _ _ _ h => h) (y_pick1 rfl rfl) ?_
  refine tx_q 19 rfl (by kernel_rfl) rfl rfl rfl (fun _ _ _ h => h) (y_assign rfl) ?_
  refine tx_done (by kernel_rfl) ?_
  refine tk_then ?_
  refine tk_retc ?_
  exact tk_ret () trivial (.inl rfl) (r1 rfl rfl) (List.nil_sublist _)
theorem flowsNeg_spec (Kb N : List UInt8) (a : Int) (vb : Value) (bs : List UInt8) (w : World) (hK : Kb.length = 32) (hN : N.length = 16) (hR : RdB w vb bs) (hneg : a < 0) : Spec Try.prog 7 [.agg (Kb.map B ++ (N.map B ++ [I a, vb])).toArray] w [] (fun _ : Unit => True) (fun _ => .bool true) (fun _ => []) := by
  have hbad : a < 0 ∨ 1099511627776 < a := .inl hneg
  refine spec_of (n := 93) Try.func7 rfl rfl trivial trivial rfl ?_
  refine tk_seq ?_
  refine tk_region ?_
  refine tk_act rfl ?_; refine a_boxL rfl rfl fun b1 => ?_
  refine tk_q rfl rfl rfl (y_assign rfl) ?_
  refine tk_nil ?_
  refine tk_then ?_
  refine tk_seq ?_
  refine tk_region ?_
  refine tk_q rfl rfl rfl (y_fld0 rfl (by kernel_rfl)) ?_
  refine tk_q rfl rfl rfl (y_cutA (m := 32) (sz := 1) rfl (by kernel_rfl)) ?_
  refine tk_act rfl ?_; refine a_callv [] _ rfl (by kernel_rfl) rfl (fun w' hw' => makeR_spec _ Kb w' hK (cel_rd (hw'.mem (.head _)) (pk_key hK) (by rw [List.length_map, hK]) (by omega))) rfl fun kb _ => ?_
  refine tk_q rfl rfl rfl (y_move rfl) ?_
  refine tk_q rfl rfl rfl (y_extract rfl rfl) ?_
  refine tk_q rfl rfl rfl (y_extract rfl rfl) ?_
  refine tk_q rfl rfl rfl (y_assign rfl) ?_
  refine tk_q rfl rfl rfl (y_assign rfl) ?_
  refine tk_nil ?_
  refine tk_then ?_
  refine tk_seq ?_
  refine tk_region ?_
  refine tk_q rfl rfl rfl (y_move rfl) ?_
  refine tk_q rfl rfl rfl (y_fldN 32 rfl (by kernel_rfl)) ?_
  refine tk_q rfl rfl rfl (y_loadA 16 rfl (by kernel_rfl) (by simp [hK, hN]) (hcs (vs := N.map B) (.tail _ (.head _)) (pk_num hK hN))) ?_
  refine tk_act rfl ?_; refine a_callv [] _ rfl (by kernel_rfl) rfl (fun w' hw' => begin_spec kb N w' hN) rfl fun fb _ => ?_
  refine tk_q rfl rfl rfl (y_move rfl) ?_
  refine tk_q rfl rfl rfl (y_extract rfl rfl) ?_
  refine tk_q rfl rfl rfl (y_extract rfl rfl) ?_
  refine tk_q rfl rfl rfl (y_assign rfl) ?_
  refine tk_q rfl rfl rfl (y_assign rfl) ?_
  refine tk_nil ?_
  refine tk_then ?_
  refine tk_seq ?_
  refine tk_seq ?_
  refine tk_region ?_
  refine tk_act rfl ?_; refine a_callv [] _ rfl (by kernel_rfl) rfl (fun w' hw' => hides_spec w') rfl fun _ _ => ?_
  refine tk_q rfl rfl rfl (y_not rfl) ?_
  refine tk_q rfl rfl rfl (y_move rfl) ?_
  refine tk_gq rfl rfl rfl (y_move rfl) ?_
  refine tk_gqe (.bool false) rfl rfl rfl (y_neq rfl rfl) (bool_f (by omega)) ?_
  refine tk_q rfl rfl rfl (y_pick0 rfl rfl) ?_
  refine tk_q rfl rfl rfl (y_move rfl) ?_
  refine tk_gq rfl rfl rfl (y_move rfl) ?_
  refine tk_gqe (.bool false) rfl rfl rfl (y_neq rfl rfl) (bool_f (by omega)) ?_
  refine tk_q rfl rfl rfl (y_pick0 rfl rfl) ?_
  refine tk_nil ?_
  refine tk_then ?_
  refine tk_cond0 rfl ?_
  refine tk_skip ?_
  refine tk_then ?_
  refine tk_seq ?_
  refine tk_seq ?_
  refine tk_region ?_
  refine tk_q rfl rfl rfl (y_fldN 48 rfl (by kernel_rfl)) ?_
  refine tk_q rfl rfl rfl (y_load rfl rfl (hc (.tail _ (.tail _ (.head _))) (pk_48 hK hN))) ?_
  refine tk_qe (.bool true) rfl rfl rfl (y_lss rfl rfl) (bool_t (by omega)) ?_
  refine tk_q rfl rfl rfl (y_move rfl) ?_
  refine tk_gno rfl rfl rfl ?_
  refine tk_gno rfl rfl rfl ?_
  refine tk_gno rfl rfl rfl ?_
  refine tk_q rfl rfl rfl (y_pick1 rfl rfl) ?_
  refine tk_nil ?_
  refine tk_then ?_
  refine tk_cond1 rfl ?_
  refine tk_seq ?_
  refine tk_region ?_
  refine tk_q rfl rfl rfl (y_move rfl) ?_
  refine tk_q rfl rfl rfl (y_fldN 48 rfl (by kernel_rfl)) ?_
  refine tk_q rfl rfl rfl (y_load rfl rfl (hc (.tail _ (.tail _ (.head _))) (pk_48 hK hN))) ?_
  refine tk_act rfl ?_; refine a_callv [] _ rfl (by kernel_rfl) rfl (fun w' hw' => seekBad_spec fb a w' hbad) rfl fun _ _ => ?_
  refine tk_qe (.bool true) rfl rfl rfl (y_eql rfl rfl) (bool_t (by omega)) ?_
  refine tk_q rfl rfl rfl (y_move rfl) ?_
  refine tk_gq rfl rfl rfl (y_move rfl) ?_
  refine tk_gact rfl ?_; refine a_callv [] _ rfl (by kernel_rfl) rfl (fun w' hw' => at_spec fb 0 w' (cel_cell (hw'.mem (.head _)) (fl17 hN))) rfl fun _ _ => ?_
  refine tk_gqe (.bool true) rfl rfl rfl (y_eql rfl rfl) (bool_t (by omega)) ?_
  refine tk_q rfl rfl rfl (y_pick1 rfl rfl) ?_
  refine tk_q rfl rfl rfl (y_assign rfl) ?_
  refine tk_nil ?_
  refine tk_then ?_
  refine tk_retc ?_
  refine tk_then_ret ?_
  exact tk_ret () trivial (.inl rfl) (r1 rfl rfl) (List.nil_sublist _)
theorem flowsFar_spec (Kb N : List UInt8) (a : Int) (vb : Value) (bs : List UInt8) (w : World) (hK : Kb.length = 32) (hN : N.length = 16) (hR : RdB w vb bs) (h0 : 0 ≤ a) (hfar : 1099511627776 < a) : Spec Try.prog 7 [.agg (Kb.map B ++ (N.map B ++ [I a, vb])).toArray] w [] (fun _ : Unit => True) (fun _ => .bool true) (fun _ => []) := by
  have hbad : a < 0 ∨ 1099511627776 < a := .inr hfar
  refine spec_of (n := 93) Try.func7 rfl rfl trivial trivial rfl ?_
  refine tk_seq ?_
  refine tk_region ?_
  refine tk_act rfl ?_; refine a_boxL rfl rfl fun b1 => ?_
  refine tk_q rfl rfl rfl (y_assign rfl) ?_
  refine tk_nil ?_
  refine tk_then ?_
  refine tk_seq ?_
  refine tk_region ?_
  refine tk_q rfl rfl rfl (y_fld0 rfl (by kernel_rfl)) ?_
  refine tk_q rfl rfl rfl (y_cutA (m := 32) (sz := 1) rfl (by kernel_rfl)) ?_
  refine tk_act rfl ?_; refine a_callv [] _ rfl (by kernel_rfl) rfl (fun w' hw' => makeR_spec _ Kb w' hK (cel_rd (hw'.mem (.head _)) (pk_key hK) (by rw [List.length_map, hK]) (by omega))) rfl fun kb _ => ?_
  refine tk_q rfl rfl rfl (y_move rfl) ?_
  refine tk_q rfl rfl rfl (y_extract rfl rfl) ?_
  refine tk_q rfl rfl rfl (y_extract rfl rfl) ?_
  refine tk_q rfl rfl rfl (y_assign rfl) ?_
  refine tk_q rfl rfl rfl (y_assign rfl) ?_
  refine tk_nil ?_
  refine tk_then ?_
  refine tk_seq ?_
  refine tk_region ?_
  refine tk_q rfl rfl rfl (y_move rfl) ?_
  refine tk_q rfl rfl rfl (y_fldN 32 rfl (by kernel_rfl)) ?_
  refine tk_q rfl rfl rfl (y_loadA 16 rfl (by kernel_rfl) (by simp [hK, hN]) (hcs (vs := N.map B) (.tail _ (.head _)) (pk_num hK hN))) ?_
  refine tk_act rfl ?_; refine a_callv [] _ rfl (by kernel_rfl) rfl (fun w' hw' => begin_spec kb N w' hN) rfl fun fb _ => ?_
  refine tk_q rfl rfl rfl (y_move rfl) ?_
  refine tk_q rfl rfl rfl (y_extract rfl rfl) ?_
  refine tk_q rfl rfl rfl (y_extract rfl rfl) ?_
  refine tk_q rfl rfl rfl (y_assign rfl) ?_
  refine tk_q rfl rfl rfl (y_assign rfl) ?_
  refine tk_nil ?_
  refine tk_then ?_
  refine tk_seq ?_
  refine tk_seq ?_
  refine tk_region ?_
  refine tk_act rfl ?_; refine a_callv [] _ rfl (by kernel_rfl) rfl (fun w' hw' => hides_spec w') rfl fun _ _ => ?_
  refine tk_q rfl rfl rfl (y_not rfl) ?_
  refine tk_q rfl rfl rfl (y_move rfl) ?_
  refine tk_gq rfl rfl rfl (y_move rfl) ?_
  refine tk_gqe (.bool false) rfl rfl rfl (y_neq rfl rfl) (bool_f (by omega)) ?_
  refine tk_q rfl rfl rfl (y_pick0 rfl rfl) ?_
  refine tk_q rfl rfl rfl (y_move rfl) ?_
  refine tk_gq rfl rfl rfl (y_move rfl) ?_
  refine tk_gqe (.bool false) rfl rfl rfl (y_neq rfl rfl) (bool_f (by omega)) ?_
  refine tk_q rfl rfl rfl (y_pick0 rfl rfl) ?_
  refine tk_nil ?_
  refine tk_then ?_
  refine tk_cond0 rfl ?_
  refine tk_skip ?_
  refine tk_then ?_
  refine tk_seq ?_
  refine tk_seq ?_
  refine tk_region ?_
  refine tk_q rfl rfl rfl (y_fldN 48 rfl (by kernel_rfl)) ?_
  refine tk_q rfl rfl rfl (y_load rfl rfl (hc (.tail _ (.tail _ (.head _))) (pk_48 hK hN))) ?_
  refine tk_qe (.bool false) rfl rfl rfl (y_lss rfl rfl) (bool_f (by omega)) ?_
  refine tk_q rfl rfl rfl (y_move rfl) ?_
  refine tk_gq rfl rfl rfl (y_fldN 48 rfl (by kernel_rfl)) ?_
  refine tk_gq rfl rfl rfl (y_load rfl rfl (hc (.tail _ (.tail _ (.head _))) (pk_48 hK hN))) ?_
  refine tk_gqe (.bool true) rfl rfl rfl (y_gtr rfl rfl) (bool_t (by omega)) ?_
  refine tk_q rfl rfl rfl (y_pick0 rfl rfl) ?_
  refine tk_nil ?_
  refine tk_then ?_
  refine tk_cond1 rfl ?_
  refine tk_seq ?_
  refine tk_region ?_
  refine tk_q rfl rfl rfl (y_move rfl) ?_
  refine tk_q rfl rfl rfl (y_fldN 48 rfl (by kernel_rfl)) ?_
  refine tk_q rfl rfl rfl (y_load rfl rfl (hc (.tail _ (.tail _ (.head _))) (pk_48 hK hN))) ?_
  refine tk_act rfl ?_; refine a_callv [] _ rfl (by kernel_rfl) rfl (fun w' hw' => seekBad_spec fb a w' hbad) rfl fun _ _ => ?_
  refine tk_qe (.bool true) rfl rfl rfl (y_eql rfl rfl) (bool_t (by omega)) ?_
  refine tk_q rfl rfl rfl (y_move rfl) ?_
  refine tk_gq rfl rfl rfl (y_move rfl) ?_
  refine tk_gact rfl ?_; refine a_callv [] _ rfl (by kernel_rfl) rfl (fun w' hw' => at_spec fb 0 w' (cel_cell (hw'.mem (.head _)) (fl17 hN))) rfl fun _ _ => ?_
  refine tk_gqe (.bool true) rfl rfl rfl (y_eql rfl rfl) (bool_t (by omega)) ?_
  refine tk_q rfl rfl rfl (y_pick1 rfl rfl) ?_
  refine tk_q rfl rfl rfl (y_assign rfl) ?_
  refine tk_nil ?_
  refine tk_then ?_
  refine tk_retc ?_
  refine tk_then_ret ?_
  exact tk_ret () trivial (.inl rfl) (r1 rfl rfl) (List.nil_sublist _)
set_option maxHeartbeats 1000000 in
theorem flowsOk_spec (Kb N : List UInt8) (a : Nat) (vb : Value) (bs : List UInt8) (w : World) (hK : Kb.length = 32) (hN : N.length = 16) (hR : RdB w vb bs) (hok : a ≤ 1099511627776) : Spec Try.prog 7 [.agg (Kb.map B ++ (N.map B ++ [I (a : Int), vb])).toArray] w [] (fun _ : Unit => True) (fun _ => .bool true) (fun _ => []) := by
  refine spec_of (n := 93) Try.func7 rfl rfl trivial trivial rfl ?_
  refine tk_seq ?_
  refine tk_region ?_
  refine tk_act rfl ?_; refine a_boxL rfl rfl fun b1 => ?_
  refine tk_q rfl rfl rfl (y_assign rfl) ?_
  refine tk_nil ?_
  refine tk_then ?_
  refine tk_seq ?_
  refine tk_region ?_
  refine tk_q rfl rfl rfl (y_fld0 rfl (by kernel_rfl)) ?_
  refine tk_q rfl rfl rfl (y_cutA (m := 32) (sz := 1) rfl (by kernel_rfl)) ?_
  refine tk_act rfl ?_; refine a_callv [] _ rfl (by kernel_rfl) rfl (fun w' hw' => makeR_spec _ Kb w' hK (cel_rd (hw'.mem (.head _)) (pk_key hK) (by rw [List.length_map, hK]) (by omega))) rfl fun kb _ => ?_
  refine tk_q rfl rfl rfl (y_move rfl) ?_
  refine tk_q rfl rfl rfl (y_extract rfl rfl) ?_
  refine tk_q rfl rfl rfl (y_extract rfl rfl) ?_
  refine tk_q rfl rfl rfl (y_assign rfl) ?_
  refine tk_q rfl rfl rfl (y_assign rfl) ?_
  refine tk_nil ?_
  refine tk_then ?_
  refine tk_seq ?_
  refine tk_region ?_
  refine tk_q rfl rfl rfl (y_move rfl) ?_
  refine tk_q rfl rfl rfl (y_fldN 32 rfl (by kernel_rfl)) ?_
  refine tk_q rfl rfl rfl (y_loadA 16 rfl (by kernel_rfl) (by simp [hK, hN]) (hcs (vs := N.map B) (.tail _ (.head _)) (pk_num hK hN))) ?_
  refine tk_act rfl ?_; refine a_callv [] _ rfl (by kernel_rfl) rfl (fun w' hw' => begin_spec kb N w' hN) rfl fun fb _ => ?_
  refine tk_q rfl rfl rfl (y_move rfl) ?_
  refine tk_q rfl rfl rfl (y_extract rfl rfl) ?_
  refine tk_q rfl rfl rfl (y_extract rfl rfl) ?_
  refine tk_q rfl rfl rfl (y_assign rfl) ?_
  refine tk_q rfl rfl rfl (y_assign rfl) ?_
  refine tk_nil ?_
  refine tk_then ?_
  refine tk_seq ?_
  refine tk_seq ?_
  refine tk_region ?_
  refine tk_act rfl ?_; refine a_callv [] _ rfl (by kernel_rfl) rfl (fun w' hw' => hides_spec w') rfl fun _ _ => ?_
  refine tk_q rfl rfl rfl (y_not rfl) ?_
  refine tk_q rfl rfl rfl (y_move rfl) ?_
  refine tk_gq rfl rfl rfl (y_move rfl) ?_
  refine tk_gqe (.bool false) rfl rfl rfl (y_neq rfl rfl) (bool_f (by omega)) ?_
  refine tk_q rfl rfl rfl (y_pick0 rfl rfl) ?_
  refine tk_q rfl rfl rfl (y_move rfl) ?_
  refine tk_gq rfl rfl rfl (y_move rfl) ?_
  refine tk_gqe (.bool false) rfl rfl rfl (y_neq rfl rfl) (bool_f (by omega)) ?_
  refine tk_q rfl rfl rfl (y_pick0 rfl rfl) ?_
  refine tk_nil ?_
  refine tk_then ?_
  refine tk_cond0 rfl ?_
  refine tk_skip ?_
  refine tk_then ?_
  refine tk_seq ?_
  refine tk_seq ?_
  refine tk_region ?_
  refine tk_q rfl rfl rfl (y_fldN 48 rfl (by kernel_rfl)) ?_
  refine tk_q rfl rfl rfl (y_load rfl rfl (hc (.tail _ (.tail _ (.head _))) (pk_48 hK hN))) ?_
  refine tk_qe (.bool false) rfl rfl rfl (y_lss rfl rfl) (bool_f (by omega)) ?_
  refine tk_q rfl rfl rfl (y_move rfl) ?_
  refine tk_gq rfl rfl rfl (y_fldN 48 rfl (by kernel_rfl)) ?_
  refine tk_gq rfl rfl rfl (y_load rfl rfl (hc (.tail _ (.tail _ (.head _))) (pk_48 hK hN))) ?_
  refine tk_gqe (.bool false) rfl rfl rfl (y_gtr rfl rfl) (bool_f (by omega)) ?_
  refine tk_q rfl rfl rfl (y_pick0 rfl rfl) ?_
  refine tk_nil ?_
  refine tk_then ?_
  refine tk_cond0 rfl ?_
  refine tk_skip ?_
  refine tk_then ?_
  refine tk_seq ?_
  refine tk_region ?_
  have hP : RdB w (cutR vb 0 (min bs.length 150)) (bs.take 150) := pour_rd hR
  refine tk_q rfl rfl rfl (y_loadA 50 rfl (by kernel_rfl) (by simp [hK, hN]) (hcw (.tail _ (.tail _ (.head _))))) ?_
  refine tk_act rfl ?_; refine a_callv [] _ rfl (by kernel_rfl) rfl (fun w' hw' => pourR_spec _ vb bs w w' (pk_49 hK hN) hR) rfl fun _ _ => ?_
  refine tk_q rfl rfl rfl (y_assign rfl) ?_
  refine tk_nil ?_
  refine tk_then ?_
  refine tk_seq ?_
  refine tk_seq ?_
  refine tk_draw (fun w => (cel b1 (Kb.map B ++ (N.map B ++ [I (a : Int), vb])) 42).holds w) [] (by kernel_rfl) ?_
  refine tx_q 0 rfl (by kernel_rfl) rfl rfl rfl (fun _ _ _ h => h) (y_move rfl) ?_
  refine tx_q 1 rfl (by kernel_rfl) rfl rfl rfl (fun _ _ _ h => h) (y_fldN 48 rfl (by kernel_rfl)) ?_
  refine tx_l 2 rfl (by kernel_rfl) (by kernel_rfl) rfl rfl rfl (fun _ _ _ h => h) (fun _ hw => hw.mem (.tail _ (.tail _ (.head _)))) (y_load rfl rfl (fun w hw => cel_cell hw (pk_48 hK hN))) ?_
  refine tx_a 3 rfl (by kernel_rfl) rfl ?_; refine a_callv [] _ rfl (by kernel_rfl) rfl (fun w' hw' => seek_spec fb kb a N 0 w' hN (hw'.mem (.head _)) (by omega)) rfl fun _ _ => ?_
  refine tk_S (fun _ hw => hw.mem (.tail _ (.tail _ (.head _)))) ?_
  refine tx_q 4 rfl (by kernel_rfl) rfl rfl rfl (fun _ _ _ h => h) ((y_neq rfl rfl).cast (v := _) (u := .bool false) (bool_f (by omega))) ?_
  refine tx_q 5 rfl (by kernel_rfl) rfl rfl rfl (fun _ _ _ h => h) (y_move rfl) ?_
  refine tx_q 6 rfl (by kernel_rfl) rfl rfl rfl (fun _ _ _ h => h) (y_move rfl) ?_
  refine tx_q 8 rfl (by kernel_rfl) rfl rfl rfl (fun _ _ _ h => h) (y_fldN 48 rfl (by kernel_rfl)) ?_
  refine tx_l 9 rfl (by kernel_rfl) (by kernel_rfl) rfl rfl rfl (fun _ _ _ h => h) (fun _ hw => hw.mem (.tail _ (.tail _ (.head _)))) (y_load rfl rfl (fun w hw => cel_cell hw (pk_48 hK hN))) ?_
  refine tx_a 7 rfl (by kernel_rfl) rfl ?_; refine a_callv [] _ rfl (by kernel_rfl) rfl (fun w' hw' => at_spec fb _ w' (cel_cell (hw'.mem (.head _)) (fl17 hN))) rfl fun _ _ => ?_
  refine tk_S (fun _ hw => hw.mem (.tail _ (.tail _ (.head _)))) ?_
  refine tx_q 10 rfl (by kernel_rfl) rfl rfl rfl (fun _ _ _ h => h) ((y_neq rfl rfl).cast (v := _) (u := .bool false) (bool_f (fun h => h rfl))) ?_
  refine tx_q 11 rfl (by kernel_rfl) rfl rfl rfl (fun _ _ _ h => h) (y_pick0 rfl rfl) ?_
  refine tx_done (by kernel_rfl) ?_
  refine tk_then ?_
  refine tk_cond0 rfl ?_
  refine tk_skip ?_
  refine tk_then ?_
  refine tk_seq ?_
  refine tk_region ?_
  refine tk_q rfl rfl rfl (y_move rfl) ?_
  refine tk_q rfl rfl rfl (y_move rfl) ?_
  refine tk_act rfl ?_; refine a_slit1 rfl hP.one el74 rfl fun b66 => ?_
  refine tk_act rfl ?_; refine a_callv [_] _ rfl (by kernel_rfl) rfl (fun w' hw' => hide1_spec fb kb a (keyW Kb) N b66 (cutR vb 0 (min bs.length 150)) (bs.take 150) w' hN (hw'.mem (.tail _ (.head _))) (hw'.two 1 2 (by omega) rfl rfl).symm (fun j hj => cel_cell (hw'.mem (.tail _ (.tail _ (.head _)))) (getB (by rw [keyW_len hK]; exact hj))) (cel_cell (hw'.mem (.head _)) rfl) (hw'.two 0 1 (by omega) rfl rfl) (hP.fo hw'.fr (.inr (fun h => h))) ((hP.ne hw' (fun h => h) (.tail _ (.head _))).imp List.map_eq_nil_iff.1 id) (by omega) (by simp; omega)) rfl fun vo _ => ?_
  refine tk_q rfl rfl rfl (y_assign rfl) ?_
  refine tk_nil ?_
  refine tk_then ?_
  refine tk_seq ?_
  refine tk_drawS [] (by kernel_rfl) ?_
  refine tx_q 0 rfl (by kernel_rfl) rfl rfl rfl (fun _ _ _ h => h) (y_move rfl) ?_
  refine tx_q 2 rfl (by kernel_rfl) rfl rfl rfl (fun _ _ _ h => h) (y_fldN 48 rfl (by kernel_rfl)) ?_
  refine tx_l 3 rfl (by kernel_rfl) (by kernel_rfl) rfl rfl rfl (fun _ _ _ h => h) (fun _ h => h) (y_load rfl rfl (hc (.tail _ (.tail _ (.tail _ (.tail _ (.head _))))) (pk_48 hK hN))) ?_
  refine tx_q 4 rfl (by kernel_rfl) rfl rfl rfl (fun _ _ _ h => h) (y_move rfl) ?_
  refine tx_q 5 rfl (by kernel_rfl) rfl rfl rfl (fun _ _ _ h => h) (y_lenR rfl hP rfl) ?_
  refine tx_q 6 rfl (by kernel_rfl) rfl rfl rfl (fun _ _ _ h => h) (y_addI rfl rfl (by rw [List.length_map, List.length_take]; omega)) ?_
  refine tx_a 1 rfl (by kernel_rfl) rfl ?_; refine a_callv [] _ rfl (by kernel_rfl) rfl (fun w' hw' => at_spec fb _ w' (cel_cell (hw'.mem (.tail _ (.tail _ (.head _)))) (fl17 hN))) rfl fun _ _ => ?_
  refine tk_S (fun _ h => h) ?_
  refine tx_q 7 rfl (by kernel_rfl) rfl rfl rfl (fun _ _ _ h => h) ((y_eql rfl rfl).cast (v := _) (u := .bool true) (bool_t (by simp))) ?_
  refine tx_q 8 rfl (by kernel_rfl) rfl rfl rfl (fun _ _ _ h => h) (y_move rfl) ?_
  refine tx_q 9 rfl (by kernel_rfl) rfl rfl rfl (fun _ _ _ h => h) (y_move rfl) ?_
  refine tx_l 10 rfl (by kernel_rfl) (by kernel_rfl) rfl rfl rfl (fun _ _ _ h => h) (fun _ h => h) (y_str (l := hideL (keyW Kb) N a (bs.take 150)) rfl rfl rfl rfl (fun w hw => own_rd (hw.mem (.tail _ (.head _))))) ?_
  refine tx_q 11 rfl (by kernel_rfl) rfl rfl rfl (fun _ _ _ h => h) (y_fld0 rfl (by kernel_rfl)) ?_
  refine tx_q 12 rfl (by kernel_rfl) rfl rfl rfl (fun _ _ _ h => h) (y_cutA (m := 32) (sz := 1) rfl (by kernel_rfl)) ?_
  refine tx_l 13 rfl (by kernel_rfl) (by kernel_rfl) rfl rfl rfl (fun _ _ _ h => h) (fun _ h => h) (y_str (l := Kb) rfl rfl rfl rfl (fun w hw => cel_rd (o := 0) (hw.mem (.tail _ (.tail _ (.tail _ (.tail _ (.head _)))))) (pk_key hK) (by simp [hK]) (by omega))) ?_
  refine tx_q 15 rfl (by kernel_rfl) rfl rfl rfl (fun _ _ _ h => h) (y_fldN 32 rfl (by kernel_rfl)) ?_
  refine tx_q 16 rfl (by kernel_rfl) rfl rfl rfl (fun _ _ _ h => h) (y_cutA (m := 16) (sz := 1) rfl (by kernel_rfl)) ?_
  refine tx_l 17 rfl (by kernel_rfl) (by kernel_rfl) rfl rfl rfl (fun _ _ _ h => h) (fun _ h => h) (y_str (l := N) rfl rfl rfl rfl (fun w hw => cel_rd (o := 32) (hw.mem (.tail _ (.tail _ (.tail _ (.tail _ (.head _)))))) (pk_num hK hN) (by simp [hN]) (by omega))) ?_
  refine tx_q 18 rfl (by kernel_rfl) rfl rfl rfl (fun _ _ _ h => h) (y_fldN 48 rfl (by kernel_rfl)) ?_
  refine tx_l 19 rfl (by kernel_rfl) (by kernel_rfl) rfl rfl rfl (fun _ _ _ h => h) (fun _ h => h) (y_load rfl rfl (hc (.tail _ (.tail _ (.tail _ (.tail _ (.head _))))) (pk_48 hK hN))) ?_
  refine tx_q 20 rfl (by kernel_rfl) rfl rfl rfl (fun _ _ _ h => h) (y_move rfl) ?_
  refine tx_l 21 rfl (by kernel_rfl) (by kernel_rfl) rfl rfl rfl (fun _ _ _ h => h) (fun _ h => h) (y_str (l := (bs.take 150)) rfl rfl rfl rfl (fun w hw => hP.fo hw.fr (.inr (fun h => h)))) ?_
  refine tx_a 14 rfl (by kernel_rfl) rfl ?_; refine a_callv [] _ rfl (by kernel_rfl) rfl (fun w' hw' => rmake_spec Kb w' hK) rfl fun rk _ => ?_
  refine tk_S (fun _ h => h.sub (List.Sublist.cons _ (List.Sublist.cons _ (List.Sublist.refl _)))) ?_
  refine tx_a 22 rfl (by kernel_rfl) rfl ?_; refine a_callv [] _ rfl (by kernel_rfl) rfl (fun w' hw' => rhide_spec rk.1 rk.2 a (keyW Kb) N (bs.take 150) w' hN (RK.of (hw'.mem (.head _)) (hw'.mem (.tail _ (.head _))) (keyW_len hK)) (by omega) (by simp; omega)) rfl fun _ _ => ?_
  refine tk_S (fun _ h => h.sub (List.Sublist.cons _ (List.Sublist.cons _ (List.Sublist.refl _)))) ?_
  refine tx_q 23 rfl (by kernel_rfl) rfl rfl rfl (fun _ _ _ h => h) ((y_strEq rfl rfl).cast (v := _) (u := .bool true) (bool_t (rfl))) ?_
  refine tx_q 24 rfl (by kernel_rfl) rfl rfl rfl (fun _ _ _ h => h) (y_pick1 rfl rfl) ?_
  refine tx_q 25 rfl (by kernel_rfl) rfl rfl rfl (fun _ _ _ h => h) (y_assign rfl) ?_
  refine tx_done (by kernel_rfl) ?_
  refine tk_then ?_
  refine tk_retc ?_
  exact tk_ret () trivial (.inl rfl) (r1 rfl rfl) (List.nil_sublist _)
theorem flows_spec (Kb N : List UInt8) (a : Int) (vb : Value) (bs : List UInt8) (w : World) (hK : Kb.length = 32) (hN : N.length = 16) (hR : RdB w vb bs) : Spec Try.prog 7 [.agg (Kb.map B ++ (N.map B ++ [I a, vb])).toArray] w [] (fun _ : Unit => True) (fun _ => .bool true) (fun _ => []) := by
  by_cases hneg : a < 0
  · exact flowsNeg_spec Kb N a vb bs w hK hN hR hneg
  · by_cases hfar : 1099511627776 < a
    · exact flowsFar_spec Kb N a vb bs w hK hN hR (by omega) hfar
    · obtain ⟨n, rfl⟩ : ∃ n : Nat, a = (n : Int) := ⟨a.toNat, by omega⟩
      exact flowsOk_spec Kb N n vb bs w hK hN hR (by omega)
end Go.Proofs.Ytfofkjajlfphjaa
