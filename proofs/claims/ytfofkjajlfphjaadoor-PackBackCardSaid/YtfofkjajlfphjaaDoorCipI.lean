/- cipher's reference: Hide; the walks over the laws CipherTurns and CipherFlows. -/
import Derived.Test.YtfofkjajlfphjaaDoorCipH
set_option linter.unusedSimpArgs false
set_option linter.unusedVariables false
namespace Go.Proofs.YtfofkjajlfphjaaDoor.Cip
open Go Go.RowKit
set_option maxRecDepth 100000
attribute [local irreducible] turn plus keyW hideL
theorem RK.fo {w w' : World} {E : Nat → Prop} {kb bb : Nat} {K : List UInt8} (h : RK w kb bb K) (hf : Fo E w w') (h1 : ¬ E kb) (h2 : ¬ E bb) : RK w' kb bb K :=
  ⟨hf.cell h.1 h1, fun m hm => hf.cell (h.2.1 m hm) h1, fun u => hf.cell (h.2.2 u) h2⟩
theorem RK.of {w : World} {kb bb : Nat} {K : List UInt8} (h1 : (cel kb (.slice (some ⟨bb, 0, none⟩) 256 256 :: K.map II) 148).holds w) (h2 : (cel bb (fwd.map II) 3).holds w) (hK : K.length = 240) : RK w kb bb K :=
  ⟨cel_cell h1 rfl, fun m hm => cel_cell h1 (kcell (m := m) rfl (by omega)), fun u => cel_cell h2 (fcell u)⟩
theorem take_len {l : List UInt8} {i : Nat} (h : i ≤ l.length) : (l.take i).length = i := by simp; omega
theorem getD_get {l : List UInt8} {i : Nat} (h : i < l.length) : l.getD i 0 = l[i] := by rw [List.getD_eq_getElem?_getD, List.getElem?_eq_getElem h]; rfl
theorem turnNil_spec (V : List UInt8) (w : World) : Spec Tryd.prog 104 [.pointer none, Ag V] w [] (fun _ : Unit => True) (fun _ => Ag (List.replicate 16 0)) (fun _ => []) := by
  refine spec_of (n := 24) Tryd.func104 rfl rfl trivial trivial rfl ?_; refine s_r ?_; refine tk_act rfl ?_; refine a_boxL rfl rfl fun b3 => ?_; refine tk_act rfl ?_; refine a_allocL (cs := (List.replicate 16 0).map B) (by kernel_rfl) rfl fun b4 => ?_; refine s_n ?_; refine tk_seq ?_; refine s_r ?_; refine s_q rfl (y_move rfl) ?_; refine tk_qe (.bool true) rfl rfl rfl (y_pnil rfl rfl rfl) (rfl) ?_
  refine s_n ?_; refine tk_cond1 rfl ?_; refine s_r ?_; refine s_q rfl (y_build (v := Ag (List.replicate 16 0)) (vs := []) rfl (fun _ => by kernel_rfl)) ?_; refine tk_act rfl ?_; refine a_storeW (H1 := []) 16 rfl rfl (by kernel_rfl) rfl ⟨by simp, by simp⟩ oneB ?_; refine s_n ?_; refine tk_retc ?_; refine tk_then_ret ?_
  exact tk_ret () trivial (.inl rfl) (rc rfl rfl (by simp; kernel_rfl) (hcw (.head _))) (List.nil_sublist _)
set_option maxHeartbeats 1000000 in
theorem rhide_spec (kb bb a : Nat) (K N l : List UInt8) (w : World) (hN : N.length = 16) (hk : RK w kb bb K) (ha : a < 2 ^ 61) (hl : l.length < 2 ^ 46) :
    Spec Tryd.prog 47 [.pointer (some ⟨kb, 0, none⟩), Str N, I (a : Int), Str l] w [] (fun _ : Unit => True) (fun _ => Str (hideL K N a l)) (fun _ => []) := by
  refine spec_of (n := 48) Tryd.func47 rfl rfl trivial trivial rfl ?_; refine s_r ?_; refine s_q rfl (y_assign rfl) ?_; refine s_n ?_; refine s_r ?_; refine s_q rfl (y_assign rfl) ?_; refine s_n ?_; refine s_r ?_; refine s_q rfl (y_assign rfl) ?_; refine s_q rfl (y_assign rfl) ?_; refine s_n ?_; refine tk_seq ?_; refine s_r ?_; refine tk_own0 5 ?_; refine s_q rfl (y_assign rfl) ?_; refine s_n ?_; refine tk_block ?_
  refine tk_loop (X := Nat × Value × Int × List UInt8) (fun x => x.1 ≤ l.length ∧ (x.2.2.1 = -1 ∨ ∃ q : Nat, x.2.2.1 = (q : Int) ∧ x.2.2.2 = turn K (plus N q))) (fun x => [(0, .pointer (some ⟨kb, 0, none⟩)), (1, Str N), (2, I (a : Int)), (3, Str l), (9, x.2.1), (10, Str x.2.2.2), (11, I x.2.2.1), (12, I (x.1 : Int))]) (fun x => [ownB x.2.1 (hideL K N a (l.take x.1)) 5]) (fun x => l.length - x.1) ((0, .slice none 0 0, -1, [])) (⟨Nat.zero_le _, .inl rfl⟩) (by repeat (first | exact trivial | refine ⟨rfl, ?_⟩)) (by show List.Sublist [ownB (.slice none 0 0) (hideL K N a (l.take 0)) 5] _; rw [List.take_zero, hideL_nil]; exact List.Sublist.refl _) ?_
  rintro ⟨i, vo, hv, sb⟩ ⟨hi0, hq⟩
  dsimp only at hi0 hq ⊢
  refine tk_seq ?_; refine s_r ?_; refine s_q rfl (y_move rfl) ?_; refine s_q rfl (y_move rfl) ?_; refine s_q rfl (y_lenStr rfl rfl) ?_; refine s_q rfl (y_lss rfl rfl) ?_; refine s_n ?_; refine tk_condP rfl (fun h17 => ?_) (fun h17 => ?_)
  · skip
    have hi : i < l.length := by omega
    refine tk_skip ?_; refine tk_then ?_; refine tk_seq ?_; refine tk_block ?_; refine s_r ?_; refine s_q rfl (y_move rfl) ?_; refine s_q rfl (y_move rfl) ?_; refine s_q rfl (y_addN rfl rfl (by omega)) ?_; refine s_q rfl (y_quoN (b := 16) rfl rfl (by omega)) ?_; refine s_q rfl (y_assign rfl) ?_; refine s_n ?_; refine tk_seqI (X := Unit) (fun _ => True) (fun _ => [(0, .pointer (some ⟨kb, 0, none⟩)), (1, Str N), (2, I (a : Int)), (3, Str l), (9, vo), (10, Str (turn K (plus N ((a + i) / 16)))), (11, I (((a + i) / 16 : Nat) : Int)), (12, I (i : Int))]) (fun _ => [ownB vo (hideL K N a (l.take i)) 5]) ?_ ?_
    · skip
      refine s_r ?_; refine s_q rfl (y_move rfl) ?_; refine s_q rfl (y_move rfl) ?_; refine s_q rfl (y_neq rfl rfl) ?_; refine s_n ?_; refine tk_condP rfl (fun h26 => ?_) (fun h26 => ?_)
      · skip
        refine tk_region ?_; refine s_q rfl (y_move rfl) ?_; refine s_q rfl (y_move rfl) ?_; refine s_q rfl (y_move rfl) ?_; refine tk_act rfl ?_; refine a_callv [] _ rfl (by kernel_rfl) rfl (fun w' hw' => plus_spec N ((a + i) / 16) w' hN (by omega)) rfl fun _ _ => ?_; refine tk_act rfl ?_; refine a_callv [] _ rfl (by kernel_rfl) rfl (fun w' hw' => rturn_spec kb bb K (plus N ((a + i) / 16)) w' (by simp [hN]) (hk.fo hw'.fr (fun h => h) (fun h => h))) rfl fun _ _ => ?_
        refine s_q rfl (y_move rfl) ?_; refine s_q rfl (y_assign rfl) ?_; refine s_q rfl (y_assign rfl) ?_; refine tk_nil ?_
        exact tk_to () trivial (by repeat (first | exact trivial | refine ⟨rfl, ?_⟩)) (List.Sublist.refl _)
      · skip
        refine tk_skip ?_
        rcases hq with hq | ⟨q', hq, hq2⟩
        · exfalso; omega
        · have hq1 : q' = (a + i) / 16 := by omega
          exact tk_to () trivial ⟨rfl, rfl, rfl, rfl, rfl, by show some (Str sb) = _; rw [hq2, hq1], by show some (I hv) = _; rw [hq, hq1], rfl, trivial⟩ (List.Sublist.refl _)
    · intro _ _
      refine tk_draw (fun _ => True) [] (by kernel_rfl) ?_; refine s_x 0 rfl (y_move rfl) ?_; refine s_x 1 rfl (y_move rfl) ?_; refine s_x 2 rfl (y_move rfl) ?_; refine s_x 3 rfl (y_ixT (i := i) rfl rfl rfl ⟨rfl, by omega⟩) ?_; refine s_x 4 rfl (y_move rfl) ?_; refine s_x 5 rfl (y_move rfl) ?_; refine s_x 6 rfl (y_move rfl) ?_; refine s_x 7 rfl (y_addN rfl rfl (by omega)) ?_; refine s_x 8 rfl (y_remN (b := 16) rfl rfl (by omega)) ?_
      refine s_x 9 rfl (y_ixT (i := (a + i) % 16) rfl rfl rfl ⟨rfl, by rw [turn_len (by simp [hN])]; omega⟩) ?_; refine s_x 10 rfl (y_xor8 rfl rfl) ?_; refine tx_a 11 rfl (by kernel_rfl) rfl ?_; refine a_slit1 rfl rfl el5 rfl fun b44 => ?_; refine tk_S (fun _ _ => trivial) ?_; refine tx_a 12 rfl (by kernel_rfl) rfl ?_; refine a_append (H1 := [_]) (news := [_]) rfl rfl el5 rfl rfl rfl (hcw (.head _)) (by simp [Value.oneCell']) (by simp only [hideL_len, List.length_take]; omega) fun vo2 => ?_
      refine tk_S (fun _ _ => trivial) ?_; refine s_x 13 rfl (y_assign rfl) ?_; refine tx_done (by kernel_rfl) ?_; refine tk_in_normal ?_; refine tk_then ?_; refine tk_region ?_; refine s_q rfl (y_move rfl) ?_; refine tk_qe (I ((i + 1 : Nat) : Int)) rfl rfl rfl (y_addI rfl rfl (by omega)) (by congr 1) ?_; refine s_q rfl (y_assign rfl) ?_; refine tk_nil ?_
      exact tk_again (i + 1, vo2, (((a + i) / 16 : Nat) : Int), (turn K (plus N ((a + i) / 16)))) ⟨by show i + 1 ≤ l.length; omega, .inr ⟨(a + i) / 16, rfl, rfl⟩⟩ (by show l.length - (i + 1) < l.length - i; omega) (by repeat (first | exact trivial | refine ⟨rfl, ?_⟩)) (by dsimp only; rw [take_snoc (List.getElem?_eq_getElem hi), own_snoc, take_len hi0, ← getD_get hi]; exact List.Sublist.cons _ (List.Sublist.refl _))
  · skip
    obtain rfl : i = l.length := by omega
    rw [List.take_length]
    refine tk_exit ?_; refine tk_then_exit ?_; refine tk_then_exit ?_; refine tk_in_hit ?_; refine tk_then ?_; refine s_r ?_; refine s_q rfl (y_move rfl) ?_; refine s_q rfl (y_str (l := hideL K N a l) rfl rfl rfl rfl (fun w hw => own_rd (hw.mem (.head _)))) ?_; refine s_q rfl (y_assign rfl) ?_; refine s_n ?_; refine tk_retc ?_
    exact tk_ret () trivial (.inl rfl) (r1 rfl rfl) (List.nil_sublist _)
end Go.Proofs.YtfofkjajlfphjaaDoor.Cip
