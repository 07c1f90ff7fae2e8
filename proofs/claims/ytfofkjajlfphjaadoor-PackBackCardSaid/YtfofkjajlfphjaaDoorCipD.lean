/- cipher: the walk over Hide. -/
import Derived.Test.YtfofkjajlfphjaaDoorCipC
set_option linter.unusedSimpArgs false
set_option linter.unusedVariables false
namespace Go.Proofs.YtfofkjajlfphjaaDoor.Cip
open Go Go.RowKit
set_option maxRecDepth 100000
attribute [local irreducible] turn plus keyW hideL
theorem el5 : elB Tryd.prog 26 5 1 1 := ⟨by kernel_rfl, _, .int .u8 0, rfl, by kernel_rfl, rfl, by kernel_rfl, by kernel_rfl, Nat.one_pos⟩
theorem fl17 {kb : Nat} {N : List UInt8} {a : Int} (h : N.length = 16) : (flowCs kb N a)[17]? = some (I a) := by
  simp [flowCs, List.getElem?_append_right, h]
theorem flN {kb : Nat} {N : List UInt8} {a : Int} {j : Nat} (hj : j < N.length) : (flowCs kb N a)[1 + j]? = some (B (N.getD j 0)) := by
  rw [Nat.add_comm]; simp [flowCs, List.getElem?_append_left, hj, List.getD_eq_getElem?_getD]
theorem fl_set {kb : Nat} {N : List UInt8} {a b : Int} (h : N.length = 16) : (flowCs kb N a).set 17 (I b) = flowCs kb N b := by
  simp [flowCs, List.set_append, h]
theorem take_snoc {l : List UInt8} {j : Nat} {x : UInt8} (h : l[j]? = some x) : l.take (j + 1) = l.take j ++ [x] := by rw [List.take_add_one, h]; rfl
theorem len_snoc {l : List UInt8} {x : UInt8} : (l ++ [x]).length = l.length + 1 := by simp
theorem own_snoc {v : Value} {K N : List UInt8} {a : Nat} {l : List UInt8} {x : UInt8} {e : TypeId} :
    ownB v (hideL K N a (l ++ [x])) e = own v ((hideL K N a l).length + 1) ((hideL K N a l).map B ++ [B (x ^^^ flowB K N (a + l.length))]) e 1 := by
  simp only [ownB, hideL_snoc, List.length_append, List.map_append]; rfl
theorem hide0_spec (v : Value) (w : World) : Spec Tryd.prog 50 [.pointer none, v] w [] (fun _ : Unit => True) (fun _ => .slice none 0 0) (fun _ => []) := by
  refine spec_of (n := 62) Tryd.func50 rfl rfl trivial trivial rfl ?_; refine s_r ?_; refine s_q rfl (y_assign rfl) ?_; refine s_n ?_; refine tk_seq ?_; refine s_r ?_; refine s_q rfl (y_move rfl) ?_; refine tk_qe (.bool true) rfl rfl rfl (y_pnil rfl rfl rfl) (rfl) ?_; refine s_n ?_; refine tk_cond1 rfl ?_; refine s_r ?_; refine s_q rfl (y_assign rfl) ?_; refine s_n ?_; refine tk_retc ?_; refine tk_then_ret ?_
  exact tk_ret () trivial (.inl rfl) (r1 rfl rfl) (List.Sublist.refl _)
set_option maxHeartbeats 1000000 in
theorem hide_spec (fb kb a : Nat) (K N : List UInt8) (v : Value) (Ps : List (Value × List UInt8)) (w : World) (hN : N.length = 16) (hfl : (cel fb (flowCs kb N a) 157).holds w) (hkb : kb ≠ fb)
    (hk : ∀ j, j < 240 → w.cell? ⟨kb, j, none⟩ = some (B (K.getD j 0))) (hps : RdS w v (Ps.map Prod.fst)) (hpe : Ps = [] ∨ (adOf v).block ≠ fb) (hpr : ∀ p ∈ Ps, RdB w p.1 p.2 ∧ (p.2 = [] ∨ (adOf p.1).block ≠ fb))
    (ha : a < 2 ^ 61) (hb : (Ps.flatMap Prod.snd).length < 2 ^ 46) (hpl : Ps.length < 2 ^ 61) :
    Spec Tryd.prog 50 [.pointer (some ⟨fb, 0, none⟩), v] w [cel fb (flowCs kb N a) 157] (fun _ : Value => True) (fun vo => vo)
      (fun vo => [ownB vo (hideL K N a (Ps.flatMap Prod.snd)) 5, cel fb (flowCs kb N ((a + (Ps.flatMap Prod.snd).length : Nat) : Int)) 157]) := by
  refine spec_of (n := 62) Tryd.func50 rfl rfl ⟨hfl, trivial⟩ ⟨fun _ _ h => h, trivial⟩ rfl ?_; refine s_r ?_; refine s_q rfl (y_assign rfl) ?_; refine s_n ?_; refine tk_seq ?_; refine s_r ?_; refine s_q rfl (y_move rfl) ?_; refine tk_qe (.bool false) rfl rfl rfl (y_pnil rfl rfl rfl) (rfl) ?_; refine s_n ?_; refine tk_cond0 rfl ?_; refine tk_skip ?_; refine tk_then ?_; refine s_r ?_; refine s_q rfl (y_assign rfl) ?_
  refine s_n ?_; refine s_r ?_; refine s_q rfl (y_build (v := Ag (List.replicate 16 0)) (vs := []) rfl (fun _ => by kernel_rfl)) ?_; refine tk_act rfl ?_; refine a_allocL (cs := (List.replicate 16 0).map B) (by kernel_rfl) rfl fun b6 => ?_; refine tk_act rfl ?_; refine a_storeW (H1 := []) 16 rfl rfl (by kernel_rfl) rfl ⟨by simp, by simp⟩ oneB ?_; refine s_q rfl (y_assign rfl) ?_; refine s_n ?_; refine tk_seq ?_
  refine s_r ?_; refine tk_own0 5 ?_; refine tk_perm (H' := [cel b6 ((List.replicate 16 0).map B) 25, own (.slice none 0 0) 0 [] 5 1, cel fb (flowCs kb N a) 157]) (List.Perm.swap _ _ _) ?_; refine s_q rfl (y_move rfl) ?_; refine tk_qe (I (Ps.length : Int)) rfl rfl rfl (y_lenR rfl hps rfl) (by rw [List.length_map]) ?_; refine s_q rfl (y_move rfl) ?_; refine s_n ?_; refine tk_block ?_; refine tk_loop (X := Nat × Value × Int × List UInt8) (fun x => x.1 ≤ Ps.length ∧ x.2.2.2.length = 16 ∧ (x.2.2.1 = -1 ∨ ∃ q : Nat, x.2.2.1 = (q : Int) ∧ x.2.2.2 = turn K (plus N q))) (fun x => [(0, .pointer (some ⟨fb, 0, none⟩)), (5, x.2.1), (6, .pointer (some ⟨b6, 0, none⟩)), (7, I x.2.2.1), (16, v), (17, I (Ps.length : Int)), (18, I (x.1 : Int))]) (fun x => [cel b6 ((x.2.2.2).map B) 25, ownB x.2.1 (hideL K N a ((Ps.take x.1).flatMap Prod.snd)) 5, cel fb (flowCs kb N ((a + ((Ps.take x.1).flatMap Prod.snd).length : Nat) : Int)) 157]) (fun x => Ps.length - x.1) ((0, .slice none 0 0, -1, List.replicate 16 0)) (⟨Nat.zero_le _, by simp, .inl rfl⟩) (by repeat (first | exact trivial | refine ⟨rfl, ?_⟩)) (by show List.Sublist [_, ownB (.slice none 0 0) (hideL K N a []) 5, _] _; rw [hideL_nil]; exact List.Sublist.refl _) ?_
  rintro ⟨i, vo, hv, sb⟩ ⟨hi, hsl, hq⟩
  dsimp only at hi hsl hq ⊢
  refine s_r ?_; refine s_q rfl (y_lss rfl rfl) ?_; refine s_n ?_; refine tk_seq ?_; refine tk_condP rfl (fun h19 => ?_) (fun h19 => ?_)
  · skip
    obtain ⟨p, hp⟩ : ∃ p, Ps[i]? = some p := ⟨_, List.getElem?_eq_getElem (by omega)⟩
    have hpm := hpr p (List.mem_of_getElem? hp)
    have hfl2 := flat_le hp
    refine tk_skip ?_; refine tk_then ?_; refine tk_seq ?_; refine tk_block ?_; refine s_r ?_; refine s_q rfl (y_ixR rfl rfl hps (by rw [List.length_map]; omega) (by kernel_rfl)) ?_; refine s_q rfl (y_load rfl rfl (hrd hps (u := p.1) (by rw [List.getElem?_map, hp]; rfl) (fun h => (hpe.resolve_left (fun e => by rw [e] at hp; cases hp)) (h.resolve_right id)))) ?_; refine s_q rfl (y_assign rfl) ?_; refine s_n ?_
    refine s_r ?_; refine s_q rfl (y_move rfl) ?_; refine tk_qe (I (p.2.length : Int)) rfl rfl rfl (y_lenR rfl hpm.1 rfl) (by rw [List.length_map]) ?_; refine s_q rfl (y_move rfl) ?_; refine s_n ?_; refine tk_block ?_; refine tk_loop (X := Nat × Value × Int × List UInt8) (fun x => x.1 ≤ p.2.length ∧ x.2.2.2.length = 16 ∧ (x.2.2.1 = -1 ∨ ∃ q : Nat, x.2.2.1 = (q : Int) ∧ x.2.2.2 = turn K (plus N q))) (fun x => [(0, .pointer (some ⟨fb, 0, none⟩)), (5, x.2.1), (6, .pointer (some ⟨b6, 0, none⟩)), (7, I x.2.2.1), (16, v), (17, I (Ps.length : Int)), (18, I (i : Int)), (22, p.1), (23, I (p.2.length : Int)), (24, I (x.1 : Int))]) (fun x => [cel b6 ((x.2.2.2).map B) 25, ownB x.2.1 (hideL K N a (((Ps.take i).flatMap Prod.snd) ++ p.2.take x.1)) 5, cel fb (flowCs kb N ((a + (((Ps.take i).flatMap Prod.snd) ++ p.2.take x.1).length : Nat) : Int)) 157]) (fun x => p.2.length - x.1) ((0, vo, hv, sb)) (⟨Nat.zero_le _, hsl, hq⟩) (by repeat (first | exact trivial | refine ⟨rfl, ?_⟩)) (by simp only [List.take_zero, List.append_nil]; exact List.Sublist.refl _) ?_
    clear hsl hq
    rintro ⟨j, vo, hv, sb⟩ ⟨hj, hsl, hq⟩
    dsimp only at hj hsl hq ⊢
    generalize hqq : a + (((Ps.take i).flatMap Prod.snd) ++ p.2.take j).length = q
    refine s_r ?_; refine s_q rfl (y_lss rfl rfl) ?_; refine s_n ?_; refine tk_seq ?_; refine tk_condP rfl (fun h25 => ?_) (fun h25 => ?_)
    · skip
      obtain ⟨x0, hx0⟩ : ∃ x0, p.2[j]? = some x0 := ⟨_, List.getElem?_eq_getElem (by omega)⟩
      have hql : (((Ps.take i).flatMap Prod.snd) ++ p.2.take j).length = ((Ps.take i).flatMap Prod.snd).length + j := by rw [List.length_append, List.length_take, Nat.min_eq_left (by omega)]
      refine tk_skip ?_; refine tk_then ?_; refine tk_seq ?_; refine tk_block ?_; refine s_r ?_; refine s_q rfl (y_ixR rfl rfl hpm.1 (by rw [List.length_map]; omega) (by kernel_rfl)) ?_; refine s_q rfl (y_load rfl rfl (hrd hpm.1 (u := B x0) (by rw [List.getElem?_map, hx0]; rfl) (fun h => (hpm.2.resolve_left (fun e => by rw [e] at hx0; cases hx0)) (h.resolve_right id)))) ?_; refine s_q rfl (y_assign rfl) ?_
      refine s_n ?_; refine tk_seqI (X := Unit) (fun _ => True) (fun _ => [(0, .pointer (some ⟨fb, 0, none⟩)), (5, vo), (6, .pointer (some ⟨b6, 0, none⟩)), (7, I ((q / 16 : Nat) : Int)), (16, v), (17, I (Ps.length : Int)), (18, I (i : Int)), (22, p.1), (23, I (p.2.length : Int)), (24, I (j : Int)), (11, B x0)]) (fun _ => [cel b6 ((turn K (plus N (q / 16))).map B) 25, ownB vo (hideL K N a (((Ps.take i).flatMap Prod.snd) ++ p.2.take j)) 5, cel fb (flowCs kb N (q : Int)) 157]) ?_ ?_
      · skip
        refine s_r ?_; refine s_q rfl (y_move rfl) ?_; refine s_q rfl (y_nilCheck rfl) ?_; refine s_q rfl (y_fldN 17 rfl (by kernel_rfl)) ?_; refine s_q rfl (y_load rfl rfl (hc (.tail _ (.tail _ (.head _))) (fl17 hN))) ?_; refine s_q rfl (y_quoN (b := 16) rfl rfl (by omega)) ?_; refine s_q rfl (y_assign rfl) ?_; refine s_n ?_; refine s_r ?_; refine s_q rfl (y_move rfl) ?_; refine s_q rfl (y_move rfl) ?_
        refine s_q rfl (y_neq rfl rfl) ?_; refine s_n ?_; refine tk_condP rfl (fun h35 => ?_) (fun h35 => ?_)
        · skip
          refine tk_region ?_; refine s_q rfl (y_move rfl) ?_; refine s_q rfl (y_move rfl) ?_; refine tk_act rfl ?_; refine a_callv [] _ rfl (by kernel_rfl) rfl (fun w' hw' => block_spec fb kb (q / 16) K N w' hN (by omega) (cel_cell (hw'.mem (.tail _ (.tail _ (.head _)))) rfl) (fun j hj => cel_cell (hw'.mem (.tail _ (.tail _ (.head _)))) (flN hj)) (fun j hj => hw'.fr.cell (hk j hj) (fun h => hkb (h.resolve_right id)))) rfl fun _ _ => ?_
          refine s_q rfl (y_move rfl) ?_; refine tk_act rfl ?_; refine a_storeW (H1 := []) 16 rfl rfl (by kernel_rfl) rfl ⟨by simp [hN], by simp [hsl]⟩ oneB ?_; refine s_q rfl (y_assign rfl) ?_; refine tk_nil ?_
          exact tk_to () trivial (by repeat (first | exact trivial | refine ⟨rfl, ?_⟩)) (List.Sublist.refl _)
        · skip
          refine tk_skip ?_
          rcases hq with hq | ⟨q', hq, hq2⟩
          · exfalso; omega
          · have hq1 : q' = q / 16 := by omega
            exact tk_to () trivial ⟨rfl, rfl, rfl, by show some (I hv) = _; rw [hq, hq1], rfl, rfl, rfl, rfl, rfl, rfl, rfl, trivial⟩ (by rw [hq2, hq1]; exact List.Sublist.refl _)
      · intro _ _
        refine s_r ?_; refine s_q rfl (y_move rfl) ?_; refine s_q rfl (y_move rfl) ?_; refine s_q rfl (y_move rfl) ?_; refine s_q rfl (y_nilCheck rfl) ?_; refine s_q rfl (y_fldN 17 rfl (by kernel_rfl)) ?_; refine s_q rfl (y_load rfl rfl (hc (.tail _ (.tail _ (.head _))) (fl17 hN))) ?_; refine s_q rfl (y_remN (b := 16) rfl rfl (by omega)) ?_
        (first | refine s_q rfl (y_ixA01 16 rfl rfl (by kernel_rfl) (by omega)) ?_ | refine s_q rfl (y_ixAN1 16 rfl rfl (by kernel_rfl) (by omega)) ?_)
        refine s_q rfl (y_load rfl rfl (hc (.head _) (getB (by simp [hN]; omega)))) ?_; refine s_q rfl (y_xor8 rfl rfl) ?_; refine tk_act rfl ?_; refine a_slit1 rfl rfl el5 rfl fun b50 => ?_; refine tk_act rfl ?_; refine a_append (H1 := [_, _]) (news := [_]) rfl rfl el5 rfl rfl rfl (hcw (.head _)) (by simp [Value.oneCell']) (by simp only [hideL_len]; omega) fun vo2 => ?_; refine s_q rfl (y_assign rfl) ?_
        refine s_n ?_; refine tk_region ?_; refine s_q rfl (y_move rfl) ?_; refine s_q rfl (y_nilCheck rfl) ?_; refine s_q rfl (y_fldN 17 rfl (by kernel_rfl)) ?_; refine s_q rfl (y_load rfl rfl (hc (.tail _ (.tail _ (.tail _ (.head _)))) (fl17 hN))) ?_; refine tk_qe (I ((q + 1 : Nat) : Int)) rfl rfl rfl (y_addI rfl rfl (by omega)) (by congr 1 <;> omega) ?_; refine s_q rfl (y_nilCheck rfl) ?_; refine s_q rfl (y_fldN 17 rfl (by kernel_rfl)) ?_
        refine tk_act rfl ?_; refine a_store1 (H1 := [_, _, _]) rfl rfl (by kernel_rfl) rfl rfl (by simp [flowCs, hN]) ?_; refine tk_nil ?_; refine tk_in_normal ?_; refine tk_then ?_; refine tk_region ?_; refine tk_qe (I ((j + 1 : Nat) : Int)) rfl rfl rfl (y_addI rfl rfl (by omega)) (by congr 1 <;> omega) ?_; refine s_q rfl (y_move rfl) ?_; refine tk_nil ?_
        exact tk_again (j + 1, vo2, ((q / 16 : Nat) : Int), turn K (plus N (q / 16))) ⟨by show j + 1 ≤ p.2.length; omega, turn_len (by rw [plus_len]; exact hN), .inr ⟨q / 16, rfl, rfl⟩⟩ (by show p.2.length - (j + 1) < p.2.length - j; omega) (by repeat (first | exact trivial | refine ⟨rfl, ?_⟩)) (by dsimp only; rw [take_snoc hx0, ← List.append_assoc, own_snoc, len_snoc, ← Nat.add_assoc, hqq, ← fl_set hN (a := (q : Int))]; exact List.Sublist.cons _ (List.Sublist.refl _))
    · skip
      obtain rfl : j = p.2.length := by omega
      subst hqq
      rw [List.take_length, ← flat_succ hp]
      refine tk_exit ?_; refine tk_then_exit ?_; refine tk_then_exit ?_; refine tk_in_hit ?_; refine tk_in_normal ?_; refine tk_then ?_; refine tk_region ?_; refine tk_qe (I ((i + 1 : Nat) : Int)) rfl rfl rfl (y_addI rfl rfl (by omega)) (by congr 1 <;> omega) ?_; refine s_q rfl (y_move rfl) ?_; refine tk_nil ?_
      exact tk_again (i + 1, vo, hv, sb) ⟨by show i + 1 ≤ Ps.length; omega, hsl, hq⟩ (by show Ps.length - (i + 1) < Ps.length - i; omega) (by repeat (first | exact trivial | refine ⟨rfl, ?_⟩)) (List.Sublist.refl _)
  · skip
    obtain rfl : i = Ps.length := by omega
    rw [List.take_length]
    refine tk_exit ?_; refine tk_then_exit ?_; refine tk_then_exit ?_; refine tk_in_hit ?_; refine tk_then ?_; refine s_r ?_; refine s_q rfl (y_move rfl) ?_; refine s_q rfl (y_assign rfl) ?_; refine s_n ?_; refine tk_retc ?_
    exact tk_ret vo trivial (.inl rfl) (r1 rfl rfl) (List.Sublist.cons _ (List.Sublist.refl _))
end Go.Proofs.YtfofkjajlfphjaaDoor.Cip
