/- Texts of the claim LockDies, part 3 of 6: CipC, CipD, CipE, WaxA, KeyG, KeyH, PackA, PackB, LockPure, LogI, LogEng, IndexA, IndexB, IndexC, LogA, ShelfA, ShelfB, ShelfC, ShelfD, IterT, LogB, LockA, LockB, CipF, CipBox, CipG, CipH, CipI, WaxB. Own work. -/
import Derived.Shelf.LaysM
import Derived.Shelf.Strconv.Itoa3
import Derived.Shelf.Strings.Repeat
import Derived.Test.YtkkjfojgjmglpaaGreatDoorPtLockDies2
set_option linter.unusedSimpArgs false
set_option linter.unusedVariables false
namespace Go.Proofs.YtkkjfojgjmglpaaGreatDoor.Cip
open Go Go.RowKit
set_option maxRecDepth 100000
theorem list16 {l : List UInt8} (h : l.length = 16) : ∃ a0 a1 a2 a3 a4 a5 a6 a7 a8 a9 a10 a11 a12 a13 a14 a15, l = [a0, a1, a2, a3, a4, a5, a6, a7, a8, a9, a10, a11, a12, a13, a14, a15] := by
  match l, h with
  | [a0, a1, a2, a3, a4, a5, a6, a7, a8, a9, a10, a11, a12, a13, a14, a15], _ => exact ⟨a0, a1, a2, a3, a4, a5, a6, a7, a8, a9, a10, a11, a12, a13, a14, a15, rfl⟩
def flowCs (kb : Nat) (N : List UInt8) (a : Int) : List Value := PT kb :: (N.map B ++ [I a])
theorem begin_spec (kb : Nat) (N : List UInt8) (w : World) (hN : N.length = 16) :
    Spec Tryz.prog 184 [PT kb, Ag N] w [] (fun _ : Nat => True) (fun fb => .tuple #[PT fb, I 0]) (fun fb => [cel fb (flowCs kb N 0) 290]) := by
  obtain ⟨a0, a1, a2, a3, a4, a5, a6, a7, a8, a9, a10, a11, a12, a13, a14, a15, rfl⟩ := list16 hN
  refine spec_of (n := 12) Tryz.func184 rfl rfl trivial trivial rfl <| s_r <| tk_act rfl <| a_boxL rfl rfl fun b3 => q_a rfl rfl <| q_a rfl rfl <| s_n <| tk_seq <| s_r <| q_m rfl rfl <| tk_qe (.bool false) rfl rfl rfl (y_pnil rfl rfl rfl) (rfl) <| s_n <| tk_cond0 rfl <| tk_skip <| tk_then <| s_r <| q_m rfl rfl <| s_q rfl (y_loadA 16 rfl kR (by rfl) (hcw (.head _))) <| s_q rfl (y_build (v := .agg (flowCs kb [a0, a1, a2, a3, a4, a5, a6, a7, a8, a9, a10, a11, a12, a13, a14, a15] 0).toArray) rfl (fun _ => kR)) <| tk_act rfl <| a_boxL rfl rfl fun b11 => q_a rfl rfl <| q_a rfl rfl <| s_n ?_; exact tk_retc <| tk_ret b11 trivial (.inl rfl) (r2 rfl rfl rfl) (List.Sublist.cons_cons _ (List.nil_sublist _))
theorem hroA {c : Cx} {H : List Res} {b q : Nat} {l : List UInt8} (h0 : ∀ j, j < l.length → c.w0.cell? ⟨b, q + j, none⟩ = some (B (l.getD j 0))) (hE : ¬ c.E b) : ∀ w, St c w H → ∀ (j : Nat) (u : Value), (l.map B)[j]? = some u → w.cell? ((⟨b, q, none⟩ : Addr).add j) = some u := fun w hw j u hj => by
  rw [add_w]
  rw [List.getElem?_map] at hj
  cases hl : l[j]? with
  | none => rw [hl] at hj; cases hj
  | some a =>
    rw [hl] at hj; cases hj
    have := hw.fr.cell (h0 j (List.getElem?_eq_some_iff.1 hl).1) hE
    rw [List.getD_eq_getElem?_getD, hl] at this
    exact this
set_option maxHeartbeats 400000 in
theorem block_spec (fb kb n : Nat) (K N : List UInt8) (w : World) (hN : N.length = 16) (hn : n < 2 ^ 63) (hf0 : w.cell? ⟨fb, 0, none⟩ = some (PT kb)) (hfn : ∀ j, j < N.length → w.cell? ⟨fb, 1 + j, none⟩ = some (B (N.getD j 0)))
    (hk : ∀ j, j < 240 → w.cell? ⟨kb, j, none⟩ = some (B (K.getD j 0))) :
    Spec Tryz.prog 185 [PT fb, I (n : Int)] w [] (fun _ : Unit => True) (fun _ => Ag (turn K (plus N n))) (fun _ => []) := by
  refine spec_of (n := 40) Tryz.func185 rfl rfl trivial trivial rfl <| s_r <| tk_act rfl <| a_allocL (cs := (List.replicate 16 0).map B) kR rfl fun b4 => s_n <| s_r <| q_m rfl rfl <| s_q rfl (y_nilCheck rfl) <| tk_qe (.pointer (some ⟨fb, 1, none⟩)) rfl rfl rfl (y_fldN 1 rfl kR) (rfl) <| s_q rfl (y_loadA 16 rfl kR (by simp [hN]) (hroA hfn (fun h => h))) <| tk_act rfl <| a_allocL (cs := (List.replicate 16 0).map B) kR rfl fun b5 => tk_act rfl <| a_storeW (H1 := []) 16 rfl rfl kR rfl ⟨by simp [hN], by simp⟩ oneB <| s_n <| s_r <| q_m rfl rfl <| s_q rfl (y_convi64 rfl rfl rfl (wrap_u64 oM)) <| q_a rfl rfl <| s_n <| tk_seqI (X := Unit) (fun _ => True) (fun _ => [(0, PT fb), (4, PT b4), (5, PT b5)]) (fun _ => [cel b5 ((plus N n).map B) 50, cel b4 ((List.replicate 16 0).map B) 50]) ?_ ?_
  · refine s_r <| q_a rfl rfl <| s_n <| tk_block <| tk_loop (X := Nat) (fun k => k ≤ 16) (fun k => [(0, PT fb), (4, PT b4), (5, PT b5), (6, .int .u64 ((plusTo N n k).2 : Int)), (7, I (15 - (k : Int)))]) (fun k => [cel b5 ((plusTo N n k).1.map B) 50, cel b4 ((List.replicate 16 0).map B) 50]) (fun k => 16 - k) (0) oM sB (List.Sublist.refl _) ?_
    intro k hI
    have hcr := plusTo_lt (N := N) (n := n) (k := k) hn
    have hb8 := b_lt ((plusTo N n k).1.getD (15 - k) 0)
    refine tk_seq <| s_r <| q_m rfl rfl <| tk_qs rfl rfl rfl (y_geq rfl rfl) (fun hs4_1 => ?_) (fun hs4_1 => ?_)
    · refine q_m rfl rfl <| s_g rfl (y_move rfl) <| tk_gqs rfl rfl rfl (y_gtr rfl rfl) (fun hs4_4 => ?_) (fun hs4_4 => ?_)
      · refine s_q rfl (y_pick1 rfl rfl) <| s_n <| tk_cond1 rfl <| tk_skip <| tk_then <| tk_seq <| tk_block <| s_r <| q_m rfl rfl <| q_m rfl rfl <| s_q rfl (y_ixA0I 16 (15 - k) rfl rfl kR oM) <| s_q rfl (y_load rfl rfl (hc (.head _) (getB (by simp [hN] <;> omega)))) <| s_q rfl (y_convi64 rfl rfl rfl (wrap_u64 oM)) <| s_q rfl (y_addU rfl rfl oM) <| q_a rfl rfl <| s_n <| s_r <| q_m rfl rfl <| q_m rfl rfl <| s_q rfl (y_convi8 rfl rfl rfl) <| s_q rfl (y_ixA0I 16 (15 - k) rfl rfl kR oM) <| tk_act rfl ?_; (first | refine a_store1B (H1 := []) rfl rfl kR rfl (by simp [hN] <;> omega) ?_ | refine a_store1B (H1 := [_]) rfl rfl kR rfl (by simp [hN] <;> omega) ?_); refine s_n <| tk_region <| q_m rfl rfl <| s_q rfl (y_shrN (m := 8) rfl rfl dC) <| q_a rfl rfl <| tk_nil <| tk_in_normal <| tk_then <| tk_region <| q_m rfl rfl <| tk_qe (I (15 - ((k + 1 : Nat) : Int))) rfl rfl rfl (y_subI rfl rfl oM) (by congr 1; omega) <| q_a rfl rfl <| tk_nil <| tk_again (k + 1) oM oM ⟨rfl, rfl, rfl, ?_, rfl, trivial⟩ ?_
        · simp only [plusTo]; rw [if_neg oM]; rfl
        · simp only [plusTo]; rw [if_neg oM]; exact List.Sublist.refl _
      · refine s_q rfl (y_pick1 rfl rfl) <| s_n <| tk_cond0 rfl <| tk_exit <| tk_then_exit <| tk_then_exit <| tk_in_hit <| tk_to () trivial sB (by rw [plus_at (k := k) oM oM]; exact List.Sublist.refl _)
    · refine q_m rfl rfl <| tk_gno rfl rfl rfl <| tk_gno rfl rfl rfl <| s_q rfl (y_pick0 rfl rfl) <| s_n <| tk_cond0 rfl <| tk_exit <| tk_then_exit <| tk_then_exit <| tk_in_hit <| tk_to () trivial sB (by rw [plus_at (k := k) oM oM]; exact List.Sublist.refl _)
  · intro _ _
    refine tk_seq <| tk_drawS [5, 6] kR <| s_x 0 rfl (y_move rfl) <| s_x 1 rfl (y_nilCheck rfl) <| s_x 2 rfl (y_fld0 rfl kR) <| s_l 3 rfl (fun _ h => h) (y_load rfl rfl (hro hf0 (fun h => h))) ?_
    (first | refine s_l 4 rfl (fun _ h => h) (y_loadA 16 rfl kR (by simp [hN]) (hcw (.head _))) ?_ | refine s_l 4 rfl (fun _ h => h) (y_loadA 16 rfl kR (by simp [hN]) (hcw (mm 1 rfl))) ?_)
    exact tx_x 5 rfl kR rfl rfl <| a_callv [] _ rfl kR rfl (fun w' hw' => turn_spec kb K _ w' (by simp [hN]) (fun j hj => hw'.fr.cell (hk j hj) (fun h => h))) rfl fun _ _ => tx_x 6 rfl kR rfl rfl <| a_storeW (H1 := [_]) 16 rfl rfl kR rfl ⟨by simp [hN], by simp⟩ oneB <| tx_done kR <| tk_then <| tk_retc <| tk_ret () trivial (.inl rfl) (rc rfl rfl (by simp [hN]; kernel_rfl) (hcw (mm 1 rfl))) (List.nil_sublist _)
end Go.Proofs.YtkkjfojgjmglpaaGreatDoor.Cip
set_option linter.unusedSimpArgs false
set_option linter.unusedVariables false
namespace Go.Proofs.YtkkjfojgjmglpaaGreatDoor.Cip
open Go Go.RowKit
set_option maxRecDepth 100000
attribute [local irreducible] turn plus keyW hideL
theorem el5 : elB Tryz.prog 42 5 1 1 := ⟨kR, _, .int .u8 0, rfl, kR, rfl, kR, kR, Nat.one_pos⟩
theorem fl17 {kb : Nat} {N : List UInt8} {a : Int} (h : N.length = 16) : (flowCs kb N a)[17]? = some (I a) := by
  simp [flowCs, List.getElem?_append_right, h]
theorem flN {kb : Nat} {N : List UInt8} {a : Int} {j : Nat} (hj : j < N.length) : (flowCs kb N a)[1 + j]? = some (B (N.getD j 0)) := by
  rw [Nat.add_comm]; simp [flowCs, List.getElem?_append_left, hj, List.getD_eq_getElem?_getD]
theorem fl_set {kb : Nat} {N : List UInt8} {a b : Int} (h : N.length = 16) : (flowCs kb N a).set 17 (I b) = flowCs kb N b := by
  simp [flowCs, List.set_append, h]
theorem take_snoc {l : List UInt8} {j : Nat} {x : UInt8} (h : l[j]? = some x) : l.take (j + 1) = l.take j ++ [x] := by rw [List.take_add_one, h]; rfl
theorem len_snoc {l : List UInt8} {x : UInt8} : (l ++ [x]).length = l.length + 1 := by simp
theorem own_snoc {v : Value} {K N : List UInt8} {a : Nat} {l : List UInt8} {x : UInt8} {e : TypeId} :
    ownB v (hideL K N a (l ++ [x])) e = own v ((hideL K N a l).length + 1) ((hideL K N a l).map B ++ [B (x ^^^ flowB K N (a + l.length))]) e 1 := by
  simp only [ownB, hideL_snoc, List.length_append, List.map_append]; rfl
set_option maxHeartbeats 1000000 in
theorem hide_spec (fb kb a : Nat) (K N : List UInt8) (v : Value) (Ps : List (Value × List UInt8)) (w : World) (hN : N.length = 16) (hfl : (cel fb (flowCs kb N a) 290).holds w) (hkb : kb ≠ fb)
    (hk : ∀ j, j < 240 → w.cell? ⟨kb, j, none⟩ = some (B (K.getD j 0))) (hps : RdS w v (Ps.map Prod.fst)) (hpe : Ps = [] ∨ (adOf v).block ≠ fb) (hpr : ∀ p ∈ Ps, RdB w p.1 p.2 ∧ (p.2 = [] ∨ (adOf p.1).block ≠ fb))
    (ha : a < 2 ^ 61) (hb : (Ps.flatMap Prod.snd).length < 2 ^ 46) (hpl : Ps.length < 2 ^ 61) :
    Spec Tryz.prog 151 [PT fb, v] w [cel fb (flowCs kb N a) 290] (fun _ : Value => True) (fun vo => vo)
      (fun vo => [ownB vo (hideL K N a (Ps.flatMap Prod.snd)) 5, cel fb (flowCs kb N ((a + (Ps.flatMap Prod.snd).length : Nat) : Int)) 290]) := by
  refine spec_of (n := 62) Tryz.func151 rfl rfl ⟨hfl, trivial⟩ ⟨fun _ _ h => h, trivial⟩ rfl <| s_r <| q_a rfl rfl <| s_n <| tk_seq <| s_r <| q_m rfl rfl <| tk_qe (.bool false) rfl rfl rfl (y_pnil rfl rfl rfl) (rfl) <| s_n <| tk_cond0 rfl <| tk_skip <| tk_then <| s_r <| q_a rfl rfl <| s_n <| s_r <| s_q rfl (y_build (v := Ag (List.replicate 16 0)) (vs := []) rfl (fun _ => kR)) <| tk_act rfl <| a_allocL (cs := (List.replicate 16 0).map B) kR rfl fun b6 => tk_act rfl <| a_storeW (H1 := []) 16 rfl rfl kR rfl ⟨by simp, by simp⟩ oneB <| q_a rfl rfl <| s_n <| tk_seq ?_; refine s_r <| tk_own0 5 <| tk_perm (H' := [cel b6 ((List.replicate 16 0).map B) 50, own (.slice none 0 0) 0 [] 5 1, cel fb (flowCs kb N a) 290]) (List.Perm.swap _ _ _) <| q_m rfl rfl <| tk_qe (I (Ps.length : Int)) rfl rfl rfl (y_lenR rfl hps rfl) (by rw [List.length_map]) <| q_m rfl rfl <| s_n <| tk_block <| tk_loop (X := Nat × Value × Int × List UInt8) (fun x => x.1 ≤ Ps.length ∧ x.2.2.2.length = 16 ∧ (x.2.2.1 = -1 ∨ ∃ q : Nat, x.2.2.1 = (q : Int) ∧ x.2.2.2 = turn K (plus N q))) (fun x => [(0, PT fb), (5, x.2.1), (6, PT b6), (7, I x.2.2.1), (16, v), (17, I (Ps.length : Int)), (18, I (x.1 : Int))]) (fun x => [cel b6 ((x.2.2.2).map B) 50, ownB x.2.1 (hideL K N a ((Ps.take x.1).flatMap Prod.snd)) 5, cel fb (flowCs kb N ((a + ((Ps.take x.1).flatMap Prod.snd).length : Nat) : Int)) 290]) (fun x => Ps.length - x.1) ((0, .slice none 0 0, -1, List.replicate 16 0)) (⟨Nat.zero_le _, by simp, .inl rfl⟩) sB (by show List.Sublist [_, ownB (.slice none 0 0) (hideL K N a []) 5, _] _; rw [hideL_nil]; exact List.Sublist.refl _) ?_
  rintro ⟨i, vo, hv, sb⟩ ⟨hi, hsl, hq⟩
  dsimp only at hi hsl hq ⊢
  refine s_r <| s_q rfl (y_lss rfl rfl) <| s_n <| tk_seq <| tk_condP rfl (fun h19 => ?_) (fun h19 => ?_)
  · obtain ⟨p, hp⟩ : ∃ p, Ps[i]? = some p := ⟨_, List.getElem?_eq_getElem oM⟩
    have hpm := hpr p (List.mem_of_getElem? hp)
    have hfl2 := flat_le hp
    refine tk_skip <| tk_then <| tk_seq <| tk_block <| s_r <| s_q rfl (y_ixR rfl rfl hps (by rw [List.length_map]; omega) kR) <| s_q rfl (y_load rfl rfl (hrd hps (u := p.1) (by rw [List.getElem?_map, hp]; rfl) (fun h => (hpe.resolve_left (fun e => by rw [e] at hp; cases hp)) (h.resolve_right id)))) ?_; refine q_a rfl rfl <| s_n <| s_r <| q_m rfl rfl <| tk_qe (I (p.2.length : Int)) rfl rfl rfl (y_lenR rfl hpm.1 rfl) (by rw [List.length_map]) <| q_m rfl rfl <| s_n <| tk_block <| tk_loop (X := Nat × Value × Int × List UInt8) (fun x => x.1 ≤ p.2.length ∧ x.2.2.2.length = 16 ∧ (x.2.2.1 = -1 ∨ ∃ q : Nat, x.2.2.1 = (q : Int) ∧ x.2.2.2 = turn K (plus N q))) (fun x => [(0, PT fb), (5, x.2.1), (6, PT b6), (7, I x.2.2.1), (16, v), (17, I (Ps.length : Int)), (18, I (i : Int)), (22, p.1), (23, I (p.2.length : Int)), (24, I (x.1 : Int))]) (fun x => [cel b6 ((x.2.2.2).map B) 50, ownB x.2.1 (hideL K N a (((Ps.take i).flatMap Prod.snd) ++ p.2.take x.1)) 5, cel fb (flowCs kb N ((a + (((Ps.take i).flatMap Prod.snd) ++ p.2.take x.1).length : Nat) : Int)) 290]) (fun x => p.2.length - x.1) ((0, vo, hv, sb)) (⟨Nat.zero_le _, hsl, hq⟩) sB (by simp only [List.take_zero, List.append_nil]; exact List.Sublist.refl _) ?_
    clear hsl hq
    rintro ⟨j, vo, hv, sb⟩ ⟨hj, hsl, hq⟩
    dsimp only at hj hsl hq ⊢
    generalize hqq : a + (((Ps.take i).flatMap Prod.snd) ++ p.2.take j).length = q
    refine s_r <| s_q rfl (y_lss rfl rfl) <| s_n <| tk_seq <| tk_condP rfl (fun h25 => ?_) (fun h25 => ?_)
    · obtain ⟨x0, hx0⟩ : ∃ x0, p.2[j]? = some x0 := ⟨_, List.getElem?_eq_getElem oM⟩
      have hql : (((Ps.take i).flatMap Prod.snd) ++ p.2.take j).length = ((Ps.take i).flatMap Prod.snd).length + j := by rw [List.length_append, List.length_take, Nat.min_eq_left oM]
      refine tk_skip <| tk_then <| tk_seq <| tk_block <| s_r <| s_q rfl (y_ixR rfl rfl hpm.1 (by rw [List.length_map]; omega) kR) <| s_q rfl (y_load rfl rfl (hrd hpm.1 (u := B x0) (by rw [List.getElem?_map, hx0]; rfl) (fun h => (hpm.2.resolve_left (fun e => by rw [e] at hx0; cases hx0)) (h.resolve_right id)))) ?_; refine q_a rfl rfl <| s_n ?_; refine tk_seqI (X := Unit) (fun _ => True) (fun _ => [(0, PT fb), (5, vo), (6, PT b6), (7, I ((q / 16 : Nat) : Int)), (16, v), (17, I (Ps.length : Int)), (18, I (i : Int)), (22, p.1), (23, I (p.2.length : Int)), (24, I (j : Int)), (11, B x0)]) (fun _ => [cel b6 ((turn K (plus N (q / 16))).map B) 50, ownB vo (hideL K N a (((Ps.take i).flatMap Prod.snd) ++ p.2.take j)) 5, cel fb (flowCs kb N (q : Int)) 290]) ?_ ?_
      · refine s_r <| q_m rfl rfl <| s_q rfl (y_nilCheck rfl) <| s_q rfl (y_fldN 17 rfl kR) <| s_q rfl (y_load rfl rfl (hc (mm 2 rfl) (fl17 hN))) <| s_q rfl (y_quoN (b := 16) rfl rfl oM) <| q_a rfl rfl <| s_n <| s_r <| q_m rfl rfl <| q_m rfl rfl <| s_q rfl (y_neq rfl rfl) <| s_n <| tk_condP rfl (fun h35 => ?_) (fun h35 => ?_)
        · exact tk_region <| q_m rfl rfl <| q_m rfl rfl <| tk_act rfl <| a_callv [] _ rfl kR rfl (fun w' hw' => block_spec fb kb (q / 16) K N w' hN oM (cel_cell (hw'.mem (mm 2 rfl)) rfl) (fun j hj => cel_cell (hw'.mem (mm 2 rfl)) (flN hj)) (fun j hj => hw'.fr.cell (hk j hj) (fun h => hkb (h.resolve_right id)))) rfl fun _ _ => q_m rfl rfl <| tk_act rfl <| a_storeW (H1 := []) 16 rfl rfl kR rfl ⟨by simp [hN], by simp [hsl]⟩ oneB <| q_a rfl rfl <| tk_nil <| tk_to () trivial sB (List.Sublist.refl _)
        · refine tk_skip ?_
          rcases hq with hq | ⟨q', hq, hq2⟩
          · exfalso; omega
          · have hq1 : q' = q / 16 := by omega
            exact tk_to () trivial ⟨rfl, rfl, rfl, by show some (I hv) = _; rw [hq, hq1], rfl, rfl, rfl, rfl, rfl, rfl, rfl, trivial⟩ (by rw [hq2, hq1]; exact List.Sublist.refl _)
      · intro _ _
        refine s_r <| q_m rfl rfl <| q_m rfl rfl <| q_m rfl rfl <| s_q rfl (y_nilCheck rfl) <| s_q rfl (y_fldN 17 rfl kR) <| s_q rfl (y_load rfl rfl (hc (mm 2 rfl) (fl17 hN))) <| s_q rfl (y_remN (b := 16) rfl rfl oM) ?_
        (first | refine s_q rfl (y_ixA01 16 rfl rfl kR oM) ?_ | refine s_q rfl (y_ixAN1 16 rfl rfl kR oM) ?_)
        refine s_q rfl (y_load rfl rfl (hc (.head _) (getB (by simp [hN]; omega)))) <| s_q rfl (y_xor8 rfl rfl) <| tk_act rfl <| a_slit1 rfl rfl el5 rfl fun b50 => tk_act rfl <| a_append (H1 := [_, _]) (news := [_]) rfl rfl el5 rfl rfl rfl (hcw (.head _)) (by simp [Value.oneCell']) (by simp only [hideL_len]; omega) fun vo2 => q_a rfl rfl <| s_n <| tk_region <| q_m rfl rfl <| s_q rfl (y_nilCheck rfl) <| s_q rfl (y_fldN 17 rfl kR) <| s_q rfl (y_load rfl rfl (hc (mm 3 rfl) (fl17 hN))) <| tk_qe (I ((q + 1 : Nat) : Int)) rfl rfl rfl (y_addI rfl rfl oM) (by congr 1 <;> omega) <| s_q rfl (y_nilCheck rfl) <| s_q rfl (y_fldN 17 rfl kR) <| tk_act rfl <| a_store1 (H1 := [_, _, _]) rfl rfl kR rfl rfl (by simp [flowCs, hN]) <| tk_nil <| tk_in_normal <| tk_then <| tk_region <| tk_qe (I ((j + 1 : Nat) : Int)) rfl rfl rfl (y_addI rfl rfl oM) (by congr 1 <;> omega) <| q_m rfl rfl ?_; exact tk_nil <| tk_again (j + 1, vo2, ((q / 16 : Nat) : Int), turn K (plus N (q / 16))) ⟨by show j + 1 ≤ p.2.length; omega, turn_len (by rw [plus_len]; exact hN), .inr ⟨q / 16, rfl, rfl⟩⟩ (by show p.2.length - (j + 1) < p.2.length - j; omega) sB (by dsimp only; rw [take_snoc hx0, ← List.append_assoc, own_snoc, len_snoc, ← Nat.add_assoc, hqq, ← fl_set hN (a := (q : Int))]; exact List.Sublist.cons _ (List.Sublist.refl _))
    · obtain rfl : j = p.2.length := by omega
      subst hqq
      rw [List.take_length, ← flat_succ hp]
      exact tk_exit <| tk_then_exit <| tk_then_exit <| tk_in_hit <| tk_in_normal <| tk_then <| tk_region <| tk_qe (I ((i + 1 : Nat) : Int)) rfl rfl rfl (y_addI rfl rfl oM) (by congr 1 <;> omega) <| q_m rfl rfl <| tk_nil <| tk_again (i + 1, vo, hv, sb) ⟨by show i + 1 ≤ Ps.length; omega, hsl, hq⟩ (by show Ps.length - (i + 1) < Ps.length - i; omega) sB (List.Sublist.refl _)
  · obtain rfl : i = Ps.length := by omega
    rw [List.take_length]
    exact tk_exit <| tk_then_exit <| tk_then_exit <| tk_in_hit <| tk_then <| s_r <| q_m rfl rfl <| q_a rfl rfl <| s_n <| tk_retc <| tk_ret vo trivial (.inl rfl) (r1 rfl rfl) (List.Sublist.cons _ (List.Sublist.refl _))
end Go.Proofs.YtkkjfojgjmglpaaGreatDoor.Cip
set_option linter.unusedSimpArgs false
set_option linter.unusedVariables false
namespace Go.Proofs.YtkkjfojgjmglpaaGreatDoor.Cip
open Go Go.RowKit
set_option maxRecDepth 100000
theorem makeR_spec (v : Value) (b : List UInt8) (w : World) (hb : b.length = 32) (hR : RdB w v b) :
    Spec Tryz.prog 183 [v] w [] (fun _ : Nat => True) (fun kb => .tuple #[PT kb, I 0]) (fun kb => [cel kb ((keyW b).map B) 317]) := by
  rcases hR with ⟨_, h0⟩ | ⟨ad, cap, rfl, hc, hr⟩
  · have := congrArg List.length h0; simp [hb] at this
  · rw [List.length_map] at hc ⊢
    rw [hb] at hc ⊢
    have hget : ∀ j, j < b.length → w.cell? (ad.add j) = some (B (b.getD j 0)) := fun j hj => hr j _ (getB hj)
    obtain ⟨ab, ao, sp⟩ := ad
    have hsp : sp = none := by
      have h0 := hget 0 oM
      cases sp with
      | none => rfl
      | some q =>
        exfalso
        simp only [Addr.add, if_true, World.cell?, Option.isSome_some] at h0
        split at h0 <;> cases h0
    subst hsp
    exact make_spec ab ao cap b w hb hc (fun j hj => by have := hget j hj; rwa [add_w] at this)
def bb : Nat → List UInt8
  | 0 => List.replicate 16 0
  | k + 1 => (bb k).set (k % 16) (UInt8.ofNat (17 * (k % 16)))
attribute [local irreducible] turn plus keyW hideL
end Go.Proofs.YtkkjfojgjmglpaaGreatDoor.Cip
set_option linter.unusedSimpArgs false
set_option linter.unusedVariables false
namespace Go.Proofs.YtkkjfojgjmglpaaGreatDoor
open Go Go.RowKit
set_option maxRecDepth 100000
attribute [local irreducible] hidL markL sealL sealF openF keyedL Cip.keyW Cip.hideL
theorem hide_ro {fb kb : Nat} {hk N : List UInt8} {v : Value} {ps : List Sb} {L : List UInt8} {w : World} (hk32 : hk.length = 32) (hN : N.length = 16) (hv : Ro (Fs [cel fb (Cip.flowCs kb N (0 : Int)) 290, cel kb ((Cip.keyW hk).map B) 317]) w (rd v (ps.map Prod.fst)))
    (hp : ∀ p ∈ ps, Ro (Fs [cel fb (Cip.flowCs kb N (0 : Int)) 290, cel kb ((Cip.keyW hk).map B) 317]) w (rdB p.1 p.2)) (hL : ps.flatMap Prod.snd = L) (hb : L.length < 70368744177664) (hn : ps.length < 70368744177664)
    (hh : Pre w [cel fb (Cip.flowCs kb N (0 : Int)) 290, cel kb ((Cip.keyW hk).map B) 317]) :
    Spec Tryz.prog 151 [PT fb, v] w [cel fb (Cip.flowCs kb N (0 : Int)) 290, cel kb ((Cip.keyW hk).map B) 317] (fun _ : Value => True) (fun vo => vo) (fun vo => [ownB vo (hidL hk N L) 5]) := by
  subst hL
  have hne : kb ≠ fb := fun e => hh.2.1 fb rfl (.inl e.symm)
  have hs := Cip.hide_spec fb kb 0 (Cip.keyW hk) N v ps w hN hh.1.1 hne (fun j hj => cel_cell hh.1.2.1 (getB (by rw [Cip.keyW_len hk32]; exact hj))) hv.1 (by
    cases ps with
    | nil => exact .inl rfl
    | cons p ps => exact .inr fun e => hv.2 fb ⟨by simp, e⟩ (.inl rfl)) (fun p hp0 => ⟨(hp p hp0).1, by
      cases hl : p.2 with
      | nil => exact .inl rfl
      | cons a l => exact .inr fun e => (hp p hp0).2 fb ⟨by rw [hl]; simp, e⟩ (.inl rfl)⟩) dC oM oM
  rw [hidL_def] at hs
  exact (Spec.frame (F := [cel kb ((Cip.keyW hk).map B) 317]) hs hh).less (fun vo => .cons_cons _ (List.nil_sublist _))
theorem flow_spec {hk mk N : List UInt8} {nv : Value} {w : World} (hn : Ro (Fs []) w (rdB nv N)) (hk32 : hk.length = 32) (hN : N.length = 16) :
    Spec Tryz.prog 150 [.agg (hk.map B ++ (mk.map B)).toArray, nv] w [] (fun _ : Nat × Nat => True) (fun x => .tuple #[PT x.1, I 0])
      (fun x => [cel x.1 (Cip.flowCs x.2 N (0 : Int)) 290, cel x.2 ((Cip.keyW hk).map B) 317]) := by
  refine spec_of (n := 24) Tryz.func150 rfl rfl trivial trivial rfl <| s_r <| tk_act rfl <| a_boxL (cs := hk.map B ++ (mk.map B)) rfl rfl fun b2 => q_a rfl rfl <| q_a rfl rfl <| s_n <| s_r <| s_q rfl (y_fld0 (o := 0) rfl kR) <| s_q rfl (y_cutA (m := 32) (sz := 1) rfl kR) <| tk_act rfl <| a_callv [] _ rfl kR rfl (fun w' hw' => Cip.makeR_spec _ hk w' lenP ((Ro.cel (H0 := []) (b := b2) (o := 0) (m := 32) (cp := 32) (vs := hk.map B) hw' (.head _) (dsW1) lQ lenP)).1) rfl fun k11 _ => q_m rfl rfl <| s_q rfl (y_extract rfl rfl) <| s_q rfl (y_extract rfl rfl) <| q_a rfl rfl <| q_a rfl rfl <| s_n <| tk_seq <| s_r <| q_m rfl rfl <| s_q rfl ((y_neq rfl rfl).cast (bool_f dC)) <| s_n <| tk_cond0 rfl ?_; exact tk_skip <| tk_then <| s_r <| q_m rfl rfl <| q_m rfl rfl <| s_q rfl (y_s2aR (l := N) rfl rfl hn.1 lenP) <| s_q rfl (y_loadA 16 rfl kR lenP (fun w hw => rd_take (l := N) (m := 16) ((fun w hw => Ro.rd hn hw) w hw) lenP)) <| tk_re 20 (.agg ((N.take 16).map B).toArray) (.agg (N.map B).toArray) rfl (by rw [List.take_of_length_le oM]) <| tk_act rfl <| a_callv [] _ rfl kR rfl (fun w' hw' => Cip.begin_spec k11 N w' lenP) rfl fun f21 _ => s_q rfl (y_extract rfl rfl) <| s_q rfl (y_extract rfl rfl) <| q_a rfl rfl <| q_a rfl rfl <| s_n <| tk_retc <| tk_ret ((f21, k11)) (trivial) (.inl rfl) (r2 rfl rfl rfl) (.cons_cons _ (.cons_cons _ (List.nil_sublist _)))
theorem mark_spec {hk mk name N h : List UInt8} {kind : UInt8} {nv hv : Value} {w : World} (hn : Ro (Fs []) w (rdB nv N)) (hh : Ro (Fs []) w (rdB hv h)) (h2 : hk.length = 32 ∧ mk.length = 32) (hg : Ro (Fs []) w glob) (hb : name.length < 4294967296 ∧ N.length < 4294967296 ∧ h.length < 4294967296) :
    Spec Tryz.prog 152 [.agg (hk.map B ++ (mk.map B)).toArray, B kind, Str name, nv, hv] w [] (fun _ : Unit => True) (fun _ => Ag (markL mk kind name N h)) (fun _ => []) := by
  obtain ⟨hk32, mk32⟩ := h2
  refine spec_of (n := 24) Tryz.func152 rfl rfl trivial trivial rfl <| s_r <| tk_act rfl <| a_boxL (cs := hk.map B ++ (mk.map B)) rfl rfl fun b5 => tk_act rfl <| a_allocL (cs := (List.replicate 32 0).map B) kR rfl fun b10 => s_n <| s_r <| s_q rfl (y_fldN (o := 0) 32 rfl kR) <| s_q rfl (y_cutA (m := 32) (sz := 1) rfl kR) <| q_m rfl rfl <| q_m rfl rfl <| s_q rfl (y_lenStr (l := name) rfl rfl) <| s_q rfl (y_convi8 (m := name.length) rfl rfl rfl) <| tk_act rfl <| a_slitN (vs := [B kind, B (UInt8.ofNat name.length)]) rfl (List.forall_mem_cons.2 ⟨rfl, (List.forall_mem_cons.2 ⟨rfl, (fun _ h => nomatch h)⟩)⟩) (EL42) rfl rfl dC fun b17 => q_m rfl rfl <| tk_act rfl <| a_s2bO (l := name) rfl rfl rfl rfl rfl (by simp only [maxLen]; first | omega | (simp; done) | (simp; omega)) fun v19 => tk_own1 (.head _) fun hfv19 => q_m rfl rfl <| q_m rfl rfl <| tk_act rfl <| a_slitN (vs := [.slice (some ⟨b17, 0, none⟩) 2 2, v19, nv, hv]) rfl (List.forall_mem_cons.2 ⟨rfl, (List.forall_mem_cons.2 ⟨(RdS.one hfv19.choose_spec), (List.forall_mem_cons.2 ⟨(RdS.one hn.1), (List.forall_mem_cons.2 ⟨(RdS.one hh.1), (fun _ h => nomatch h)⟩)⟩)⟩)⟩) (EL206) rfl rfl dC fun b22 => ?_; exact tk_act rfl <| a_callv [] _ rfl kR rfl (fun w' hw' => keyed_spec (k := mk) (ps := [(.slice (some ⟨b17, 0, none⟩) 2 2, [kind, UInt8.ofNat name.length]), (v19, name), (nv, N), (hv, h)]) (L := [kind, UInt8.ofNat name.length] ++ name ++ N ++ h) (Ro.cel (H0 := []) (b := b5) (o := 32) (m := 32) (cp := 32) (vs := mk.map B) hw' (mm 4 rfl) (dsA (k := 32) (i := 0) (by rw [List.length_map]; exact hk32) oM (dsW)) lQ lenP) (Ro.cel (vs := [.slice (some ⟨b17, 0, none⟩) 2 2, v19, nv, hv]) hw' (.head _) rS rfl dC) (List.forall_mem_cons.2 ⟨(Ro.cel (H0 := []) (b := b17) (o := 0) (m := 2) (cp := 2) (vs := [kind, UInt8.ofNat name.length].map B) hw' (mm 2 rfl) (rfl) lQ lenP), (List.forall_mem_cons.2 ⟨(Ro.own (H0 := []) hw' (mm 1 rfl)), (List.forall_mem_cons.2 ⟨(Ro.call (H0 := []) hn hw'), (List.forall_mem_cons.2 ⟨(Ro.call (H0 := []) hh hw'), (fun _ h => nomatch h)⟩)⟩)⟩)⟩) sI ⟨lenP, lenP, lenP⟩ (hg.call hw')) rfl fun _ _ => tk_re 23 (.agg ((keyedL mk ([kind, UInt8.ofNat name.length] ++ name ++ N ++ h)).map B).toArray) (.agg ((markL mk kind name N h).map B).toArray) rfl (by rw [markL_def]) <| tk_act rfl <| a_storeW (H1 := [_, _, _]) (vs := (markL mk kind name N h).map B) 32 rfl rfl kR rfl ⟨lenP, lenP⟩ oneB <| s_n <| tk_retc <| tk_ret (()) (trivial) (.inl rfl) (rc (vs := (markL mk kind name N h).map B) rfl rfl (by simp; kernel_rfl) (hcw (mm 3 rfl))) (List.nil_sublist _)
theorem seal_spec {hk mk name N L : List UInt8} {kind : UInt8} {v : Value} {ps : List Sb} {w : World} (h3 : hk.length = 32 ∧ mk.length = 32 ∧ N.length = 16) (hv : Ro (Fs []) w (rd v (ps.map Prod.fst))) (hp : ∀ p ∈ ps, Ro (Fs []) w (rdB p.1 p.2)) (hL : ps.flatMap Prod.snd = L)
    (hb : name.length < 4294967296 ∧ L.length < 4294967296 ∧ ps.length < 4294967296) (hg : Ro (Fs []) w glob) :
    Spec Tryz.prog 105 [.agg (hk.map B ++ (mk.map B)).toArray, B kind, Str name, Ag N, v] w [] (fun _ : Value => True) (fun vo => .tuple #[vo, I (((sealF hk mk kind name N L).2 : Nat) : Int)]) (fun vo => [ownB vo (sealF hk mk kind name N L).1 5]) := by
  refine spec_of (n := 60) Tryz.func105 rfl rfl trivial trivial rfl ?_
  obtain ⟨hk32, mk32, hN⟩ := h3
  have hLl : (ps.flatMap Prod.snd).length = L.length := by rw [hL]
  refine s_r <| tk_act rfl <| a_boxL (cs := hk.map B ++ (mk.map B)) rfl rfl fun b5 => tk_act rfl <| a_boxL (cs := N.map B) rfl rfl fun b8 => q_a rfl rfl <| q_a rfl rfl <| s_n <| tk_seq <| s_r <| q_m rfl rfl <| s_q rfl (y_lenStr (l := name) rfl rfl) <| s_q rfl (y_gtr rfl rfl) <| s_n <| tk_condP rfl (fun ht21 => ?_) (fun ht21 => ?_)
  · exact s_r <| q_a rfl rfl <| q_a rfl rfl <| s_n <| tk_retc <| tk_then_ret <| tk_ownM0 (f := B) 5 <| tk_R (H1 := []) rfl (show ownB (.slice none 0 0) [] 5 = ownB (.slice none 0 0) ((sealF hk mk kind name N L).1) 5 from ownM_cast (by rw [sealF_name oM])) <| tk_re 11 (I 5) (I (((sealF hk mk kind name N L).2 : Nat) : Int)) rfl (by rw [sealF_name oM]; rfl) <| tk_ret (.slice none 0 0) (trivial) (.inl rfl) (r2 rfl rfl rfl) (.cons_cons _ (List.nil_sublist _))
  · refine tk_skip <| tk_then <| s_r <| q_a rfl rfl <| s_n <| tk_seq <| s_r <| q_m rfl rfl <| s_q rfl (y_lenRN (n' := ps.length) rfl hv.1 rfl (by first | rfl | (rw [List.length_map]; omega) | simp)) <| q_m rfl rfl <| s_n <| tk_block <| tk_loop (X := Nat) (fun j => j ≤ ps.length ∧ ((ps.take j).flatMap Prod.snd).length ≤ 1048576) (fun j => [(1, B kind), (2, Str name), (4, v), (5, PT b5), (8, PT b8), (12, I ((1048576 - ((ps.take j).flatMap Prod.snd).length : Nat) : Int)), (22, v), (23, IN ps.length), (24, IN j)]) (fun j => [cel b8 (N.map B) 50, cel b5 (hk.map B ++ (mk.map B)) 29]) (fun j => ps.length - j) (0) (⟨Nat.zero_le _, by simp⟩) sB ((List.Sublist.refl _)) ?_
    rintro j hI
    try dsimp only at hI ⊢
    refine s_r <| s_q rfl (y_lss rfl rfl) <| s_n <| tk_seq <| tk_condP rfl (fun ht25 => ?_) (fun ht25 => ?_)
    · refine tk_skip <| tk_then <| tk_seq <| tk_block <| s_r <| s_q rfl (y_ixR (j := j) rfl rfl hv.1 lenP kR) <| s_q rfl (y_load rfl rfl (fun w hw => ((fun w hw => Ro.rd hv hw) w hw).cell (gM (f := Prod.fst) (d := dP) lenP))) <| q_a rfl rfl <| s_n <| tk_seq <| s_r ?_
      have hfl := flat_le (ps := ps) (i := j) oM
      refine q_m rfl rfl <| s_q rfl (y_lenRN (n' := ((ps.getD j dP).2).length) rfl (hp _ (getD_mem lenP)).1 rfl (by first | rfl | (rw [List.length_map]; omega) | simp)) <| q_m rfl rfl <| s_q rfl (y_gtr rfl rfl) <| s_n <| tk_condP rfl (fun ht31 => ?_) (fun ht31 => ?_)
      · exact s_r <| q_a rfl rfl <| q_a rfl rfl <| s_n <| tk_retc <| tk_then_ret <| tk_in_ret <| tk_then_ret <| tk_then_ret <| tk_in_ret <| tk_then_ret <| tk_ownM0 (f := B) 5 <| tk_R (H1 := []) rfl (show ownB (.slice none 0 0) [] 5 = ownB (.slice none 0 0) ((sealF hk mk kind name N L).1) 5 from ownM_cast (by rw [sealF_big oM oM])) <| tk_re 11 (I 4) (I (((sealF hk mk kind name N L).2 : Nat) : Int)) rfl (by rw [sealF_big oM oM]; rfl) <| tk_ret (.slice none 0 0) (trivial) (.inl rfl) (r2 rfl rfl rfl) (.cons_cons _ (List.nil_sublist _))
      · exact tk_skip <| tk_then <| tk_region <| q_m rfl rfl <| q_m rfl rfl <| s_q rfl (y_lenRN (n' := ((ps.getD j dP).2).length) rfl (hp _ (getD_mem lenP)).1 rfl (by first | rfl | (rw [List.length_map]; omega) | simp)) <| s_q rfl (y_subN (a := 1048576 - ((ps.take j).flatMap Prod.snd).length) (b := ((ps.getD j dP).2).length) rfl rfl oM) <| q_a rfl rfl <| tk_nil <| tk_in_normal <| tk_then <| tk_region <| s_q rfl (y_addN (a := j) (b := 1) rfl rfl oM) <| q_m rfl rfl <| tk_nil <| tk_re 12 (I (((1048576 - ((ps.take j).flatMap Prod.snd).length) - (((ps.getD j dP).2).length) : Nat) : Int)) (I ((1048576 - ((ps.take (j + 1)).flatMap Prod.snd).length : Nat) : Int)) rfl (by rw [flat_snoc (d := dP) oM, List.length_append]; congr 2; omega) <| tk_again (j + 1) (⟨by omega, by rw [flat_snoc (d := dP) oM, List.length_append]; omega⟩) oM sB (List.Sublist.refl _)
    · have hok : ¬ 1048576 < L.length := by have h := hI.2; rw [List.take_of_length_le oM] at h; omega
      refine tk_exit <| tk_then_exit <| tk_then_exit <| tk_in_hit <| tk_then <| tk_seq <| tk_drawH [cel b8 (N.map B) 50, cel b5 (hk.map B ++ (mk.map B)) 29] [] kR <| s_l 0 rfl (fun _ h => h) (y_loadA 64 rfl kR lenP (hcw (mm 1 rfl))) <| s_x 1 rfl (y_cutA (m := 16) (sz := 1) rfl kR) <| tx_a 2 rfl kR rfl <| a_callv [] _ rfl kR rfl (fun w' hw' => flow_spec (hk := hk) (mk := mk) (N := N) (Ro.cel (H0 := []) (b := b8) (o := 0) (m := 16) (cp := 16) (vs := N.map B) hw' (.head _) (dsW) lQ lenP) lenP lenP) rfl fun ⟨f40, k40⟩ _ => tk_S (fun _ h => kD 2 rfl h) <| s_x 3 rfl (y_move rfl) <| s_x 4 rfl (y_extract rfl rfl) <| s_x 5 rfl (y_extract rfl rfl) <| s_x 6 rfl (y_assign rfl) <| s_x 7 rfl (y_assign rfl) <| tx_done kR <| tk_then <| tk_seq <| s_r <| q_m rfl rfl <| s_q rfl ((y_neq rfl rfl).cast (bool_f dC)) <| s_n ?_; refine tk_cond0 rfl <| tk_skip <| tk_then <| s_r <| q_m rfl rfl <| q_m rfl rfl <| tk_act rfl <| a_callv [] _ rfl kR rfl (fun w' hw' => hide_ro (hk := hk) (N := N) (ps := ps) (L := L) hk32 hN (Ro.call hv hw') (fun p hp0 => (hp p hp0).call hw') hL lenP lenP (St.pre hw')) rfl fun v48 _ => q_a rfl rfl <| s_n <| tk_seq <| tk_drawH [ownB v48 (hidL hk N L) 5, cel b8 (N.map B) 50, cel b5 (hk.map B ++ (mk.map B)) 29] [] kR <| s_l 0 rfl (fun _ h => h) (y_loadA 64 rfl kR lenP (hcw (mm 2 rfl))) <| s_x 1 rfl (y_move rfl) <| s_x 2 rfl (y_move rfl) <| s_x 3 rfl (y_cutA (m := 16) (sz := 1) rfl kR) <| s_x 4 rfl (y_move rfl) <| tx_all (is := [5, 6]) kR rfl ⟨⟨_, rfl, rfl, ?_⟩, ⟨_, rfl, rfl, ?_⟩, trivial⟩
      · refine a_callv [] _ rfl kR rfl (fun w' hw' => mark_spec (hk := hk) (mk := mk) (kind := kind) (name := name) (N := N) (h := hidL hk N L) (Ro.cel (H0 := []) (b := b8) (o := 0) (m := 16) (cp := 16) (vs := N.map B) hw' (mm 1 rfl) (dsW) lQ lenP) (Ro.own (H0 := []) hw' (.head _)) ⟨lenP, lenP⟩ (hg.call hw') ⟨lenP, lenP, lenP⟩) rfl fun _ _ => tk_S (fun _ h => h) <| tx_a 6 rfl kR rfl <| a_allocL (cs := (List.replicate 32 0).map B) kR rfl fun b18 => tk_S (fun _ h => kD 1 rfl h) <| tx_a 7 rfl kR rfl <| a_storeW (H1 := []) (vs := (markL mk kind name N (hidL hk N L)).map B) 32 rfl rfl kR rfl ⟨lenP, lenP⟩ oneB <| tk_S (fun _ h => kD 1 rfl h) <| tx_done kR <| tk_then <| tk_seq <| tk_drawH [cel b18 ((markL mk kind name N (hidL hk N L)).map B) 27, ownB v48 (hidL hk N L) 5, cel b5 (hk.map B ++ (mk.map B)) 29] [] kR <| s_x 0 rfl (y_cutA (m := 16) (sz := 1) rfl kR) <| s_x 1 rfl (y_move rfl) <| s_x 3 rfl (y_cutA (m := 32) (sz := 1) rfl kR) <| tk_celM (H1 := [_, _]) (f := B) (l := N) (T := 5) rfl hN dC <| tx_a 2 rfl kR rfl <| a_appM (H1 := [_, _]) (f := B) (l := N) (m := hidL hk N L) rfl rfl EL42 rfl rfl (fun w hw => own_rdS (hw.mem (mm 1 rfl))) (fun _ => rfl) ⟨lenP, lenP⟩ fun v57 => tk_own1 (mm 2 rfl) fun hfv57 => tk_S (fun _ h => kT [0, 0] 1 rfl h) <| tx_a 4 rfl kR rfl <| a_appM (H1 := [_, _]) (f := B) (l := N ++ (hidL hk N L)) (m := markL mk kind name N (hidL hk N L)) rfl rfl EL42 rfl rfl (fun w hw => cel_rdE (o := 0) (m := 32) (cp := 32) (vs := (markL mk kind name N (hidL hk N L)).map B) (hw.mem (.head _)) (dsW) lQ lenP) (fun _ => rfl) ⟨lenP, lenP⟩ fun v59 => tk_own1 (mm 2 rfl) fun hfv59 => tk_S (fun _ h => kT [0, 0] 1 rfl h) ?_; exact s_x 5 rfl (y_assign rfl) <| s_x 6 rfl (y_assign rfl) <| tx_done kR <| tk_then <| tk_retc <| tk_R (H1 := [_, _]) rfl (show ownB v59 ((N ++ (hidL hk N L)) ++ (markL mk kind name N (hidL hk N L))) 5 = ownB v59 ((sealF hk mk kind name N L).1) 5 from ownM_cast (by rw [sealF_ok oM hok]; exact sealL_def)) <| tk_re 11 (I 0) (I (((sealF hk mk kind name N L).2 : Nat) : Int)) rfl (by rw [sealF_ok oM hok]; rfl) <| tk_ret (v59) (trivial) (.inl rfl) (r2 rfl rfl rfl) (.cons _ (.cons _ (.cons_cons _ (List.nil_sublist _))))
      · refine a_allocL (cs := (List.replicate 32 0).map B) kR rfl fun b18 => tk_S (fun _ h => kD 1 rfl h) <| tx_a 5 rfl kR rfl <| a_callv [] _ rfl kR rfl (fun w' hw' => mark_spec (hk := hk) (mk := mk) (kind := kind) (name := name) (N := N) (h := hidL hk N L) (Ro.cel (H0 := []) (b := b8) (o := 0) (m := 16) (cp := 16) (vs := N.map B) hw' (mm 2 rfl) (dsW) lQ lenP) (Ro.own (H0 := []) hw' (mm 1 rfl)) ⟨lenP, lenP⟩ (hg.call hw') ⟨lenP, lenP, lenP⟩) rfl fun _ _ => tk_S (fun _ h => kD 1 rfl h) <| tx_a 7 rfl kR rfl <| a_storeW (H1 := []) (vs := (markL mk kind name N (hidL hk N L)).map B) 32 rfl rfl kR rfl ⟨lenP, lenP⟩ oneB <| tk_S (fun _ h => kD 1 rfl h) <| tx_done kR <| tk_then <| tk_seq <| tk_drawH [cel b18 ((markL mk kind name N (hidL hk N L)).map B) 27, ownB v48 (hidL hk N L) 5, cel b5 (hk.map B ++ (mk.map B)) 29] [] kR <| s_x 0 rfl (y_cutA (m := 16) (sz := 1) rfl kR) <| s_x 1 rfl (y_move rfl) <| s_x 3 rfl (y_cutA (m := 32) (sz := 1) rfl kR) <| tk_celM (H1 := [_, _]) (f := B) (l := N) (T := 5) rfl hN dC <| tx_a 2 rfl kR rfl <| a_appM (H1 := [_, _]) (f := B) (l := N) (m := hidL hk N L) rfl rfl EL42 rfl rfl (fun w hw => own_rdS (hw.mem (mm 1 rfl))) (fun _ => rfl) ⟨lenP, lenP⟩ fun v57 => tk_own1 (mm 2 rfl) fun hfv57 => tk_S (fun _ h => kT [0, 0] 1 rfl h) <| tx_a 4 rfl kR rfl <| a_appM (H1 := [_, _]) (f := B) (l := N ++ (hidL hk N L)) (m := markL mk kind name N (hidL hk N L)) rfl rfl EL42 rfl rfl (fun w hw => cel_rdE (o := 0) (m := 32) (cp := 32) (vs := (markL mk kind name N (hidL hk N L)).map B) (hw.mem (.head _)) (dsW) lQ lenP) (fun _ => rfl) ⟨lenP, lenP⟩ fun v59 => tk_own1 (mm 2 rfl) fun hfv59 => tk_S (fun _ h => kT [0, 0] 1 rfl h) ?_; exact s_x 5 rfl (y_assign rfl) <| s_x 6 rfl (y_assign rfl) <| tx_done kR <| tk_then <| tk_retc <| tk_R (H1 := [_, _]) rfl (show ownB v59 ((N ++ (hidL hk N L)) ++ (markL mk kind name N (hidL hk N L))) 5 = ownB v59 ((sealF hk mk kind name N L).1) 5 from ownM_cast (by rw [sealF_ok oM hok]; exact sealL_def)) <| tk_re 11 (I 0) (I (((sealF hk mk kind name N L).2 : Nat) : Int)) rfl (by rw [sealF_ok oM hok]; rfl) <| tk_ret (v59) (trivial) (.inl rfl) (r2 rfl rfl rfl) (.cons _ (.cons _ (.cons_cons _ (List.nil_sublist _))))
theorem open_spec {hk mk name b : List UInt8} {kind : UInt8} {bv : Value} {w : World} (h2 : hk.length = 32 ∧ mk.length = 32) (hb : Ro (Fs []) w (rdB bv b)) (h3 : name.length < 4294967296 ∧ b.length < 4611686018427387904) (hg : Ro (Fs []) w glob) :
    Spec Tryz.prog 122 [.agg (hk.map B ++ (mk.map B)).toArray, B kind, Str name, bv] w [] (fun _ : Value => True) (fun vo => .tuple #[vo, I (((openF hk mk kind name b).2 : Nat) : Int)]) (fun vo => [ownB vo (openF hk mk kind name b).1 5]) := by
  refine spec_of (n := 64) Tryz.func122 rfl rfl trivial trivial rfl ?_
  obtain ⟨hk32, mk32⟩ := h2
  refine s_r <| tk_act rfl <| a_boxL (cs := hk.map B ++ (mk.map B)) rfl rfl fun b4 => q_a rfl rfl <| q_a rfl rfl <| s_n <| tk_seq <| tk_block <| s_r <| q_m rfl rfl <| s_q rfl (y_lenStr (l := name) rfl rfl) <| s_q rfl (y_gtr rfl rfl) <| q_a rfl rfl <| s_n <| tk_condP rfl (fun ht16 => ?_) (fun ht16 => ?_)
  · exact s_r <| q_a rfl rfl <| q_a rfl rfl <| s_n <| tk_retc <| tk_in_ret <| tk_then_ret <| tk_ownM0 (f := B) 5 <| tk_R (H1 := []) rfl (show ownB (.slice none 0 0) [] 5 = ownB (.slice none 0 0) ((openF hk mk kind name b).1) 5 from ownM_cast (by rw [openF_name oM])) <| tk_re 9 (I 5) (I (((openF hk mk kind name b).2 : Nat) : Int)) rfl (by rw [openF_name oM]; rfl) <| tk_ret (.slice none 0 0) (trivial) (.inl rfl) (r2 rfl rfl rfl) (.cons_cons _ (List.nil_sublist _))
  · refine s_r <| q_m rfl rfl <| s_q rfl (y_lenRN (n' := b.length) rfl hb.1 rfl (by first | rfl | (rw [List.length_map]; omega) | simp)) <| tk_qs rfl rfl rfl (y_lss rfl rfl) (fun hs3_2 => ?_) (fun hs3_2 => ?_)
    · exact q_m rfl rfl <| tk_gno rfl rfl rfl <| tk_gno rfl rfl rfl <| tk_gno rfl rfl rfl <| tk_gno rfl rfl rfl <| s_q rfl (y_pick1 rfl rfl) <| q_a rfl rfl <| s_n <| tk_cond1 rfl <| s_r <| q_a rfl rfl <| q_a rfl rfl <| s_n <| tk_retc <| tk_in_ret <| tk_then_ret <| tk_ownM0 (f := B) 5 <| tk_R (H1 := []) rfl (show ownB (.slice none 0 0) [] 5 = ownB (.slice none 0 0) ((openF hk mk kind name b).1) 5 from ownM_cast (by rw [openF_len oM oM])) <| tk_re 9 (I 10) (I (((openF hk mk kind name b).2 : Nat) : Int)) rfl (by rw [openF_len oM oM]; rfl) <| tk_ret (.slice none 0 0) (trivial) (.inl rfl) (r2 rfl rfl rfl) (.cons_cons _ (List.nil_sublist _))
    · refine q_m rfl rfl <| s_g rfl (y_move rfl) <| s_g rfl (y_lenRN (n' := b.length) rfl hb.1 rfl (by first | rfl | (rw [List.length_map]; omega) | simp)) <| s_g rfl (y_subN (a := b.length) (b := 48) rfl rfl oM) <| s_g rfl (y_gtr rfl rfl) <| s_q rfl (y_pick0 rfl rfl) <| q_a rfl rfl <| s_n <| tk_condP rfl (fun ht20 => ?_) (fun ht20 => ?_)
      · exact s_r <| q_a rfl rfl <| q_a rfl rfl <| s_n <| tk_retc <| tk_in_ret <| tk_then_ret <| tk_ownM0 (f := B) 5 <| tk_R (H1 := []) rfl (show ownB (.slice none 0 0) [] 5 = ownB (.slice none 0 0) ((openF hk mk kind name b).1) 5 from ownM_cast (by rw [openF_len oM oM])) <| tk_re 9 (I 10) (I (((openF hk mk kind name b).2 : Nat) : Int)) rfl (by rw [openF_len oM oM]; rfl) <| tk_ret (.slice none 0 0) (trivial) (.inl rfl) (r2 rfl rfl rfl) (.cons_cons _ (List.nil_sublist _))
      · refine tk_skip <| tk_in_normal <| tk_then <| s_r <| q_m rfl rfl <| s_q rfl (y_lenRN (n' := b.length) rfl hb.1 rfl (by first | rfl | (rw [List.length_map]; omega) | simp)) <| s_q rfl (y_subN (a := b.length) (b := 32) rfl rfl oM) <| q_a rfl rfl <| s_n <| tk_seq <| tk_drawH [cel b4 (hk.map B ++ (mk.map B)) 29] [] kR <| s_x 0 rfl (y_move rfl) <| s_x 1 rfl (y_cutRBh (l := b) 16 rfl rfl hb.1 kR lenP rfl) <| s_x 2 rfl (y_move rfl) <| s_x 3 rfl (y_move rfl) <| s_x 4 rfl (y_cutRBlh (l := b) 16 (b.length - 32) rfl rfl rfl hb.1 kR ⟨lenP, lenP⟩ rfl rfl) <| s_x 5 rfl (y_assign rfl) <| s_x 6 rfl (y_assign rfl) <| tx_done kR <| tk_then <| tk_seq <| s_r <| s_q rfl (y_loadA 64 rfl kR lenP (hcw (.head _))) <| q_m rfl rfl ?_; refine q_m rfl rfl <| q_m rfl rfl <| q_m rfl rfl <| tk_act rfl <| a_callv [] _ rfl kR rfl (fun w' hw' => mark_spec (hk := hk) (mk := mk) (kind := kind) (name := name) (N := b.take 16) (h := (b.drop 16).take ((b.length - 32) - 16)) (Ro.cutBh (Ro.call (H0 := []) hb hw') (hi := 16) lenP) (Ro.cutB (Ro.call (H0 := []) hb hw') (lo := 16) (hi := b.length - 32) ⟨lenP, lenP⟩) ⟨lenP, lenP⟩ (hg.call hw') ⟨lenP, lenP, lenP⟩) rfl fun _ _ => tk_act rfl <| a_allocL (cs := (List.replicate 32 0).map B) kR rfl fun b13 => tk_act rfl <| a_storeW (H1 := []) (vs := (markL mk kind name (b.take 16) ((b.drop 16).take ((b.length - 32) - 16))).map B) 32 rfl rfl kR rfl ⟨lenP, lenP⟩ oneB <| s_n <| tk_seq <| tk_drawH [cel b13 ((markL mk kind name (b.take 16) ((b.drop 16).take ((b.length - 32) - 16))).map B) 27, cel b4 (hk.map B ++ (mk.map B)) 29] [] kR <| s_x 0 rfl (y_cutA (m := 32) (sz := 1) rfl kR) <| s_x 1 rfl (y_move rfl) <| s_x 2 rfl (y_move rfl) <| s_x 3 rfl (y_cutRBl (l := b) (b.length - 32) rfl rfl hb.1 kR lenP rfl) <| tx_a 4 rfl kR rfl <| a_slitN (vs := [cutR bv (b.length - 32) b.length]) rfl (List.forall_mem_cons.2 ⟨(RdS.one (RdS.cutBl hb.1 (lo := b.length - 32) lenP)), (fun _ h => nomatch h)⟩) (EL206) rfl rfl dC fun b48 => tk_S (fun _ h => kD 1 rfl h) <| tx_more [cel b48 ([cutR bv (b.length - 32) b.length]) 42, cel b13 ((markL mk kind name (b.take 16) ((b.drop 16).take ((b.length - 32) - 16))).map B) 27, cel b4 (hk.map B ++ (mk.map B)) 29] (fun _ h => kD 1 rfl h) (fun _ h => h) <| tx_a 5 rfl kR rfl <| a_callv [] _ rfl kR rfl (fun w' hw' => same1_spec (l := markL mk kind name (b.take 16) ((b.drop 16).take ((b.length - 32) - 16))) (m := b.drop (b.length - 32)) (u2 := cutR bv (b.length - 32) b.length) (Ro.cel (H0 := []) (b := b13) (o := 0) (m := 32) (cp := 32) (vs := (markL mk kind name (b.take 16) ((b.drop 16).take ((b.length - 32) - 16))).map B) hw' (mm 1 rfl) (dsW) lQ lenP) (Ro.cel (vs := [cutR bv (b.length - 32) b.length]) hw' (.head _) rS rfl dC) (List.forall_mem_cons.2 ⟨(Ro.cutBl (Ro.call (H0 := []) hb hw') (lo := b.length - 32) lenP), (fun _ h => nomatch h)⟩) ⟨lenP, lenP⟩) rfl fun _ _ => tk_S (fun _ h => h) <| tk_re 49 (.bool (decide (b.drop (b.length - 32) = markL mk kind name (b.take 16) ((b.drop 16).take ((b.length - 32) - 16))))) (.bool (decide (markL mk kind name (b.take 16) ((b.drop 16).take (b.length - 32 - 16)) = b.drop (b.length - 32)))) rfl (congrArg Value.bool (decide_eq_decide.2 eq_comm)) ?_; refine s_x 6 rfl (y_not rfl) <| tx_done kR <| tk_then <| tk_cond rfl (fun ht50 => ?_) (fun ht50 => ?_)
        · have hno : ¬ markL mk kind name (b.take 16) ((b.drop 16).take (b.length - 32 - 16)) = b.drop (b.length - 32) := by simpa using ht50
          exact s_r <| q_a rfl rfl <| q_a rfl rfl <| s_n <| tk_retc <| tk_then_ret <| tk_ownM0 (f := B) 5 <| tk_R (H1 := []) rfl (show ownB (.slice none 0 0) [] 5 = ownB (.slice none 0 0) ((openF hk mk kind name b).1) 5 from ownM_cast (by rw [openF_no oM oM hno])) <| tk_re 9 (I 10) (I (((openF hk mk kind name b).2 : Nat) : Int)) rfl (by rw [openF_no oM oM hno]; rfl) <| tk_ret (.slice none 0 0) (trivial) (.inl rfl) (r2 rfl rfl rfl) (.cons_cons _ (List.nil_sublist _))
        · have hyes : markL mk kind name (b.take 16) ((b.drop 16).take (b.length - 32 - 16)) = b.drop (b.length - 32) := by simpa using ht50
          refine tk_skip <| tk_then <| s_r <| s_q rfl (y_loadA 64 rfl kR lenP (hcw (mm 2 rfl))) <| q_m rfl rfl <| tk_act rfl <| a_callv [] _ rfl kR rfl (fun w' hw' => flow_spec (hk := hk) (mk := mk) (N := b.take 16) (Ro.cutBh (Ro.call (H0 := []) hb hw') (hi := 16) lenP) lenP lenP) rfl fun ⟨f54, k54⟩ _ => q_m rfl rfl <| s_q rfl (y_extract rfl rfl) <| s_q rfl (y_extract rfl rfl) <| q_a rfl rfl <| q_a rfl rfl <| s_n <| tk_seq <| s_r <| q_m rfl rfl <| s_q rfl ((y_neq rfl rfl).cast (bool_f dC)) <| s_n <| tk_cond0 rfl <| tk_skip <| tk_then <| s_r <| q_m rfl rfl <| q_m rfl rfl ?_; exact tk_act rfl <| a_slitN (vs := [cutR bv 16 (b.length - 32)]) rfl (List.forall_mem_cons.2 ⟨(RdS.one (RdS.cutB hb.1 (lo := 16) (hi := b.length - 32) ⟨lenP, lenP⟩)), (fun _ h => nomatch h)⟩) (EL206) rfl rfl dC fun b62 => tk_act rfl <| tk_ps [2, 2] rfl <| a_callv [] _ rfl kR rfl (fun w' hw' => hide_ro (hk := hk) (N := (b.take 16)) (ps := [(cutR bv 16 (b.length - 32), (b.drop 16).take ((b.length - 32) - 16))]) (L := (b.drop 16).take ((b.length - 32) - 16)) lenP lenP (Ro.cel (vs := [cutR bv 16 (b.length - 32)]) hw' (.head _) rS rfl dC) (List.forall_mem_cons.2 ⟨(Ro.cutB (Ro.call hb hw') (lo := 16) (hi := b.length - 32) ⟨lenP, lenP⟩), (fun _ h => nomatch h)⟩) sI lenP lenP (St.pre hw')) rfl fun v63 _ => q_a rfl rfl <| q_a rfl rfl <| s_n <| tk_retc <| tk_R (H1 := []) rfl (show ownB v63 (hidL hk (b.take 16) ((b.drop 16).take ((b.length - 32) - 16))) 5 = ownB v63 ((openF hk mk kind name b).1) 5 from ownM_cast (by rw [openF_ok oM oM hyes])) <| tk_re 9 (I 0) (I (((openF hk mk kind name b).2 : Nat) : Int)) rfl (by rw [openF_ok oM oM hyes]; rfl) <| tk_ret (v63) (trivial) (.inl rfl) (r2 rfl rfl rfl) (.cons_cons _ (List.nil_sublist _))
end Go.Proofs.YtkkjfojgjmglpaaGreatDoor
set_option linter.unusedSimpArgs false
set_option linter.unusedVariables false
namespace Go.Proofs.YtkkjfojgjmglpaaGreatDoor
open Go Go.RowKit
set_option maxRecDepth 100000
attribute [local irreducible] sumL keyedL strL sealF tapeL tapeN
theorem write_spec {hk mk nk name L : List UInt8} {kind : UInt8} {v : Value} {ps : List Sb} {tb c p : Nat} {vb vl : Value} {b : List UInt8} {w : World} (h3 : hk.length = 32 ∧ mk.length = 32 ∧ nk.length = 32) (hI0 : p ≤ 32 * c ∧ 32 * c < p + 32) (hp0 : p < 1000000000000) (hlb : b.length < 1099511627776)
    (hv : Ro (Fs [cel tb [vb, .int .u64 (c : Int), vl] 201, ownB vb b 5, ownB vl ((tapeL b c).drop p) 5]) w (rd v (ps.map Prod.fst))) (hp : ∀ q ∈ ps, Ro (Fs [cel tb [vb, .int .u64 (c : Int), vl] 201, ownB vb b 5, ownB vl ((tapeL b c).drop p) 5]) w (rdB q.1 q.2)) (hL : ps.flatMap Prod.snd = L)
    (hb : name.length < 4294967296 ∧ L.length < 4294967296 ∧ ps.length < 4294967296) (hg : Ro (Fs [cel tb [vb, .int .u64 (c : Int), vl] 201, ownB vb b 5, ownB vl ((tapeL b c).drop p) 5]) w glob) (hh : Pre w [cel tb [vb, .int .u64 (c : Int), vl] 201, ownB vb b 5, ownB vl ((tapeL b c).drop p) 5]) :
    Spec Tryz.prog 57 [.agg (hk.map B ++ (mk.map B ++ (nk.map B ++ [PT tb]))).toArray, B kind, Str name, v] w [cel tb [vb, .int .u64 (c : Int), vl] 201, ownB vb b 5, ownB vl ((tapeL b c).drop p) 5] (fun x : Nat × Value × Value => p + 16 ≤ 32 * x.1 ∧ 32 * x.1 < p + 16 + 32) (fun x => .tuple #[x.2.2, I (((sealF hk mk kind name (tapeN b p 16) L).2 : Nat) : Int)])
      (fun x => [ownB x.2.2 (sealF hk mk kind name (tapeN b p 16) L).1 5, cel tb [vb, .int .u64 (x.1 : Int), x.2.1] 201, ownB vb b 5, ownB x.2.1 ((tapeL b x.1).drop (p + 16)) 5]) := by
  refine spec_of (n := 22) Tryz.func57 rfl rfl hh.1 hh.2 rfl ?_
  subst hL
  obtain ⟨hk32, mk32, nk32⟩ := h3
  refine tk_own1 (mm 1 rfl) fun hfb => tk_own1 (mm 2 rfl) fun hfl => s_r <| tk_act rfl <| a_boxL (cs := hk.map B ++ (mk.map B ++ (nk.map B ++ ([PT tb])))) rfl rfl fun b4 => q_a rfl rfl <| q_a rfl rfl <| s_n <| tk_seq <| tk_drawH [cel b4 (hk.map B ++ (mk.map B ++ (nk.map B ++ ([PT tb])))) 34] [] kR <| s_x 0 rfl (y_fld0 (o := 0) rfl kR) <| s_x 1 rfl (y_fld0 (o := 0) rfl kR) <| s_l 2 rfl (fun _ h => kS [0] rfl h) (y_loadA (vs := hk.map B ++ (mk.map B)) 64 rfl kR lenP (hseg (pre := ([] : List Value)) (post := nk.map B ++ ([PT tb])) (.head _) lenP sI)) <| s_x 3 rfl (y_move rfl) <| s_x 4 rfl (y_move rfl) <| s_x 5 rfl (y_fldN (o := 0) 96 rfl kR) <| s_l 6 rfl (fun _ h => kS [0] rfl h) (y_load rfl rfl (hc (o := 96) (.head _) (gA (k := 32) (i := 64) (by rw [List.length_map]; exact hk32) oM (gA (k := 32) (i := 32) (by rw [List.length_map]; exact mk32) oM (gA (k := 32) (i := 0) (by rw [List.length_map]; exact nk32) oM (rfl)))))) <| s_x 8 rfl (y_move rfl) <| tx_a 7 rfl kR rfl <| tk_ps [3, 3, 3] rfl <| a_callv [] _ rfl kR rfl (fun w' hw' => nonce_spec (tb := tb) (c := c) (p := p) (vb := vb) (vl := vl) (b := b) ⟨lenP, lenP⟩ lenP lenP (hg.call hw') (St.pre hw')) rfl fun ⟨c17, vl17⟩ hx17 => tk_S (fun _ h => kD 3 rfl h) <| tx_a 9 rfl kR rfl <| a_callv [] _ rfl kR rfl (fun w' hw' => seal_spec (hk := hk) (mk := mk) (kind := kind) (name := name) (N := tapeN b p 16) (ps := ps) (L := ps.flatMap Prod.snd) ⟨lenP, lenP, lenP⟩ (Ro.call hv hw') (fun p hp0 => (hp p hp0).call hw') sI ⟨lenP, lenP, lenP⟩ (hg.call hw')) rfl fun v19 _ => ?_; exact tk_S (fun _ h => kD 4 rfl h) <| s_x 10 rfl (y_extract rfl rfl) <| s_x 11 rfl (y_extract rfl rfl) <| s_x 12 rfl (y_assign rfl) <| s_x 13 rfl (y_assign rfl) <| tx_done kR <| tk_then <| tk_retc <| tk_ret ((c17, vl17, v19)) (hx17) (.inl rfl) (r2 rfl rfl rfl) (.cons_cons _ (.cons_cons _ (.cons_cons _ (.cons_cons _ (List.nil_sublist _)))))
end Go.Proofs.YtkkjfojgjmglpaaGreatDoor
set_option linter.unusedSimpArgs false
set_option linter.unusedVariables false
namespace Go.Proofs.YtkkjfojgjmglpaaGreatDoor
open Go Go.RowKit
set_option maxRecDepth 100000
attribute [local irreducible] sumL tapeL bej be8 tapeN
end Go.Proofs.YtkkjfojgjmglpaaGreatDoor
set_option linter.unusedSimpArgs false
set_option linter.unusedVariables false
namespace Go.Proofs.YtkkjfojgjmglpaaGreatDoor
open Go Go.RowKit
set_option maxRecDepth 100000
attribute [local irreducible] sumL keyedL hexL
end Go.Proofs.YtkkjfojgjmglpaaGreatDoor
set_option linter.unusedSimpArgs false
set_option linter.unusedVariables false
namespace Go.Proofs.YtkkjfojgjmglpaaGreatDoor
open Go Go.RowKit
set_option maxRecDepth 100000

def numsL (ns : List Nat) : List UInt8 := ns.flatMap numL
theorem flat_succ {ps : List Sb} {i : Nat} (h : i < ps.length) : (ps.take (i + 1)).flatMap Prod.snd = (ps.take i).flatMap Prod.snd ++ (ps.getD i dP).2 := by
  have e : ps.getD i dP = ps[i] := by rw [List.getD_eq_getElem?_getD, List.getElem?_eq_getElem h]; rfl
  rw [e, List.take_add_one, List.getElem?_eq_getElem h]
  simp only [List.flatMap_append, Option.toList, List.flatMap_cons, List.flatMap_nil, List.append_nil]
theorem flat_pre {ps : List Sb} (i : Nat) : ((ps.take i).flatMap Prod.snd).length ≤ (ps.flatMap Prod.snd).length := by
  have := congrArg (fun l => (l.flatMap Prod.snd).length) (List.take_append_drop i ps)
  simp only [List.flatMap_append, List.length_append] at this; omega
theorem numsL_succ {ns : List Nat} {i : Nat} (h : i < ns.length) : numsL (ns.take i) ++ numL (ns.getD i 0) = numsL (ns.take (i + 1)) := by
  have e : ns.getD i 0 = ns[i] := by rw [List.getD_eq_getElem?_getD, List.getElem?_eq_getElem h]; rfl
  rw [e, List.take_add_one, List.getElem?_eq_getElem h]
  simp only [numsL, List.flatMap_append, Option.toList, List.flatMap_cons, List.flatMap_nil, List.append_nil]
theorem numsL_len {ns : List Nat} (h : ∀ n ∈ ns, n < 4611686018427387904) (i : Nat) : (numsL (ns.take i)).length ≤ 9 * ns.length := by
  have h2 : ∀ (l : List Nat), (∀ n ∈ l, n < 4611686018427387904) → (numsL l).length ≤ 9 * l.length := fun l => by
    induction l with
    | nil => intro _; simp [numsL]
    | cons n l ih =>
      intro hl
      have h3 := ih (fun m hm => hl m (List.mem_cons_of_mem _ hm))
      have h4 := numL_len 8 (n := n) (by have := hl n (List.mem_cons_self ..); omega)
      simp only [numsL, List.flatMap_cons, List.length_append, List.length_cons] at h3 ⊢; omega
  have h5 := h2 (ns.take i) (fun n hn => h n (List.mem_of_mem_take hn))
  have : (ns.take i).length ≤ ns.length := by simp; omega
  omega
attribute [local irreducible] sumL keyedL hexL
theorem grow0_spec {n : Nat} {w : World} (hn : n < 140737488355328) : Spec Tryz.prog 204 [.slice none 0 0, I (n : Int)] w [] (fun _ : Value => True) (fun v => v) (fun v => [ownB v ([] : List UInt8) 5]) := by
  refine spec_of (n := 27) Tryz.func204 rfl rfl trivial trivial rfl <| s_r <| q_a rfl rfl <| s_n <| tk_seq <| s_r <| q_m rfl rfl <| tk_qe (.bool false) rfl rfl rfl (y_lss rfl rfl) (bool_f oM) <| s_n <| tk_cond0 rfl <| tk_skip <| tk_then <| tk_seq <| s_r <| q_m rfl rfl <| q_m rfl rfl <| s_q rfl (y_capNil rfl rfl) <| q_m rfl rfl <| s_q rfl (y_lenRN (n' := 0) rfl (RdS.nil (w := default)) rfl (by first | rfl | (rw [List.length_map]; omega) | simp)) <| s_q rfl (y_subN (a := 0) (b := 0) rfl rfl oM) <| tk_qe (IN n) rfl rfl rfl (y_subN (a := n) (b := 0) rfl rfl oM) sI <| q_a rfl rfl <| s_n <| s_r ?_; refine q_m rfl rfl <| s_q rfl (y_gtr rfl rfl) <| s_n <| tk_condP rfl (fun ht16 => ?_) (fun ht16 => ?_)
  · exact tk_region <| q_m rfl rfl <| q_m rfl rfl <| s_q rfl (y_capNil rfl rfl) <| tk_qe (.slice none 0 0) rfl rfl rfl (y_cutRBh (l := []) 0 rfl rfl (RdS.nil (w := default)) kR lenP rfl) (rfl) <| q_m rfl rfl <| tk_act rfl <| a_appZ (n := n) rfl rfl MK42 rfl lenP lenP rfl fun v22 => tk_own1 (.head _) fun hfv22 => q_m rfl rfl <| s_q rfl (y_lenRN (n' := 0) rfl (RdS.nil (w := default)) rfl (by first | rfl | (rw [List.length_map]; omega) | simp)) <| s_q rfl (y_cutRBh (l := List.replicate n 0) 0 rfl rfl hfv22.choose_spec kR lenP rfl) <| tk_ownTake (H1 := []) 0 rfl (Nat.zero_le _) <| q_a rfl rfl <| s_n <| s_r <| q_m rfl rfl <| q_a rfl rfl <| s_n <| tk_retc <| tk_ret (cutR v22 0 0) (trivial) (.inl rfl) (r1 rfl rfl) (List.Sublist.refl _)
  · exact tk_ownM0 (f := B) 5 <| tk_skip <| tk_then <| s_r <| q_m rfl rfl <| q_a rfl rfl <| s_n <| tk_retc <| tk_ret (.slice none 0 0) (trivial) (.inl rfl) (r1 rfl rfl) (List.Sublist.refl _)
theorem concat_spec {v : Value} {ps : List Sb} {L : List UInt8} {w : World} (hv : Ro (Fs []) w (rd v (ps.map Prod.fst))) (hp : ∀ p ∈ ps, Ro (Fs []) w (rdB p.1 p.2)) (hL : ps.flatMap Prod.snd = L) (hb : L.length < 1099511627776 ∧ ps.length < 1099511627776) :
    Spec Tryz.prog 170 [v] w [] (fun _ : Value => True) (fun v => v) (fun v => [ownB v L 5]) := by
  refine spec_of (n := 36) Tryz.func170 rfl rfl trivial trivial rfl ?_
  subst hL
  refine s_r <| q_a rfl rfl <| s_n <| s_r <| q_a rfl rfl <| s_n <| tk_seq <| s_r <| q_m rfl rfl <| s_q rfl (y_lenRN (n' := ps.length) rfl hv.1 rfl (by first | rfl | (rw [List.length_map]; omega) | simp)) <| q_m rfl rfl <| s_n <| tk_block <| tk_loop (X := Nat) (fun i => i ≤ ps.length) (fun i => [(0, v), (2, .slice none 0 0), (3, I ((((ps.take i).flatMap Prod.snd).length : Nat) : Int)), (9, v), (10, IN ps.length), (11, IN i)]) (fun i => []) (fun i => ps.length - i) (0) (Nat.zero_le _) sB ((List.Sublist.refl _)) ?_
  rintro i hI
  try dsimp only at hI ⊢
  have hfl := flat_pre (ps := ps) i
  refine s_r <| s_q rfl (y_lss rfl rfl) <| s_n <| tk_seq <| tk_condP rfl (fun ht12 => ?_) (fun ht12 => ?_)
  · refine tk_skip <| tk_then <| tk_seq <| tk_block <| s_r <| s_q rfl (y_ixR (j := i) rfl rfl hv.1 lenP kR) <| s_q rfl (y_load rfl rfl (fun w hw => ((fun w hw => Ro.rd hv hw) w hw).cell (gM (f := Prod.fst) (d := dP) lenP))) <| q_a rfl rfl <| s_n <| s_r <| q_m rfl rfl <| q_m rfl rfl <| s_q rfl (y_lenRN (n' := ((ps.getD i dP).2).length) rfl (hp _ (getD_mem lenP)).1 rfl (by first | rfl | (rw [List.length_map]; omega) | simp)) ?_
    have hfl3 : ((ps.take i).flatMap Prod.snd).length + (ps.getD i dP).2.length = ((ps.take (i + 1)).flatMap Prod.snd).length := by rw [flat_succ oM, List.length_append]
    have hfl2 := flat_pre (ps := ps) (i + 1)
    exact s_q rfl (y_addN (a := ((ps.take i).flatMap Prod.snd).length) (b := ((ps.getD i dP).2).length) rfl rfl oM) <| q_a rfl rfl <| s_n <| s_r <| q_m rfl rfl <| tk_qe (.bool false) rfl rfl rfl (y_lss rfl rfl) (bool_f oM) <| s_n <| tk_cond0 rfl <| tk_skip <| tk_in_normal <| tk_then <| tk_region <| s_q rfl (y_addN (a := i) (b := 1) rfl rfl oM) <| q_m rfl rfl <| tk_nil <| tk_re 3 (I (((((ps.take i).flatMap Prod.snd).length) + (((ps.getD i dP).2).length) : Nat) : Int)) (I ((((ps.take (i + 1)).flatMap Prod.snd).length : Nat) : Int)) rfl (congrArg I (by rw [flat_succ oM]; simp)) <| tk_again (i + 1) (by first | exact trivial | omega | (dsimp only; omega)) (by first | omega | (dsimp only; omega)) sB (List.Sublist.refl _)
  · refine tk_exit <| tk_then_exit <| tk_then_exit <| tk_in_hit <| tk_then <| s_r <| q_m rfl rfl <| tk_act rfl <| a_callv [] _ rfl kR rfl (fun w' hw' => grow0_spec (n := ((ps.take i).flatMap Prod.snd).length) lenP) rfl fun v24 _ => q_a rfl rfl <| s_n <| tk_seq <| s_r <| q_m rfl rfl <| s_q rfl (y_lenRN (n' := ps.length) rfl hv.1 rfl (by first | rfl | (rw [List.length_map]; omega) | simp)) <| q_m rfl rfl <| s_n <| tk_block <| tk_R (H1 := []) rfl (show ownB v24 ([] : List UInt8) 5 = ownB v24 ((ps.take 0).flatMap Prod.snd) 5 from ownM_cast rfl) <| tk_loop (X := Nat × Value) (fun (i, vg) => i ≤ ps.length) (fun (i, vg) => [(2, .slice none 0 0), (6, vg), (25, v), (26, IN ps.length), (27, IN i)]) (fun (i, vg) => [ownB vg ((ps.take i).flatMap Prod.snd) 5]) (fun (i, vg) => ps.length - i) ((0, v24)) (Nat.zero_le _) sB ((List.Sublist.refl _)) ?_
    rintro ⟨i, vg⟩ hI
    try dsimp only at hI ⊢
    have hfl := flat_pre (ps := ps) i
    have hfl2 := flat_pre (ps := ps) (i + 1)
    refine tk_own1 (.head _) fun hfg => s_r <| s_q rfl (y_lss rfl rfl) <| s_n <| tk_seq <| tk_condP rfl (fun ht28 => ?_) (fun ht28 => ?_)
    · refine tk_skip <| tk_then <| tk_seq <| tk_block <| s_r <| s_q rfl (y_ixR (j := i) rfl rfl hv.1 lenP kR) <| s_q rfl (y_load rfl rfl (fun w hw => ((fun w hw => Ro.rd hv hw) w hw).cell (gM (f := Prod.fst) (d := dP) lenP))) <| q_a rfl rfl <| s_n <| tk_region <| q_m rfl rfl <| q_m rfl rfl ?_
      have hfl3 : ((ps.take i).flatMap Prod.snd).length + (ps.getD i dP).2.length = ((ps.take (i + 1)).flatMap Prod.snd).length := by rw [flat_succ oM, List.length_append]
      exact tk_act rfl <| a_appM (H1 := []) (f := B) (l := (ps.take i).flatMap Prod.snd) (m := (ps.getD i dP).2) rfl rfl EL42 rfl rfl (fun w hw => Ro.rd (hp _ (getD_mem lenP)) hw) (fun _ => rfl) ⟨lenP, lenP⟩ fun v33 => tk_own1 (.head _) fun hfv33 => q_a rfl rfl <| tk_nil <| tk_in_normal <| tk_then <| tk_region <| s_q rfl (y_addN (a := i) (b := 1) rfl rfl oM) <| q_m rfl rfl <| tk_nil <| tk_R (H1 := []) rfl (show ownB v33 (((ps.take i).flatMap Prod.snd) ++ ((ps.getD i dP).2)) 5 = ownB v33 ((ps.take (i + 1)).flatMap Prod.snd) 5 from ownM_cast (flat_succ oM).symm) <| tk_again ((i + 1, v33)) (by first | exact trivial | omega | (dsimp only; omega)) (by first | omega | (dsimp only; omega)) sB (List.Sublist.refl _)
    · exact tk_exit <| tk_then_exit <| tk_then_exit <| tk_in_hit <| tk_then <| s_r <| q_m rfl rfl <| tk_R (H1 := []) rfl (show ownB vg ((ps.take i).flatMap Prod.snd) 5 = ownB vg (ps.flatMap Prod.snd) 5 from ownM_cast (by rw [show i = ps.length by omega, List.take_length])) <| q_a rfl rfl <| s_n <| tk_retc <| tk_ret (vg) (trivial) (.inl rfl) (r1 rfl rfl) (List.Sublist.refl _)
theorem gbegin_spec {kind : UInt8} {w : World} : Spec Tryz.prog 52 [B kind] w [] (fun _ : Nat × Value => True) (fun x => PT x.1) (fun x => [cel x.1 [x.2, I 0] 204, ownB x.2 [72, 89, kind] 5]) := by
  refine spec_of (n := 10) Tryz.func52 rfl rfl trivial trivial rfl <| s_r <| q_a rfl rfl <| s_n <| s_r <| tk_act rfl <| a_slitN (vs := [B 72, B 89]) rfl (List.forall_mem_cons.2 ⟨rfl, (List.forall_mem_cons.2 ⟨rfl, (fun _ h => nomatch h)⟩)⟩) (EL42) rfl rfl dC fun b3 => tk_act rfl <| a_convX (H1 := []) rfl Tryz.underlying42 Tryz.underlying5 rfl rfl <| q_m rfl rfl <| tk_act rfl <| a_slitN (vs := [B kind]) rfl (List.forall_mem_cons.2 ⟨rfl, (fun _ h => nomatch h)⟩) (EL42) rfl rfl dC fun b6 => tk_celM (H1 := [_]) (f := B) (l := [72, 89]) (T := 5) rfl rfl dC <| tk_act rfl <| a_appM (H1 := [_]) (f := B) (l := [72, 89]) (m := [kind]) rfl rfl EL42 rfl rfl (fun w hw => cel_rdE (o := 0) (m := 1) (cp := 1) (vs := [kind].map B) (hw.mem (.head _)) (rfl) lQ lenP) (fun _ => rfl) ⟨lenP, lenP⟩ fun v7 => tk_own1 (mm 1 rfl) fun hfv7 => tk_own1 (mm 1 rfl) fun hf7 => tk_R (H1 := [_]) rfl (show ownB v7 ([72, 89] ++ [kind]) 5 = ownB v7 [72, 89, kind] 5 from ownM_cast rfl) ?_
  have hc7 := hf7.choose_spec.cells
  simp only [Value.cells] at hc7
  exact s_q rfl (y_build (v := .agg ([v7, I 0]).toArray) (vs := [(0, v7)]) rfl (run_build (zs := [Value.slice none 0 0, I 0]) (pl := [(0, 1), (1, 1)]) Tryz.underlying204 (fun _ => kR) (fun _ => kR) (fill_s0 (RdS.cells hfv7.choose_spec)))) <| tk_act rfl <| a_boxL (cs := [v7, I 0]) rfl rfl fun b9 => q_a rfl rfl <| s_n <| tk_retc <| tk_ret ((b9, v7)) (trivial) (.inl rfl) (r1 rfl rfl) (.cons_cons _ (.cons _ (List.Sublist.refl _)))
theorem gnum1_spec {ob n : Nat} {v : Value} {b : List UInt8} {w : World} (hn : n < 4611686018427387904) (hb : b.length < 1099511627776) (hh : Pre w [cel ob [v, I 0] 204, ownB v b 5]) :
    Spec Tryz.prog 103 [PT ob, I (n : Int)] w [cel ob [v, I 0] 204, ownB v b 5] (fun _ : Value => True) (fun _ => .tuple #[]) (fun x => [cel ob [x, I 0] 204, ownB x (b ++ numL n) 5]) := by
  refine spec_of (n := 39) Tryz.func103 rfl rfl hh.1 hh.2 rfl ?_
  have hn9 := numL_len 8 (n := n) oM
  refine tk_seq <| s_r <| q_m rfl rfl <| tk_qe (.bool false) rfl rfl rfl (y_lss rfl rfl) (bool_f oM) <| q_m rfl rfl <| s_g rfl (y_move rfl) <| tk_gqe (.bool false) rfl rfl rfl (y_geq rfl rfl) (bool_f oM) <| s_q rfl (y_pick0 rfl rfl) <| s_n <| tk_cond0 rfl <| tk_skip <| tk_then <| tk_seq <| tk_block <| tk_loop (X := List UInt8 × Nat × Value) (fun (a, m, va) => a ++ numL m = b ++ numL n ∧ m < 4611686018427387904) (fun (a, m, va) => [(0, PT ob), (1, IN m)]) (fun (a, m, va) => [cel ob ([va, I 0]) 204, ownB va a 5]) (fun (a, m, va) => m) ((b, n, v)) (⟨rfl, by omega⟩) sB ((List.Sublist.refl _)) ?_
  rintro ⟨a, m, va⟩ hI
  try dsimp only at hI ⊢
  have hla := congrArg List.length hI.1
  rw [List.length_append, List.length_append] at hla
  refine tk_own1 (mm 1 rfl) fun hfa => tk_seq <| s_r <| q_m rfl rfl <| s_q rfl (y_geq rfl rfl) <| s_n <| tk_condP rfl (fun ht13 => ?_) (fun ht13 => ?_)
  · refine tk_skip <| tk_then <| tk_seq <| tk_block <| tk_region <| q_m rfl rfl <| q_m rfl rfl <| s_q rfl (y_nilCheck rfl) <| s_q rfl (y_fld0 (o := 0) rfl kR) <| s_q rfl (y_load rfl rfl (hc (o := 0) (.head _) (rfl))) <| q_m rfl rfl <| s_q rfl (y_convi8 (m := m) rfl rfl rfl) <| s_q rfl (y_or8 (a := UInt8.ofNat m) (b := 128) rfl rfl) <| tk_act rfl <| a_slitN (vs := [B ((UInt8.ofNat m) ||| 128)]) rfl (List.forall_mem_cons.2 ⟨rfl, (fun _ h => nomatch h)⟩) (EL42) rfl rfl dC fun b24 => tk_act rfl <| a_appM (H1 := [_, _]) (f := B) (l := a) (m := [(UInt8.ofNat m) ||| 128]) rfl rfl EL42 rfl rfl (fun w hw => cel_rdE (o := 0) (m := 1) (cp := 1) (vs := [(UInt8.ofNat m) ||| 128].map B) (hw.mem (.head _)) (rfl) lQ lenP) (fun _ => rfl) ⟨lenP, lenP⟩ fun v25 => tk_own1 (mm 2 rfl) fun hfv25 => s_q rfl (y_nilCheck rfl) <| s_q rfl (y_fld0 (o := 0) rfl kR) <| tk_act rfl <| a_storeE (H1 := [_]) (o := 0) (v := v25) (cs' := [v25, I 0]) rfl rfl kR (RdS.one hfv25.choose_spec) rfl sW (rfl) <| tk_nil <| tk_in_normal ?_; exact tk_then <| tk_region <| q_m rfl rfl <| s_q rfl (y_shrN (k := .i64) (k' := .u64) (a := m) (m := 7) rfl rfl dC) <| q_a rfl rfl <| tk_nil <| tk_again ((a ++ [UInt8.ofNat m ||| 128], m / 2 ^ 7, v25)) (⟨by dsimp only; rw [← hI.1]; exact numL_step oM, by dsimp only; omega⟩) (by dsimp only; omega) sB (.cons _ (List.Sublist.refl _))
  · refine tk_exit <| tk_then_exit <| tk_then_exit <| tk_in_hit <| tk_then <| tk_region <| q_m rfl rfl <| q_m rfl rfl <| s_q rfl (y_nilCheck rfl) <| s_q rfl (y_fld0 (o := 0) rfl kR) <| s_q rfl (y_load rfl rfl (hc (o := 0) (.head _) (rfl))) <| q_m rfl rfl <| s_q rfl (y_convi8 (m := m) rfl rfl rfl) <| tk_act rfl <| a_slitN (vs := [B (UInt8.ofNat m)]) rfl (List.forall_mem_cons.2 ⟨rfl, (fun _ h => nomatch h)⟩) (EL42) rfl rfl dC fun b35 => tk_act rfl <| a_appM (H1 := [_, _]) (f := B) (l := a) (m := [UInt8.ofNat m]) rfl rfl EL42 rfl rfl (fun w hw => cel_rdE (o := 0) (m := 1) (cp := 1) (vs := [UInt8.ofNat m].map B) (hw.mem (.head _)) (rfl) lQ lenP) (fun _ => rfl) ⟨lenP, lenP⟩ fun v36 => tk_own1 (mm 2 rfl) fun hfv36 => s_q rfl (y_nilCheck rfl) <| s_q rfl (y_fld0 (o := 0) rfl kR) <| tk_act rfl <| a_storeE (H1 := [_]) (o := 0) (v := v36) (cs' := [v36, I 0]) rfl rfl kR (RdS.one hfv36.choose_spec) rfl sW (rfl) <| tk_nil <| tk_R (H1 := [_, _]) rfl (show ownB v36 (a ++ [UInt8.ofNat m]) 5 = ownB v36 (b ++ numL n) 5 from ownM_cast (by rw [← hI.1, numL_lt (n := m) oM])) ?_; exact tk_ret (v36) (trivial) (.inr rfl) (r0 rfl) (.cons _ (List.Sublist.refl _))
theorem gnum_spec {ob : Nat} {nv v : Value} {b : List UInt8} {ns : List Nat} {w : World} (hn : Ro (Fs [cel ob [v, I 0] 204, ownB v b 5]) w (rd nv (ns.map IN))) (hn62 : ∀ n ∈ ns, n < 4611686018427387904) (hnl : ns.length < 1000000) (hb : b.length < 109951162777) (hh : Pre w [cel ob [v, I 0] 204, ownB v b 5]) :
    Spec Tryz.prog 53 [PT ob, nv] w [cel ob [v, I 0] 204, ownB v b 5] (fun _ : Value => True) (fun _ => PT ob) (fun x => [cel ob [x, I 0] 204, ownB x (b ++ numsL ns) 5]) := by
  refine spec_of (n := 27) Tryz.func53 rfl rfl hh.1 hh.2 rfl <| s_r <| q_a rfl rfl <| s_n <| tk_seq <| s_r <| q_m rfl rfl <| s_q rfl (y_lenRN (n' := ns.length) rfl hn.1 rfl (by first | rfl | (rw [List.length_map]; omega) | simp)) <| q_m rfl rfl <| s_n <| tk_block <| tk_R (H1 := [_]) rfl (show ownB v b 5 = ownB v (b ++ numsL (ns.take 0)) 5 from ownM_cast (by simp [numsL])) <| tk_loop (X := Nat × Value) (fun (i, va) => i ≤ ns.length) (fun (i, va) => [(0, PT ob), (4, .pointer none), (7, nv), (8, IN ns.length), (9, IN i)]) (fun (i, va) => [cel ob ([va, I 0]) 204, ownB va (b ++ numsL (ns.take i)) 5]) (fun (i, va) => ns.length - i) ((0, v)) (Nat.zero_le _) sB ((List.Sublist.refl _)) ?_
  rintro ⟨i, va⟩ hI
  try dsimp only at hI ⊢
  have hll := numsL_len (ns := ns) hn62 i
  refine tk_own1 (mm 1 rfl) fun hfa => s_r <| s_q rfl (y_lss rfl rfl) <| s_n <| tk_seq <| tk_condP rfl (fun ht10 => ?_) (fun ht10 => ?_)
  · refine tk_skip <| tk_then <| tk_seq <| tk_block <| s_r <| s_q rfl (y_ixR (j := i) rfl rfl hn.1 lenP kR) <| s_q rfl (y_load rfl rfl (fun w hw => ((fun w hw => Ro.rd hn hw) w hw).cell (gM (f := IN) (d := 0) lenP))) <| q_a rfl rfl <| s_n <| s_r <| q_m rfl rfl <| s_q rfl (y_pnnil rfl rfl rfl) <| q_m rfl rfl <| s_g rfl (y_move rfl) <| s_g rfl (y_nilCheck rfl) <| s_g rfl (y_fldN (o := 0) 1 rfl kR) <| s_g rfl (y_load rfl rfl (hc (o := 1) (.head _) (rfl))) <| s_g rfl ((y_eql rfl rfl).cast (bool_t dC)) <| s_q rfl (y_pick1 rfl rfl) <| s_n <| tk_cond1 rfl <| tk_region <| q_m rfl rfl <| q_m rfl rfl ?_
    have hni : ns.getD i 0 < 4611686018427387904 := hn62 _ (getD_mem oM)
    exact tk_act rfl <| a_callv [] _ rfl kR rfl (fun w' hw' => gnum1_spec (ob := ob) (v := va) (b := b ++ numsL (ns.take i)) (n := ns.getD i 0) lenP lenP (St.pre hw')) rfl fun v24 _ => tk_nil <| tk_in_normal <| tk_then <| tk_region <| s_q rfl (y_addN (a := i) (b := 1) rfl rfl oM) <| q_m rfl rfl <| tk_nil <| tk_R (H1 := [_]) rfl (show ownB v24 ((b ++ numsL (ns.take i)) ++ numL (ns.getD i 0)) 5 = ownB v24 (b ++ numsL (ns.take (i + 1))) 5 from ownM_cast (by rw [List.append_assoc, numsL_succ oM])) <| tk_again ((i + 1, v24)) (by first | exact trivial | omega | (dsimp only; omega)) (by first | omega | (dsimp only; omega)) sB (List.Sublist.refl _)
  · exact tk_exit <| tk_then_exit <| tk_then_exit <| tk_in_hit <| tk_then <| s_r <| q_m rfl rfl <| q_a rfl rfl <| s_n <| tk_retc <| tk_R (H1 := [_]) rfl (show ownB va (b ++ numsL (ns.take i)) 5 = ownB va (b ++ numsL ns) 5 from ownM_cast (by rw [show i = ns.length by omega, List.take_length])) <| tk_ret (va) (trivial) (.inl rfl) (r1 rfl rfl) (List.Sublist.refl _)
theorem graw_spec {ob : Nat} {pv v : Value} {b L : List UInt8} {ps : List Sb} {w : World} (hv : Ro (Fs [cel ob [v, I 0] 204, ownB v b 5]) w (rd pv (ps.map Prod.fst))) (hp : ∀ p ∈ ps, Ro (Fs [cel ob [v, I 0] 204, ownB v b 5]) w (rdB p.1 p.2)) (hL : ps.flatMap Prod.snd = L)
    (hpl : ps.length < 1099511627776) (hLl : L.length < 1099511627776) (hb : b.length < 1099511627776) (hh : Pre w [cel ob [v, I 0] 204, ownB v b 5]) :
    Spec Tryz.prog 55 [PT ob, pv] w [cel ob [v, I 0] 204, ownB v b 5] (fun _ : Value => True) (fun _ => PT ob) (fun x => [cel ob [x, I 0] 204, ownB x (b ++ L) 5]) := by
  refine spec_of (n := 33) Tryz.func55 rfl rfl hh.1 hh.2 rfl ?_
  subst hL
  refine s_r <| q_a rfl rfl <| s_n <| tk_seq <| s_r <| q_m rfl rfl <| s_q rfl (y_lenRN (n' := ps.length) rfl hv.1 rfl (by first | rfl | (rw [List.length_map]; omega) | simp)) <| q_m rfl rfl <| s_n <| tk_block <| tk_R (H1 := [_]) rfl (show ownB v b 5 = ownB v (b ++ (ps.take 0).flatMap Prod.snd) 5 from ownM_cast sI) <| tk_loop (X := Nat × Value) (fun (i, va) => i ≤ ps.length) (fun (i, va) => [(0, PT ob), (4, .pointer none), (7, pv), (8, IN ps.length), (9, IN i)]) (fun (i, va) => [cel ob ([va, I 0]) 204, ownB va (b ++ (ps.take i).flatMap Prod.snd) 5]) (fun (i, va) => ps.length - i) ((0, v)) (Nat.zero_le _) sB ((List.Sublist.refl _)) ?_
  rintro ⟨i, va⟩ hI
  try dsimp only at hI ⊢
  have hfl := flat_pre (ps := ps) i
  have hfl2 := flat_pre (ps := ps) (i + 1)
  refine tk_own1 (mm 1 rfl) fun hfa => s_r <| s_q rfl (y_lss rfl rfl) <| s_n <| tk_seq <| tk_condP rfl (fun ht10 => ?_) (fun ht10 => ?_)
  · refine tk_skip <| tk_then <| tk_seq <| tk_block <| s_r <| s_q rfl (y_ixR (j := i) rfl rfl hv.1 lenP kR) <| s_q rfl (y_load rfl rfl (fun w hw => ((fun w hw => Ro.rd hv hw) w hw).cell (gM (f := Prod.fst) (d := dP) lenP))) <| q_a rfl rfl <| s_n <| s_r <| q_m rfl rfl <| s_q rfl (y_pnnil rfl rfl rfl) <| q_m rfl rfl <| s_g rfl (y_move rfl) <| s_g rfl (y_nilCheck rfl) <| s_g rfl (y_fldN (o := 0) 1 rfl kR) <| s_g rfl (y_load rfl rfl (hc (o := 1) (.head _) (rfl))) <| s_g rfl ((y_eql rfl rfl).cast (bool_t dC)) <| s_q rfl (y_pick1 rfl rfl) <| s_n <| tk_cond1 rfl <| tk_region <| q_m rfl rfl <| q_m rfl rfl ?_; refine s_q rfl (y_nilCheck rfl) <| s_q rfl (y_fld0 (o := 0) rfl kR) <| s_q rfl (y_load rfl rfl (hc (o := 0) (.head _) (rfl))) <| q_m rfl rfl ?_
    have hfl3 : ((ps.take i).flatMap Prod.snd).length + (ps.getD i dP).2.length = ((ps.take (i + 1)).flatMap Prod.snd).length := by rw [flat_succ oM, List.length_append]
    exact tk_act rfl <| a_appM (H1 := [_]) (f := B) (l := b ++ (ps.take i).flatMap Prod.snd) (m := (ps.getD i dP).2) rfl rfl EL42 rfl rfl (fun w hw => Ro.rd (hp _ (getD_mem lenP)) hw) (fun _ => rfl) ⟨lenP, lenP⟩ fun v28 => tk_own1 (mm 1 rfl) fun hfv28 => s_q rfl (y_nilCheck rfl) <| s_q rfl (y_fld0 (o := 0) rfl kR) <| tk_act rfl <| a_storeE (H1 := []) (o := 0) (v := v28) (cs' := [v28, I 0]) rfl rfl kR (RdS.one hfv28.choose_spec) rfl sW (rfl) <| tk_nil <| tk_in_normal <| tk_then <| tk_region <| s_q rfl (y_addN (a := i) (b := 1) rfl rfl oM) <| q_m rfl rfl <| tk_nil <| tk_R (H1 := [_]) rfl (show ownB v28 ((b ++ (ps.take i).flatMap Prod.snd) ++ ((ps.getD i dP).2)) 5 = ownB v28 (b ++ (ps.take (i + 1)).flatMap Prod.snd) 5 from ownM_cast (by rw [List.append_assoc, flat_succ oM])) <| tk_again ((i + 1, v28)) (by first | exact trivial | omega | (dsimp only; omega)) (by first | omega | (dsimp only; omega)) sB (List.Sublist.refl _)
  · exact tk_exit <| tk_then_exit <| tk_then_exit <| tk_in_hit <| tk_then <| s_r <| q_m rfl rfl <| q_a rfl rfl <| s_n <| tk_retc <| tk_R (H1 := [_]) rfl (show ownB va (b ++ (ps.take i).flatMap Prod.snd) 5 = ownB va (b ++ ps.flatMap Prod.snd) 5 from ownM_cast (by rw [show i = ps.length by omega, List.take_length])) <| tk_ret (va) (trivial) (.inl rfl) (r1 rfl rfl) (List.Sublist.refl _)
theorem gbytes_spec {ob : Nat} {v : Value} {b : List UInt8} {w : World} (hb : b.length < 1099511627776) (hh : Pre w [cel ob [v, I 0] 204, ownB v b 5]) :
    Spec Tryz.prog 56 [PT ob] w [cel ob [v, I 0] 204, ownB v b 5] (fun _ : Value => True) (fun x => .tuple #[x, I 0]) (fun x => [cel ob [v, I 0] 204, ownB v b 5, ownB x b 5]) := by
  refine spec_of (n := 22) Tryz.func56 rfl rfl hh.1 hh.2 rfl <| s_r <| q_a rfl rfl <| q_a rfl rfl <| s_n <| tk_seq <| tk_block <| s_r <| q_m rfl rfl <| s_q rfl (y_pnil rfl rfl rfl) <| q_a rfl rfl <| s_n <| tk_cond0 rfl <| s_r <| q_m rfl rfl <| s_q rfl (y_nilCheck rfl) <| s_q rfl (y_fldN (o := 0) 1 rfl kR) <| s_q rfl (y_load rfl rfl (hc (o := 1) (.head _) (rfl))) <| s_q rfl ((y_neq rfl rfl).cast (bool_f dC)) <| q_a rfl rfl <| s_n <| tk_cond0 rfl <| tk_skip <| tk_in_normal ?_; exact tk_then <| s_r <| q_m rfl rfl <| s_q rfl (y_nilCheck rfl) <| s_q rfl (y_fld0 (o := 0) rfl kR) <| s_q rfl (y_load rfl rfl (hc (o := 0) (.head _) (rfl))) <| tk_act rfl <| a_callv [] _ rfl kR rfl (fun w' hw' => clone_spec (l := b) (Ro.own (H0 := []) hw' (mm 1 rfl)) lenP) rfl fun v21 _ => q_a rfl rfl <| q_a rfl rfl <| s_n <| tk_retc <| tk_ps [2, 2] rfl <| tk_ret (v21) (trivial) (.inl rfl) (r2 rfl rfl rfl) (List.Sublist.refl _)
end Go.Proofs.YtkkjfojgjmglpaaGreatDoor
set_option linter.unusedSimpArgs false
set_option linter.unusedVariables false
namespace Go.Proofs.YtkkjfojgjmglpaaGreatDoor
open Go
/-- what a lock says -/
structure Mk where
  c : Nat
  a : Bool
  t : Nat
def dMk : Mk := ⟨0, false, 0⟩
def mkC (m : Mk) : List Value := [.int .i64 (m.c : Int), .bool m.a, .int .i64 (m.t : Int)]
def mkV (m : Mk) : Value := .agg (mkC m).toArray
def flagB (b : Bool) : UInt8 := if b = true then 1 else 0
def flagL (l : List Bool) : List UInt8 := l.flatMap (fun b => [flagB b])

/-- its bytes ahead of sealing -/
def mkY (m : Mk) : List UInt8 := (([72, 89, 108] ++ numsL [m.c]) ++ flagL [m.a]) ++ numsL [m.t]
/-- the client's two digits, its locks' names, its draft's -/
def cdg (c : Nat) : List UInt8 := if (dec2 c).length < 2 then [48] ++ dec2 c else dec2 c
def lkName (c n : Nat) : List UInt8 := (([108, 47] ++ cdg c) ++ [45]) ++ dec2 n
def dfName (c : Nat) : List UInt8 := [107, 47] ++ cdg c
theorem cdg_len {c : Nat} (h : c < 100) : (cdg c).length = 2 := by
  have : ∀ c, c < 100 → (cdg c).length = 2 := by decide +kernel
  exact this c h
theorem cdg_nm {c : Nat} (h : c < 100) : (cdg c).all signB = true := by
  have : ∀ c, c < 100 → (cdg c).all signB = true := by decide +kernel
  exact this c h
theorem dec2_nm {c : Nat} (h : c < 100) : (dec2 c).all signB = true := by
  have : ∀ c, c < 100 → (dec2 c).all signB = true := by decide +kernel
  exact this c h
theorem cdg_inj {c d : Nat} (hc : c < 100) (hd : d < 100) (h : cdg c = cdg d) : c = d := by
  have : ∀ m, m < 100 → ((cdg m).getD 0 0).toNat * 10 + ((cdg m).getD 1 0).toNat = 528 + m := by decide +kernel
  have h1 := this c hc
  have h2 := this d hd
  rw [h] at h1; omega
theorem dec2_inj {c d : Nat} (hc : c < 100) (hd : d < 100) (h : dec2 c = dec2 d) : c = d := by
  have : ∀ m, m < 100 → (if (dec2 m).length = 1 then ((dec2 m).getD 0 0).toNat + 480 else ((dec2 m).getD 0 0).toNat * 10 + ((dec2 m).getD 1 0).toNat) = 528 + m := by decide +kernel
  have h1 := this c hc
  have h2 := this d hd
  rw [h] at h1; omega
theorem lkName_len {c n : Nat} (h : c < 100) : (lkName c n).length = 5 + (dec2 n).length := by
  have := cdg_len h
  simp [lkName, this]; omega
theorem lkName_nm {c n : Nat} (h : c < 100) (hn : n < 100) : isNm (lkName c n) := by
  have h1 := lkName_len (n := n) h
  have h2 := dec2_len (n := n)
  refine ⟨?_, by omega, by omega⟩
  unfold lkName
  rw [List.all_append, List.all_append, List.all_append, cdg_nm h, dec2_nm hn]; decide
theorem dfName_nm {c : Nat} (h : c < 100) : isNm (dfName c) ∧ (dfName c).length = 4 := by
  have h1 : (dfName c).length = 4 := by have := cdg_len h; simp [dfName, this]
  refine ⟨⟨?_, by omega, by omega⟩, h1⟩
  unfold dfName
  rw [List.all_append, cdg_nm h]; decide
theorem lkName_inj {c d m n : Nat} (hc : c < 100) (hd : d < 100) (hm : m < 100) (hn : n < 100) (h : lkName c m = lkName d n) : c = d ∧ m = n := by
  unfold lkName at h
  have hl : ((([108, 47] : List UInt8) ++ cdg c) ++ [45]).length = ((([108, 47] : List UInt8) ++ cdg d) ++ [45]).length := by simp [cdg_len hc, cdg_len hd]
  have h1 := List.append_inj h hl
  have h2 : cdg c = cdg d := by
    have := h1.1
    simpa using this
  exact ⟨cdg_inj hc hd h2, dec2_inj hm hn h1.2⟩
/-- does a name begin so? -/
def preB (m l : List UInt8) : Bool := decide (m.length ≤ l.length ∧ l.take m.length = m)
theorem lkName_pre {c n : Nat} : preB [108, 47] (lkName c n) = true := by unfold preB lkName; simp
theorem dfName_pre {c : Nat} : preB [108, 47] (dfName c) = false := by unfold preB dfName; simp
theorem lk_df {c d n : Nat} : lkName c n ≠ dfName d := fun h => by
  have := lkName_pre (c := c) (n := n)
  rw [h, dfName_pre] at this; cases this
/-- the names of a store that begin so, rising -/
def lsN (s : Sh) (m : List UInt8) : List (List UInt8) := (sortN (s.obs.map Ob.name)).filter (preB m)
theorem lsN_mem {s : Sh} {m n : List UInt8} : n ∈ lsN s m ↔ hasO s.obs n ∧ preB m n = true := by
  unfold lsN sortN hasO
  rw [List.mem_filter, List.mem_mergeSort]
/-- does a lock hold? (as time goes on alone) -/
def holdsP (now : Nat) (m : Mk) : Prop := now - m.t ≤ 1000
instance (now : Nat) (m : Mk) : Decidable (holdsP now m) := by unfold holdsP; infer_instance
/-- a store whose locks say what mo tells -/
def LkAll (hk mk : List UInt8) (s : Sh) (now : Nat) (mo : List UInt8 → Mk) : Prop :=
  ∀ n, hasO s.obs n → preB [108, 47] n = true → n.length < 256 ∧ (mo n).c < 100 ∧ (mo n).t ≤ now ∧ ∃ N : List UInt8, N.length = 16 ∧ (lkO s.obs n).b = sealL hk mk 108 n N (mkY (mo n))
/-- the locks of all others -/
def othN (mo : List UInt8 → Mk) (c : Nat) (l : List (List UInt8)) : List (List UInt8) := l.filter (fun n => !decide ((mo n).c = c))
def kvM (mo : List UInt8 → Mk) (l : List (List UInt8)) : KV := l.map (fun n => (n, mkV (mo n)))
def meets (mo : List UInt8 → Mk) (now : Nat) (alone : Bool) (n : List UInt8) : Prop := holdsP now (mo n) ∧ (alone = true ∨ (mo n).a = true)
instance (mo : List UInt8 → Mk) (now : Nat) (alone : Bool) (n : List UInt8) : Decidable (meets mo now alone n) := by unfold meets; infer_instance
/-- what free answers where there is power -/
def freeE (mo : List UInt8 → Mk) (now : Nat) (alone : Bool) (l : List (List UInt8)) : Nat := if ∃ n ∈ l, meets mo now alone n then 12 else 0
/-- a draft, written and synced -/
def writeF (s : Sh) (d : List UInt8) (v : Value) (b : List UInt8) : Sh × Nat :=
  if ¬ (s.del d).2 = 0 ∧ ¬ (s.del d).2 = 6 then s.del d else
  if ¬ ((s.del d).1.put d v b).2 = 0 then (s.del d).1.put d v b else
  if ¬ (((s.del d).1.put d v b).1.sync1 d).2 = 0 then (((((s.del d).1.put d v b).1.sync1 d).1.del d).1, (((s.del d).1.put d v b).1.sync1 d).2) else
  ((((s.del d).1.put d v b).1.sync1 d).1, 0)
theorem wr_1 {s : Sh} {d b : List UInt8} {v : Value} (h1 : ¬ (s.del d).2 = 0) (h2 : ¬ (s.del d).2 = 6) : writeF s d v b = s.del d := by rw [writeF, if_pos ⟨h1, h2⟩]
theorem wr_2 {s : Sh} {d b : List UInt8} {v : Value} (h1 : (s.del d).2 = 0 ∨ (s.del d).2 = 6) (h2 : ¬ ((s.del d).1.put d v b).2 = 0) : writeF s d v b = (s.del d).1.put d v b := by
  rw [writeF, if_neg (fun q => h1.elim q.1 q.2), if_pos h2]
theorem wr_3 {s : Sh} {d b : List UInt8} {v : Value} (h1 : (s.del d).2 = 0 ∨ (s.del d).2 = 6) (h2 : ((s.del d).1.put d v b).2 = 0) (h3 : ¬ (((s.del d).1.put d v b).1.sync1 d).2 = 0) :
    writeF s d v b = (((((s.del d).1.put d v b).1.sync1 d).1.del d).1, (((s.del d).1.put d v b).1.sync1 d).2) := by
  rw [writeF, if_neg (fun q => h1.elim q.1 q.2), if_neg (fun q => q h2), if_pos h3]
theorem wr_4 {s : Sh} {d b : List UInt8} {v : Value} (h1 : (s.del d).2 = 0 ∨ (s.del d).2 = 6) (h2 : ((s.del d).1.put d v b).2 = 0) (h3 : (((s.del d).1.put d v b).1.sync1 d).2 = 0) :
    writeF s d v b = ((((s.del d).1.put d v b).1.sync1 d).1, 0) := by
  rw [writeF, if_neg (fun q => h1.elim q.1 q.2), if_neg (fun q => q h2), if_neg (fun q => q h3)]
/-- a draft becomes a lock -/
def showR (s : Sh) (d n : List UInt8) : Sh × Nat :=
  if ¬ (s.ren d n).2 = 7 then s.ren d n else if ¬ ((s.ren d n).1.del n).2 = 0 then (s.ren d n).1.del n else ((s.ren d n).1.del n).1.ren d n
def showF (s : Sh) (d n : List UInt8) : Sh × Nat := if ¬ (showR s d n).2 = 0 then (((showR s d n).1.del d).1, (showR s d n).2) else ((showR s d n).1, 0)
/-- stale locks go -/
def swQ (del : List UInt8 → Bool) (q : Sh × Nat) (n : List UInt8) : Sh × Nat := if q.2 = 0 ∧ del n = true then ((q.1.del n).1, if (q.1.del n).2 = 6 then 0 else (q.1.del n).2) else q
def swF (del : List UInt8 → Bool) (s : Sh) (l : List (List UInt8)) : Sh × Nat := l.foldl (swQ del) (s, 0)
/-- a client's hand -/
structure Lk where
  cl : Nat
  made : Nat
  own : List UInt8
  asks : Nat
  want : Bool
  next : List UInt8
  shown : Bool
  m : Mk
def Lk.asked (x : Lk) (b : Bool) : Lk := { x with asks := 1, want := b }
theorem flagL_len {l : List Bool} : (flagL l).length = l.length := by
  induction l with
  | nil => rfl
  | cons b l ih => unfold flagL at ih ⊢; rw [List.flatMap_cons, List.length_append, ih]; simp; omega
theorem flagL_succ {l : List Bool} {i : Nat} (h : i < l.length) : flagL (l.take (i + 1)) = flagL (l.take i) ++ [flagB (l.getD i false)] := by
  have e : l.getD i false = l[i] := by rw [List.getD_eq_getElem?_getD, List.getElem?_eq_getElem h]; rfl
  rw [e, List.take_add_one, List.getElem?_eq_getElem h]
  simp only [flagL, List.flatMap_append, Option.toList, List.flatMap_cons, List.flatMap_nil, List.append_nil]
/-- what write answers -/
def wrN (e : Nat) (n : List UInt8) : List UInt8 := if e = 0 then n else []
def wrM (e : Nat) (m : Mk) : Mk := if e = 0 then m else dMk
/-- a hand after show -/
def Lk.up (x : Lk) (e : Nat) : Lk := { x with made := if e = 0 then x.made + 1 else x.made }
theorem sh_1 {s : Sh} {d n : List UInt8} (h : ¬ (s.ren d n).2 = 7) : showR s d n = s.ren d n := by rw [showR, if_pos h]
theorem sh_2 {s : Sh} {d n : List UInt8} (h : (s.ren d n).2 = 7) (h2 : ¬ ((s.ren d n).1.del n).2 = 0) : showR s d n = (s.ren d n).1.del n := by rw [showR, if_neg (fun q => q h), if_pos h2]
theorem sh_3 {s : Sh} {d n : List UInt8} (h : (s.ren d n).2 = 7) (h2 : ((s.ren d n).1.del n).2 = 0) : showR s d n = ((s.ren d n).1.del n).1.ren d n := by rw [showR, if_neg (fun q => q h), if_neg (fun q => q h2)]
theorem sf_0 {s : Sh} {d n : List UInt8} {t : Sh} {e : Nat} (h : showR s d n = (t, e)) (h2 : e = 0) : showF s d n = (t, 0) := by rw [showF, h, if_neg (fun q => q h2)]
theorem sf_1 {s : Sh} {d n : List UInt8} {t : Sh} {e : Nat} (h : showR s d n = (t, e)) (h2 : ¬ e = 0) : showF s d n = ((t.del d).1, e) := by rw [showF, h, if_pos h2]
theorem up_0 {x : Lk} {e : Nat} (h : e = 0) : x.up e = { x with made := x.made + 1 } := by unfold Lk.up; rw [if_pos h]
theorem up_1 {x : Lk} {e : Nat} (h : ¬ e = 0) : x.up e = x := by unfold Lk.up; rw [if_neg h]
def Lk.wrote (x : Lk) (e : Nat) (n : List UInt8) (m : Mk) : Lk := { x with next := wrN e n, m := wrM e m }
def Lk.shw (x : Lk) (e : Nat) : Lk := { x with made := (x.up e).made, shown := decide (e = 0) }
def Lk.took (x : Lk) (e : Nat) : Lk := { x with own := if e = 0 then x.next else x.own }
theorem took_0 {x : Lk} {e : Nat} (h : e = 0) : x.took e = { x with own := x.next } := by unfold Lk.took; rw [if_pos h]
theorem took_1 {x : Lk} {e : Nat} (h : ¬ e = 0) : x.took e = x := by unfold Lk.took; rw [if_neg h]
end Go.Proofs.YtkkjfojgjmglpaaGreatDoor
set_option linter.unusedSimpArgs false
set_option linter.unusedVariables false
namespace Go.Proofs.YtkkjfojgjmglpaaGreatDoor
open Go Go.RowKit
set_option maxRecDepth 100000
theorem drop_cons {α : Type} {b l : List α} {x d : α} {k : Nat} (h : b.drop k = x :: l) : k < b.length ∧ b.getD k d = x ∧ b.drop (k + 1) = l := by
  have hk : k < b.length := by
    rcases Nat.lt_or_ge k b.length with h1 | h1
    · exact h1
    · rw [List.drop_of_length_le h1] at h; cases h
  rw [List.drop_eq_getElem_cons hk] at h
  obtain ⟨h1, h2⟩ := List.cons.inj h
  exact ⟨hk, by rw [List.getD_eq_getElem?_getD, List.getElem?_eq_getElem hk]; exact h1, h2⟩
structure NAt (b r : List UInt8) (n k acc m : Nat) : Prop where
  k8 : k ≤ 8
  sum : acc + m * 2 ^ (7 * k) = n
  low : acc < 2 ^ (7 * k)
  rest : b.drop k = numL m ++ r
  big : m * 2 ^ (7 * k) < 4611686018427387904
  pos : k = 0 ∨ 1 ≤ m
theorem nat0 {b r : List UInt8} {n : Nat} (h : b = numL n ++ r) (hn : n < 4611686018427387904) : NAt b r n 0 0 n := ⟨by omega, by simp, by simp, by simpa using h, by simpa using hn, .inl rfl⟩
theorem nat_x {b r : List UInt8} {n k acc m : Nat} (h : NAt b r n k acc m) : k < b.length ∧ (128 ≤ m → b.getD k 0 = UInt8.ofNat (m % 128 + 128) ∧ b.drop (k + 1) = numL (m / 128) ++ r) ∧ (m < 128 → b.getD k 0 = UInt8.ofNat m ∧ b.drop (k + 1) = r) := by
  by_cases hm : m < 128
  · have h1 := h.rest
    rw [numL_lt hm] at h1
    obtain ⟨h2, h3, h4⟩ := drop_cons (d := 0) h1
    exact ⟨h2, fun h5 => absurd h5 oM, fun _ => ⟨h3, h4⟩⟩
  · have h1 := h.rest
    rw [numL_ge hm] at h1
    obtain ⟨h2, h3, h4⟩ := drop_cons (d := 0) h1
    exact ⟨h2, fun _ => ⟨h3, h4⟩, fun h5 => absurd h5 hm⟩
theorem nat_b {b r : List UInt8} {n k acc m : Nat} (h : NAt b r n k acc m) : ((b.getD k 0) &&& 127).toNat = m % 128 ∧ (128 ≤ (b.getD k 0).toNat ↔ 128 ≤ m) ∧ (m < 128 → (b.getD k 0).toNat = m) := by
  obtain ⟨_, h1, h2⟩ := nat_x h
  have e1 : ∀ x : UInt8, (x &&& 127).toNat = x.toNat % 128 := fun x => by rw [UInt8.toNat_and]; exact Nat.and_two_pow_sub_one_eq_mod x.toNat 7
  rw [e1]
  by_cases hm : m < 128
  · rw [(h2 hm).1]
    have : (UInt8.ofNat m).toNat = m := by simp; omega
    omega
  · rw [(h1 oM).1]
    have : (UInt8.ofNat (m % 128 + 128)).toNat = m % 128 + 128 := by simp; omega
    omega
theorem pow_pos' (k : Nat) : 0 < 2 ^ (7 * k) := Nat.pow_pos dC
theorem nat_or {b r : List UInt8} {n k acc m : Nat} (h : NAt b r n k acc m) : acc ||| (m % 128 * 2 ^ (7 * k)) = acc + m % 128 * 2 ^ (7 * k) ∧ m % 128 * 2 ^ (7 * k) < 4611686018427387904 ∧ acc < 4611686018427387904 ∧ acc + m % 128 * 2 ^ (7 * k) ≤ n := by
  have h1 := h.low
  have h2 : m % 128 * 2 ^ (7 * k) ≤ m * 2 ^ (7 * k) := Nat.mul_le_mul_right _ (Nat.mod_le _ _)
  have h3 := h.big
  have h4 : 2 ^ (7 * k) ≤ 2 ^ 56 := Nat.pow_le_pow_right dC (by have := h.k8; omega)
  have h5 := h.sum
  refine ⟨?_, by omega, by omega, by omega⟩
  rw [Nat.or_comm, or_add _ _ _ h1, Nat.add_comm]
theorem nat_fin {b r : List UInt8} {n k acc m : Nat} (h : NAt b r n k acc m) (hm : m < 128) : acc + m % 128 * 2 ^ (7 * k) = n := by rw [Nat.mod_eq_of_lt hm]; exact h.sum
theorem nat_next {b r : List UInt8} {n k acc m : Nat} (h : NAt b r n k acc m) (hm : 128 ≤ m) : NAt b r n (k + 1) (acc + m % 128 * 2 ^ (7 * k)) (m / 128) := by
  have hp := pow_pos' k
  have e : 2 ^ (7 * (k + 1)) = 128 * 2 ^ (7 * k) := by rw [show 7 * (k + 1) = 7 + 7 * k by omega, Nat.pow_add]
  have e2 : m * 2 ^ (7 * k) = m / 128 * (128 * 2 ^ (7 * k)) + m % 128 * 2 ^ (7 * k) := by
    conv => lhs; rw [← Nat.div_add_mod m 128]
    rw [Nat.add_mul, Nat.mul_comm 128 (m / 128), Nat.mul_assoc]
  have hs := h.sum; have hb := h.big; have hl := h.low
  have hk : k < 8 := by
    rcases Nat.lt_or_ge k 8 with h1 | h1
    · exact h1
    · have : k = 8 := by have := h.k8; omega
      subst this
      omega
  refine ⟨by omega, ?_, ?_, ((nat_x h).2.1 hm).2, ?_, .inr oM⟩
  · rw [e]; omega
  · rw [e]
    have : m % 128 * 2 ^ (7 * k) ≤ 127 * 2 ^ (7 * k) := Nat.mul_le_mul_right _ oM
    omega
  · rw [e]; omega
theorem beq_spec {v1 v2 : Value} {l m : List UInt8} {w : World} (h1 : Ro (Fs []) w (rdB v1 l)) (h2 : Ro (Fs []) w (rdB v2 m)) : Spec Tryz.prog 166 [v1, v2] w [] (fun _ : Unit => True) (fun _ => .bool (decide (l = m))) (fun _ => []) := by
  exact spec_of (n := 10) Tryz.func166 rfl rfl trivial trivial rfl <| s_r <| q_a rfl rfl <| s_n <| s_r <| q_m rfl rfl <| s_q rfl (y_str (l := l) rfl rfl rfl rfl (fun w hw => Ro.rd h1 hw)) <| q_m rfl rfl <| s_q rfl (y_str (l := m) rfl rfl rfl rfl (fun w hw => Ro.rd h2 hw)) <| s_q rfl (y_strEq (l := l) (m := m) rfl rfl) <| q_a rfl rfl <| s_n <| tk_retc <| tk_ret (()) (trivial) (.inl rfl) (r1 rfl rfl) (List.Sublist.refl _)
theorem gopen_spec {kind : UInt8} {bv : Value} {b r : List UInt8} {w : World} (hb : Ro (Fs []) w (rdB bv b)) (hbr : b = [72, 89, kind] ++ r) (hrl : r.length < 1099511627776) :
    Spec Tryz.prog 123 [B kind, bv] w [] (fun _ : Nat × Value => True) (fun x => PT x.1) (fun x => [cel x.1 [x.2, I 0] 282, ownB x.2 r 5]) := by
  refine spec_of (n := 41) Tryz.func123 rfl rfl trivial trivial rfl ?_
  have hbl : b.length = r.length + 3 := by rw [hbr]; simp
  refine s_r <| q_a rfl rfl <| s_n <| s_r <| tk_act rfl <| a_slitN (vs := [B 72, B 89]) rfl (List.forall_mem_cons.2 ⟨rfl, (List.forall_mem_cons.2 ⟨rfl, (fun _ h => nomatch h)⟩)⟩) (EL42) rfl rfl dC fun b7 => tk_act rfl <| a_convX (H1 := []) rfl Tryz.underlying42 Tryz.underlying5 rfl rfl <| q_m rfl rfl <| tk_act rfl <| a_slitN (vs := [B kind]) rfl (List.forall_mem_cons.2 ⟨rfl, (fun _ h => nomatch h)⟩) (EL42) rfl rfl dC fun b10 => tk_celM (H1 := [_]) (f := B) (l := [72, 89]) (T := 5) rfl rfl dC <| tk_act rfl <| a_appM (H1 := [_]) (f := B) (l := [72, 89]) (m := [kind]) rfl rfl EL42 rfl rfl (fun w hw => cel_rdE (o := 0) (m := 1) (cp := 1) (vs := [kind].map B) (hw.mem (.head _)) (rfl) lQ lenP) (fun _ => rfl) ⟨lenP, lenP⟩ fun v11 => tk_own1 (mm 1 rfl) fun hfv11 => tk_R (H1 := [_]) rfl (show ownB v11 ([72, 89] ++ [kind]) 5 = ownB v11 [72, 89, kind] 5 from ownM_cast rfl) <| tk_own1 (mm 1 rfl) fun hf11 => q_a rfl rfl <| s_n <| s_r <| q_m rfl rfl <| s_q rfl (y_lenRN (n' := b.length) rfl hb.1 rfl (by first | rfl | (rw [List.length_map]; omega) | simp)) <| q_m rfl rfl <| s_q rfl (y_lenRN (n' := 3) rfl hf11.choose_spec rfl (by first | rfl | (rw [List.length_map]; omega) | simp)) ?_; refine s_q rfl (y_minN (a := b.length) (b := 3) rfl rfl) <| tk_re 16 (IN (min b.length 3)) (I 3) rfl (congrArg I oM) <| q_a rfl rfl <| s_n <| tk_seq <| tk_block <| tk_seq <| tk_drawH [cel b10 ([B kind]) 5, ownB v11 [72, 89, kind] 5] [] kR <| s_x 0 rfl (y_move rfl) <| s_x 1 rfl (y_move rfl) <| s_x 2 rfl (y_cutRBh (l := b) 3 rfl rfl hb.1 kR lenP rfl) <| s_x 3 rfl (y_move rfl) <| s_x 4 rfl (y_move rfl) <| s_x 5 rfl (y_cutRBh (l := [72, 89, kind]) 3 rfl rfl hf11.choose_spec kR lenP rfl) <| tx_a 6 rfl kR rfl <| a_callv [] _ rfl kR rfl (fun w' hw' => beq_spec (l := b.take 3) (m := [72, 89, kind].take 3) (Ro.cutBh (Ro.call (H0 := []) hb hw') (hi := 3) lenP) (Ro.cutBh (Ro.own (H0 := []) hw' (mm 1 rfl)) (hi := 3) lenP)) rfl fun _ _ => tk_S (fun _ h => h) <| tk_re 24 (.bool (decide (b.take 3 = [72, 89, kind].take 3))) (.bool true) rfl (bool_t (by rw [hbr]; rfl)) <| s_x 7 rfl (y_not rfl) <| s_x 8 rfl (y_assign rfl) <| tx_done kR <| tk_then <| tk_cond0 rfl <| s_r ?_; refine q_m rfl rfl <| q_m rfl rfl <| s_q rfl (y_lenRN (n' := 3) rfl hf11.choose_spec rfl (by first | rfl | (rw [List.length_map]; omega) | simp)) <| s_q rfl ((y_lss rfl rfl).cast (bool_f dC)) <| q_a rfl rfl <| s_n <| tk_cond0 rfl <| tk_skip <| tk_in_normal <| tk_then <| s_r <| q_m rfl rfl <| q_m rfl rfl <| s_q rfl (y_cutRBl (l := b) 3 rfl rfl hb.1 kR lenP rfl) <| tk_act rfl <| a_callv [] _ rfl kR rfl (fun w' hw' => clone_spec (l := b.drop 3) (Ro.cutBl (Ro.call (H0 := []) hb hw') (lo := 3) lenP) lenP) rfl fun v38 _ => tk_R (H1 := []) rfl (show ownB v38 (b.drop 3) 5 = ownB v38 r 5 from ownM_cast (by rw [hbr]; rfl)) <| tk_own1 (.head _) fun hf38 => ?_
  have hc38 := hf38.choose_spec.cells
  simp only [Value.cells] at hc38
  exact s_q rfl (y_build (v := .agg ([v38, I 0]).toArray) (vs := [(0, v38)]) rfl (run_build (zs := [Value.slice none 0 0, I 0]) (pl := [(0, 1), (1, 1)]) Tryz.underlying282 (fun _ => kR) (fun _ => kR) (fill_s0 (RdS.cells hf38.choose_spec)))) <| tk_act rfl <| a_boxL (cs := [v38, I 0]) rfl rfl fun b40 => q_a rfl rfl <| s_n <| tk_retc <| tk_ret ((b40, v38)) (trivial) (.inl rfl) (r1 rfl rfl) (.cons_cons _ (.cons_cons _ (List.nil_sublist _)))
theorem inum_spec {ib lim n : Nat} {v : Value} {b r : List UInt8} {w : World} (hbn : b = numL n ++ r) (hn : n < 4611686018427387904) (hlim : n ≤ lim) (hbl : b.length < 1099511627776) (hh : Pre w [cel ib [v, I 0] 282, ownB v b 5]) :
    Spec Tryz.prog 125 [PT ib, I (lim : Int)] w [cel ib [v, I 0] 282, ownB v b 5] (fun _ : Value => True) (fun _ => I (n : Int)) (fun x => [cel ib [x, I 0] 282, ownB x r 5]) := by
  refine spec_of (n := 81) Tryz.func125 rfl rfl hh.1 hh.2 rfl <| tk_own1 (mm 1 rfl) fun hfv => s_r <| q_a rfl rfl <| s_n <| tk_seq <| s_r <| q_m rfl rfl <| s_q rfl (y_pnil rfl rfl rfl) <| q_m rfl rfl <| s_g rfl (y_move rfl) <| s_g rfl (y_nilCheck rfl) <| s_g rfl (y_fldN (o := 0) 1 rfl kR) <| s_g rfl (y_load rfl rfl (hc (o := 1) (.head _) (rfl))) <| s_g rfl ((y_neq rfl rfl).cast (bool_f dC)) <| s_q rfl (y_pick0 rfl rfl) <| s_n <| tk_cond0 rfl <| tk_skip <| tk_then <| s_r <| q_a rfl rfl <| s_n <| tk_seq ?_; refine s_r <| q_m rfl rfl <| s_n <| tk_block <| tk_loop (X := Nat × Nat × Nat) (fun (k, acc, m) => NAt b r n k acc m) (fun (k, acc, m) => [(0, PT ib), (1, IN lim), (5, IN acc), (17, IN k)]) (fun (k, acc, m) => [cel ib ([v, I 0]) 282, ownB v b 5]) (fun (k, acc, m) => 9 - k) ((0, 0, n)) (nat0 hbn hn) sB ((List.Sublist.refl _)) ?_
  rintro ⟨k, acc, m⟩ hI
  try dsimp only at hI ⊢
  have hk8 := hI.k8
  obtain ⟨hx1, hx2, hx3⟩ := nat_x hI
  obtain ⟨hy1, hy2, hy3⟩ := nat_b hI
  obtain ⟨ho1, ho2, ho3, ho4⟩ := nat_or hI
  have hpos := hI.pos
  refine s_r <| s_q rfl (y_lss rfl rfl) <| s_n <| tk_seq <| tk_condP rfl (fun ht18 => ?_) (fun ht18 => ?_)
  · refine tk_skip <| tk_then <| tk_seq <| tk_block <| s_r <| q_m rfl rfl <| q_a rfl rfl <| s_n <| tk_seq <| s_r <| q_m rfl rfl <| q_m rfl rfl <| s_q rfl (y_nilCheck rfl) <| s_q rfl (y_fld0 (o := 0) rfl kR) <| s_q rfl (y_load rfl rfl (hc (o := 0) (.head _) (rfl))) <| s_q rfl (y_lenRN (n' := b.length) rfl hfv.choose_spec rfl (by first | rfl | (rw [List.length_map]; omega) | simp)) <| tk_qe (.bool false) rfl rfl rfl (y_eql rfl rfl) (bool_f oM) <| s_n <| tk_cond0 rfl <| tk_skip <| tk_then <| s_r <| q_m rfl rfl <| s_q rfl (y_nilCheck rfl) ?_; refine s_q rfl (y_fld0 (o := 0) rfl kR) <| s_q rfl (y_load rfl rfl (hc (o := 0) (.head _) (rfl))) <| q_m rfl rfl <| s_q rfl (y_ixR (j := k) rfl rfl hfv.choose_spec lenP kR) <| s_q rfl (y_load rfl rfl (fun w hw => ((fun w hw => own_rdS (hw.mem (mm 1 rfl))) w hw).cell (gM (d := 0) lenP))) <| q_a rfl rfl <| s_n <| s_r <| q_m rfl rfl <| q_m rfl rfl <| s_q rfl (y_and8 (a := b.getD k 0) (b := 127) rfl rfl) <| tk_qe (I ((m % 128 : Nat) : Int)) rfl rfl rfl (y_conv8i (a := (b.getD k 0) &&& 127) rfl rfl rfl) (by rw [hy1]) <| q_m rfl rfl <| s_q rfl (y_mulN (a := 7) (b := k) rfl rfl oM) <| s_q rfl (y_shlI (a := m % 128) (m := 7 * k) rfl rfl oM oM) <| tk_qe (I ((acc + m % 128 * 2 ^ (7 * k) : Nat) : Int)) rfl rfl rfl (y_orN (a := acc) (b := (m % 128) * 2 ^ (7 * k)) rfl rfl ⟨ho3, ho2⟩) (by rw [ho1]) <| q_a rfl rfl <| s_n <| tk_seq <| s_r <| q_m rfl rfl <| s_q rfl (y_geq rfl rfl) <| s_n <| tk_condP rfl (fun ht45 => ?_) (fun ht45 => ?_)
    · exact tk_exit <| tk_then_exit <| tk_in_hit <| tk_then <| tk_region <| s_q rfl (y_addN (a := k) (b := 1) rfl rfl oM) <| q_m rfl rfl <| tk_nil <| tk_again ((k + 1, acc + m % 128 * 2 ^ (7 * k), m / 128)) (nat_next hI (hy2.1 oM)) (by dsimp only; omega) sB (List.Sublist.refl _)
    · have hm8 : m < 128 := Nat.lt_of_not_le (fun h => ht45 (by have := hy2.2 h; omega))
      have hfin := nat_fin hI hm8
      have hx0 := hy3 hm8
      refine tk_skip <| tk_then <| tk_seq <| tk_block <| tk_seq <| s_r <| q_m rfl rfl <| tk_qs rfl rfl rfl (y_gtr rfl rfl) (fun hs13_1 => ?_) (fun hs13_1 => ?_)
      · refine q_m rfl rfl <| s_g rfl (y_move rfl) <| tk_gqe (.bool false) rfl rfl rfl (y_eql rfl rfl) (bool_f oM) <| s_q rfl (y_pick1 rfl rfl) <| q_a rfl rfl <| s_n <| tk_cond0 rfl <| tk_region <| q_m rfl rfl <| tk_qe (.bool false) rfl rfl rfl (y_lss rfl rfl) (bool_f oM) <| q_m rfl rfl <| s_g rfl (y_move rfl) <| tk_gqe (.bool false) rfl rfl rfl (y_geq rfl rfl) (bool_f oM) <| s_q rfl (y_pick0 rfl rfl) <| q_a rfl rfl <| s_n <| tk_cond0 rfl <| s_r <| q_m rfl rfl <| q_m rfl rfl <| tk_qe (.bool false) rfl rfl rfl (y_gtr rfl rfl) (bool_f oM) <| q_a rfl rfl <| s_n <| tk_cond0 rfl ?_; refine tk_skip <| tk_in_normal <| tk_then <| s_r <| q_m rfl rfl <| q_m rfl rfl <| s_q rfl (y_nilCheck rfl) <| s_q rfl (y_fld0 (o := 0) rfl kR) <| s_q rfl (y_load rfl rfl (hc (o := 0) (.head _) (rfl))) <| q_m rfl rfl <| s_q rfl (y_addN (a := k) (b := 1) rfl rfl oM) <| s_q rfl (y_cutRBl (l := b) (k + 1) rfl rfl hfv.choose_spec kR lenP rfl) <| s_q rfl (y_nilCheck rfl) <| s_q rfl (y_fld0 (o := 0) rfl kR) <| tk_act rfl <| a_storeE (H1 := []) (o := 0) (v := cutR v (k + 1) b.length) (cs' := [cutR v (k + 1) b.length, I 0]) rfl rfl kR (RdS.one (RdS.cutBl hfv.choose_spec (lo := k + 1) lenP)) rfl sW (rfl) <| s_n <| s_r <| q_m rfl rfl <| q_a rfl rfl <| s_n <| tk_retc <| tk_in_ret <| tk_then_ret ?_; exact tk_then_ret <| tk_in_ret <| tk_then_ret <| tk_ownCut (H1 := [_]) (k + 1) rfl oM <| tk_R (H1 := [_]) rfl (show ownB ((cutR v (k + 1) b.length)) (b.drop (k + 1)) 5 = ownB ((cutR v (k + 1) b.length)) r 5 from ownM_cast (hx3 hm8).2) <| tk_re 4 (I ((acc + m % 128 * 2 ^ (7 * k) : Nat) : Int)) (IN n) rfl (congrArg I oM) <| tk_ret (cutR v (k + 1) b.length) (trivial) (.inl rfl) (r1 rfl rfl) (List.Sublist.refl _)
      · refine q_m rfl rfl <| tk_gno rfl rfl rfl <| tk_gno rfl rfl rfl <| s_q rfl (y_pick0 rfl rfl) <| q_a rfl rfl <| s_n <| tk_cond0 rfl <| tk_region <| q_m rfl rfl <| tk_qe (.bool false) rfl rfl rfl (y_lss rfl rfl) (bool_f oM) <| q_m rfl rfl <| s_g rfl (y_move rfl) <| tk_gqe (.bool false) rfl rfl rfl (y_geq rfl rfl) (bool_f oM) <| s_q rfl (y_pick0 rfl rfl) <| q_a rfl rfl <| s_n <| tk_cond0 rfl <| s_r <| q_m rfl rfl <| q_m rfl rfl <| tk_qe (.bool false) rfl rfl rfl (y_gtr rfl rfl) (bool_f oM) <| q_a rfl rfl <| s_n <| tk_cond0 rfl ?_; refine tk_skip <| tk_in_normal <| tk_then <| s_r <| q_m rfl rfl <| q_m rfl rfl <| s_q rfl (y_nilCheck rfl) <| s_q rfl (y_fld0 (o := 0) rfl kR) <| s_q rfl (y_load rfl rfl (hc (o := 0) (.head _) (rfl))) <| q_m rfl rfl <| s_q rfl (y_addN (a := k) (b := 1) rfl rfl oM) <| s_q rfl (y_cutRBl (l := b) (k + 1) rfl rfl hfv.choose_spec kR lenP rfl) <| s_q rfl (y_nilCheck rfl) <| s_q rfl (y_fld0 (o := 0) rfl kR) <| tk_act rfl <| a_storeE (H1 := []) (o := 0) (v := cutR v (k + 1) b.length) (cs' := [cutR v (k + 1) b.length, I 0]) rfl rfl kR (RdS.one (RdS.cutBl hfv.choose_spec (lo := k + 1) lenP)) rfl sW (rfl) <| s_n <| s_r <| q_m rfl rfl <| q_a rfl rfl <| s_n <| tk_retc <| tk_in_ret <| tk_then_ret ?_; exact tk_then_ret <| tk_in_ret <| tk_then_ret <| tk_ownCut (H1 := [_]) (k + 1) rfl oM <| tk_R (H1 := [_]) rfl (show ownB ((cutR v (k + 1) b.length)) (b.drop (k + 1)) 5 = ownB ((cutR v (k + 1) b.length)) r 5 from ownM_cast (hx3 hm8).2) <| tk_re 4 (I ((acc + m % 128 * 2 ^ (7 * k) : Nat) : Int)) (IN n) rfl (congrArg I oM) <| tk_ret (cutR v (k + 1) b.length) (trivial) (.inl rfl) (r1 rfl rfl) (List.Sublist.refl _)
  · exfalso; omega
theorem iraw_spec {ib n : Nat} {v : Value} {b f r : List UInt8} {w : World} (hbf : b = f ++ r) (hf : f.length = n) (hbl0 : b.length < 1099511627776) (hh : Pre w [cel ib [v, I 0] 282, ownB v b 5]) :
    Spec Tryz.prog 124 [PT ib, I (n : Int)] w [cel ib [v, I 0] 282, ownB v b 5] (fun _ : Value × Value => True) (fun x => x.2) (fun x => [cel ib [x.1, I 0] 282, ownB x.1 r 5, ownB x.2 f 5]) := by
  refine spec_of (n := 48) Tryz.func124 rfl rfl hh.1 hh.2 rfl ?_
  have hbl : b.length = n + r.length := by rw [hbf, List.length_append, hf]
  refine tk_own1 (mm 1 rfl) fun hfv => s_r <| q_a rfl rfl <| s_n <| tk_seq <| tk_block <| s_r <| q_m rfl rfl <| s_q rfl (y_pnil rfl rfl rfl) <| q_m rfl rfl <| s_g rfl (y_move rfl) <| s_g rfl (y_nilCheck rfl) <| s_g rfl (y_fldN (o := 0) 1 rfl kR) <| s_g rfl (y_load rfl rfl (hc (o := 1) (.head _) (rfl))) <| s_g rfl ((y_neq rfl rfl).cast (bool_f dC)) <| s_q rfl (y_pick0 rfl rfl) <| q_a rfl rfl <| s_n <| tk_cond0 rfl <| s_r <| q_m rfl rfl <| tk_qe (.bool false) rfl rfl rfl (y_lss rfl rfl) (bool_f oM) <| q_a rfl rfl <| s_n ?_; refine tk_cond0 rfl <| s_r <| q_m rfl rfl <| q_m rfl rfl <| s_q rfl (y_nilCheck rfl) <| s_q rfl (y_fld0 (o := 0) rfl kR) <| s_q rfl (y_load rfl rfl (hc (o := 0) (.head _) (rfl))) <| s_q rfl (y_lenRN (n' := b.length) rfl hfv.choose_spec rfl (by first | rfl | (rw [List.length_map]; omega) | simp)) <| tk_qe (.bool false) rfl rfl rfl (y_gtr rfl rfl) (bool_f oM) <| q_a rfl rfl <| s_n <| tk_cond0 rfl <| tk_skip <| tk_in_normal <| tk_then <| s_r <| q_m rfl rfl <| s_q rfl (y_nilCheck rfl) <| s_q rfl (y_fld0 (o := 0) rfl kR) <| s_q rfl (y_load rfl rfl (hc (o := 0) (.head _) (rfl))) <| q_m rfl rfl <| s_q rfl (y_cutRBh (l := b) n rfl rfl hfv.choose_spec kR lenP rfl) <| tk_act rfl <| a_callv [] _ rfl kR rfl (fun w' hw' => clone_spec (l := b.take n) (Ro.cutBh (Ro.own (H0 := []) hw' (mm 1 rfl)) (hi := n) lenP) lenP) rfl fun v37 _ => ?_; refine q_a rfl rfl <| s_n <| s_r <| q_m rfl rfl <| q_m rfl rfl <| s_q rfl (y_nilCheck rfl) <| s_q rfl (y_fld0 (o := 0) rfl kR) <| s_q rfl (y_load rfl rfl (hc (o := 0) (mm 1 rfl) (rfl))) <| q_m rfl rfl <| s_q rfl (y_cutRBl (l := b) n rfl rfl hfv.choose_spec kR lenP rfl) <| s_q rfl (y_nilCheck rfl) <| s_q rfl (y_fld0 (o := 0) rfl kR) <| tk_act rfl <| a_storeE (H1 := [_]) (o := 0) (v := cutR v n b.length) (cs' := [cutR v n b.length, I 0]) rfl rfl kR (RdS.one (RdS.cutBl hfv.choose_spec (lo := n) lenP)) rfl sW (rfl) <| s_n <| s_r <| q_m rfl rfl <| q_a rfl rfl <| s_n <| tk_retc <| tk_ownCut (H1 := [_, _]) n rfl oM <| tk_R (H1 := [_, _]) rfl (show ownB (cutR v n b.length) (b.drop n) 5 = ownB (cutR v n b.length) r 5 from ownM_cast (by rw [hbf, ← hf, List.drop_left])) <| tk_R (H1 := []) rfl (show ownB v37 (b.take n) 5 = ownB v37 f 5 from ownM_cast (by rw [hbf, ← hf, List.take_left])) <| tk_ps [2, 2] rfl ?_; exact tk_ret ((cutR v n b.length, v37)) (trivial) (.inl rfl) (r1 rfl rfl) (List.Sublist.refl _)
theorem ierr_spec {ib : Nat} {v : Value} {w : World} (hh : Pre w [cel ib [v, I 0] 282]) : Spec Tryz.prog 168 [PT ib] w [cel ib [v, I 0] 282] (fun _ : Unit => True) (fun _ => I 0) (fun _ => [cel ib [v, I 0] 282]) := by
  exact spec_of (n := 9) Tryz.func168 rfl rfl hh.1 hh.2 rfl <| s_r <| q_a rfl rfl <| s_n <| tk_seq <| s_r <| q_m rfl rfl <| s_q rfl (y_pnil rfl rfl rfl) <| s_n <| tk_cond0 rfl <| tk_skip <| tk_then <| s_r <| q_m rfl rfl <| s_q rfl (y_nilCheck rfl) <| s_q rfl (y_fldN (o := 0) 1 rfl kR) <| s_q rfl (y_load rfl rfl (hc (o := 1) (.head _) (rfl))) <| q_a rfl rfl <| s_n <| tk_retc <| tk_ret (()) (trivial) (.inl rfl) (r1 rfl rfl) (List.Sublist.refl _)
theorem iend_spec {ib : Nat} {v : Value} {b : List UInt8} {w : World} (hb0 : b = []) (hh : Pre w [cel ib [v, I 0] 282, ownB v b 5]) : Spec Tryz.prog 127 [PT ib] w [cel ib [v, I 0] 282, ownB v b 5] (fun _ : Unit => True) (fun _ => I 0) (fun _ => [cel ib [v, I 0] 282, ownB v b 5]) := by
  refine spec_of (n := 17) Tryz.func127 rfl rfl hh.1 hh.2 rfl ?_
  subst hb0
  refine tk_own1 (mm 1 rfl) fun hfv => s_r <| q_a rfl rfl <| s_n <| tk_seq <| s_r <| q_m rfl rfl <| s_q rfl (y_pnnil rfl rfl rfl) <| q_m rfl rfl <| s_g rfl (y_move rfl) <| s_g rfl (y_nilCheck rfl) <| s_g rfl (y_fld0 (o := 0) rfl kR) <| s_g rfl (y_load rfl rfl (hc (o := 0) (.head _) (rfl))) <| s_g rfl (y_lenRN (n' := 0) rfl hfv.choose_spec rfl (by first | rfl | (rw [List.length_map]; omega) | simp)) <| s_g rfl ((y_gtr rfl rfl).cast (bool_f dC)) <| s_q rfl (y_pick1 rfl rfl) <| s_n <| tk_cond0 rfl <| tk_skip <| tk_then <| s_r <| q_m rfl rfl <| tk_act rfl <| a_callv [] _ rfl kR rfl (fun w' hw' => ierr_spec (ib := ib) (v := v) (St.pre hw')) rfl fun _ _ => ?_; exact q_a rfl rfl <| s_n <| tk_retc <| tk_ret (()) (trivial) (.inl rfl) (r1 rfl rfl) (List.Sublist.refl _)
end Go.Proofs.YtkkjfojgjmglpaaGreatDoor
set_option linter.unusedSimpArgs false
set_option linter.unusedVariables false
namespace Go.Proofs.YtkkjfojgjmglpaaGreatDoor
open Go Go.RowKit
section
variable {c : Cx} {L : Sl} {H : List Res} {P : Program} {Q : Exit → Act → World → Prop} {K : Act → World → Prop} {d : Nat} {rty : TypeId} {pos : String} {af : Array Edge} {gd : Option (Nat × Bool)} {t t' : TypeId} {x y : Operand} {v u : Value}
variable {ops : Array Oper} {S : World → Prop} {X : List Nat} {f : Nat} {l : Array Bool}
/-- each operation that may come next, those of X freely -/
def AllY (P : Program) (ops : Array Oper) (Q : Exit → Act → World → Prop) (S : World → Prop) (X : List Nat) (f : Nat) (l : Array Bool) (c : Cx) (L : Sl) (H : List Res) : List Nat → Prop
  | [] => True
  | i :: is => (∃ oi, ops[i]? = some oi ∧ gdB ops L oi = some true ∧ TK c (fun a w => oi.wp P a w (fun a w => (X.contains i = true ∨ S w) ∧ AnyX P ops Q S X f (l.setIfInBounds i true) a w) Q) L H) ∧ AllY P ops Q S X f l c L H is
theorem AllY.mem : ∀ {is : List Nat}, AllY P ops Q S X f l c L H is → ∀ i ∈ is, ∃ oi, ops[i]? = some oi ∧ gdB ops L oi = some true ∧ TK c (fun a w => oi.wp P a w (fun a w => (X.contains i = true ∨ S w) ∧ AnyX P ops Q S X f (l.setIfInBounds i true) a w) Q) L H
  | _ :: _, h, _, .head _ => h.1
  | _ :: _, h, i, .tail _ hm => AllY.mem h.2 i hm
end
end Go.Proofs.YtkkjfojgjmglpaaGreatDoor
set_option linter.unusedSimpArgs false
set_option linter.unusedVariables false
namespace Go.Proofs.YtkkjfojgjmglpaaGreatDoor
open Go Go.RowKit
set_option maxRecDepth 100000
def setA (cs : List UInt8) : List Bool := cs.foldl (fun s c => s.set c.toNat true) (List.replicate 256 false)
theorem setA_len {cs : List UInt8} : (setA cs).length = 256 := by
  have : ∀ (cs : List UInt8) (s : List Bool), (cs.foldl (fun s c => s.set c.toNat true) s).length = s.length := by
    intro cs
    induction cs with
    | nil => intro s; rfl
    | cons c cs ih => intro s; rw [List.foldl_cons, ih, List.length_set]
  unfold setA; rw [this, List.length_replicate]
theorem setA_step {l : List UInt8} {i : Nat} (h : i < l.length) : setA (l.take (i + 1)) = (setA (l.take i)).set (l.getD i 0).toNat true := by
  unfold setA
  rw [List.take_add_one, List.getElem?_eq_getElem h, List.foldl_append, List.getD_eq_getElem?_getD, List.getElem?_eq_getElem h]; rfl
theorem setA_get {cs : List UInt8} {x : UInt8} : (setA cs).getD x.toNat false = cs.contains x := by
  have : ∀ (cs : List UInt8) (s : List Bool), s.length = 256 → (cs.foldl (fun s c => s.set c.toNat true) s).getD x.toNat false = (s.getD x.toNat false || cs.contains x) := by
    intro cs
    induction cs with
    | nil => intro s _; simp
    | cons c cs ih =>
      intro s hs
      rw [List.foldl_cons, ih _ (by rw [List.length_set]; exact hs)]
      have hx : x.toNat < s.length := by have := UInt8.toNat_lt x; omega
      by_cases hc : c = x
      · subst hc
        simp [List.getD_eq_getElem?_getD, hx]
      · have hne : c.toNat ≠ x.toNat := fun e => hc (UInt8.toNat.inj e)
        have hbeq : (x == c) = false := by simpa using fun e : x = c => hc e.symm
        simp [List.getD_eq_getElem?_getD, List.getElem?_set_ne hne, hbeq, Ne.symm hc]
  unfold setA; rw [this _ _ sI, List.getD_eq_getElem?_getD, List.getElem?_replicate]
  split <;> rfl
theorem mkasc_spec {l : List UInt8} {w : World} (hA : ∀ c ∈ l, c.toNat < 128) (hl : l.length < 1099511627776) : Spec Tryz.prog 199 [Str l] w [] (fun _ : Unit => True) (fun _ => .tuple #[.agg ((setA l).map bo).toArray, .bool true]) (fun _ => []) := by
  refine spec_of (n := 21) Tryz.func199 rfl rfl trivial trivial rfl <| s_r <| tk_act rfl <| a_allocL (cs := (List.replicate 256 false).map bo) kR rfl fun b2 => q_a rfl rfl <| s_n <| tk_seq <| s_r <| q_a rfl rfl <| s_n <| tk_block <| tk_R (H1 := []) rfl (congrArg (fun z_ => cel b2 z_ 305) (show (List.replicate 256 false).map bo = (setA (l.take 0)).map bo from rfl)) <| tk_loop (X := Nat) (fun i => i ≤ l.length) (fun i => [(0, Str l), (2, PT b2), (4, IN i)]) (fun i => [cel b2 ((setA (l.take i)).map bo) 305]) (fun i => l.length - i) (0) (Nat.zero_le _) sB ((List.Sublist.refl _)) ?_
  rintro i hI
  try dsimp only at hI ⊢
  refine tk_seq <| s_r <| q_m rfl rfl <| q_m rfl rfl <| s_q rfl (y_lenStr (l := l) rfl rfl) <| s_q rfl (y_lss rfl rfl) <| s_n <| tk_condP rfl (fun ht9 => ?_) (fun ht9 => ?_)
  · refine tk_skip <| tk_then <| tk_seq <| tk_block <| s_r <| q_m rfl rfl <| q_m rfl rfl <| s_q rfl (y_ixT (l := l) (i := i) rfl rfl rfl ⟨rfl, lenP⟩) <| q_a rfl rfl <| s_n <| tk_seq <| s_r <| q_m rfl rfl <| tk_qe (.bool false) rfl rfl rfl (y_geq rfl rfl) (bool_f (by have := hA _ (getD_mem (d := 0) (l := l) (i := i) oM); omega)) <| s_n <| tk_cond0 rfl <| tk_skip <| tk_then <| tk_region <| q_m rfl rfl <| s_q rfl (y_ixA01 256 (i := (l.getD i 0).toNat) rfl rfl kR (by have := UInt8.toNat_lt (l.getD i 0); omega)) <| tk_act rfl <| a_storeE (H1 := []) (o := (l.getD i 0).toNat) (v := .bool true) (cs' := ((setA (l.take i)).set ((l.getD i 0).toNat) true).map bo) rfl rfl kR rfl rfl (by rw [List.length_map, setA_len]; exact UInt8.toNat_lt _) (sM) <| tk_nil ?_; exact tk_in_normal <| tk_then <| tk_region <| q_m rfl rfl <| s_q rfl (y_addN (a := i) (b := 1) rfl rfl oM) <| q_a rfl rfl <| tk_nil <| tk_R (H1 := []) rfl (congrArg (fun z_ => cel b2 z_ 305) (show ((setA (l.take i)).set ((l.getD i 0).toNat) true).map bo = (setA (l.take (i + 1))).map bo from by rw [setA_step oM])) <| tk_again (i + 1) oM oM sB (List.Sublist.refl _)
  · exact tk_exit <| tk_then_exit <| tk_then_exit <| tk_in_hit <| tk_then <| s_r <| tk_R (H1 := []) rfl (congrArg (fun z_ => cel b2 z_ 305) (show (setA (l.take i)).map bo = (setA l).map bo from by rw [show i = l.length by omega, List.take_length])) <| s_q rfl (y_loadA 256 rfl kR (by rw [List.length_map, setA_len]) (hcw (.head _))) <| tk_act rfl <| a_storeW (H1 := []) (vs := (setA l).map bo) 256 rfl rfl kR rfl ⟨(by rw [List.length_map, setA_len]), (by rw [List.length_map, setA_len])⟩ oneBo <| q_a rfl rfl <| s_n <| tk_retc <| tk_ret (()) (trivial) (.inl rfl) (rct (vs := (setA l).map bo) rfl rfl (by rw [List.length_map, setA_len]; kernel_rfl) (hcw (.head _)) rfl) (List.nil_sublist _)
theorem asc_spec {cs : List UInt8} {x : UInt8} {b : Nat} {w : World} (hh : Pre w [cel b ((setA cs).map bo) 305]) : Spec Tryz.prog 225 [PT b, B x] w [cel b ((setA cs).map bo) 305] (fun _ : Unit => True) (fun _ => .bool (cs.contains x)) (fun _ => [cel b ((setA cs).map bo) 305]) := by
  exact spec_of (n := 10) Tryz.func225 rfl rfl hh.1 hh.2 rfl <| s_r <| q_a rfl rfl <| s_n <| s_r <| q_m rfl rfl <| q_m rfl rfl <| s_q rfl (y_nilCheck rfl) <| s_q rfl (y_ixA01 256 (i := x.toNat) rfl rfl kR (by have := UInt8.toNat_lt x; omega)) <| tk_qe (.bool (List.contains cs x)) rfl rfl rfl (y_load rfl rfl (hc (o := x.toNat) (.head _) (gM (d := false) (by rw [setA_len]; have := UInt8.toNat_lt x; omega)))) (by rw [setA_get]) <| q_a rfl rfl <| s_n <| tk_retc <| tk_ret (()) (trivial) (.inl rfl) (r1 rfl rfl) (List.Sublist.refl _)
theorem hasp_spec {l m : List UInt8} {w : World} (hl : l.length < 9223372036854775808) (hm : m.length < 9223372036854775808) : Spec Tryz.prog 145 [Str l, Str m] w [] (fun _ : Unit => True) (fun _ => .bool (decide (m.length ≤ l.length ∧ l.take m.length = m))) (fun _ => []) := by
  refine spec_of (n := 18) Tryz.func145 rfl rfl trivial trivial rfl <| s_r <| q_a rfl rfl <| s_n <| s_r <| q_m rfl rfl <| s_q rfl (y_lenStr (l := l) rfl rfl) <| q_m rfl rfl <| s_q rfl (y_lenStr (l := m) rfl rfl) <| tk_qs rfl rfl rfl (y_geq rfl rfl) (fun hs1_4 => ?_) (fun hs1_4 => ?_)
  · exact q_m rfl rfl <| s_g rfl (y_move rfl) <| s_g rfl (y_move rfl) <| s_g rfl (y_lenStr (l := m) rfl rfl) <| s_g rfl (y_cutTh (l := l) (hi := m.length) rfl rfl rfl oM) <| s_g rfl (y_move rfl) <| s_g rfl (y_strEq (l := l.take m.length) (m := m) rfl rfl) <| s_q rfl (y_pick1 rfl rfl) <| q_a rfl rfl <| s_n <| tk_retc <| tk_re 4 (.bool (decide (l.take m.length = m))) (.bool (decide (m.length ≤ l.length ∧ l.take m.length = m))) rfl (congrArg Value.bool (by rw [decide_eq_decide]; exact ⟨fun h => ⟨by omega, h⟩, fun h => h.2⟩)) <| tk_ret (()) (trivial) (.inl rfl) (r1 rfl rfl) (List.Sublist.refl _)
  · exact q_m rfl rfl <| tk_gno rfl rfl rfl <| tk_gno rfl rfl rfl <| tk_gno rfl rfl rfl <| tk_gno rfl rfl rfl <| tk_gno rfl rfl rfl <| tk_gno rfl rfl rfl <| s_q rfl (y_pick0 rfl rfl) <| q_a rfl rfl <| s_n <| tk_retc <| tk_re 4 (.bool false) (.bool (decide (m.length ≤ l.length ∧ l.take m.length = m))) rfl ((bool_f (fun h => absurd h.1 oM)).symm) <| tk_ret (()) (trivial) (.inl rfl) (r1 rfl rfl) (List.Sublist.refl _)
theorem pre_spec {l m : List UInt8} {w : World} (hl : l.length < 9223372036854775808) (hm : m.length < 9223372036854775808) : Spec Tryz.prog 96 [Str l, Str m] w [] (fun _ : Unit => True) (fun _ => .bool (decide (m.length ≤ l.length ∧ l.take m.length = m))) (fun _ => []) := by
  exact spec_of (n := 8) Tryz.func96 rfl rfl trivial trivial rfl <| s_r <| q_a rfl rfl <| s_n <| s_r <| q_m rfl rfl <| q_m rfl rfl <| tk_act rfl <| a_callv [] _ rfl kR rfl (fun w' hw' => hasp_spec (l := l) (m := m) lenP lenP) rfl fun _ _ => q_a rfl rfl <| s_n <| tk_retc <| tk_ret (()) (trivial) (.inl rfl) (r1 rfl rfl) (List.Sublist.refl _)
theorem take_getD {l : List UInt8} {n j : Nat} (h : j < n) : (l.take n).getD j 0 = l.getD j 0 := by
  rw [List.getD_eq_getElem?_getD, List.getElem?_take, if_pos h, List.getD_eq_getElem?_getD]
theorem drop_getD {l : List UInt8} {n j : Nat} : (l.drop n).getD j 0 = l.getD (n + j) 0 := by
  rw [List.getD_eq_getElem?_getD, List.getElem?_drop, List.getD_eq_getElem?_getD]
def endR (cs l : List UInt8) (n : Nat) : Prop := n ≤ l.length ∧ ∀ j, n ≤ j → j < l.length → cs.contains (l.getD j 0) = true
def endL (cs l : List UInt8) (n : Nat) : Prop := n ≤ l.length ∧ ∀ j, j < n → cs.contains (l.getD j 0) = true
theorem trimr_step {cs l : List UInt8} {n : Nat} (h : endR cs l n) (hn : 0 < n) (hc : cs.contains (l.getD (n - 1) 0) = true) : endR cs l (n - 1) :=
  ⟨by have := h.1; omega, fun j h1 h2 => by
    by_cases e : j = n - 1
    · rw [e]; exact hc
    · exact h.2 j oM h2⟩
theorem triml_step {cs l : List UInt8} {n : Nat} (h : endL cs l n) (hn : n < l.length) (hc : cs.contains (l.getD n 0) = true) : endL cs l (n + 1) :=
  ⟨hn, fun j h1 => by
    by_cases e : j = n
    · rw [e]; exact hc
    · exact h.2 j oM⟩
theorem trimr_spec {cs l : List UInt8} {b : Nat} {w : World} (hl : l.length < 9223372036854775808) (hh : Pre w [cel b ((setA cs).map bo) 305]) : Spec Tryz.prog 201 [Str l, PT b] w [cel b ((setA cs).map bo) 305] (fun n : Nat => endR cs l n ∧ (n = 0 ∨ cs.contains (l.getD (n - 1) 0) = false)) (fun n => Str (l.take n)) (fun _ => [cel b ((setA cs).map bo) 305]) := by
  refine spec_of (n := 22) Tryz.func201 rfl rfl hh.1 hh.2 rfl <| s_r <| q_a rfl rfl <| s_n <| tk_seq <| tk_block <| tk_re 0 (Str l) (Str (l.take l.length)) rfl (by rw [List.take_length]) <| tk_loop (X := Nat) (fun n => endR cs l n) (fun n => [(0, Str (l.take n)), (1, PT b), (4, Str [])]) (fun n => [cel b ((setA cs).map bo) 305]) (fun n => n) (l.length) (⟨Nat.le_refl _, fun j h1 h2 => absurd h2 oM⟩) sB ((List.Sublist.refl _)) ?_
  rintro n hI
  try dsimp only at hI ⊢
  have hnl := hI.1
  have hln : (l.take n).length = n := by rw [List.length_take]; omega
  refine tk_seq <| s_r <| q_m rfl rfl <| s_q rfl (y_lenStr (l := l.take n) rfl rfl) <| s_q rfl (y_gtr rfl rfl) <| s_n <| tk_condP rfl (fun ht7 => ?_) (fun ht7 => ?_)
  · refine tk_skip <| tk_then <| tk_block <| tk_seq <| s_r <| q_m rfl rfl <| q_m rfl rfl <| q_m rfl rfl <| s_q rfl (y_lenStr (l := l.take n) rfl rfl) <| s_q rfl (y_subN (a := (l.take n).length) (b := 1) rfl rfl oM) <| s_q rfl (y_ixT (l := l.take n) (i := ((l.take n).length) - 1) rfl rfl rfl ⟨rfl, lenP⟩) <| tk_re 13 (B ((l.take n).getD (((l.take n).length) - 1) 0)) (B (l.getD (n - 1) 0)) rfl (by rw [hln, take_getD oM]) <| tk_act rfl <| a_callv [] _ rfl kR rfl (fun w' hw' => asc_spec (b := b) (cs := cs) (x := l.getD (n - 1) 0) (St.pre hw')) rfl fun _ _ => s_q rfl (y_not rfl) <| s_n <| tk_cond rfl (fun ht15 => ?_) (fun ht15 => ?_)
    · exact tk_exit <| tk_then_exit <| tk_in_miss rfl <| tk_then_exit <| tk_in_hit <| tk_then <| s_r <| q_m rfl rfl <| q_a rfl rfl <| s_n <| tk_retc <| tk_ret (n) (⟨hI, .inr (by simpa using ht15)⟩) (.inl rfl) (r1 rfl rfl) (List.Sublist.refl _)
    · exact tk_skip <| tk_then <| tk_region <| q_m rfl rfl <| q_m rfl rfl <| s_q rfl (y_lenStr (l := l.take n) rfl rfl) <| s_q rfl (y_subN (a := (l.take n).length) (b := 1) rfl rfl oM) <| s_q rfl (y_cutTh (l := l.take n) (hi := ((l.take n).length) - 1) rfl rfl rfl oM) <| q_a rfl rfl <| tk_re 0 (Str ((l.take n).take (((l.take n).length) - 1))) (Str (l.take (n - 1))) rfl (by rw [hln, List.take_take, Nat.min_eq_left oM]) <| tk_nil <| tk_in_normal <| tk_again (n - 1) (trimr_step hI oM (by simpa using ht15)) oM sB (List.Sublist.refl _)
  · exact tk_exit <| tk_then_exit <| tk_then_exit <| tk_in_hit <| tk_then <| s_r <| q_m rfl rfl <| q_a rfl rfl <| s_n <| tk_retc <| tk_ret (n) (⟨hI, .inl oM⟩) (.inl rfl) (r1 rfl rfl) (List.Sublist.refl _)
theorem triml_spec {cs l : List UInt8} {b : Nat} {w : World} (hl : l.length < 9223372036854775808) (hh : Pre w [cel b ((setA cs).map bo) 305]) : Spec Tryz.prog 200 [Str l, PT b] w [cel b ((setA cs).map bo) 305] (fun n : Nat => endL cs l n ∧ (n = l.length ∨ cs.contains (l.getD n 0) = false)) (fun n => Str (l.drop n)) (fun _ => [cel b ((setA cs).map bo) 305]) := by
  refine spec_of (n := 16) Tryz.func200 rfl rfl hh.1 hh.2 rfl <| s_r <| q_a rfl rfl <| s_n <| tk_seq <| tk_block <| tk_re 0 (Str l) (Str (l.drop 0)) rfl (by rw [List.drop_zero]) <| tk_loop (X := Nat) (fun n => endL cs l n) (fun n => [(0, Str (l.drop n)), (1, PT b), (4, Str [])]) (fun n => [cel b ((setA cs).map bo) 305]) (fun n => l.length - n) (0) (⟨Nat.zero_le _, fun j h => absurd h oM⟩) sB ((List.Sublist.refl _)) ?_
  rintro n hI
  try dsimp only at hI ⊢
  have hnl := hI.1
  have hln : (l.drop n).length = l.length - n := by rw [List.length_drop]
  refine tk_seq <| s_r <| q_m rfl rfl <| s_q rfl (y_lenStr (l := l.drop n) rfl rfl) <| s_q rfl (y_gtr rfl rfl) <| s_n <| tk_condP rfl (fun ht7 => ?_) (fun ht7 => ?_)
  · refine tk_skip <| tk_then <| tk_block <| tk_seq <| s_r <| q_m rfl rfl <| q_m rfl rfl <| s_q rfl (y_ixT (l := l.drop n) (i := 0) rfl rfl rfl ⟨rfl, lenP⟩) <| tk_re 10 (B ((l.drop n).getD 0 0)) (B (l.getD n 0)) rfl (by rw [drop_getD]; rfl) <| tk_act rfl <| a_callv [] _ rfl kR rfl (fun w' hw' => asc_spec (b := b) (cs := cs) (x := l.getD n 0) (St.pre hw')) rfl fun _ _ => s_q rfl (y_not rfl) <| s_n <| tk_cond rfl (fun ht12 => ?_) (fun ht12 => ?_)
    · exact tk_exit <| tk_then_exit <| tk_in_miss rfl <| tk_then_exit <| tk_in_hit <| tk_then <| s_r <| q_m rfl rfl <| q_a rfl rfl <| s_n <| tk_retc <| tk_ret (n) (⟨hI, .inr (by simpa using ht12)⟩) (.inl rfl) (r1 rfl rfl) (List.Sublist.refl _)
    · exact tk_skip <| tk_then <| tk_region <| q_m rfl rfl <| s_q rfl (y_cutTl (l := l.drop n) (lo := 1) rfl rfl rfl oM) <| tk_re 14 (Str ((l.drop n).drop 1)) (Str (l.drop (n + 1))) rfl (by rw [List.drop_drop]) <| q_a rfl rfl <| tk_nil <| tk_in_normal <| tk_again (n + 1) (triml_step hI oM (by simpa using ht12)) oM sB (List.Sublist.refl _)
  · exact tk_exit <| tk_then_exit <| tk_then_exit <| tk_in_hit <| tk_then <| s_r <| q_m rfl rfl <| q_a rfl rfl <| s_n <| tk_retc <| tk_ret (n) (⟨hI, .inl oM⟩) (.inl rfl) (r1 rfl rfl) (List.Sublist.refl _)
end Go.Proofs.YtkkjfojgjmglpaaGreatDoor
set_option linter.unusedSimpArgs false
set_option linter.unusedVariables false
namespace Go.Proofs.YtkkjfojgjmglpaaGreatDoor
open Go Go.RowKit
set_option maxRecDepth 100000
def signsL : List UInt8 := [97, 98, 99, 100, 101, 102, 103, 104, 105, 106, 107, 108, 109, 110, 111, 112, 113, 114, 115, 116, 117, 118, 119, 120, 121, 122, 48, 49, 50, 51, 52, 53, 54, 55, 56, 57, 45, 47]
theorem signs_eq (c : UInt8) : signsL.contains c = signB c := by
  have h : ∀ n, n < 256 → signsL.contains (UInt8.ofNat n) = signB (UInt8.ofNat n) := by decide +kernel
  have := h c.toNat (UInt8.toNat_lt c)
  rwa [UInt8.ofNat_toNat] at this
theorem all_sign {l : List UInt8} : l.all signB = true ↔ ∀ j, j < l.length → signB (l.getD j 0) = true := by
  rw [List.all_eq_true]
  constructor
  · intro h j hj
    exact h _ (getD_mem hj)
  · intro h x hx
    obtain ⟨j, hj, rfl⟩ := List.mem_iff_getElem.1 hx
    have := h j hj
    rwa [List.getD_eq_getElem?_getD, List.getElem?_eq_getElem hj] at this
theorem trim_nil {l : List UInt8} (h : l = []) : l = [] ↔ l.all signB = true := by subst h; simp
theorem trim_iff {l : List UInt8} {n k : Nat} (h1 : endR signsL l n ∧ (n = 0 ∨ signsL.contains (l.getD (n - 1) 0) = false)) (h2 : endL signsL (l.take n) k ∧ (k = (l.take n).length ∨ signsL.contains ((l.take n).getD k 0) = false)) :
    (l.take n).drop k = [] ↔ l.all signB = true := by
  obtain ⟨⟨hn, hr⟩, hn0⟩ := h1
  obtain ⟨⟨hk, hl⟩, _⟩ := h2
  have hln : (l.take n).length = n := by rw [List.length_take]; omega
  rw [all_sign]
  constructor
  · intro h j hj
    have hkn : n ≤ k := by have := congrArg List.length h; rw [List.length_drop, hln, List.length_nil] at this; omega
    rw [← signs_eq]
    by_cases hjn : j < n
    · have := hl j oM
      rwa [take_getD hjn] at this
    · exact hr j oM hj
  · intro h
    have : n = 0 := Decidable.byContradiction fun hz => by
      have h3 := hn0.resolve_left hz
      have h4 := h (n - 1) oM
      rw [signs_eq, h4] at h3; cases h3
    subst this; simp
theorem trim_spec {l : List UInt8} {w : World} (hl : l.length < 9223372036854775808) : Spec Tryz.prog 169 [Str l, Str [97, 98, 99, 100, 101, 102, 103, 104, 105, 106, 107, 108, 109, 110, 111, 112, 113, 114, 115, 116, 117, 118, 119, 120, 121, 122, 48, 49, 50, 51, 52, 53, 54, 55, 56, 57, 45, 47]] w [] (fun r : List UInt8 => r = [] ↔ l.all signB = true) (fun r => Str r) (fun _ => []) := by
  refine spec_of (n := 43) Tryz.func169 rfl rfl trivial trivial rfl <| s_r <| q_a rfl rfl <| s_n <| tk_seq <| s_r <| q_m rfl rfl <| tk_qs rfl rfl rfl (y_strEq (l := l) (m := []) rfl rfl) (fun hs1_1 => ?_) (fun hs1_1 => ?_)
  · exact q_m rfl rfl <| tk_gno rfl rfl rfl <| tk_gno rfl rfl rfl <| s_q rfl (y_pick1 rfl rfl) <| s_n <| tk_cond1 rfl <| s_r <| q_m rfl rfl <| q_a rfl rfl <| s_n <| tk_retc <| tk_then_ret <| tk_ret (l) (trim_nil (by assumption)) (.inl rfl) (r1 rfl rfl) (List.Sublist.refl _)
  · refine q_m rfl rfl <| s_g rfl (y_move rfl) <| tk_gqe (.bool false) rfl rfl rfl (y_strEq (l := [97, 98, 99, 100, 101, 102, 103, 104, 105, 106, 107, 108, 109, 110, 111, 112, 113, 114, 115, 116, 117, 118, 119, 120, 121, 122, 48, 49, 50, 51, 52, 53, 54, 55, 56, 57, 45, 47]) (m := []) rfl rfl) (bool_f dC) <| s_q rfl (y_pick0 rfl rfl) <| s_n <| tk_cond0 rfl <| tk_skip <| tk_then <| tk_seq <| s_r <| q_m rfl rfl <| tk_qe (I 38) rfl rfl rfl (y_lenStr (l := [97, 98, 99, 100, 101, 102, 103, 104, 105, 106, 107, 108, 109, 110, 111, 112, 113, 114, 115, 116, 117, 118, 119, 120, 121, 122, 48, 49, 50, 51, 52, 53, 54, 55, 56, 57, 45, 47]) rfl rfl) (rfl) <| s_q rfl ((y_eql rfl rfl).cast (bool_f dC)) <| q_m rfl rfl <| tk_gno rfl rfl rfl <| tk_gno rfl rfl rfl <| tk_gno rfl rfl rfl <| s_q rfl (y_pick0 rfl rfl) <| s_n <| tk_cond0 rfl <| tk_skip <| tk_then <| tk_seq <| s_r ?_; refine q_m rfl rfl <| tk_act rfl <| a_callv [] _ rfl kR rfl (fun w' hw' => mkasc_spec (l := [97, 98, 99, 100, 101, 102, 103, 104, 105, 106, 107, 108, 109, 110, 111, 112, 113, 114, 115, 116, 117, 118, 119, 120, 121, 122, 48, 49, 50, 51, 52, 53, 54, 55, 56, 57, 45, 47]) dC lenP) rfl fun _ _ => q_m rfl rfl <| s_q rfl (y_extract rfl rfl) <| s_q rfl (y_extract rfl rfl) <| tk_act rfl <| a_allocL (cs := (List.replicate 256 false).map bo) kR rfl fun b5 => tk_act rfl <| a_storeW (H1 := []) (vs := (setA [97, 98, 99, 100, 101, 102, 103, 104, 105, 106, 107, 108, 109, 110, 111, 112, 113, 114, 115, 116, 117, 118, 119, 120, 121, 122, 48, 49, 50, 51, 52, 53, 54, 55, 56, 57, 45, 47]).map bo) 256 rfl rfl kR rfl ⟨(by first | (rw [List.length_map, setA_len]; done) | (rw [List.length_map]; rfl)), (by first | (rw [List.length_map, setA_len]; done) | (rw [List.length_map]; rfl))⟩ oneBo <| q_a rfl rfl <| s_n <| s_r <| q_m rfl rfl <| s_n <| tk_cond1 rfl <| s_r <| q_m rfl rfl <| tk_act rfl <| a_callv [] _ rfl kR rfl (fun w' hw' => trimr_spec (b := b5) (cs := [97, 98, 99, 100, 101, 102, 103, 104, 105, 106, 107, 108, 109, 110, 111, 112, 113, 114, 115, 116, 117, 118, 119, 120, 121, 122, 48, 49, 50, 51, 52, 53, 54, 55, 56, 57, 45, 47]) (l := l) lenP (St.pre hw')) rfl fun n36 hx36 => tk_act rfl <| a_callv [] _ rfl kR rfl (fun w' hw' => triml_spec (b := b5) (cs := [97, 98, 99, 100, 101, 102, 103, 104, 105, 106, 107, 108, 109, 110, 111, 112, 113, 114, 115, 116, 117, 118, 119, 120, 121, 122, 48, 49, 50, 51, 52, 53, 54, 55, 56, 57, 45, 47]) (l := l.take n36) lenP (St.pre hw')) rfl fun n37 hx37 => q_a rfl rfl <| s_n ?_; exact tk_retc <| tk_then_ret <| tk_ret ((l.take n36).drop n37) (trim_iff hx36 hx37) (.inl rfl) (r1 rfl rfl) (List.nil_sublist _)
theorem isname_spec {l : List UInt8} {w : World} (hl : l.length < 9223372036854775808) : Spec Tryz.prog 132 [Str l] w [] (fun _ : Unit => True) (fun _ => .bool (decide (isNm l))) (fun _ => []) := by
  refine spec_of (n := 15) Tryz.func132 rfl rfl trivial trivial rfl <| s_r <| q_a rfl rfl <| s_n <| s_r <| q_m rfl rfl <| tk_qs rfl rfl rfl (y_strNe (l := l) (m := []) rfl rfl) (fun hs1_1 => ?_) (fun hs1_1 => ?_)
  · refine q_m rfl rfl <| s_g rfl (y_move rfl) <| s_g rfl (y_lenStr (l := l) rfl rfl) <| s_g rfl (y_leq rfl rfl) <| tk_qs rfl rfl rfl (y_pick1 rfl rfl) (fun hs1_6 => ?_) (fun hs1_6 => ?_)
    · exact q_m rfl rfl <| s_g rfl (y_move rfl) <| tk_gact rfl <| a_callv [] _ rfl kR rfl (fun w' hw' => trim_spec (l := l) lenP) rfl fun r12 hx12 => s_g rfl (y_strEq (l := r12) (m := []) rfl rfl) <| s_q rfl (y_pick1 rfl rfl) <| q_a rfl rfl <| s_n <| tk_retc <| tk_re 2 (.bool (decide (r12 = []))) (.bool (decide (isNm l))) rfl (congrArg Value.bool (by rw [decide_eq_decide, hx12]; exact ⟨fun h => ⟨h, by have h0 : ¬ l = [] := (by assumption); have := List.length_pos_iff.2 h0; omega, by omega⟩, fun h => h.1⟩)) <| tk_ret (()) (trivial) (.inl rfl) (r1 rfl rfl) (List.Sublist.refl _)
    · exact q_m rfl rfl <| tk_gno rfl rfl rfl <| tk_gno rfl rfl rfl <| tk_gno rfl rfl rfl <| s_q rfl (y_pick0 rfl rfl) <| q_a rfl rfl <| s_n <| tk_retc <| tk_re 2 (.bool false) (.bool (decide (isNm l))) rfl ((bool_f (fun h => absurd h.2.2 oM)).symm) <| tk_ret (()) (trivial) (.inl rfl) (r1 rfl rfl) (List.Sublist.refl _)
  · exact q_m rfl rfl <| tk_gno rfl rfl rfl <| tk_gno rfl rfl rfl <| tk_gno rfl rfl rfl <| s_q rfl (y_pick0 rfl rfl) <| q_m rfl rfl <| tk_gno rfl rfl rfl <| tk_gno rfl rfl rfl <| tk_gno rfl rfl rfl <| s_q rfl (y_pick0 rfl rfl) <| q_a rfl rfl <| s_n <| tk_retc <| tk_re 2 (.bool false) (.bool (decide (isNm l))) rfl ((bool_f (fun h => by have h0 : l = [] := (by first | assumption | exact Decidable.not_not.1 (by assumption)); rw [h0] at h; exact absurd h.2.1 dC)).symm) <| tk_ret (()) (trivial) (.inl rfl) (r1 rfl rfl) (List.Sublist.refl _)
end Go.Proofs.YtkkjfojgjmglpaaGreatDoor
set_option linter.unusedSimpArgs false
set_option linter.unusedVariables false
namespace Go.Proofs.YtkkjfojgjmglpaaGreatDoor
open Go Go.RowKit
set_option maxRecDepth 100000
theorem take_snoc {α : Type} {l : List α} {d : α} {i : Nat} (h : i < l.length) : l.take i ++ [l.getD i d] = l.take (i + 1) := by
  have e : l.getD i d = l[i] := by rw [List.getD_eq_getElem?_getD, List.getElem?_eq_getElem h]; rfl
  rw [e, List.take_add_one, List.getElem?_eq_getElem h]; rfl
end Go.Proofs.YtkkjfojgjmglpaaGreatDoor
set_option linter.unusedSimpArgs false
set_option linter.unusedVariables false
namespace Go.Proofs.YtkkjfojgjmglpaaGreatDoor
open Go Go.RowKit
set_option maxRecDepth 100000
end Go.Proofs.YtkkjfojgjmglpaaGreatDoor
set_option linter.unusedSimpArgs false
set_option linter.unusedVariables false
namespace Go.Proofs.YtkkjfojgjmglpaaGreatDoor
open Go Go.RowKit
set_option maxRecDepth 100000
theorem itS_cast {r b : Nat} {kv vis vis' : KV} (h : vis = vis') : itS r b kv vis = itS r b kv vis' := by rw [h]
theorem tk_bagO {c : Cx} {L : Sl} {H : List Res} {K : Act → World → Prop} {T : TypeId} {l : List Ob} (hm : bag (l.map (obR T)) ∈ H) (h : (∀ o ∈ l, ∃ w0, RdS w0 o.v (o.b.map B)) → TK c K L H) : TK c K L H :=
  tk_form (fun w hw o ho => ⟨w, own_rdS (e := T) (Hs.mem (hw.mem hm) (obR T o) (List.mem_map.2 ⟨o, ho, rfl⟩))⟩) h
theorem ro_bagO {c : Cx} {T : TypeId} {w : World} {l : List Ob} {H0 Hr : List Res} {o : Ob} (hw : St c w (H0 ++ Hr)) (hq : bag (l.map (obR T)) ∈ Hr) (ho : o ∈ l) : Ro (Fs H0) w (rd o.v (o.b.map B)) := by
  have hb := hw.mem (r := bag (l.map (obR T))) (by simp [hq])
  have hm : obR T o ∈ l.map (obR T) := List.mem_map.2 ⟨o, ho, rfl⟩
  have h1 : (obR T o).holds w := Hs.mem hb _ hm
  refine ⟨own_rdS (e := T) h1, fun j hk h0 => (Dj_append.1 hw.dj).2.2 j h0 (Fs.of_mem hq (show Fs (l.map (obR T)) j from Fs.of_mem hm ?_))⟩
  rcases own_cells (e := T) h1 with ⟨_, _, h⟩ | ⟨g, o', cap, h, _⟩
  · exact (hk.1 h).elim
  · show o.v.ownBlock = some j
    have h2 := hk.2
    rw [h] at h2 ⊢
    rw [← h2]; rfl
theorem spend_spec {s : Sh} {sb mb : Nat} {w : World} (hok : ShOk s) (hh : Pre w [cel sb ([Value.map (some mb), I (s.left), .bool s.off, I (s.made), I (s.room)]) 192]) : Spec Tryz.prog 180 [.pointer (some ⟨sb, 1, none⟩)] w [cel sb ([Value.map (some mb), I (s.left), .bool s.off, I (s.made), I (s.room)]) 192] (fun _ : Unit => True) (fun _ => IN s.spend.2) (fun _ => [cel sb ([Value.map (some mb), I (s.spend.1.left), .bool s.spend.1.off, I (s.spend.1.made), I (s.spend.1.room)]) 192]) := by
  refine spec_of (n := 36) Tryz.func180 rfl rfl hh.1 hh.2 rfl ?_
  obtain ⟨_, ⟨hl1, hl2⟩, ⟨hm1, hm2⟩, _, _, _, _, _⟩ := hok
  refine s_r <| q_a rfl rfl <| s_n <| tk_seq <| s_r <| q_m rfl rfl <| s_q rfl (y_nilCheck rfl) <| s_q rfl (y_fldN (o := 1) 1 rfl kR) <| tk_qe (.bool (decide (s.off = true))) rfl rfl rfl (y_load rfl rfl (hc (o := 2) (.head _) (rfl))) sI <| tk_qs rfl rfl rfl (y_move rfl) (fun hs1_4 => ?_) (fun hs1_4 => ?_)
  · exact tk_gno rfl rfl rfl <| tk_gno rfl rfl rfl <| tk_gno rfl rfl rfl <| tk_gno rfl rfl rfl <| tk_gno rfl rfl rfl <| s_q rfl (y_pick1 rfl rfl) <| s_n <| tk_cond1 rfl <| s_r <| q_m rfl rfl <| s_q rfl (y_nilCheck rfl) <| s_q rfl (y_fldN (o := 1) 1 rfl kR) <| tk_act rfl <| a_storeE (H1 := []) (o := 2) (v := .bool true) (cs' := [Value.map (some mb), I (s.left), .bool true, I (s.made), I (s.room)]) rfl rfl kR rfl rfl sW (rfl) <| s_n <| s_r <| q_a rfl rfl <| s_n <| tk_retc <| tk_then_ret <| tk_R (H1 := []) rfl (congrArg (fun z_ => cel sb z_ 192) (show [Value.map (some mb), I (s.left), .bool true, I (s.made), I (s.room)] = [Value.map (some mb), I (s.spend.1.left), .bool s.spend.1.off, I (s.spend.1.made), I (s.spend.1.room)] from by rw [spend_off (.inl hs1_4)])) <| tk_re 2 (I 9) (IN s.spend.2) rfl (by rw [spend_off (.inl hs1_4)]; rfl) <| tk_ret (()) (trivial) (.inl rfl) (r1 rfl rfl) (List.Sublist.refl _)
  · refine s_g rfl (y_move rfl) <| s_g rfl (y_nilCheck rfl) <| s_g rfl (y_fld0 (o := 1) rfl kR) <| s_g rfl (y_load rfl rfl (hc (o := 1) (.head _) (rfl))) <| s_g rfl (y_eql rfl rfl) <| s_q rfl (y_pick0 rfl rfl) <| s_n <| tk_condP rfl (fun ht13 => ?_) (fun ht13 => ?_)
    · exact s_r <| q_m rfl rfl <| s_q rfl (y_nilCheck rfl) <| s_q rfl (y_fldN (o := 1) 1 rfl kR) <| tk_act rfl <| a_storeE (H1 := []) (o := 2) (v := .bool true) (cs' := [Value.map (some mb), I (s.left), .bool true, I (s.made), I (s.room)]) rfl rfl kR rfl rfl sW (rfl) <| s_n <| s_r <| q_a rfl rfl <| s_n <| tk_retc <| tk_then_ret <| tk_R (H1 := []) rfl (congrArg (fun z_ => cel sb z_ 192) (show [Value.map (some mb), I (s.left), .bool true, I (s.made), I (s.room)] = [Value.map (some mb), I (s.spend.1.left), .bool s.spend.1.off, I (s.spend.1.made), I (s.spend.1.room)] from by rw [spend_off (.inr ht13)])) <| tk_re 2 (I 9) (IN s.spend.2) rfl (by rw [spend_off (.inr ht13)]; rfl) <| tk_ret (()) (trivial) (.inl rfl) (r1 rfl rfl) (List.Sublist.refl _)
    · refine tk_skip <| tk_then <| tk_seq <| s_r <| q_m rfl rfl <| s_q rfl (y_nilCheck rfl) <| s_q rfl (y_fld0 (o := 1) rfl kR) <| s_q rfl (y_load rfl rfl (hc (o := 1) (.head _) (rfl))) <| s_q rfl (y_gtr rfl rfl) <| s_n <| tk_condP rfl (fun ht21 => ?_) (fun ht21 => ?_)
      · refine tk_region <| q_m rfl rfl <| s_q rfl (y_nilCheck rfl) <| s_q rfl (y_fld0 (o := 1) rfl kR) <| s_q rfl (y_load rfl rfl (hc (o := 1) (.head _) (rfl))) <| s_q rfl (y_subI rfl rfl oM) <| s_q rfl (y_nilCheck rfl) <| s_q rfl (y_fld0 (o := 1) rfl kR) <| tk_act rfl <| a_storeE (H1 := []) (o := 1) (v := I (s.left - (1 : Int))) (cs' := [Value.map (some mb), I (s.left - (1 : Int)), .bool s.off, I (s.made), I (s.room)]) rfl rfl kR rfl rfl sW (rfl) <| s_n <| s_r <| q_m rfl rfl <| s_q rfl (y_nilCheck rfl) <| s_q rfl (y_fldN (o := 1) 2 rfl kR) <| s_q rfl (y_load rfl rfl (hc (o := 3) (.head _) (rfl))) <| s_q rfl (y_addI rfl rfl oM) <| s_q rfl (y_nilCheck rfl) <| s_q rfl (y_fldN (o := 1) 2 rfl kR) <| tk_act rfl <| a_storeE (H1 := []) (o := 3) (v := I (s.made + (1 : Int))) (cs' := [Value.map (some mb), I (s.left - (1 : Int)), .bool s.off, I (s.made + (1 : Int)), I (s.room)]) rfl rfl kR rfl rfl sW (rfl) <| s_n <| s_r <| q_a rfl rfl ?_; exact s_n <| tk_retc <| tk_R (H1 := []) rfl (congrArg (fun z_ => cel sb z_ 192) (show [Value.map (some mb), I (s.left - (1 : Int)), .bool s.off, I (s.made + (1 : Int)), I (s.room)] = [Value.map (some mb), I (s.spend.1.left), .bool s.spend.1.off, I (s.spend.1.made), I (s.spend.1.room)] from by rw [spend_pos hs1_4 ht21])) <| tk_re 2 (I 0) (IN s.spend.2) rfl (by rw [spend_pos hs1_4 ht21]; rfl) <| tk_ret (()) (trivial) (.inl rfl) (r1 rfl rfl) (List.Sublist.refl _)
      · exact tk_skip <| tk_then <| s_r <| q_m rfl rfl <| s_q rfl (y_nilCheck rfl) <| s_q rfl (y_fldN (o := 1) 2 rfl kR) <| s_q rfl (y_load rfl rfl (hc (o := 3) (.head _) (rfl))) <| s_q rfl (y_addI rfl rfl oM) <| s_q rfl (y_nilCheck rfl) <| s_q rfl (y_fldN (o := 1) 2 rfl kR) <| tk_act rfl <| a_storeE (H1 := []) (o := 3) (v := I (s.made + (1 : Int))) (cs' := [Value.map (some mb), I (s.left), .bool s.off, I (s.made + (1 : Int)), I (s.room)]) rfl rfl kR rfl rfl sW (rfl) <| s_n <| s_r <| q_a rfl rfl <| s_n <| tk_retc <| tk_R (H1 := []) rfl (congrArg (fun z_ => cel sb z_ 192) (show [Value.map (some mb), I (s.left), .bool s.off, I (s.made + (1 : Int)), I (s.room)] = [Value.map (some mb), I (s.spend.1.left), .bool s.spend.1.off, I (s.spend.1.made), I (s.spend.1.room)] from by rw [spend_neg hs1_4 ht13 ht21])) <| tk_re 2 (I 0) (IN s.spend.2) rfl (by rw [spend_neg hs1_4 ht13 ht21]; rfl) <| tk_ret (()) (trivial) (.inl rfl) (r1 rfl rfl) (List.Sublist.refl _)
theorem used_spec {s : Sh} {sb mb : Nat} {w : World} (hok : ShOk s) (hh : Pre w [cel sb ([Value.map (some mb), I (s.left), .bool s.off, I (s.made), I (s.room)]) 192, mapS mb (kvO s.obs), bag (s.obs.map (obR 5))]) : Spec Tryz.prog 172 [PT sb] w [cel sb ([Value.map (some mb), I (s.left), .bool s.off, I (s.made), I (s.room)]) 192, mapS mb (kvO s.obs), bag (s.obs.map (obR 5))] (fun _ : Unit => True) (fun _ => IN (sumO s.obs)) (fun _ => [cel sb ([Value.map (some mb), I (s.left), .bool s.off, I (s.made), I (s.room)]) 192, mapS mb (kvO s.obs), bag (s.obs.map (obR 5))]) := by
  refine spec_of (n := 24) Tryz.func172 rfl rfl hh.1 hh.2 rfl ?_
  have hsum := hok.sum
  refine tk_bagO (mm 2 rfl) fun hbo => s_r <| q_a rfl rfl <| s_n <| s_r <| q_a rfl rfl <| s_n <| tk_seq <| s_r <| q_m rfl rfl <| s_q rfl (y_pnnil rfl rfl rfl) <| s_n <| tk_cond1 rfl <| s_r <| q_m rfl rfl <| s_q rfl (y_nilCheck rfl) <| s_q rfl (y_fld0 (o := 0) rfl kR) <| s_q rfl (y_fld0 (o := 0) rfl kR) <| s_q rfl (y_load rfl rfl (hc (o := 0) (.head _) (rfl))) <| tk_act rfl <| a_rangeS (H1 := [_]) (b := mb) (kv := (kvO s.obs)) rfl Tryz.underlying186 rfl rfl fun r13 => s_n <| tk_block <| tk_R (H1 := [_]) rfl (show itS r13 mb (kvO s.obs) [] = itS r13 mb (kvO s.obs) (kvO []) from rfl) ?_; refine tk_re 3 (I 0) (I ((sumO [] : Nat) : Int)) rfl (rfl) <| tk_loop (X := List Ob) (fun vs => VO s.obs vs) (fun vs => [(2, I 0), (3, IN (sumO vs)), (13, PT r13)]) (fun vs => [cel sb ([Value.map (some mb), I (s.left), .bool s.off, I (s.made), I (s.room)]) 192, itS r13 mb (kvO s.obs) (kvO vs), bag (s.obs.map (obR 5))]) (fun vs => s.obs.length - vs.length) ([]) (vo_0) sB ((List.Sublist.refl _)) ?_
  rintro vs hI
  try dsimp only at hI ⊢
  refine s_r <| tk_act rfl <| a_nextS (H1 := [_]) (kv := kvO s.obs) (vis := kvO vs) rfl rfl rfl (fun hv14 => ?_) (fun p14 rest14 hv14 => ?_)
  · exact s_q rfl (y_extract rfl rfl) <| s_n <| tk_seq <| tk_cond0 rfl <| tk_exit <| tk_then_exit <| tk_then_exit <| tk_in_hit <| tk_then <| s_r <| tk_ps [1] rfl <| tk_itS <| q_m rfl rfl <| q_a rfl rfl <| s_n <| tk_retc <| tk_re 2 (IN (sumO vs)) (IN (sumO s.obs)) rfl (by rw [sumO_perm (vo_end hI hv14)]) <| tk_ps [2, 1, 2] rfl <| tk_ret (()) (trivial) (.inl rfl) (r1 rfl rfl) (List.Sublist.refl _)
  · obtain ⟨o, ho, rfl, hvo⟩ := vo_step hI hv14
    have hsl := sumO_le hvo
    rw [sumO_snoc] at hsl
    refine tk_R (H1 := [_]) rfl (show itS r13 mb (kvO s.obs) (kvO vs ++ [(o.name, obV o)]) = itS r13 mb (kvO s.obs) (kvO (vs ++ [o])) from itS_cast (by rw [kvO_app]; rfl)) <| s_q rfl (y_extract rfl rfl) <| s_n <| tk_seq <| tk_cond1 rfl <| tk_skip <| tk_then <| tk_block <| s_r <| s_q rfl (y_entryS (p := (o.name, obV o)) (vis := kvO vs) rfl (fun w hw => by have h := hw.mem (mm 1 rfl); rw [kvO_app] at h; exact h)) <| s_q rfl (y_extract rfl rfl) <| tk_act rfl <| a_allocL (cs := [Value.slice none 0 0, .bool false]) kR rfl fun b5 => tk_act rfl <| a_storeW (H1 := []) (vs := [o.v, .bool o.sure]) 2 rfl rfl kR rfl ⟨lenP, lenP⟩ (List.forall_mem_cons.2 ⟨(RdS.one (hbo _ ho).choose_spec), (List.forall_mem_cons.2 ⟨rfl, (fun _ h => nomatch h)⟩)⟩) <| s_n <| tk_region <| q_m rfl rfl <| s_q rfl (y_fld0 (o := 0) rfl kR) <| s_q rfl (y_load rfl rfl (hc (o := 0) (.head _) (rfl))) <| s_q rfl (y_lenRN (n' := o.b.length) rfl (hbo _ ho).choose_spec rfl (by first | rfl | (rw [List.length_map]; omega) | simp)) <| s_q rfl (y_addN (a := sumO vs) (b := o.b.length) rfl rfl oM) <| q_a rfl rfl <| tk_nil ?_; exact tk_in_normal <| tk_re 3 (I (((sumO vs) + o.b.length : Nat) : Int)) (I ((sumO (vs ++ [o]) : Nat) : Int)) rfl (by rw [sumO_snoc]) <| tk_again (vs ++ [o]) (hvo) (by have := hvo; obtain ⟨rr, hr⟩ := this; have := hr.length_eq; simp only [List.length_append, List.length_cons, List.length_nil] at this ⊢; omega) sB (.cons _ (List.Sublist.refl _))
theorem look_spec {s : Sh} {sb mb : Nat} {w : World} (hh : Pre w [cel sb ([Value.map (some mb), I (s.left), .bool s.off, I (s.made), I (s.room)]) 192]) : Spec Tryz.prog 92 [PT sb] w [cel sb ([Value.map (some mb), I (s.left), .bool s.off, I (s.made), I (s.room)]) 192] (fun _ : Unit => True) (fun _ => I (((if s.off = true then 9 else 0 : Nat) : Nat) : Int)) (fun _ => [cel sb ([Value.map (some mb), I (s.left), .bool s.off, I (s.made), I (s.room)]) 192]) := by
  refine spec_of (n := 10) Tryz.func92 rfl rfl hh.1 hh.2 rfl <| s_r <| q_a rfl rfl <| s_n <| tk_seq <| s_r <| q_m rfl rfl <| s_q rfl (y_pnil rfl rfl rfl) <| s_n <| tk_cond0 rfl <| tk_skip <| tk_then <| tk_seq <| s_r <| q_m rfl rfl <| s_q rfl (y_nilCheck rfl) <| s_q rfl (y_fldN (o := 0) 1 rfl kR) <| s_q rfl (y_fldN (o := 1) 1 rfl kR) <| tk_qe (.bool (decide (s.off = true))) rfl rfl rfl (y_load rfl rfl (hc (o := 2) (.head _) (rfl))) sI <| s_n <| tk_condP rfl (fun ht9 => ?_) (fun ht9 => ?_)
  · exact s_r <| q_a rfl rfl <| s_n <| tk_retc <| tk_then_ret <| tk_re 2 (I 9) (I (((if s.off = true then 9 else 0) : Nat) : Int)) rfl (by rw [if_pos ht9]; rfl) <| tk_ret (()) (trivial) (.inl rfl) (r1 rfl rfl) (List.Sublist.refl _)
  · exact tk_skip <| tk_then <| s_r <| q_a rfl rfl <| s_n <| tk_retc <| tk_re 2 (I 0) (I (((if s.off = true then 9 else 0) : Nat) : Int)) rfl (by rw [if_neg ht9]; rfl) <| tk_ret (()) (trivial) (.inl rfl) (r1 rfl rfl) (List.Sublist.refl _)
end Go.Proofs.YtkkjfojgjmglpaaGreatDoor
set_option linter.unusedSimpArgs false
set_option linter.unusedVariables false
namespace Go.Proofs.YtkkjfojgjmglpaaGreatDoor
open Go Go.RowKit
set_option maxRecDepth 100000
theorem put1_spec {s : Sh} {sb mb c0 c1 c2 : Nat} {vv : Value} {nm b : List UInt8} {w : World} (hok : ShOk s) (hnm : nm.length < 9223372036854775808) (hbl : b.length < 4611686018427387904) (hh : Pre w [cel sb ([Value.map (some mb), I (s.left), .bool s.off, I (s.made), I (s.room)]) 192, mapS mb (kvO s.obs), bag (s.obs.map (obR 5)), cel c0 ([PT sb]) 72, cel c1 ([Str nm]) 9, cel c2 ([vv]) 42, ownB vv b 5]) : Spec Tryz.prog 171 [PT c0, PT c1, PT c2] w [cel sb ([Value.map (some mb), I (s.left), .bool s.off, I (s.made), I (s.room)]) 192, mapS mb (kvO s.obs), bag (s.obs.map (obR 5)), cel c0 ([PT sb]) 72, cel c1 ([Str nm]) 9, cel c2 ([vv]) 42, ownB vv b 5] (fun _ : Unit => True) (fun _ => IN (putC s nm b)) (fun _ => [cel sb ([Value.map (some mb), I (s.left), .bool s.off, I (s.made), I (s.room)]) 192, mapS mb (kvO s.obs), bag (s.obs.map (obR 5)), cel c0 ([PT sb]) 72, cel c1 ([Str nm]) 9, cel c2 ([vv]) 42, ownB vv b 5]) := by
  refine spec_of (n := 46) Tryz.func171 rfl rfl hh.1 hh.2 rfl ?_
  have hsum := hok.sum
  have hrm := hok.room
  refine tk_bagO (mm 2 rfl) fun hbo => ?_
  have hlk := lk_one hbo
  refine tk_own1 (mm 6 rfl) fun hfv => s_r <| q_a rfl rfl <| s_n <| tk_seq <| tk_drawH [cel sb ([Value.map (some mb), I (s.left), .bool s.off, I (s.made), I (s.room)]) 192, mapS mb (kvO s.obs), bag (s.obs.map (obR 5)), cel c0 ([PT sb]) 72, cel c1 ([Str nm]) 9, cel c2 ([vv]) 42, ownB vv b 5] [] kR <| s_l 0 rfl (fun _ h => h) (y_load rfl rfl (hc (o := 0) (mm 3 rfl) (rfl))) <| s_x 1 rfl (y_nilCheck rfl) <| s_x 2 rfl (y_fld0 (o := 0) rfl kR) <| s_x 3 rfl (y_fld0 (o := 0) rfl kR) <| s_l 4 rfl (fun _ h => h) (y_load rfl rfl (hc (o := 0) (.head _) (rfl))) <| s_l 5 rfl (fun _ h => h) (y_load rfl rfl (hc (o := 0) (mm 4 rfl) (rfl))) <| s_l 6 rfl (fun _ h => h) ((y_getSok (b := mb) (kv := (kvO s.obs)) (k := nm) (zv := .agg [Value.slice none 0 0, .bool false].toArray) rfl rfl Tryz.underlying186 Tryz.underlying9 (fun _ => kR) (fun w hw => hw.mem (mm 1 rfl))).cast (kvO_ok)) <| s_x 7 rfl (y_move rfl) <| s_x 8 rfl (y_extract rfl rfl) <| s_x 9 rfl (y_extract rfl rfl) <| tx_a 10 rfl kR rfl <| a_allocL (cs := [Value.slice none 0 0, .bool false]) kR rfl fun b4 => tk_S (fun _ h => kD 1 rfl h) <| tx_a 11 rfl kR rfl <| a_storeW (H1 := []) (vs := [(lkO s.obs nm).v, .bool ((lkO s.obs nm).sure)]) 2 rfl rfl kR rfl ⟨lenP, lenP⟩ (List.forall_mem_cons.2 ⟨(hlk _), (List.forall_mem_cons.2 ⟨rfl, (fun _ h => nomatch h)⟩)⟩) <| tk_S (fun _ h => kD 1 rfl h) <| s_x 12 rfl (y_assign rfl) <| tx_done kR ?_; refine tk_then <| tk_seq <| tk_block <| s_r <| s_q rfl (y_load rfl rfl (hc (o := 0) (mm 5 rfl) (rfl))) <| tk_act rfl <| a_callv [] _ rfl kR rfl (fun w' hw' => isname_spec (l := nm) lenP) rfl fun _ _ => s_q rfl ((y_not rfl).cast (notdec _)) <| q_a rfl rfl <| s_n <| tk_condP rfl (fun ht16 => ?_) (fun ht16 => ?_)
  · exact s_r <| q_a rfl rfl <| s_n <| tk_retc <| tk_in_ret <| tk_then_ret <| tk_re 3 (I 5) (IN (putC s nm b)) rfl (by rw [putC, if_pos ht16]; rfl) <| tk_ret (()) (trivial) (.inl rfl) (r1 rfl rfl) (.cons _ (List.Sublist.refl _))
  · refine s_r <| q_m rfl rfl <| q_a rfl rfl <| s_n <| tk_condP rfl (fun ht20 => ?_) (fun ht20 => ?_)
    · exact s_r <| q_a rfl rfl <| s_n <| tk_retc <| tk_in_ret <| tk_then_ret <| tk_re 3 (I 7) (IN (putC s nm b)) rfl (by rw [putC, if_neg ht16, if_pos ht20]; rfl) <| tk_ret (()) (trivial) (.inl rfl) (r1 rfl rfl) (.cons _ (List.Sublist.refl _))
    · refine s_r <| s_q rfl (y_load rfl rfl (hc (o := 0) (mm 6 rfl) (rfl))) <| s_q rfl (y_lenRN (n' := b.length) rfl hfv.choose_spec rfl (by first | rfl | (rw [List.length_map]; omega) | simp)) <| s_q rfl (y_gtr rfl rfl) <| q_a rfl rfl <| s_n <| tk_condP rfl (fun ht22 => ?_) (fun ht22 => ?_)
      · exact s_r <| q_a rfl rfl <| s_n <| tk_retc <| tk_in_ret <| tk_then_ret <| tk_re 3 (I 4) (IN (putC s nm b)) rfl (by rw [putC, if_neg ht16, if_neg ht20, if_pos oM]; rfl) <| tk_ret (()) (trivial) (.inl rfl) (r1 rfl rfl) (.cons _ (List.Sublist.refl _))
      · refine tk_seq <| tk_drawH [cel b4 ([(lkO s.obs nm).v, .bool ((lkO s.obs nm).sure)]) 198, cel sb ([Value.map (some mb), I (s.left), .bool s.off, I (s.made), I (s.room)]) 192, mapS mb (kvO s.obs), bag (s.obs.map (obR 5)), cel c0 ([PT sb]) 72, cel c1 ([Str nm]) 9, cel c2 ([vv]) 42, ownB vv b 5] [] kR <| s_l 0 rfl (fun _ h => h) (y_load rfl rfl (hc (o := 0) (mm 6 rfl) (rfl))) <| s_x 1 rfl (y_lenRN (n' := b.length) rfl hfv.choose_spec rfl (by first | rfl | (rw [List.length_map]; omega) | simp)) <| s_l 2 rfl (fun _ h => h) (y_load rfl rfl (hc (o := 0) (mm 4 rfl) (rfl))) <| s_x 3 rfl (y_nilCheck rfl) <| s_x 4 rfl (y_fldN (o := 0) 4 rfl kR) <| s_l 5 rfl (fun _ h => h) (y_load rfl rfl (hc (o := 4) (mm 1 rfl) (rfl))) <| s_l 6 rfl (fun _ h => h) (y_load rfl rfl (hc (o := 0) (mm 4 rfl) (rfl))) <| tx_a 7 rfl kR rfl <| tk_ps [3, 3, 3] rfl <| a_callv [] _ rfl kR rfl (fun w' hw' => used_spec (s := s) (sb := sb) (mb := mb) hok (St.pre hw')) rfl fun _ _ => tk_S (fun _ h => ((((((((h.perm (pk 7 rfl)).perm (pk 7 rfl)).perm (pk 7 rfl)).perm (pk 7 rfl)).perm (pk 6 rfl)).perm (pk 6 rfl)).perm (pk 6 rfl)).perm (pk 7 rfl)).sub (List.Sublist.refl _)) <| s_x 8 rfl (y_subI rfl rfl oM) ?_
        by_cases hs8_9 : (s.room - ((sumO s.obs : Nat) : Int)) < ((b.length : Nat) : Int)
        · exact s_x 9 rfl ((y_gtr rfl rfl).cast (v := _) (u := .bool true) (bool_t hs8_9)) <| s_x 10 rfl (y_move rfl) <| tx_no 11 rfl kR rfl rfl rfl (fun _ _ _ h => h) <| tx_no 12 rfl kR rfl rfl rfl (fun _ _ _ h => h) <| tx_no 13 rfl kR rfl rfl rfl (fun _ _ _ h => h) <| tx_no 14 rfl kR rfl rfl rfl (fun _ _ _ h => h) <| tx_no 15 rfl kR rfl rfl rfl (fun _ _ _ h => h) <| tx_no 16 rfl kR rfl rfl rfl (fun _ _ _ h => h) <| tx_no 17 rfl kR rfl rfl rfl (fun _ _ _ h => h) <| s_x 18 rfl (y_pick1 rfl rfl) <| s_x 19 rfl (y_assign rfl) <| tx_done kR <| tk_then <| tk_cond1 rfl <| s_r <| q_a rfl rfl <| s_n <| tk_retc <| tk_in_ret <| tk_then_ret <| tk_re 3 (I 8) (IN (putC s nm b)) rfl (by rw [putC, if_neg ht16, if_neg ht20, if_neg oM, if_pos (.inl hs8_9)]; rfl) <| tk_ret (()) (trivial) (.inl rfl) (r1 rfl rfl) (.cons_cons _ (.cons_cons _ (.cons_cons _ (.cons _ (List.Sublist.refl _)))))
        · refine s_x 9 rfl ((y_gtr rfl rfl).cast (v := _) (u := .bool false) (bool_f hs8_9)) <| s_x 10 rfl (y_move rfl) <| s_l 11 rfl (fun _ h => ((((((((h.perm (pk 7 rfl)).perm (pk 7 rfl)).perm (pk 7 rfl)).perm (pk 7 rfl)).perm (pk 6 rfl)).perm (pk 6 rfl)).perm (pk 6 rfl)).perm (pk 7 rfl)).sub (List.Sublist.refl _)) (y_load rfl rfl (hc (o := 0) (mm 4 rfl) (rfl))) <| s_x 12 rfl (y_nilCheck rfl) <| s_x 13 rfl (y_fld0 (o := 0) rfl kR) <| s_x 14 rfl (y_fld0 (o := 0) rfl kR) <| s_l 15 rfl (fun _ h => ((((((((h.perm (pk 7 rfl)).perm (pk 7 rfl)).perm (pk 7 rfl)).perm (pk 7 rfl)).perm (pk 6 rfl)).perm (pk 6 rfl)).perm (pk 6 rfl)).perm (pk 7 rfl)).sub (List.Sublist.refl _)) (y_load rfl rfl (hc (o := 0) (mm 1 rfl) (rfl))) <| s_l 16 rfl (fun _ h => ((((((((h.perm (pk 7 rfl)).perm (pk 7 rfl)).perm (pk 7 rfl)).perm (pk 7 rfl)).perm (pk 6 rfl)).perm (pk 6 rfl)).perm (pk 6 rfl)).perm (pk 7 rfl)).sub (List.Sublist.refl _)) (y_lenM (b := mb) (kv := (kvO s.obs)) rfl Tryz.underlying186 (fun w hw => hw.mem (mm 2 rfl))) <| tk_re 43 (I (((kvO s.obs).length : Nat) : Int)) (IN s.obs.length) rfl (by rw [kvO_len]) <| s_x 17 rfl (y_geq rfl rfl) <| s_x 18 rfl (y_pick0 rfl rfl) <| s_x 19 rfl (y_assign rfl) <| tx_done kR <| tk_then <| tk_condP rfl (fun ht26 => ?_) (fun ht26 => ?_)
          · exact s_r <| q_a rfl rfl <| s_n <| tk_retc <| tk_in_ret <| tk_then_ret <| tk_re 3 (I 8) (IN (putC s nm b)) rfl (by rw [putC, if_neg ht16, if_neg ht20, if_neg oM, if_pos (.inr oM)]; rfl) <| tk_ret (()) (trivial) (.inl rfl) (r1 rfl rfl) (.cons_cons _ (.cons_cons _ (.cons_cons _ (.cons _ (List.Sublist.refl _)))))
          · exact tk_skip <| tk_in_normal <| tk_then <| s_r <| q_a rfl rfl <| s_n <| tk_retc <| tk_re 3 (I 0) (IN (putC s nm b)) rfl (by rw [putC, if_neg ht16, if_neg ht20, if_neg oM, if_neg (fun q => q.elim hs8_9 oM)]; rfl) <| tk_ret (()) (trivial) (.inl rfl) (r1 rfl rfl) (.cons_cons _ (.cons_cons _ (.cons_cons _ (.cons _ (List.Sublist.refl _)))))
theorem put2_spec {s : Sh} {sb mb c0 c1 c2 : Nat} {vv : Value} {nm b : List UInt8} {w : World} (hno : ¬ hasO s.obs nm) (hh : Pre w [cel sb ([Value.map (some mb), I (s.left), .bool s.off, I (s.made), I (s.room)]) 192, mapS mb (kvO s.obs), bag (s.obs.map (obR 5)), cel c0 ([PT sb]) 72, cel c1 ([Str nm]) 9, cel c2 ([vv]) 42, ownB vv b 5]) : Spec Tryz.prog 173 [PT c2, PT c0, PT c1] w [cel sb ([Value.map (some mb), I (s.left), .bool s.off, I (s.made), I (s.room)]) 192, mapS mb (kvO s.obs), bag (s.obs.map (obR 5)), cel c0 ([PT sb]) 72, cel c1 ([Str nm]) 9, cel c2 ([vv]) 42, ownB vv b 5] (fun _ : Unit => True) (fun _ => .tuple #[]) (fun _ => [cel sb ([Value.map (some mb), I ((s.obsTo (s.obs ++ [(⟨nm, vv, b, false⟩ : Ob)])).left), .bool ((s.obsTo (s.obs ++ [(⟨nm, vv, b, false⟩ : Ob)])).off), I ((s.obsTo (s.obs ++ [(⟨nm, vv, b, false⟩ : Ob)])).made), I ((s.obsTo (s.obs ++ [(⟨nm, vv, b, false⟩ : Ob)])).room)]) 192, mapS mb (kvO ((s.obsTo (s.obs ++ [(⟨nm, vv, b, false⟩ : Ob)])).obs)), bag (((s.obsTo (s.obs ++ [(⟨nm, vv, b, false⟩ : Ob)])).obs).map (obR 5)), cel c0 ([PT sb]) 72, cel c1 ([Str nm]) 9, cel c2 ([vv]) 42]) := by
  exact spec_of (n := 11) Tryz.func173 rfl rfl hh.1 hh.2 rfl <| tk_own1 (mm 6 rfl) fun hfv => tk_drawH [cel sb ([Value.map (some mb), I (s.left), .bool s.off, I (s.made), I (s.room)]) 192, bag (s.obs.map (obR 5)), cel c0 ([PT sb]) 72, cel c1 ([Str nm]) 9, cel c2 ([vv]) 42, ownB vv b 5] [] kR <| s_l 0 rfl (fun _ h => kT [0] 1 rfl h) (y_load rfl rfl (hc (o := 0) (mm 2 rfl) (rfl))) <| s_x 1 rfl (y_nilCheck rfl) <| s_x 2 rfl (y_fld0 (o := 0) rfl kR) <| s_x 3 rfl (y_fld0 (o := 0) rfl kR) <| s_l 4 rfl (fun _ h => kT [0] 1 rfl h) (y_load rfl rfl (hc (o := 0) (.head _) (rfl))) <| s_l 5 rfl (fun _ h => kT [0] 1 rfl h) (y_load rfl rfl (hc (o := 0) (mm 3 rfl) (rfl))) <| s_l 6 rfl (fun _ h => kT [0] 1 rfl h) (y_load rfl rfl (hc (o := 0) (mm 4 rfl) (rfl))) <| s_x 7 rfl (y_build (v := .agg ([vv, .bool false]).toArray) (vs := [(0, vv)]) rfl (run_build (zs := [Value.slice none 0 0, .bool false]) (pl := [(0, 1), (1, 1)]) Tryz.underlying198 (fun _ => kR) (fun _ => kR) (fill_s0 (RdS.cells hfv.choose_spec)))) <| tx_a 8 rfl kR rfl <| a_setS (H1 := [_]) (b := mb) (kv := (kvO s.obs)) (k := nm) (v := (Value.agg ([vv, .bool false]).toArray)) rfl rfl rfl Tryz.underlying186 Tryz.underlying9 rfl <| tk_S (fun _ h => kT [0] 1 rfl h) <| tx_done kR <| tk_R (H1 := [_]) rfl (show mapS mb (setS (kvO s.obs) nm ((Value.agg ([vv, .bool false]).toArray))) = mapS mb (kvO (s.obs ++ [(⟨nm, vv, b, false⟩ : Ob)])) from mapS_cast (kvO_new (o := ⟨nm, vv, b, false⟩) hno)) <| tk_ps [2, 6] rfl <| tk_bag <| tk_R (H1 := []) rfl (show bag ((s.obs.map (obR 5)) ++ [ownB vv b 5]) = bag (((s.obs ++ [(⟨nm, vv, b, false⟩ : Ob)])).map (obR 5)) from bag_cast (by rw [List.map_append]; rfl)) <| tk_ps [5, 5, 5, 3, 5, 5] rfl <| tk_ret (()) (trivial) (.inr rfl) (r0 rfl) (List.Sublist.refl _)
theorem chPut_spec {s : Sh} {q : Sh × Nat} {sb mb c0 c1 c2 : Nat} {vv : Value} {nm b : List UInt8} {w : World} (hq : s.put nm vv b = q) (hok : ShOk s) (hnm : nm.length < 9223372036854775808) (hbl : b.length < 4611686018427387904) (hh : Pre w [cel sb ([Value.map (some mb), I (s.left), .bool s.off, I (s.made), I (s.room)]) 192, mapS mb (kvO s.obs), bag (s.obs.map (obR 5)), cel c0 ([PT sb]) 72, cel c1 ([Str nm]) 9, cel c2 ([vv]) 42, ownB vv b 5]) : Spec Tryz.prog 140 [PT sb, .func (.func 171) #[] #[PT c0, PT c1, PT c2], .func (.func 173) #[] #[PT c2, PT c0, PT c1]] w [cel sb ([Value.map (some mb), I (s.left), .bool s.off, I (s.made), I (s.room)]) 192, mapS mb (kvO s.obs), bag (s.obs.map (obR 5)), cel c0 ([PT sb]) 72, cel c1 ([Str nm]) 9, cel c2 ([vv]) 42, ownB vv b 5] (fun _ : Unit => True) (fun _ => IN q.2) (fun _ => [cel sb ([Value.map (some mb), I (q.1.left), .bool q.1.off, I (q.1.made), I (q.1.room)]) 192, mapS mb (kvO q.1.obs), bag (q.1.obs.map (obR 5))]) := by
  refine spec_of (n := 30) Tryz.func140 rfl rfl hh.1 hh.2 rfl ?_
  have hoff : ∀ h : Bool, Value.bool h = Value.bool (decide (h = true)) := fun h => by simp
  refine tk_own1 (mm 6 rfl) fun hfv => s_r <| q_a rfl rfl <| s_n <| tk_seq <| s_r <| q_m rfl rfl <| s_q rfl (y_pnil rfl rfl rfl) <| s_n <| tk_cond0 rfl <| tk_skip <| tk_then <| tk_seq <| s_r <| q_m rfl rfl <| s_q rfl (y_nilCheck rfl) <| s_q rfl (y_fldN (o := 0) 1 rfl kR) <| s_q rfl (y_fldN (o := 1) 1 rfl kR) <| tk_qe (.bool (decide (s.off = true))) rfl rfl rfl (y_load rfl rfl (hc (o := 2) (.head _) (rfl))) sI <| s_n <| tk_condP rfl (fun ht15 => ?_) (fun ht15 => ?_)
  · refine s_r <| q_a rfl rfl <| s_n <| tk_retc <| tk_then_ret ?_
    obtain rfl : (s, 9) = q := by rw [← hq]; exact Eq.symm (change_off ht15)
    exact tk_ret (()) (trivial) (.inl rfl) (r1 rfl rfl) (.cons_cons _ (.cons_cons _ (.cons_cons _ (List.nil_sublist _))))
  · refine tk_skip <| tk_then <| tk_seq <| s_r <| q_m rfl rfl <| tk_act rfl <| a_callc [] _ rfl rfl kR rfl (fun w' hw' => put1_spec (s := s) hok hnm hbl (St.pre hw')) rfl fun _ _ => q_a rfl rfl <| s_n <| s_r <| q_m rfl rfl <| s_q rfl (y_neq rfl rfl) <| s_n <| tk_condP rfl (fun ht19 => ?_) (fun ht19 => ?_)
    · refine s_r <| q_m rfl rfl <| q_a rfl rfl <| s_n <| tk_retc <| tk_then_ret ?_
      obtain rfl : (s, putC s nm b) = q := by rw [← hq]; exact Eq.symm (change_no ht15 oM)
      exact tk_ret (()) (trivial) (.inl rfl) (r1 rfl rfl) (.cons_cons _ (.cons_cons _ (.cons_cons _ (List.nil_sublist _))))
    · refine tk_skip <| tk_then <| tk_seq <| s_r <| q_m rfl rfl <| s_q rfl (y_nilCheck rfl) <| s_q rfl (y_fldN (o := 0) 1 rfl kR) <| tk_act rfl <| a_callv [] _ rfl kR rfl (fun w' hw' => spend_spec (s := s) (sb := sb) (mb := mb) hok (St.pre hw')) rfl fun _ _ => tk_R (H1 := [_]) rfl (show mapS mb (kvO s.obs) = mapS mb (kvO s.spend.1.obs) from mapS_cast (by rw [spend_obs.1])) <| tk_R (H1 := [_, _]) rfl (show bag (s.obs.map (obR 5)) = bag (s.spend.1.obs.map (obR 5)) from bag_cast (by rw [spend_obs.1])) <| q_a rfl rfl <| s_n <| s_r <| q_m rfl rfl <| s_q rfl (y_neq rfl rfl) <| s_n <| tk_condP rfl (fun ht26 => ?_) (fun ht26 => ?_)
      · refine s_r <| q_m rfl rfl <| q_a rfl rfl <| s_n <| tk_retc <| tk_then_ret ?_
        obtain rfl : s.spend = q := by rw [← hq]; exact Eq.symm (change_sp ht15 oM oM)
        exact tk_ret (()) (trivial) (.inl rfl) (r1 rfl rfl) (.cons_cons _ (.cons_cons _ (.cons_cons _ (List.nil_sublist _))))
      · refine tk_skip <| tk_then <| s_r <| q_m rfl rfl <| tk_act rfl <| a_callc [] _ rfl rfl kR rfl (fun w' hw' => put2_spec (s := s.spend.1) (by rw [spend_obs.1]; exact (putC_ok (s := s) (nm := nm) (b := b) oM).2.1) (St.pre hw')) rfl fun _ _ => s_n <| s_r <| q_a rfl rfl <| s_n <| tk_retc ?_
        obtain rfl : (s.spend.1.obsTo (s.spend.1.obs ++ [(⟨nm, vv, b, false⟩ : Ob)]), 0) = q := by rw [← hq]; exact Eq.symm (change_ok ht15 oM oM)
        exact tk_ret (()) (trivial) (.inl rfl) (r1 rfl rfl) (.cons_cons _ (.cons_cons _ (.cons_cons _ (List.nil_sublist _))))
end Go.Proofs.YtkkjfojgjmglpaaGreatDoor
set_option linter.unusedSimpArgs false
set_option linter.unusedVariables false
namespace Go.Proofs.YtkkjfojgjmglpaaGreatDoor
open Go Go.RowKit
set_option maxRecDepth 100000
theorem tk_bagW {c : Cx} {L : Sl} {H : List Res} {K : Act → World → Prop} {ps qs : List Res} (hpq : (∀ w, Hs w ps → Hs w qs) ∧ ∀ k, Fs qs k → Fs ps k) (h : TK c K L (bag qs :: H)) : TK c K L (bag ps :: H) := fun a w ha hw =>
  h a w ha ⟨hw.fr, ⟨hpq.1 w hw.hs.1, hw.hs.2⟩, ⟨fun k hk hf => hw.dj.1 k (hpq.2 k hk) hf, hw.dj.2⟩, fun k hk => hw.own k (hk.imp (hpq.2 k) id)⟩
theorem bagW_perm {ps qs : List Res} (h : ps.Perm qs) : (∀ w, Hs w ps → Hs w qs) ∧ ∀ k, Fs qs k → Fs ps k := ⟨fun _ hw => Hs_perm h hw, fun k hk => Fs_perm h.symm k hk⟩
theorem bagW_sub {ps qs : List Res} (h : qs.Sublist ps) : (∀ w, Hs w ps → Hs w qs) ∧ ∀ k, Fs qs k → Fs ps k := ⟨fun _ hw => Hs.sub h hw, fun _ hk => Fs.sub h hk⟩
theorem ren_bag {T : TypeId} {l : List Ob} {na nb : List UInt8} (hn : (l.map Ob.name).Nodup) (h : hasO l na) : (l.map (obR T)).Perm ((delO l na ++ [nameTo (lkO l na) nb]).map (obR T)) := by
  have := (del_perm hn h).map (obR T)
  rw [List.map_append] at this ⊢
  exact this
theorem ren1_spec {s : Sh} {sb mb c0 c1 c2 : Nat} {na nb : List UInt8} {w : World} (hok : ShOk s) (hnb : nb.length < 9223372036854775808) (hh : Pre w [cel sb ([Value.map (some mb), I (s.left), .bool s.off, I (s.made), I (s.room)]) 192, mapS mb (kvO s.obs), bag (s.obs.map (obR 5)), cel c0 ([PT sb]) 72, cel c1 ([Str na]) 9, cel c2 ([Str nb]) 9]) : Spec Tryz.prog 176 [PT c0, PT c1, PT c2] w [cel sb ([Value.map (some mb), I (s.left), .bool s.off, I (s.made), I (s.room)]) 192, mapS mb (kvO s.obs), bag (s.obs.map (obR 5)), cel c0 ([PT sb]) 72, cel c1 ([Str na]) 9, cel c2 ([Str nb]) 9] (fun _ : Unit => True) (fun _ => IN (renC s na nb)) (fun _ => [cel sb ([Value.map (some mb), I (s.left), .bool s.off, I (s.made), I (s.room)]) 192, mapS mb (kvO s.obs), bag (s.obs.map (obR 5)), cel c0 ([PT sb]) 72, cel c1 ([Str na]) 9, cel c2 ([Str nb]) 9]) := by
  refine spec_of (n := 42) Tryz.func176 rfl rfl hh.1 hh.2 rfl ?_
  have hsum := hok.sum
  have hrm := hok.room
  refine tk_bagO (mm 2 rfl) fun hbo => ?_
  have hlk := lk_one hbo
  
  refine s_r <| q_a rfl rfl <| s_n <| tk_seq <| tk_drawH [cel sb ([Value.map (some mb), I (s.left), .bool s.off, I (s.made), I (s.room)]) 192, mapS mb (kvO s.obs), bag (s.obs.map (obR 5)), cel c0 ([PT sb]) 72, cel c1 ([Str na]) 9, cel c2 ([Str nb]) 9] [] kR <| s_l 0 rfl (fun _ h => h) (y_load rfl rfl (hc (o := 0) (mm 3 rfl) (rfl))) <| s_x 1 rfl (y_nilCheck rfl) <| s_x 2 rfl (y_fld0 (o := 0) rfl kR) <| s_x 3 rfl (y_fld0 (o := 0) rfl kR) <| s_l 4 rfl (fun _ h => h) (y_load rfl rfl (hc (o := 0) (.head _) (rfl))) <| s_l 5 rfl (fun _ h => h) (y_load rfl rfl (hc (o := 0) (mm 4 rfl) (rfl))) <| s_l 6 rfl (fun _ h => h) ((y_getSok (b := mb) (kv := (kvO s.obs)) (k := na) (zv := .agg [Value.slice none 0 0, .bool false].toArray) rfl rfl Tryz.underlying186 Tryz.underlying9 (fun _ => kR) (fun w hw => hw.mem (mm 1 rfl))).cast (kvO_ok)) <| s_x 7 rfl (y_move rfl) <| s_x 8 rfl (y_extract rfl rfl) <| s_x 9 rfl (y_extract rfl rfl) <| tx_a 10 rfl kR rfl <| a_allocL (cs := [Value.slice none 0 0, .bool false]) kR rfl fun b4 => tk_S (fun _ h => kD 1 rfl h) <| tx_a 11 rfl kR rfl <| a_storeW (H1 := []) (vs := [(lkO s.obs na).v, .bool ((lkO s.obs na).sure)]) 2 rfl rfl kR rfl ⟨lenP, lenP⟩ (List.forall_mem_cons.2 ⟨(hlk _), (List.forall_mem_cons.2 ⟨rfl, (fun _ h => nomatch h)⟩)⟩) <| tk_S (fun _ h => kD 1 rfl h) <| s_x 12 rfl (y_assign rfl) <| tx_done kR <| tk_then ?_; refine tk_seq <| tk_drawH [cel b4 ([(lkO s.obs na).v, .bool ((lkO s.obs na).sure)]) 198, cel sb ([Value.map (some mb), I (s.left), .bool s.off, I (s.made), I (s.room)]) 192, mapS mb (kvO s.obs), bag (s.obs.map (obR 5)), cel c0 ([PT sb]) 72, cel c1 ([Str na]) 9, cel c2 ([Str nb]) 9] [] kR <| s_l 0 rfl (fun _ h => h) (y_load rfl rfl (hc (o := 0) (mm 4 rfl) (rfl))) <| s_x 1 rfl (y_nilCheck rfl) <| s_x 2 rfl (y_fld0 (o := 0) rfl kR) <| s_x 3 rfl (y_fld0 (o := 0) rfl kR) <| s_l 4 rfl (fun _ h => h) (y_load rfl rfl (hc (o := 0) (mm 1 rfl) (rfl))) <| s_l 5 rfl (fun _ h => h) (y_load rfl rfl (hc (o := 0) (mm 6 rfl) (rfl))) <| s_l 6 rfl (fun _ h => h) ((y_getSok (b := mb) (kv := (kvO s.obs)) (k := nb) (zv := .agg [Value.slice none 0 0, .bool false].toArray) rfl rfl Tryz.underlying186 Tryz.underlying9 (fun _ => kR) (fun w hw => hw.mem (mm 2 rfl))).cast (kvO_ok)) <| s_x 7 rfl (y_move rfl) <| s_x 8 rfl (y_extract rfl rfl) <| s_x 9 rfl (y_extract rfl rfl) <| tx_a 10 rfl kR rfl <| a_allocL (cs := [Value.slice none 0 0, .bool false]) kR rfl fun b6 => tk_S (fun _ h => kD 1 rfl h) <| tx_a 11 rfl kR rfl <| a_storeW (H1 := []) (vs := [(lkO s.obs nb).v, .bool ((lkO s.obs nb).sure)]) 2 rfl rfl kR rfl ⟨lenP, lenP⟩ (List.forall_mem_cons.2 ⟨(hlk _), (List.forall_mem_cons.2 ⟨rfl, (fun _ h => nomatch h)⟩)⟩) <| tk_S (fun _ h => kD 1 rfl h) <| s_x 12 rfl (y_assign rfl) <| tx_done kR <| tk_then <| tk_seq <| tk_block <| s_r ?_; refine s_q rfl (y_load rfl rfl (hc (o := 0) (mm 7 rfl) (rfl))) <| tk_act rfl <| a_callv [] _ rfl kR rfl (fun w' hw' => isname_spec (l := nb) lenP) rfl fun _ _ => s_q rfl ((y_not rfl).cast (notdec _)) <| q_a rfl rfl <| s_n <| tk_condP rfl (fun ht28 => ?_) (fun ht28 => ?_)
  · exact s_r <| q_a rfl rfl <| s_n <| tk_retc <| tk_in_ret <| tk_then_ret <| tk_re 3 (I 5) (IN (renC s na nb)) rfl (by rw [renC, if_pos ht28]; rfl) <| tk_ret (()) (trivial) (.inl rfl) (r1 rfl rfl) (.cons _ (.cons _ (List.Sublist.refl _)))
  · refine s_r <| q_m rfl rfl <| s_q rfl ((y_not rfl).cast (notdec _)) <| q_a rfl rfl <| s_n <| tk_condP rfl (fun ht32 => ?_) (fun ht32 => ?_)
    · exact s_r <| q_a rfl rfl <| s_n <| tk_retc <| tk_in_ret <| tk_then_ret <| tk_re 3 (I 6) (IN (renC s na nb)) rfl (by rw [renC, if_neg ht28, if_pos ht32]; rfl) <| tk_ret (()) (trivial) (.inl rfl) (r1 rfl rfl) (.cons _ (.cons _ (List.Sublist.refl _)))
    · refine s_r <| tk_qs rfl rfl rfl (y_move rfl) (fun hs7_0 => ?_) (fun hs7_0 => ?_)
      · refine q_m rfl rfl <| s_g rfl (y_load rfl rfl (hc (o := 0) (mm 6 rfl) (rfl))) <| s_g rfl (y_load rfl rfl (hc (o := 0) (mm 7 rfl) (rfl))) <| s_g rfl (y_strNe (l := na) (m := nb) rfl rfl) <| s_q rfl (y_pick1 rfl rfl) <| q_a rfl rfl <| s_n <| tk_condP rfl (fun ht35 => ?_) (fun ht35 => ?_)
        · exact s_r <| q_a rfl rfl <| s_n <| tk_retc <| tk_in_ret <| tk_then_ret <| tk_re 3 (I 7) (IN (renC s na nb)) rfl (by rw [renC, if_neg ht28, if_neg ht32, if_pos ⟨hs7_0, ht35⟩]; rfl) <| tk_ret (()) (trivial) (.inl rfl) (r1 rfl rfl) (.cons _ (.cons _ (List.Sublist.refl _)))
        · exact tk_skip <| tk_in_normal <| tk_then <| s_r <| q_a rfl rfl <| s_n <| tk_retc <| tk_re 3 (I 0) (IN (renC s na nb)) rfl (by rw [renC, if_neg ht28, if_neg ht32, if_neg (fun q => ht35 q.2)]; rfl) <| tk_ret (()) (trivial) (.inl rfl) (r1 rfl rfl) (.cons _ (.cons _ (List.Sublist.refl _)))
      · exact q_m rfl rfl <| tk_gno rfl rfl rfl <| tk_gno rfl rfl rfl <| tk_gno rfl rfl rfl <| s_q rfl (y_pick0 rfl rfl) <| q_a rfl rfl <| s_n <| tk_cond0 rfl <| tk_skip <| tk_in_normal <| tk_then <| s_r <| q_a rfl rfl <| s_n <| tk_retc <| tk_re 3 (I 0) (IN (renC s na nb)) rfl (by rw [renC, if_neg ht28, if_neg ht32, if_neg (fun q => hs7_0 q.1)]; rfl) <| tk_ret (()) (trivial) (.inl rfl) (r1 rfl rfl) (.cons _ (.cons _ (List.Sublist.refl _)))
theorem ren2_spec {s : Sh} {sb mb c0 c1 c2 : Nat} {na nb : List UInt8} {w : World} (hnd : (s.obs.map Ob.name).Nodup) (hha : hasO s.obs na) (hno : hasO s.obs nb → na = nb) (hh : Pre w [cel sb ([Value.map (some mb), I (s.left), .bool s.off, I (s.made), I (s.room)]) 192, mapS mb (kvO s.obs), bag (s.obs.map (obR 5)), cel c0 ([PT sb]) 72, cel c1 ([Str na]) 9, cel c2 ([Str nb]) 9]) : Spec Tryz.prog 177 [PT c0, PT c1, PT c2] w [cel sb ([Value.map (some mb), I (s.left), .bool s.off, I (s.made), I (s.room)]) 192, mapS mb (kvO s.obs), bag (s.obs.map (obR 5)), cel c0 ([PT sb]) 72, cel c1 ([Str na]) 9, cel c2 ([Str nb]) 9] (fun _ : Unit => True) (fun _ => .tuple #[]) (fun _ => [cel sb ([Value.map (some mb), I ((s.obsTo (delO s.obs na ++ [nameTo (lkO s.obs na) nb])).left), .bool ((s.obsTo (delO s.obs na ++ [nameTo (lkO s.obs na) nb])).off), I ((s.obsTo (delO s.obs na ++ [nameTo (lkO s.obs na) nb])).made), I ((s.obsTo (delO s.obs na ++ [nameTo (lkO s.obs na) nb])).room)]) 192, mapS mb (kvO ((s.obsTo (delO s.obs na ++ [nameTo (lkO s.obs na) nb])).obs)), bag (((s.obsTo (delO s.obs na ++ [nameTo (lkO s.obs na) nb])).obs).map (obR 5)), cel c0 ([PT sb]) 72, cel c1 ([Str na]) 9, cel c2 ([Str nb]) 9]) := by
  refine spec_of (n := 24) Tryz.func177 rfl rfl hh.1 hh.2 rfl <| tk_bagO (mm 2 rfl) fun hbo => ?_
  have hlk := lk_one hbo
  refine tk_seq <| tk_drawH [cel sb ([Value.map (some mb), I (s.left), .bool s.off, I (s.made), I (s.room)]) 192, mapS mb (kvO s.obs), bag (s.obs.map (obR 5)), cel c0 ([PT sb]) 72, cel c1 ([Str na]) 9, cel c2 ([Str nb]) 9] [] kR <| s_l 0 rfl (fun _ h => h) (y_load rfl rfl (hc (o := 0) (mm 3 rfl) (rfl))) <| s_x 1 rfl (y_nilCheck rfl) <| s_x 2 rfl (y_fld0 (o := 0) rfl kR) <| s_x 3 rfl (y_fld0 (o := 0) rfl kR) <| s_l 4 rfl (fun _ h => h) (y_load rfl rfl (hc (o := 0) (.head _) (rfl))) <| s_l 5 rfl (fun _ h => h) (y_load rfl rfl (hc (o := 0) (mm 4 rfl) (rfl))) <| s_l 6 rfl (fun _ h => h) ((y_getS (b := mb) (kv := (kvO s.obs)) (k := na) (zv := .agg [Value.slice none 0 0, .bool false].toArray) rfl rfl Tryz.underlying186 Tryz.underlying9 (fun _ => kR) (fun w hw => hw.mem (mm 1 rfl))).cast (kvO_get)) <| tx_a 7 rfl kR rfl <| a_allocL (cs := [Value.slice none 0 0, .bool false]) kR rfl fun b3 => tk_S (fun _ h => kD 1 rfl h) <| tx_a 8 rfl kR rfl <| a_storeW (H1 := []) (vs := [(lkO s.obs na).v, .bool ((lkO s.obs na).sure)]) 2 rfl rfl kR rfl ⟨lenP, lenP⟩ (List.forall_mem_cons.2 ⟨(hlk _), (List.forall_mem_cons.2 ⟨rfl, (fun _ h => nomatch h)⟩)⟩) <| tk_S (fun _ h => kD 1 rfl h) <| tx_done kR <| tk_then <| tk_seq <| tk_drawH [cel b3 ([(lkO s.obs na).v, .bool ((lkO s.obs na).sure)]) 198, cel sb ([Value.map (some mb), I (s.left), .bool s.off, I (s.made), I (s.room)]) 192, bag (s.obs.map (obR 5)), cel c0 ([PT sb]) 72, cel c1 ([Str na]) 9, cel c2 ([Str nb]) 9] [] kR <| s_l 0 rfl (fun _ h => kT [0, 0] 1 rfl h) (y_load rfl rfl (hc (o := 0) (mm 3 rfl) (rfl))) <| s_x 1 rfl (y_nilCheck rfl) <| s_x 2 rfl (y_fld0 (o := 0) rfl kR) <| s_x 3 rfl (y_fld0 (o := 0) rfl kR) <| s_l 4 rfl (fun _ h => kT [0, 0] 1 rfl h) (y_load rfl rfl (hc (o := 0) (mm 1 rfl) (rfl))) ?_; exact s_l 5 rfl (fun _ h => kT [0, 0] 1 rfl h) (y_load rfl rfl (hc (o := 0) (mm 4 rfl) (rfl))) <| tx_a 6 rfl kR rfl <| a_delS (H1 := [_, _]) (b := mb) (kv := (kvO s.obs)) (k := na) rfl rfl Tryz.underlying186 Tryz.underlying9 rfl <| tk_S (fun _ h => kT [0, 0] 1 rfl h) <| tx_done kR <| tk_then <| tk_R (H1 := [_, _]) rfl (show mapS mb (delS (kvO s.obs) na) = mapS mb (kvO (delO s.obs na)) from mapS_cast kvO_del) <| tk_drawH [cel b3 ([(lkO s.obs na).v, .bool ((lkO s.obs na).sure)]) 198, cel sb ([Value.map (some mb), I (s.left), .bool s.off, I (s.made), I (s.room)]) 192, bag (s.obs.map (obR 5)), cel c0 ([PT sb]) 72, cel c1 ([Str na]) 9, cel c2 ([Str nb]) 9] [] kR <| s_l 0 rfl (fun _ h => kT [0, 0] 1 rfl h) (y_load rfl rfl (hc (o := 0) (mm 3 rfl) (rfl))) <| s_x 1 rfl (y_nilCheck rfl) <| s_x 2 rfl (y_fld0 (o := 0) rfl kR) <| s_x 3 rfl (y_fld0 (o := 0) rfl kR) <| s_l 4 rfl (fun _ h => kT [0, 0] 1 rfl h) (y_load rfl rfl (hc (o := 0) (mm 1 rfl) (rfl))) <| s_l 5 rfl (fun _ h => kT [0, 0] 1 rfl h) (y_load rfl rfl (hc (o := 0) (mm 5 rfl) (rfl))) <| s_l 6 rfl (fun _ h => kT [0, 0] 1 rfl h) (y_loadA 2 rfl kR lenP (hcw (.head _))) <| tx_a 7 rfl kR rfl <| a_setS (H1 := [_, _]) (b := mb) (kv := (kvO (delO s.obs na))) (k := nb) (v := (Value.agg ([(lkO s.obs na).v, .bool ((lkO s.obs na).sure)]).toArray)) rfl rfl rfl Tryz.underlying186 Tryz.underlying9 rfl <| tk_S (fun _ h => kT [0, 0] 1 rfl h) <| tx_done kR <| tk_R (H1 := [_, _]) rfl (show mapS mb (setS ((kvO (delO s.obs na))) nb ((Value.agg ([(lkO s.obs na).v, .bool ((lkO s.obs na).sure)]).toArray))) = mapS mb (kvO (delO s.obs na ++ [nameTo (lkO s.obs na) nb])) from mapS_cast (kvO_new (o := nameTo (lkO s.obs na) nb) (fun h => (del_has.1 h).2 (hno (del_has.1 h).1).symm))) <| tk_ps [3] rfl <| tk_bagW (qs := (delO s.obs na ++ [nameTo (lkO s.obs na) nb]).map (obR 5)) (bagW_perm (ren_bag hnd hha)) <| tk_ps [6, 6, 6, 3, 6, 6] rfl <| tk_ret (()) (trivial) (.inr rfl) (r0 rfl) (.cons_cons _ (.cons_cons _ (.cons_cons _ (.cons_cons _ (.cons_cons _ (.cons_cons _ (List.nil_sublist _)))))))
theorem del1_spec {s : Sh} {sb mb c0 c1 : Nat} {na : List UInt8} {w : World} (hok : ShOk s) (hh : Pre w [cel sb ([Value.map (some mb), I (s.left), .bool s.off, I (s.made), I (s.room)]) 192, mapS mb (kvO s.obs), bag (s.obs.map (obR 5)), cel c0 ([PT sb]) 72, cel c1 ([Str na]) 9]) : Spec Tryz.prog 141 [PT c0, PT c1] w [cel sb ([Value.map (some mb), I (s.left), .bool s.off, I (s.made), I (s.room)]) 192, mapS mb (kvO s.obs), bag (s.obs.map (obR 5)), cel c0 ([PT sb]) 72, cel c1 ([Str na]) 9] (fun _ : Unit => True) (fun _ => IN (delC s na)) (fun _ => [cel sb ([Value.map (some mb), I (s.left), .bool s.off, I (s.made), I (s.room)]) 192, mapS mb (kvO s.obs), bag (s.obs.map (obR 5)), cel c0 ([PT sb]) 72, cel c1 ([Str na]) 9]) := by
  refine spec_of (n := 17) Tryz.func141 rfl rfl hh.1 hh.2 rfl ?_
  have hsum := hok.sum
  have hrm := hok.room
  refine tk_bagO (mm 2 rfl) fun hbo => ?_
  have hlk := lk_one hbo
  
  refine s_r <| q_a rfl rfl <| s_n <| tk_seq <| tk_seq <| tk_drawH [cel sb ([Value.map (some mb), I (s.left), .bool s.off, I (s.made), I (s.room)]) 192, mapS mb (kvO s.obs), bag (s.obs.map (obR 5)), cel c0 ([PT sb]) 72, cel c1 ([Str na]) 9] [] kR <| s_l 0 rfl (fun _ h => h) (y_load rfl rfl (hc (o := 0) (mm 3 rfl) (rfl))) <| s_x 1 rfl (y_nilCheck rfl) <| s_x 2 rfl (y_fld0 (o := 0) rfl kR) <| s_x 3 rfl (y_fld0 (o := 0) rfl kR) <| s_l 4 rfl (fun _ h => h) (y_load rfl rfl (hc (o := 0) (.head _) (rfl))) <| s_l 5 rfl (fun _ h => h) (y_load rfl rfl (hc (o := 0) (mm 4 rfl) (rfl))) <| s_l 6 rfl (fun _ h => h) ((y_getSok (b := mb) (kv := (kvO s.obs)) (k := na) (zv := .agg [Value.slice none 0 0, .bool false].toArray) rfl rfl Tryz.underlying186 Tryz.underlying9 (fun _ => kR) (fun w hw => hw.mem (mm 1 rfl))).cast (kvO_ok)) <| s_x 7 rfl (y_move rfl) <| s_x 8 rfl (y_extract rfl rfl) <| s_x 9 rfl (y_extract rfl rfl) <| tx_a 10 rfl kR rfl <| a_allocL (cs := [Value.slice none 0 0, .bool false]) kR rfl fun b3 => tk_S (fun _ h => kD 1 rfl h) <| tx_a 11 rfl kR rfl <| a_storeW (H1 := []) (vs := [(lkO s.obs na).v, .bool ((lkO s.obs na).sure)]) 2 rfl rfl kR rfl ⟨lenP, lenP⟩ (List.forall_mem_cons.2 ⟨(hlk _), (List.forall_mem_cons.2 ⟨rfl, (fun _ h => nomatch h)⟩)⟩) <| tk_S (fun _ h => kD 1 rfl h) <| s_x 12 rfl (y_assign rfl) <| tx_done kR ?_; refine tk_then <| s_r <| q_m rfl rfl <| s_q rfl ((y_not rfl).cast (notdec _)) <| s_n <| tk_condP rfl (fun ht16 => ?_) (fun ht16 => ?_)
  · exact s_r <| q_a rfl rfl <| s_n <| tk_retc <| tk_then_ret <| tk_re 2 (I 6) (IN (delC s na)) rfl (by rw [delC, if_pos ht16]; rfl) <| tk_ret (()) (trivial) (.inl rfl) (r1 rfl rfl) (.cons _ (List.Sublist.refl _))
  · exact tk_skip <| tk_then <| s_r <| q_a rfl rfl <| s_n <| tk_retc <| tk_re 2 (I 0) (IN (delC s na)) rfl (by rw [delC, if_neg ht16]; rfl) <| tk_ret (()) (trivial) (.inl rfl) (r1 rfl rfl) (.cons _ (List.Sublist.refl _))
theorem del2_spec {s : Sh} {sb mb c0 c1 : Nat} {na : List UInt8} {w : World} (hh : Pre w [cel sb ([Value.map (some mb), I (s.left), .bool s.off, I (s.made), I (s.room)]) 192, mapS mb (kvO s.obs), bag (s.obs.map (obR 5)), cel c0 ([PT sb]) 72, cel c1 ([Str na]) 9]) : Spec Tryz.prog 142 [PT c0, PT c1] w [cel sb ([Value.map (some mb), I (s.left), .bool s.off, I (s.made), I (s.room)]) 192, mapS mb (kvO s.obs), bag (s.obs.map (obR 5)), cel c0 ([PT sb]) 72, cel c1 ([Str na]) 9] (fun _ : Unit => True) (fun _ => .tuple #[]) (fun _ => [cel sb ([Value.map (some mb), I ((s.obsTo (delO s.obs na)).left), .bool ((s.obsTo (delO s.obs na)).off), I ((s.obsTo (delO s.obs na)).made), I ((s.obsTo (delO s.obs na)).room)]) 192, mapS mb (kvO ((s.obsTo (delO s.obs na)).obs)), bag (((s.obsTo (delO s.obs na)).obs).map (obR 5)), cel c0 ([PT sb]) 72, cel c1 ([Str na]) 9]) := by
  exact spec_of (n := 8) Tryz.func142 rfl rfl hh.1 hh.2 rfl <| tk_drawH [cel sb ([Value.map (some mb), I (s.left), .bool s.off, I (s.made), I (s.room)]) 192, bag (s.obs.map (obR 5)), cel c0 ([PT sb]) 72, cel c1 ([Str na]) 9] [] kR <| s_l 0 rfl (fun _ h => kT [0] 1 rfl h) (y_load rfl rfl (hc (o := 0) (mm 2 rfl) (rfl))) <| s_x 1 rfl (y_nilCheck rfl) <| s_x 2 rfl (y_fld0 (o := 0) rfl kR) <| s_x 3 rfl (y_fld0 (o := 0) rfl kR) <| s_l 4 rfl (fun _ h => kT [0] 1 rfl h) (y_load rfl rfl (hc (o := 0) (.head _) (rfl))) <| s_l 5 rfl (fun _ h => kT [0] 1 rfl h) (y_load rfl rfl (hc (o := 0) (mm 3 rfl) (rfl))) <| tx_a 6 rfl kR rfl <| a_delS (H1 := [_]) (b := mb) (kv := (kvO s.obs)) (k := na) rfl rfl Tryz.underlying186 Tryz.underlying9 rfl <| tk_S (fun _ h => kT [0] 1 rfl h) <| tx_done kR <| tk_R (H1 := [_]) rfl (show mapS mb (delS (kvO s.obs) na) = mapS mb (kvO (delO s.obs na)) from mapS_cast kvO_del) <| tk_ps [2] rfl <| tk_bagW (qs := (delO s.obs na).map (obR 5)) (bagW_sub (List.Sublist.map _ List.filter_sublist)) <| tk_ps [4, 4, 2, 4, 4] rfl <| tk_ret (()) (trivial) (.inr rfl) (r0 rfl) (List.Sublist.refl _)
theorem fine_spec {w : World} : Spec Tryz.prog 174 [] w [] (fun _ : Unit => True) (fun _ => I 0) (fun _ => []) := by
  exact spec_of (n := 1) Tryz.func174 rfl rfl trivial trivial rfl <| s_r <| q_a rfl rfl <| s_n <| s_r <| q_a rfl rfl <| s_n <| tk_retc <| tk_ret (()) (trivial) (.inl rfl) (r1 rfl rfl) (List.Sublist.refl _)
theorem nopS_spec {w : World} : Spec Tryz.prog 175 [] w [] (fun _ : Unit => True) (fun _ => .tuple #[]) (fun _ => []) := by
  exact spec_of (n := 0) Tryz.func175 rfl rfl trivial trivial rfl <| tk_skip <| tk_ret (()) (trivial) (.inr rfl) (r0 rfl) (List.Sublist.refl _)
theorem chRen_spec {s : Sh} {q : Sh × Nat} {sb mb c0 c1 c2 : Nat} {na nb : List UInt8} {w : World} (hq : s.ren na nb = q) (hok : ShOk s) (hnb : nb.length < 9223372036854775808) (hh : Pre w [cel sb ([Value.map (some mb), I (s.left), .bool s.off, I (s.made), I (s.room)]) 192, mapS mb (kvO s.obs), bag (s.obs.map (obR 5)), cel c0 ([PT sb]) 72, cel c1 ([Str na]) 9, cel c2 ([Str nb]) 9]) : Spec Tryz.prog 140 [PT sb, .func (.func 176) #[] #[PT c0, PT c1, PT c2], .func (.func 177) #[] #[PT c0, PT c1, PT c2]] w [cel sb ([Value.map (some mb), I (s.left), .bool s.off, I (s.made), I (s.room)]) 192, mapS mb (kvO s.obs), bag (s.obs.map (obR 5)), cel c0 ([PT sb]) 72, cel c1 ([Str na]) 9, cel c2 ([Str nb]) 9] (fun _ : Unit => True) (fun _ => IN q.2) (fun _ => [cel sb ([Value.map (some mb), I (q.1.left), .bool q.1.off, I (q.1.made), I (q.1.room)]) 192, mapS mb (kvO q.1.obs), bag (q.1.obs.map (obR 5))]) := by
  refine spec_of (n := 30) Tryz.func140 rfl rfl hh.1 hh.2 rfl ?_
  have hoff : ∀ h : Bool, Value.bool h = Value.bool (decide (h = true)) := fun h => by simp
  refine s_r <| q_a rfl rfl <| s_n <| tk_seq <| s_r <| q_m rfl rfl <| s_q rfl (y_pnil rfl rfl rfl) <| s_n <| tk_cond0 rfl <| tk_skip <| tk_then <| tk_seq <| s_r <| q_m rfl rfl <| s_q rfl (y_nilCheck rfl) <| s_q rfl (y_fldN (o := 0) 1 rfl kR) <| s_q rfl (y_fldN (o := 1) 1 rfl kR) <| tk_qe (.bool (decide (s.off = true))) rfl rfl rfl (y_load rfl rfl (hc (o := 2) (.head _) (rfl))) sI <| s_n <| tk_condP rfl (fun ht15 => ?_) (fun ht15 => ?_)
  · refine s_r <| q_a rfl rfl <| s_n <| tk_retc <| tk_then_ret ?_
    obtain rfl : (s, 9) = q := by rw [← hq]; exact Eq.symm (change_off ht15)
    exact tk_ret (()) (trivial) (.inl rfl) (r1 rfl rfl) (.cons_cons _ (.cons_cons _ (.cons_cons _ (List.nil_sublist _))))
  · refine tk_skip <| tk_then <| tk_seq <| s_r <| q_m rfl rfl <| tk_act rfl <| a_callc [] _ rfl rfl kR rfl (fun w' hw' => ren1_spec (s := s) hok hnb (St.pre hw')) rfl fun _ _ => q_a rfl rfl <| s_n <| s_r <| q_m rfl rfl <| s_q rfl (y_neq rfl rfl) <| s_n <| tk_condP rfl (fun ht19 => ?_) (fun ht19 => ?_)
    · refine s_r <| q_m rfl rfl <| q_a rfl rfl <| s_n <| tk_retc <| tk_then_ret ?_
      obtain rfl : (s, renC s na nb) = q := by rw [← hq]; exact Eq.symm (change_no ht15 oM)
      exact tk_ret (()) (trivial) (.inl rfl) (r1 rfl rfl) (.cons_cons _ (.cons_cons _ (.cons_cons _ (List.nil_sublist _))))
    · refine tk_skip <| tk_then <| tk_seq <| s_r <| q_m rfl rfl <| s_q rfl (y_nilCheck rfl) <| s_q rfl (y_fldN (o := 0) 1 rfl kR) <| tk_act rfl <| a_callv [] _ rfl kR rfl (fun w' hw' => spend_spec (s := s) (sb := sb) (mb := mb) hok (St.pre hw')) rfl fun _ _ => tk_R (H1 := [_]) rfl (show mapS mb (kvO s.obs) = mapS mb (kvO s.spend.1.obs) from mapS_cast (by rw [spend_obs.1])) <| tk_R (H1 := [_, _]) rfl (show bag (s.obs.map (obR 5)) = bag (s.spend.1.obs.map (obR 5)) from bag_cast (by rw [spend_obs.1])) <| q_a rfl rfl <| s_n <| s_r <| q_m rfl rfl <| s_q rfl (y_neq rfl rfl) <| s_n <| tk_condP rfl (fun ht26 => ?_) (fun ht26 => ?_)
      · refine s_r <| q_m rfl rfl <| q_a rfl rfl <| s_n <| tk_retc <| tk_then_ret ?_
        obtain rfl : s.spend = q := by rw [← hq]; exact Eq.symm (change_sp ht15 oM oM)
        exact tk_ret (()) (trivial) (.inl rfl) (r1 rfl rfl) (.cons_cons _ (.cons_cons _ (.cons_cons _ (List.nil_sublist _))))
      · refine tk_skip <| tk_then <| s_r <| q_m rfl rfl <| tk_act rfl <| a_callc [] _ rfl rfl kR rfl (fun w' hw' => ren2_spec (s := s.spend.1) (by rw [spend_obs.1]; exact hok.nodup) (by rw [spend_obs.1]; exact (renC_ok (s := s) (a := na) (b := nb) oM).2.1) (by rw [spend_obs.1]; exact (renC_ok (s := s) (a := na) (b := nb) oM).2.2) (St.pre hw')) rfl fun _ _ => s_n <| s_r <| q_a rfl rfl <| s_n <| tk_retc ?_
        obtain rfl : (s.spend.1.obsTo (delO s.spend.1.obs na ++ [nameTo (lkO s.spend.1.obs na) nb]), 0) = q := by rw [← hq]; exact Eq.symm (change_ok ht15 oM oM)
        exact tk_ret (()) (trivial) (.inl rfl) (r1 rfl rfl) (.cons_cons _ (.cons_cons _ (.cons_cons _ (List.nil_sublist _))))
theorem chDel_spec {s : Sh} {q : Sh × Nat} {sb mb c0 c1 : Nat} {na : List UInt8} {w : World} (hq : s.del na = q) (hok : ShOk s) (hh : Pre w [cel sb ([Value.map (some mb), I (s.left), .bool s.off, I (s.made), I (s.room)]) 192, mapS mb (kvO s.obs), bag (s.obs.map (obR 5)), cel c0 ([PT sb]) 72, cel c1 ([Str na]) 9]) : Spec Tryz.prog 140 [PT sb, .func (.func 141) #[] #[PT c0, PT c1], .func (.func 142) #[] #[PT c0, PT c1]] w [cel sb ([Value.map (some mb), I (s.left), .bool s.off, I (s.made), I (s.room)]) 192, mapS mb (kvO s.obs), bag (s.obs.map (obR 5)), cel c0 ([PT sb]) 72, cel c1 ([Str na]) 9] (fun _ : Unit => True) (fun _ => IN q.2) (fun _ => [cel sb ([Value.map (some mb), I (q.1.left), .bool q.1.off, I (q.1.made), I (q.1.room)]) 192, mapS mb (kvO q.1.obs), bag (q.1.obs.map (obR 5))]) := by
  refine spec_of (n := 30) Tryz.func140 rfl rfl hh.1 hh.2 rfl ?_
  have hoff : ∀ h : Bool, Value.bool h = Value.bool (decide (h = true)) := fun h => by simp
  refine s_r <| q_a rfl rfl <| s_n <| tk_seq <| s_r <| q_m rfl rfl <| s_q rfl (y_pnil rfl rfl rfl) <| s_n <| tk_cond0 rfl <| tk_skip <| tk_then <| tk_seq <| s_r <| q_m rfl rfl <| s_q rfl (y_nilCheck rfl) <| s_q rfl (y_fldN (o := 0) 1 rfl kR) <| s_q rfl (y_fldN (o := 1) 1 rfl kR) <| tk_qe (.bool (decide (s.off = true))) rfl rfl rfl (y_load rfl rfl (hc (o := 2) (.head _) (rfl))) sI <| s_n <| tk_condP rfl (fun ht15 => ?_) (fun ht15 => ?_)
  · refine s_r <| q_a rfl rfl <| s_n <| tk_retc <| tk_then_ret ?_
    obtain rfl : (s, 9) = q := by rw [← hq]; exact Eq.symm (change_off ht15)
    exact tk_ret (()) (trivial) (.inl rfl) (r1 rfl rfl) (.cons_cons _ (.cons_cons _ (.cons_cons _ (List.nil_sublist _))))
  · refine tk_skip <| tk_then <| tk_seq <| s_r <| q_m rfl rfl <| tk_act rfl <| a_callc [] _ rfl rfl kR rfl (fun w' hw' => del1_spec (s := s) hok (St.pre hw')) rfl fun _ _ => q_a rfl rfl <| s_n <| s_r <| q_m rfl rfl <| s_q rfl (y_neq rfl rfl) <| s_n <| tk_condP rfl (fun ht19 => ?_) (fun ht19 => ?_)
    · refine s_r <| q_m rfl rfl <| q_a rfl rfl <| s_n <| tk_retc <| tk_then_ret ?_
      obtain rfl : (s, delC s na) = q := by rw [← hq]; exact Eq.symm (change_no ht15 oM)
      exact tk_ret (()) (trivial) (.inl rfl) (r1 rfl rfl) (.cons_cons _ (.cons_cons _ (.cons_cons _ (List.nil_sublist _))))
    · refine tk_skip <| tk_then <| tk_seq <| s_r <| q_m rfl rfl <| s_q rfl (y_nilCheck rfl) <| s_q rfl (y_fldN (o := 0) 1 rfl kR) <| tk_act rfl <| a_callv [] _ rfl kR rfl (fun w' hw' => spend_spec (s := s) (sb := sb) (mb := mb) hok (St.pre hw')) rfl fun _ _ => tk_R (H1 := [_]) rfl (show mapS mb (kvO s.obs) = mapS mb (kvO s.spend.1.obs) from mapS_cast (by rw [spend_obs.1])) <| tk_R (H1 := [_, _]) rfl (show bag (s.obs.map (obR 5)) = bag (s.spend.1.obs.map (obR 5)) from bag_cast (by rw [spend_obs.1])) <| q_a rfl rfl <| s_n <| s_r <| q_m rfl rfl <| s_q rfl (y_neq rfl rfl) <| s_n <| tk_condP rfl (fun ht26 => ?_) (fun ht26 => ?_)
      · refine s_r <| q_m rfl rfl <| q_a rfl rfl <| s_n <| tk_retc <| tk_then_ret ?_
        obtain rfl : s.spend = q := by rw [← hq]; exact Eq.symm (change_sp ht15 oM oM)
        exact tk_ret (()) (trivial) (.inl rfl) (r1 rfl rfl) (.cons_cons _ (.cons_cons _ (.cons_cons _ (List.nil_sublist _))))
      · refine tk_skip <| tk_then <| s_r <| q_m rfl rfl <| tk_act rfl <| a_callc [] _ rfl rfl kR rfl (fun w' hw' => del2_spec (s := s.spend.1)  (St.pre hw')) rfl fun _ _ => s_n <| s_r <| q_a rfl rfl <| s_n <| tk_retc ?_
        obtain rfl : (s.spend.1.obsTo (delO s.spend.1.obs na), 0) = q := by rw [← hq]; exact Eq.symm (change_ok ht15 oM oM)
        exact tk_ret (()) (trivial) (.inl rfl) (r1 rfl rfl) (.cons_cons _ (.cons_cons _ (.cons_cons _ (List.nil_sublist _))))
theorem chSyn_spec {s : Sh} {q : Sh × Nat} {sb mb : Nat} {w : World} (hq : s.nudge = q) (hok : ShOk s) (hh : Pre w [cel sb ([Value.map (some mb), I (s.left), .bool s.off, I (s.made), I (s.room)]) 192, mapS mb (kvO s.obs), bag (s.obs.map (obR 5))]) : Spec Tryz.prog 140 [PT sb, .func (.func 174) #[] #[], .func (.func 175) #[] #[]] w [cel sb ([Value.map (some mb), I (s.left), .bool s.off, I (s.made), I (s.room)]) 192, mapS mb (kvO s.obs), bag (s.obs.map (obR 5))] (fun _ : Unit => True) (fun _ => IN q.2) (fun _ => [cel sb ([Value.map (some mb), I (q.1.left), .bool q.1.off, I (q.1.made), I (q.1.room)]) 192, mapS mb (kvO q.1.obs), bag (q.1.obs.map (obR 5))]) := by
  refine spec_of (n := 30) Tryz.func140 rfl rfl hh.1 hh.2 rfl ?_
  have hoff : ∀ h : Bool, Value.bool h = Value.bool (decide (h = true)) := fun h => by simp
  refine s_r <| q_a rfl rfl <| s_n <| tk_seq <| s_r <| q_m rfl rfl <| s_q rfl (y_pnil rfl rfl rfl) <| s_n <| tk_cond0 rfl <| tk_skip <| tk_then <| tk_seq <| s_r <| q_m rfl rfl <| s_q rfl (y_nilCheck rfl) <| s_q rfl (y_fldN (o := 0) 1 rfl kR) <| s_q rfl (y_fldN (o := 1) 1 rfl kR) <| tk_qe (.bool (decide (s.off = true))) rfl rfl rfl (y_load rfl rfl (hc (o := 2) (.head _) (rfl))) sI <| s_n <| tk_condP rfl (fun ht15 => ?_) (fun ht15 => ?_)
  · refine s_r <| q_a rfl rfl <| s_n <| tk_retc <| tk_then_ret ?_
    obtain rfl : (s, 9) = q := by rw [← hq]; exact Eq.symm (change_off ht15)
    exact tk_ret (()) (trivial) (.inl rfl) (r1 rfl rfl) (List.Sublist.refl _)
  · refine tk_skip <| tk_then <| tk_seq <| s_r <| q_m rfl rfl <| tk_act rfl <| a_callc [] _ rfl rfl kR rfl (fun w' hw' => fine_spec) rfl fun _ _ => q_a rfl rfl <| s_n <| s_r <| q_m rfl rfl <| s_q rfl ((y_neq rfl rfl).cast (bool_f dC)) <| s_n <| tk_cond0 rfl <| tk_skip <| tk_then <| tk_seq <| s_r <| q_m rfl rfl <| s_q rfl (y_nilCheck rfl) <| s_q rfl (y_fldN (o := 0) 1 rfl kR) <| tk_act rfl <| a_callv [] _ rfl kR rfl (fun w' hw' => spend_spec (s := s) (sb := sb) (mb := mb) hok (St.pre hw')) rfl fun _ _ => tk_R (H1 := [_]) rfl (show mapS mb (kvO s.obs) = mapS mb (kvO s.spend.1.obs) from mapS_cast (by rw [spend_obs.1])) ?_; refine tk_R (H1 := [_, _]) rfl (show bag (s.obs.map (obR 5)) = bag (s.spend.1.obs.map (obR 5)) from bag_cast (by rw [spend_obs.1])) <| q_a rfl rfl <| s_n <| s_r <| q_m rfl rfl <| s_q rfl (y_neq rfl rfl) <| s_n <| tk_condP rfl (fun ht26 => ?_) (fun ht26 => ?_)
    · refine s_r <| q_m rfl rfl <| q_a rfl rfl <| s_n <| tk_retc <| tk_then_ret ?_
      obtain rfl : s.spend = q := by rw [← hq]; exact Eq.symm (change_sp ht15 oM oM)
      exact tk_ret (()) (trivial) (.inl rfl) (r1 rfl rfl) (List.Sublist.refl _)
    · refine tk_skip <| tk_then <| s_r <| q_m rfl rfl <| tk_act rfl <| a_callc [] _ rfl rfl kR rfl (fun w' hw' => nopS_spec) rfl fun _ _ => s_n <| s_r <| q_a rfl rfl <| s_n <| tk_retc ?_
      obtain rfl : (s.spend.1, 0) = q := by rw [← hq]; exact Eq.symm (change_ok ht15 oM oM)
      exact tk_ret (()) (trivial) (.inl rfl) (r1 rfl rfl) (List.Sublist.refl _)
theorem put_spec {s : Sh} {sb mb : Nat} {v : Value} {ps : List Sb} {nm b : List UInt8} {w : World} (hok : ShOk s) (hnm : nm.length < 9223372036854775808) (hbl : b.length < 4294967296 ∧ ps.length < 4294967296) (hv : Ro (Fs [cel sb ([Value.map (some mb), I (s.left), .bool s.off, I (s.made), I (s.room)]) 192, mapS mb (kvO s.obs), bag (s.obs.map (obR 5))]) w (rd v (ps.map Prod.fst))) (hp : ∀ p ∈ ps, Ro (Fs [cel sb ([Value.map (some mb), I (s.left), .bool s.off, I (s.made), I (s.room)]) 192, mapS mb (kvO s.obs), bag (s.obs.map (obR 5))]) w (rdB p.1 p.2)) (hL : ps.flatMap Prod.snd = b) (hh : Pre w [cel sb ([Value.map (some mb), I (s.left), .bool s.off, I (s.made), I (s.room)]) 192, mapS mb (kvO s.obs), bag (s.obs.map (obR 5))]) :
    Spec Tryz.prog 134 [PT sb, Str nm, v] w [cel sb ([Value.map (some mb), I (s.left), .bool s.off, I (s.made), I (s.room)]) 192, mapS mb (kvO s.obs), bag (s.obs.map (obR 5))] (fun _ : Value => True) (fun x => I (((s.put nm x b).2 : Nat) : Int)) (fun x => [cel sb ([Value.map (some mb), I ((s.put nm x b).1.left), .bool ((s.put nm x b).1.off), I ((s.put nm x b).1.made), I ((s.put nm x b).1.room)]) 192, mapS mb (kvO ((s.put nm x b).1.obs)), bag (((s.put nm x b).1.obs).map (obR 5))]) := by
  refine spec_of (n := 14) Tryz.func134 rfl rfl hh.1 hh.2 rfl ?_
  have hLl := congrArg List.length hL
  refine s_r <| tk_act rfl <| a_box1 rfl rfl rfl fun b3 => tk_act rfl <| a_box1 rfl rfl rfl fun b4 => q_a rfl rfl <| s_n <| s_r <| q_m rfl rfl <| tk_act rfl <| a_callv [] _ rfl kR rfl (fun w' hw' => concat_spec (ps := ps) (L := ps.flatMap Prod.snd) (Ro.call hv hw') (fun p hp0 => (hp p hp0).call hw') sI ⟨lenP, lenP⟩) rfl fun v9 _ => tk_R (H1 := []) rfl (show ownB v9 (ps.flatMap Prod.snd) 5 = ownB v9 b 5 from ownM_cast hL) <| tk_own1 (.head _) fun hfb => tk_act rfl <| a_alloc1 (v := .slice none 0 0) kR rfl rfl fun b7 => tk_act rfl <| a_storeE (H1 := []) (o := 0) (v := v9) (cs' := [v9]) rfl rfl kR (RdS.one hfb.choose_spec) rfl sW (rfl) <| s_n <| s_r <| s_q rfl (y_load rfl rfl (hc (o := 0) (mm 3 rfl) (rfl))) <| s_q rfl (y_makeFunc (cs := [PT b3, PT b4, PT b7]) rfl) <| s_q rfl (y_makeFunc (cs := [PT b7, PT b3, PT b4]) rfl) <| tk_act rfl <| tk_ps [1, 1, 2, 3, 6, 6, 6] rfl ?_; exact a_callv [] _ rfl kR rfl (fun w' hw' => chPut_spec (s := s) (q := (s.put nm v9 b)) (c0 := b3) (c1 := b4) (c2 := b7) (vv := v9) (nm := nm) (b := b) rfl hok lenP lenP (St.pre hw')) rfl fun _ _ => q_a rfl rfl <| s_n <| tk_retc <| tk_ret (v9) (trivial) (.inl rfl) (r1 rfl rfl) (List.Sublist.refl _)
theorem ren_spec {s : Sh} {sb mb : Nat} {na nb : List UInt8} {w : World} (hok : ShOk s) (hnb : nb.length < 9223372036854775808) (hh : Pre w [cel sb ([Value.map (some mb), I (s.left), .bool s.off, I (s.made), I (s.room)]) 192, mapS mb (kvO s.obs), bag (s.obs.map (obR 5))]) : Spec Tryz.prog 136 [PT sb, Str na, Str nb] w [cel sb ([Value.map (some mb), I (s.left), .bool s.off, I (s.made), I (s.room)]) 192, mapS mb (kvO s.obs), bag (s.obs.map (obR 5))] (fun _ : Unit => True) (fun _ => I (((s.ren na nb).2 : Nat) : Int)) (fun _ => [cel sb ([Value.map (some mb), I ((s.ren na nb).1.left), .bool ((s.ren na nb).1.off), I ((s.ren na nb).1.made), I ((s.ren na nb).1.room)]) 192, mapS mb (kvO ((s.ren na nb).1.obs)), bag (((s.ren na nb).1.obs).map (obR 5))]) := by
  exact spec_of (n := 11) Tryz.func136 rfl rfl hh.1 hh.2 rfl <| s_r <| tk_act rfl <| a_box1 rfl rfl rfl fun b3 => tk_act rfl <| a_box1 rfl rfl rfl fun b4 => tk_act rfl <| a_box1 rfl rfl rfl fun b5 => q_a rfl rfl <| s_n <| s_r <| s_q rfl (y_load rfl rfl (hc (o := 0) (mm 2 rfl) (rfl))) <| s_q rfl (y_makeFunc (cs := [PT b3, PT b4, PT b5]) rfl) <| s_q rfl (y_makeFunc (cs := [PT b3, PT b4, PT b5]) rfl) <| tk_act rfl <| tk_ps [1, 2, 5, 5, 5] rfl <| a_callv [] _ rfl kR rfl (fun w' hw' => chRen_spec (s := s) (q := (s.ren na nb)) (c0 := b3) (c1 := b4) (c2 := b5) (na := na) (nb := nb) rfl hok lenP (St.pre hw')) rfl fun _ _ => q_a rfl rfl <| s_n <| tk_retc <| tk_ret (()) (trivial) (.inl rfl) (r1 rfl rfl) (List.Sublist.refl _)
theorem del_spec {s : Sh} {sb mb : Nat} {na : List UInt8} {w : World} (hok : ShOk s) (hh : Pre w [cel sb ([Value.map (some mb), I (s.left), .bool s.off, I (s.made), I (s.room)]) 192, mapS mb (kvO s.obs), bag (s.obs.map (obR 5))]) : Spec Tryz.prog 91 [PT sb, Str na] w [cel sb ([Value.map (some mb), I (s.left), .bool s.off, I (s.made), I (s.room)]) 192, mapS mb (kvO s.obs), bag (s.obs.map (obR 5))] (fun _ : Unit => True) (fun _ => I (((s.del na).2 : Nat) : Int)) (fun _ => [cel sb ([Value.map (some mb), I ((s.del na).1.left), .bool ((s.del na).1.off), I ((s.del na).1.made), I ((s.del na).1.room)]) 192, mapS mb (kvO ((s.del na).1.obs)), bag (((s.del na).1.obs).map (obR 5))]) := by
  exact spec_of (n := 9) Tryz.func91 rfl rfl hh.1 hh.2 rfl <| s_r <| tk_act rfl <| a_box1 rfl rfl rfl fun b2 => tk_act rfl <| a_box1 rfl rfl rfl fun b3 => q_a rfl rfl <| s_n <| s_r <| s_q rfl (y_load rfl rfl (hc (o := 0) (mm 1 rfl) (rfl))) <| s_q rfl (y_makeFunc (cs := [PT b2, PT b3]) rfl) <| s_q rfl (y_makeFunc (cs := [PT b2, PT b3]) rfl) <| tk_act rfl <| tk_ps [1, 4, 4, 4] rfl <| a_callv [] _ rfl kR rfl (fun w' hw' => chDel_spec (s := s) (q := (s.del na)) (c0 := b2) (c1 := b3) (na := na) rfl hok (St.pre hw')) rfl fun _ _ => q_a rfl rfl <| s_n <| tk_retc <| tk_ret (()) (trivial) (.inl rfl) (r1 rfl rfl) (List.Sublist.refl _)
theorem sync_q {s : Sh} {q : Sh × Nat} {sb mb : Nat} {nv : Value} {na : List UInt8} {w : World} (hq : s.sync1 na = q) (hok : ShOk s) (hn : Ro (Fs [cel sb ([Value.map (some mb), I (s.left), .bool s.off, I (s.made), I (s.room)]) 192, mapS mb (kvO s.obs), bag (s.obs.map (obR 5))]) w (rd nv ([na].map Str))) (hh : Pre w [cel sb ([Value.map (some mb), I (s.left), .bool s.off, I (s.made), I (s.room)]) 192, mapS mb (kvO s.obs), bag (s.obs.map (obR 5))]) : Spec Tryz.prog 135 [PT sb, nv] w [cel sb ([Value.map (some mb), I (s.left), .bool s.off, I (s.made), I (s.room)]) 192, mapS mb (kvO s.obs), bag (s.obs.map (obR 5))] (fun _ : Unit => True) (fun _ => IN q.2) (fun _ => [cel sb ([Value.map (some mb), I (q.1.left), .bool q.1.off, I (q.1.made), I (q.1.room)]) 192, mapS mb (kvO q.1.obs), bag (q.1.obs.map (obR 5))]) := by
  refine spec_of (n := 42) Tryz.func135 rfl rfl hh.1 hh.2 rfl <| s_r <| q_a rfl rfl <| s_n <| s_r <| q_m rfl rfl <| tk_act rfl <| a_callv [] _ rfl kR rfl (fun w' hw' => chSyn_spec (s := s) (q := s.nudge) rfl hok (St.pre hw')) rfl fun _ _ => q_a rfl rfl <| s_n <| tk_seq <| s_r <| q_m rfl rfl <| s_q rfl (y_lenRN (n' := 1) rfl hn.1 rfl (by first | rfl | (rw [List.length_map]; omega) | simp)) <| q_m rfl rfl <| s_n <| tk_block <| tk_loop (X := Nat × Sh × Nat) (fun (i, t, e) => (i = 0 ∧ t = s.nudge.1 ∧ e = s.nudge.2) ∨ (i = 1 ∧ s.sync1 na = (t, e))) (fun (i, t, e) => [(0, PT sb), (4, I 0), (5, IN e), (12, nv), (13, I 1), (14, IN i)]) (fun (i, t, e) => [cel sb ([Value.map (some mb), I (t.left), .bool t.off, I (t.made), I (t.room)]) 192, mapS mb (kvO t.obs), bag (t.obs.map (obR 5))]) (fun (i, t, e) => 1 - i) ((0, s.nudge.1, s.nudge.2)) (.inl ⟨rfl, rfl, rfl⟩) sB ((List.Sublist.refl _)) ?_
  rintro ⟨i, t, e⟩ hI
  dsimp only at hI ⊢
  refine s_r <| s_q rfl (y_lss rfl rfl) <| s_n <| tk_seq <| tk_condP rfl (fun ht15 => ?_) (fun ht15 => ?_)
  · obtain ⟨hte, hee⟩ : t = s.nudge.1 ∧ e = s.nudge.2 := hI.elim (fun h => h.2) (fun h => absurd h.1 oM)
    refine tk_bagO (mm 2 rfl) fun hbo => ?_
    have hlk := lk_one hbo
    have hnt : (t.obs.map Ob.name).Nodup := by rw [hte, nudge_obs.1]; exact hok.nodup
    refine tk_skip <| tk_then <| tk_seq <| tk_block <| s_r <| s_q rfl (y_ixR (j := i) rfl rfl hn.1 lenP kR) <| tk_qe (Str na) rfl rfl rfl (y_load rfl rfl (fun w hw => ((fun w hw => Ro.rd hn hw) w hw).cell (gM (d := []) lenP))) (by rw [show i = 0 by omega]; rfl) <| q_a rfl rfl <| s_n <| tk_seq <| s_r <| q_m rfl rfl <| s_q rfl (y_neq rfl rfl) <| s_n <| tk_condP rfl (fun ht19 => ?_) (fun ht19 => ?_)
    · refine tk_exit <| tk_then_exit <| tk_in_miss rfl <| tk_then_exit <| tk_then_exit <| tk_in_hit <| tk_then <| s_r <| q_m rfl rfl <| q_a rfl rfl <| s_n <| tk_retc ?_
      obtain rfl : (t, e) = q := by rw [← hq]; exact Eq.symm (by rw [sync1_no (by rw [← hee]; omega), hte, hee])
      exact tk_ret (()) (trivial) (.inl rfl) (r1 rfl rfl) (List.Sublist.refl _)
    · have he0 : e = 0 := by omega
      have hn0 : s.nudge.2 = 0 := by rw [← hee]; exact he0
      refine tk_skip <| tk_then <| s_r <| q_m rfl rfl <| s_q rfl (y_nilCheck rfl) <| s_q rfl (y_fld0 (o := 0) rfl kR) <| s_q rfl (y_fld0 (o := 0) rfl kR) <| s_q rfl (y_load rfl rfl (hc (o := 0) (.head _) (rfl))) <| q_m rfl rfl <| s_q rfl ((y_getSok (b := mb) (kv := (kvO t.obs)) (k := na) (zv := .agg [Value.slice none 0 0, .bool false].toArray) rfl rfl Tryz.underlying186 Tryz.underlying9 (fun _ => kR) (fun w hw => hw.mem (mm 1 rfl))).cast (kvO_ok)) <| q_m rfl rfl <| s_q rfl (y_extract rfl rfl) <| s_q rfl (y_extract rfl rfl) <| tk_act rfl <| a_allocL (cs := [Value.slice none 0 0, .bool false]) kR rfl fun b8 => tk_act rfl <| a_storeW (H1 := []) (vs := [(lkO t.obs na).v, .bool ((lkO t.obs na).sure)]) 2 rfl rfl kR rfl ⟨lenP, lenP⟩ (List.forall_mem_cons.2 ⟨(hlk _), (List.forall_mem_cons.2 ⟨rfl, (fun _ h => nomatch h)⟩)⟩) <| q_a rfl rfl <| s_n <| tk_seq <| s_r <| q_m rfl rfl <| s_q rfl ((y_not rfl).cast (notdec _)) <| s_n ?_; refine tk_condP rfl (fun ht31 => ?_) (fun ht31 => ?_)
      · refine s_r <| q_a rfl rfl <| s_n <| tk_exit <| tk_then_exit <| tk_in_miss rfl <| tk_then_exit <| tk_then_exit <| tk_in_hit <| tk_then <| s_r <| q_m rfl rfl <| q_a rfl rfl <| s_n <| tk_retc ?_
        obtain rfl : (t, 6) = q := by rw [← hq]; exact Eq.symm (by rw [sync1_miss hn0 (by rw [← hte]; exact ht31), hte])
        exact tk_ret (()) (trivial) (.inl rfl) (r1 rfl rfl) (.cons _ (List.Sublist.refl _))
      · refine tk_skip <| tk_then <| s_r <| s_q rfl (y_fldN (o := 0) 1 rfl kR) <| tk_act rfl <| a_storeE (H1 := []) (o := 1) (v := .bool true) (cs' := [(lkO t.obs na).v, .bool true]) rfl rfl kR rfl rfl sW (rfl) <| s_n <| tk_drawH [cel b8 ([(lkO t.obs na).v, .bool true]) 198, cel sb ([Value.map (some mb), I (t.left), .bool t.off, I (t.made), I (t.room)]) 192, bag (t.obs.map (obR 5))] [] kR <| s_x 0 rfl (y_move rfl) <| s_x 1 rfl (y_nilCheck rfl) <| s_x 2 rfl (y_fld0 (o := 0) rfl kR) <| s_x 3 rfl (y_fld0 (o := 0) rfl kR) <| s_l 4 rfl (fun _ h => kT [0, 0] 1 rfl h) (y_load rfl rfl (hc (o := 0) (mm 1 rfl) (rfl))) <| s_x 5 rfl (y_move rfl) <| s_l 6 rfl (fun _ h => kT [0, 0] 1 rfl h) (y_loadA 2 rfl kR lenP (hcw (.head _))) <| tx_a 7 rfl kR rfl <| a_setS (H1 := [_, _]) (b := mb) (kv := (kvO t.obs)) (k := na) (v := (Value.agg ([(lkO t.obs na).v, .bool true]).toArray)) rfl rfl rfl Tryz.underlying186 Tryz.underlying9 rfl <| tk_S (fun _ h => kT [0, 0] 1 rfl h) <| tx_done kR <| tk_in_normal <| tk_then <| tk_region <| s_q rfl (y_addN (a := i) (b := 1) rfl rfl oM) <| q_m rfl rfl ?_; exact tk_nil <| tk_re 5 (IN e) (I 0) rfl (by rw [he0]; rfl) <| tk_R (H1 := [_, _]) rfl (show mapS mb (setS (kvO t.obs) na ((Value.agg ([(lkO t.obs na).v, .bool true]).toArray))) = mapS mb (kvO (syncO t.obs na)) from mapS_cast (kvO_sync hnt (Classical.not_not.1 ht31))) <| tk_R (H1 := [_, _, _]) rfl (show bag (t.obs.map (obR 5)) = bag ((syncO t.obs na).map (obR 5)) from bag_cast sync_bag.symm) <| tk_again ((i + 1, t.obsTo (syncO t.obs na), 0)) (.inr ⟨by dsimp only; omega, by dsimp only; rw [sync1_ok hn0 (by rw [← hte]; exact Classical.not_not.1 ht31), hte]⟩) (by dsimp only; omega) sB (.cons _ (List.Sublist.refl _))
  · refine tk_exit <| tk_then_exit <| tk_then_exit <| tk_in_hit <| tk_then <| s_r <| q_m rfl rfl <| q_a rfl rfl <| s_n <| tk_retc ?_
    obtain rfl : (t, e) = q := by rw [← hq]; exact Eq.symm (by exact hI.elim (fun h => absurd h.1 oM) (fun h => h.2))
    exact tk_ret (()) (trivial) (.inl rfl) (r1 rfl rfl) (List.Sublist.refl _)
theorem sync_spec {s : Sh} {sb mb : Nat} {nv : Value} {na : List UInt8} {w : World} (hok : ShOk s) (hn : Ro (Fs [cel sb ([Value.map (some mb), I (s.left), .bool s.off, I (s.made), I (s.room)]) 192, mapS mb (kvO s.obs), bag (s.obs.map (obR 5))]) w (rd nv ([na].map Str))) (hh : Pre w [cel sb ([Value.map (some mb), I (s.left), .bool s.off, I (s.made), I (s.room)]) 192, mapS mb (kvO s.obs), bag (s.obs.map (obR 5))]) : Spec Tryz.prog 135 [PT sb, nv] w [cel sb ([Value.map (some mb), I (s.left), .bool s.off, I (s.made), I (s.room)]) 192, mapS mb (kvO s.obs), bag (s.obs.map (obR 5))] (fun _ : Unit => True) (fun _ => I (((s.sync1 na).2 : Nat) : Int)) (fun _ => [cel sb ([Value.map (some mb), I ((s.sync1 na).1.left), .bool ((s.sync1 na).1.off), I ((s.sync1 na).1.made), I ((s.sync1 na).1.room)]) 192, mapS mb (kvO ((s.sync1 na).1.obs)), bag (((s.sync1 na).1.obs).map (obR 5))]) := sync_q rfl hok hn hh
theorem get_q {s : Sh} {q : Nat × List UInt8} {sb mb : Nat} {na : List UInt8} {w : World} (hq : s.get na = q) (hok : ShOk s) (hh : Pre w [cel sb ([Value.map (some mb), I (s.left), .bool s.off, I (s.made), I (s.room)]) 192, mapS mb (kvO s.obs), bag (s.obs.map (obR 5))]) : Spec Tryz.prog 80 [PT sb, Str na] w [cel sb ([Value.map (some mb), I (s.left), .bool s.off, I (s.made), I (s.room)]) 192, mapS mb (kvO s.obs), bag (s.obs.map (obR 5))] (fun _ : Value => True) (fun x => .tuple #[x, IN q.1]) (fun x => [ownB x q.2 5, cel sb ([Value.map (some mb), I (s.left), .bool s.off, I (s.made), I (s.room)]) 192, mapS mb (kvO s.obs), bag (s.obs.map (obR 5))]) := by
  refine spec_of (n := 29) Tryz.func80 rfl rfl hh.1 hh.2 rfl ?_
  have hsum := hok.sum
  have hrm := hok.room
  refine tk_bagO (mm 2 rfl) fun hbo => ?_
  have hlk := lk_one hbo
  
  refine s_r <| q_a rfl rfl <| q_a rfl rfl <| s_n <| tk_seq <| s_r <| q_m rfl rfl <| tk_act rfl <| a_callv [] _ rfl kR rfl (fun w' hw' => look_spec (s := s) (sb := sb) (mb := mb) (St.pre hw')) rfl fun _ _ => q_a rfl rfl <| s_n <| s_r <| q_m rfl rfl <| s_q rfl (y_neq rfl rfl) <| s_n <| tk_condP rfl (fun ht12 => ?_) (fun ht12 => ?_)
  · have hof : s.off = true := Classical.not_not.1 fun h => by rw [if_neg h] at ht12; omega
    refine s_r <| q_m rfl rfl <| q_a rfl rfl <| q_a rfl rfl <| s_n <| tk_retc <| tk_then_ret <| tk_ownM0 (f := B) 5 ?_
    obtain rfl : (9, []) = q := by rw [← hq]; exact Eq.symm (by rw [Sh.get, if_pos hof])
    exact tk_re 5 (I (((if s.off = true then 9 else 0) : Nat) : Int)) (I 9) rfl (by rw [if_pos hof]; rfl) <| tk_ret ((.slice none 0 0)) (trivial) (.inl rfl) (r2 rfl rfl rfl) (List.Sublist.refl _)
  · have hno : ¬ s.off = true := fun h => by rw [if_pos h] at ht12; omega
    refine tk_skip <| tk_then <| s_r <| q_m rfl rfl <| s_q rfl (y_nilCheck rfl) <| s_q rfl (y_fld0 (o := 0) rfl kR) <| s_q rfl (y_fld0 (o := 0) rfl kR) <| s_q rfl (y_load rfl rfl (hc (o := 0) (.head _) (rfl))) <| q_m rfl rfl <| s_q rfl ((y_getSok (b := mb) (kv := (kvO s.obs)) (k := na) (zv := .agg [Value.slice none 0 0, .bool false].toArray) rfl rfl Tryz.underlying186 Tryz.underlying9 (fun _ => kR) (fun w hw => hw.mem (mm 1 rfl))).cast (kvO_ok)) <| q_m rfl rfl <| s_q rfl (y_extract rfl rfl) <| s_q rfl (y_extract rfl rfl) <| tk_act rfl <| a_allocL (cs := [Value.slice none 0 0, .bool false]) kR rfl fun b7 => tk_act rfl <| a_storeW (H1 := []) (vs := [(lkO s.obs na).v, .bool ((lkO s.obs na).sure)]) 2 rfl rfl kR rfl ⟨lenP, lenP⟩ (List.forall_mem_cons.2 ⟨(hlk _), (List.forall_mem_cons.2 ⟨rfl, (fun _ h => nomatch h)⟩)⟩) <| q_a rfl rfl <| s_n <| tk_seq <| s_r <| q_m rfl rfl <| s_q rfl ((y_not rfl).cast (notdec _)) <| s_n ?_; refine tk_condP rfl (fun ht25 => ?_) (fun ht25 => ?_)
    · refine s_r <| q_a rfl rfl <| q_a rfl rfl <| s_n <| tk_retc <| tk_then_ret <| tk_ownM0 (f := B) 5 ?_
      obtain rfl : (6, []) = q := by rw [← hq]; exact Eq.symm (by rw [Sh.get, if_neg hno, if_pos ht25])
      exact tk_ret ((.slice none 0 0)) (trivial) (.inl rfl) (r2 rfl rfl rfl) (.cons_cons _ (.cons _ (List.Sublist.refl _)))
    · have hha : hasO s.obs na := Classical.not_not.1 ht25
      have hbl := hok.bytes _ (lkO_name hha).2
      refine tk_skip <| tk_then <| s_r <| s_q rfl (y_fld0 (o := 0) rfl kR) <| s_q rfl (y_load rfl rfl (hc (o := 0) (.head _) (rfl))) <| tk_act rfl <| a_callv [] _ rfl kR rfl (fun w' hw' => clone_spec (l := (lkO s.obs na).b) (ro_bagO (T := 5) hw' (mm 3 rfl) (lkO_name hha).2) lenP) rfl fun v28 _ => q_a rfl rfl <| q_a rfl rfl <| s_n <| tk_retc ?_
      obtain rfl : (0, (lkO s.obs na).b) = q := by rw [← hq]; exact Eq.symm (by rw [Sh.get, if_neg hno, if_neg ht25])
      exact tk_ret (v28) (trivial) (.inl rfl) (r2 rfl rfl rfl) (.cons_cons _ (.cons _ (List.Sublist.refl _)))
theorem get_spec {s : Sh} {sb mb : Nat} {na : List UInt8} {w : World} (hok : ShOk s) (hh : Pre w [cel sb ([Value.map (some mb), I (s.left), .bool s.off, I (s.made), I (s.room)]) 192, mapS mb (kvO s.obs), bag (s.obs.map (obR 5))]) : Spec Tryz.prog 80 [PT sb, Str na] w [cel sb ([Value.map (some mb), I (s.left), .bool s.off, I (s.made), I (s.room)]) 192, mapS mb (kvO s.obs), bag (s.obs.map (obR 5))] (fun _ : Value => True) (fun x => .tuple #[x, I (((s.get na).1 : Nat) : Int)]) (fun x => [ownB x (s.get na).2 5, cel sb ([Value.map (some mb), I (s.left), .bool s.off, I (s.made), I (s.room)]) 192, mapS mb (kvO s.obs), bag (s.obs.map (obR 5))]) := get_q rfl hok hh
end Go.Proofs.YtkkjfojgjmglpaaGreatDoor
set_option linter.unusedSimpArgs false
set_option linter.unusedVariables false
namespace Go.Proofs.YtkkjfojgjmglpaaGreatDoor
open Go Go.RowKit
set_option maxRecDepth 100000
attribute [local irreducible] sumL hexL
def newS (room : Nat) : Sh := ⟨[], -1, false, 0, (room : Int)⟩
theorem shNew_spec {room : Nat} {w : World} (hr : room ≤ 1073741824) : Spec Tryz.prog 77 [IN room] w [] (fun _ : Nat × Nat => True) (fun x => .tuple #[PT x.1, I 0])
    (fun x => [cel x.1 [.map (some x.2), I (newS room).left, .bool (newS room).off, I (newS room).made, I (newS room).room] 192, mapS x.2 (kvO (newS room).obs), bag ((newS room).obs.map (obR 5))]) := by
  refine spec_of (n := 16) Tryz.func77 rfl rfl trivial trivial rfl <| s_r <| q_a rfl rfl <| q_a rfl rfl <| s_n <| tk_seq <| s_r <| q_m rfl rfl <| tk_qe (.bool false) rfl rfl rfl (y_lss rfl rfl) (bool_f oM) <| q_m rfl rfl <| s_g rfl (y_move rfl) <| tk_gqe (.bool false) rfl rfl rfl (y_gtr rfl rfl) (bool_f oM) <| s_q rfl (y_pick0 rfl rfl) <| s_n <| tk_cond0 rfl <| tk_skip <| tk_then <| s_r <| tk_act rfl <| a_makeMapS rfl fun mb => s_q rfl (y_build (v := .agg ([Value.map (some mb)]).toArray) (vs := [(0, .map (some mb))]) rfl (run_build (zs := [Value.map none]) (pl := [(0, 1)]) Tryz.underlying188 (fun _ => kR) (fun _ => kR) (by simp [fillL, Value.cells]))) <| s_q rfl (y_build (v := .agg ([I (-1), .bool false, I 0]).toArray) (vs := [(0, I (-1))]) rfl (fun _ => kR)) <| q_m rfl rfl <| s_q rfl (y_build (v := .agg ([Value.map (some mb), I (-1), .bool false, I 0, IN room]).toArray) (vs := [(0, .agg ([Value.map (some mb)]).toArray), (1, .agg ([I (-1), .bool false, I 0]).toArray), (2, IN room)]) rfl (run_build (zs := [Value.map none, I 0, .bool false, I 0, I 0]) (pl := [(0, 1), (1, 3), (4, 1)]) Tryz.underlying192 (fun _ => kR) (fun _ => kR) (by simp [fillL, Value.cells]))) ?_; exact tk_act rfl <| a_boxL (cs := [Value.map (some mb), I (-1), .bool false, I 0, IN room]) rfl rfl fun b15 => q_a rfl rfl <| q_a rfl rfl <| s_n <| tk_retc <| tk_bag0 <| tk_ps [2, 2] rfl <| tk_ret ((b15, mb)) (trivial) (.inl rfl) (r2 rfl rfl rfl) (List.Sublist.refl _)
end Go.Proofs.YtkkjfojgjmglpaaGreatDoor
namespace Go.Proofs.YtkkjfojgjmglpaaGreatDoor
open Go Go.RowKit Go.Shelf
set_option maxRecDepth 100000
def laysItoa_ren : Go.Shelf.Ren := ⟨fun | 171 => 120 | 243 => 160 | 246 => 192 | 283 => 219 | 284 => 220 | 285 => 221 | 286 => 222 | 129 => 218 | 317 => 239 | 318 => 240 | 319 => 241 | 320 => 242 | 337 => 248 | 338 => 249 | n => n, fun | 3 => 3 | 9 => 9 | 2 => 2 | 4 => 4 | 171 => 332 | 0 => 0 | 53 => 105 | 37 => 42 | 5 => 5 | 173 => 334 | 212 => 352 | 51 => 210 | 20 => 20 | 213 => 353 | 46 => 209 | 232 => 27 | 233 => 212 | n => n, fun | 17 => 2 | 18 => 6 | 19 => 7 | n => n⟩
theorem laysItoa : Go.Proofs.Lays.n171 Tryz.prog laysItoa_ren := {
  mixed := by kernel_rfl
  f129 := Tryz.func218.trans (congrArg some (by kernel_rfl))
  f171 := Tryz.func120.trans (congrArg some (by kernel_rfl))
  f243 := Tryz.func160.trans (congrArg some (by kernel_rfl))
  f246 := Tryz.func192.trans (congrArg some (by kernel_rfl))
  f283 := Tryz.func219.trans (congrArg some (by kernel_rfl))
  f284 := Tryz.func220.trans (congrArg some (by kernel_rfl))
  f285 := Tryz.func221.trans (congrArg some (by kernel_rfl))
  f286 := Tryz.func222.trans (congrArg some (by kernel_rfl))
  f317 := Tryz.func239.trans (congrArg some (by kernel_rfl))
  f318 := Tryz.func240.trans (congrArg some (by kernel_rfl))
  f319 := Tryz.func241.trans (congrArg some (by kernel_rfl))
  f320 := Tryz.func242.trans (congrArg some (by kernel_rfl))
  f337 := Tryz.func248.trans (congrArg some (by kernel_rfl))
  f338 := Tryz.func249.trans (congrArg some (by kernel_rfl))
  t0 := Tryz.underlying0
  a0 := Tryz.isAgg0
  z0 := Tryz.sizeOf0
  v0 := Tryz.zeroValue0
  t2 := Tryz.underlying2
  a2 := Tryz.isAgg2
  z2 := Tryz.sizeOf2
  v2 := Tryz.zeroValue2
  t3 := Tryz.underlying3
  a3 := Tryz.isAgg3
  z3 := Tryz.sizeOf3
  v3 := Tryz.zeroValue3
  t4 := Tryz.underlying4
  a4 := Tryz.isAgg4
  z4 := Tryz.sizeOf4
  v4 := Tryz.zeroValue4
  t5 := Tryz.underlying5
  a5 := Tryz.isAgg5
  z5 := Tryz.sizeOf5
  v5 := Tryz.zeroValue5
  t9 := Tryz.underlying9
  a9 := Tryz.isAgg9
  z9 := Tryz.sizeOf9
  v9 := Tryz.zeroValue9
  t20 := Tryz.underlying20
  a20 := Tryz.isAgg20
  z20 := Tryz.sizeOf20
  v20 := Tryz.zeroValue20
  t37 := Tryz.underlying42
  a37 := Tryz.isAgg42
  z37 := Tryz.sizeOf42
  v37 := Tryz.zeroValue42
  t46 := Tryz.underlying209
  a46 := Tryz.isAgg209
  z46 := Tryz.sizeOf209
  v46 := Tryz.zeroValue209
  t51 := Tryz.underlying210
  a51 := Tryz.isAgg210
  z51 := Tryz.sizeOf210
  v51 := Tryz.zeroValue210
  t53 := Tryz.underlying105
  a53 := Tryz.isAgg105
  z53 := Tryz.sizeOf105
  v53 := Tryz.zeroValue105
  t171 := Tryz.underlying332
  a171 := Tryz.isAgg332
  z171 := Tryz.sizeOf332
  v171 := Tryz.zeroValue332
  t173 := Tryz.underlying334
  a173 := Tryz.isAgg334
  z173 := Tryz.sizeOf334
  v173 := Tryz.zeroValue334
  t212 := Tryz.underlying352
  a212 := Tryz.isAgg352
  z212 := Tryz.sizeOf352
  v212 := Tryz.zeroValue352
  t213 := Tryz.underlying353
  a213 := Tryz.isAgg353
  z213 := Tryz.sizeOf353
  t232 := Tryz.underlying27
  a232 := Tryz.isAgg27
  z232 := Tryz.sizeOf27
  v232 := Tryz.zeroValue27
  t233 := Tryz.underlying212
  a233 := Tryz.isAgg212
  z233 := Tryz.sizeOf212
  v233 := Tryz.zeroValue212
  g17 := by kernel_rfl
  g18 := by kernel_rfl
  g19 := by kernel_rfl }

theorem itoa_spec {i : Nat} {w : World} (hi : i < 100) : Spec Tryz.prog 120 [I ((i : Nat) : Int)] w [] (fun _ : Unit => True) (fun _ => Str (Lib.decDigits i)) (fun _ => []) := by
  refine Calls.mono (Any.strconv_Itoa_small laysItoa i hi w) ?_
  rintro e w' ⟨rfl, rfl⟩
  exact ⟨(), trivial, rfl, Fo.refl _ _, trivial, trivial, fun _ h => h.elim⟩
end Go.Proofs.YtkkjfojgjmglpaaGreatDoor
set_option linter.unusedSimpArgs false
set_option linter.unusedVariables false
namespace Go.Proofs.YtkkjfojgjmglpaaGreatDoor
open Go Go.RowKit
set_option maxRecDepth 100000
theorem itoa2_spec {i : Nat} {w : World} (hi : i < 100) : Spec Tryz.prog 120 [IN i] w [] (fun _ : Unit => True) (fun _ => Str (dec2 i)) (fun _ => []) := by rw [← dec2_eq hi]; exact itoa_spec hi
end Go.Proofs.YtkkjfojgjmglpaaGreatDoor
set_option linter.unusedSimpArgs false
set_option linter.unusedVariables false
namespace Go.Proofs.YtkkjfojgjmglpaaGreatDoor
open Go Go.RowKit
set_option maxRecDepth 100000
theorem now_spec {now kb : Nat} {w : World} (hh : Pre w [cel kb [IN now] 178]) : Spec Tryz.prog 146 [PT kb] w [cel kb [IN now] 178] (fun _ : Unit => True) (fun _ => IN now) (fun _ => [cel kb [IN now] 178]) := by
  exact spec_of (n := 9) Tryz.func146 rfl rfl hh.1 hh.2 rfl <| s_r <| q_a rfl rfl <| s_n <| tk_seq <| s_r <| q_m rfl rfl <| s_q rfl (y_pnil rfl rfl rfl) <| s_n <| tk_cond0 rfl <| tk_skip <| tk_then <| s_r <| q_m rfl rfl <| s_q rfl (y_nilCheck rfl) <| s_q rfl (y_fld0 (o := 0) rfl kR) <| s_q rfl (y_load rfl rfl (hc (o := 0) (.head _) (rfl))) <| q_a rfl rfl <| s_n <| tk_retc <| tk_ret (()) (trivial) (.inl rfl) (r1 rfl rfl) (List.Sublist.refl _)
theorem digits_spec {x : Lk} {hk mk nk : List UInt8} {tb sb kb lb : Nat} {w : World} (h3 : hk.length = 32 ∧ mk.length = 32 ∧ nk.length = 32) (hcl : x.cl < 100) (hh : Pre w [cel lb (hk.map B ++ (mk.map B ++ (nk.map B ++ ([PT tb, PT sb, PT kb, IN x.cl, IN x.made, Str x.own, IN x.asks, .bool x.want, Str x.next, .bool x.shown, IN x.m.c, .bool x.m.a, IN x.m.t])))) 182]) : Spec Tryz.prog 182 [PT lb] w [cel lb (hk.map B ++ (mk.map B ++ (nk.map B ++ ([PT tb, PT sb, PT kb, IN x.cl, IN x.made, Str x.own, IN x.asks, .bool x.want, Str x.next, .bool x.shown, IN x.m.c, .bool x.m.a, IN x.m.t])))) 182] (fun _ : Unit => True) (fun _ => Str (cdg x.cl)) (fun _ => [cel lb (hk.map B ++ (mk.map B ++ (nk.map B ++ ([PT tb, PT sb, PT kb, IN x.cl, IN x.made, Str x.own, IN x.asks, .bool x.want, Str x.next, .bool x.shown, IN x.m.c, .bool x.m.a, IN x.m.t])))) 182]) := by
  refine spec_of (n := 15) Tryz.func182 rfl rfl hh.1 hh.2 rfl ?_
  obtain ⟨hk32, mk32, nk32⟩ := h3
  refine s_r <| q_a rfl rfl <| s_n <| s_r <| q_m rfl rfl <| s_q rfl (y_nilCheck rfl) <| s_q rfl (y_fldN (o := 0) 99 rfl kR) <| s_q rfl (y_load rfl rfl (hc (o := 99) (.head _) (gA (k := 32) (i := 67) (by rw [List.length_map]; exact hk32) oM (gA (k := 32) (i := 35) (by rw [List.length_map]; exact mk32) oM (gA (k := 32) (i := 3) (by rw [List.length_map]; exact nk32) oM (rfl)))))) <| tk_act rfl <| a_callv [] _ rfl kR rfl (fun w' hw' => itoa2_spec (i := x.cl) lenP) rfl fun _ _ => q_a rfl rfl <| s_n <| tk_seq <| s_r <| q_m rfl rfl <| s_q rfl (y_lenStr (l := dec2 x.cl) rfl rfl) <| s_q rfl (y_lss rfl rfl) <| s_n <| tk_condP rfl (fun ht11 => ?_) (fun ht11 => ?_)
  · exact tk_region <| q_m rfl rfl <| s_q rfl (y_catT (l := [48]) (m := dec2 x.cl) rfl rfl lenP) <| q_a rfl rfl <| s_n <| s_r <| q_m rfl rfl <| q_a rfl rfl <| s_n <| tk_retc <| tk_re 2 (Str ([48] ++ (dec2 x.cl))) (Str (cdg x.cl)) rfl (congrArg Str (by rw [cdg, if_pos oM])) <| tk_ret (()) (trivial) (.inl rfl) (r1 rfl rfl) (List.Sublist.refl _)
  · exact tk_skip <| tk_then <| s_r <| q_m rfl rfl <| q_a rfl rfl <| s_n <| tk_retc <| tk_re 2 (Str (dec2 x.cl)) (Str (cdg x.cl)) rfl (congrArg Str (by rw [cdg, if_neg oM])) <| tk_ret (()) (trivial) (.inl rfl) (r1 rfl rfl) (List.Sublist.refl _)
theorem dfname_spec {x : Lk} {hk mk nk : List UInt8} {tb sb kb lb : Nat} {w : World} (h3 : hk.length = 32 ∧ mk.length = 32 ∧ nk.length = 32) (hcl : x.cl < 100) (hh : Pre w [cel lb (hk.map B ++ (mk.map B ++ (nk.map B ++ ([PT tb, PT sb, PT kb, IN x.cl, IN x.made, Str x.own, IN x.asks, .bool x.want, Str x.next, .bool x.shown, IN x.m.c, .bool x.m.a, IN x.m.t])))) 182]) : Spec Tryz.prog 149 [PT lb] w [cel lb (hk.map B ++ (mk.map B ++ (nk.map B ++ ([PT tb, PT sb, PT kb, IN x.cl, IN x.made, Str x.own, IN x.asks, .bool x.want, Str x.next, .bool x.shown, IN x.m.c, .bool x.m.a, IN x.m.t])))) 182] (fun _ : Unit => True) (fun _ => Str (dfName x.cl)) (fun _ => [cel lb (hk.map B ++ (mk.map B ++ (nk.map B ++ ([PT tb, PT sb, PT kb, IN x.cl, IN x.made, Str x.own, IN x.asks, .bool x.want, Str x.next, .bool x.shown, IN x.m.c, .bool x.m.a, IN x.m.t])))) 182]) := by
  refine spec_of (n := 6) Tryz.func149 rfl rfl hh.1 hh.2 rfl ?_
  obtain ⟨hk32, mk32, nk32⟩ := h3
  have hcd := cdg_len hcl
  exact s_r <| q_a rfl rfl <| s_n <| s_r <| q_m rfl rfl <| tk_act rfl <| a_callv [] _ rfl kR rfl (fun w' hw' => digits_spec (x := x) (hk := hk) (mk := mk) (nk := nk) (tb := tb) (sb := sb) (kb := kb) (lb := lb) ⟨lenP, lenP, lenP⟩ lenP (St.pre hw')) rfl fun _ _ => s_q rfl (y_catT (l := [107, 47]) (m := cdg x.cl) rfl rfl lenP) <| q_a rfl rfl <| s_n <| tk_retc <| tk_re 2 (Str ([107, 47] ++ (cdg x.cl))) (Str (dfName x.cl)) rfl (rfl) <| tk_ret (()) (trivial) (.inl rfl) (r1 rfl rfl) (List.Sublist.refl _)
theorem lkname_spec {x : Lk} {hk mk nk : List UInt8} {tb sb kb lb : Nat} {w : World} (h3 : hk.length = 32 ∧ mk.length = 32 ∧ nk.length = 32) (hcl : x.cl < 100) (hmd : x.made < 100) (hh : Pre w [cel lb (hk.map B ++ (mk.map B ++ (nk.map B ++ ([PT tb, PT sb, PT kb, IN x.cl, IN x.made, Str x.own, IN x.asks, .bool x.want, Str x.next, .bool x.shown, IN x.m.c, .bool x.m.a, IN x.m.t])))) 182]) : Spec Tryz.prog 147 [PT lb] w [cel lb (hk.map B ++ (mk.map B ++ (nk.map B ++ ([PT tb, PT sb, PT kb, IN x.cl, IN x.made, Str x.own, IN x.asks, .bool x.want, Str x.next, .bool x.shown, IN x.m.c, .bool x.m.a, IN x.m.t])))) 182] (fun _ : Unit => True) (fun _ => Str (lkName x.cl x.made)) (fun _ => [cel lb (hk.map B ++ (mk.map B ++ (nk.map B ++ ([PT tb, PT sb, PT kb, IN x.cl, IN x.made, Str x.own, IN x.asks, .bool x.want, Str x.next, .bool x.shown, IN x.m.c, .bool x.m.a, IN x.m.t])))) 182]) := by
  refine spec_of (n := 13) Tryz.func147 rfl rfl hh.1 hh.2 rfl ?_
  obtain ⟨hk32, mk32, nk32⟩ := h3
  have hcd := cdg_len hcl
  have hd2 := dec2_len (n := x.made)
  refine s_r <| q_a rfl rfl <| s_n <| tk_seq <| tk_drawH [cel lb (hk.map B ++ (mk.map B ++ (nk.map B ++ ([PT tb, PT sb, PT kb, IN x.cl, IN x.made, Str x.own, IN x.asks, .bool x.want, Str x.next, .bool x.shown, IN x.m.c, .bool x.m.a, IN x.m.t])))) 182] [] kR <| s_x 0 rfl (y_move rfl) <| s_x 4 rfl (y_move rfl) <| s_x 5 rfl (y_nilCheck rfl) <| s_x 6 rfl (y_fldN (o := 0) 100 rfl kR) <| s_l 7 rfl (fun _ h => h) (y_load rfl rfl (hc (o := 100) (.head _) (gA (k := 32) (i := 68) (by rw [List.length_map]; exact hk32) oM (gA (k := 32) (i := 36) (by rw [List.length_map]; exact mk32) oM (gA (k := 32) (i := 4) (by rw [List.length_map]; exact nk32) oM (rfl)))))) <| tx_a 1 rfl kR rfl <| a_callv [] _ rfl kR rfl (fun w' hw' => digits_spec (x := x) (hk := hk) (mk := mk) (nk := nk) (tb := tb) (sb := sb) (kb := kb) (lb := lb) ⟨lenP, lenP, lenP⟩ lenP (St.pre hw')) rfl fun _ _ => tk_S (fun _ h => h) <| s_x 2 rfl (y_catT (l := [108, 47]) (m := cdg x.cl) rfl rfl lenP) <| s_x 3 rfl (y_catT (l := [108, 47] ++ (cdg x.cl)) (m := [45]) rfl rfl lenP) <| tx_a 8 rfl kR rfl <| a_callv [] _ rfl kR rfl (fun w' hw' => itoa2_spec (i := x.made) lenP) rfl fun _ _ => tk_S (fun _ h => h) <| s_x 9 rfl (y_catT (l := ([108, 47] ++ (cdg x.cl)) ++ [45]) (m := dec2 x.made) rfl rfl lenP) <| s_x 10 rfl (y_assign rfl) <| tx_done kR <| tk_then <| tk_retc <| tk_re 2 (Str ((([108, 47] ++ (cdg x.cl)) ++ [45]) ++ (dec2 x.made))) (Str (lkName x.cl x.made)) rfl (rfl) ?_; exact tk_ret (()) (trivial) (.inl rfl) (r1 rfl rfl) (List.Sublist.refl _)
theorem holds_spec {x : Lk} {hk mk nk : List UInt8} {tb sb kb lb : Nat} {m : Mk} {now : Nat} {w : World} (h3 : hk.length = 32 ∧ mk.length = 32 ∧ nk.length = 32) (hmt : m.t ≤ now ∧ now < 4611686018427387904) (hh : Pre w [cel lb (hk.map B ++ (mk.map B ++ (nk.map B ++ ([PT tb, PT sb, PT kb, IN x.cl, IN x.made, Str x.own, IN x.asks, .bool x.want, Str x.next, .bool x.shown, IN x.m.c, .bool x.m.a, IN x.m.t])))) 182, cel kb ([IN now]) 178]) : Spec Tryz.prog 97 [PT lb, .agg ([IN m.c, .bool m.a, IN m.t]).toArray] w [cel lb (hk.map B ++ (mk.map B ++ (nk.map B ++ ([PT tb, PT sb, PT kb, IN x.cl, IN x.made, Str x.own, IN x.asks, .bool x.want, Str x.next, .bool x.shown, IN x.m.c, .bool x.m.a, IN x.m.t])))) 182, cel kb ([IN now]) 178] (fun _ : Unit => True) (fun _ => .bool (decide (holdsP now m))) (fun _ => [cel lb (hk.map B ++ (mk.map B ++ (nk.map B ++ ([PT tb, PT sb, PT kb, IN x.cl, IN x.made, Str x.own, IN x.asks, .bool x.want, Str x.next, .bool x.shown, IN x.m.c, .bool x.m.a, IN x.m.t])))) 182, cel kb ([IN now]) 178]) := by
  refine spec_of (n := 14) Tryz.func97 rfl rfl hh.1 hh.2 rfl ?_
  obtain ⟨hk32, mk32, nk32⟩ := h3
  refine s_r <| tk_act rfl <| a_boxL (cs := [IN m.c, .bool m.a, IN m.t]) rfl rfl fun b3 => q_a rfl rfl <| s_n <| tk_seq <| tk_drawH [cel b3 ([IN m.c, .bool m.a, IN m.t]) 180, cel lb (hk.map B ++ (mk.map B ++ (nk.map B ++ ([PT tb, PT sb, PT kb, IN x.cl, IN x.made, Str x.own, IN x.asks, .bool x.want, Str x.next, .bool x.shown, IN x.m.c, .bool x.m.a, IN x.m.t])))) 182, cel kb ([IN now]) 178] [] kR <| s_x 0 rfl (y_move rfl) <| s_x 1 rfl (y_nilCheck rfl) <| s_x 2 rfl (y_fldN (o := 0) 98 rfl kR) <| s_l 3 rfl (fun _ h => h) (y_load rfl rfl (hc (o := 98) (mm 1 rfl) (gA (k := 32) (i := 66) (by rw [List.length_map]; exact hk32) oM (gA (k := 32) (i := 34) (by rw [List.length_map]; exact mk32) oM (gA (k := 32) (i := 2) (by rw [List.length_map]; exact nk32) oM (rfl)))))) <| s_x 5 rfl (y_fldN (o := 0) 2 rfl kR) <| s_l 6 rfl (fun _ h => h) (y_load rfl rfl (hc (o := 2) (.head _) (rfl))) <| tx_a 4 rfl kR rfl <| tk_ps [2] rfl <| a_callv [] _ rfl kR rfl (fun w' hw' => now_spec (now := now) (kb := kb) (St.pre hw')) rfl fun _ _ => tk_S (fun _ h => ((h.perm (pk 2 rfl)).perm (pk 2 rfl)).sub (List.Sublist.refl _)) <| s_x 7 rfl (y_subN (a := now) (b := m.t) rfl rfl oM) <| s_x 8 rfl (y_leq rfl rfl) <| s_x 9 rfl (y_assign rfl) <| tx_done kR <| tk_then <| tk_retc <| tk_re 4 (.bool (decide (((now - m.t : Nat) : Int) ≤ (1000 : Int)))) (.bool (decide (holdsP now m))) rfl (congrArg Value.bool (by rw [decide_eq_decide]; unfold holdsP; omega)) ?_; exact tk_ps [2] rfl <| tk_ret (()) (trivial) (.inl rfl) (r1 rfl rfl) (.cons_cons _ (.cons_cons _ (List.nil_sublist _)))
theorem oflag_spec {ob : Nat} {fv v : Value} {b : List UInt8} {l : List Bool} {w : World} (hn : Ro (Fs [cel ob [v, I 0] 204, ownB v b 5]) w (rd fv (l.map bo))) (hnl : l.length < 1000000) (hb : b.length < 1000000000) (hh : Pre w [cel ob [v, I 0] 204, ownB v b 5]) : Spec Tryz.prog 148 [PT ob, fv] w [cel ob [v, I 0] 204, ownB v b 5] (fun _ : Value => True) (fun _ => PT ob) (fun x => [cel ob [x, I 0] 204, ownB x (b ++ flagL l) 5]) := by
  refine spec_of (n := 22) Tryz.func148 rfl rfl hh.1 hh.2 rfl <| s_r <| q_a rfl rfl <| s_n <| tk_seq <| s_r <| q_m rfl rfl <| s_q rfl (y_lenRN (n' := l.length) rfl hn.1 rfl (by first | rfl | (rw [List.length_map]; omega) | simp)) <| q_m rfl rfl <| s_n <| tk_block <| tk_R (H1 := [_]) rfl (show ownB v b 5 = ownB v (b ++ flagL (l.take 0)) 5 from ownM_cast (by simp [flagL])) <| tk_loop (X := Nat × Value) (fun (i, va) => i ≤ l.length) (fun (i, va) => [(0, PT ob), (4, .pointer none), (8, fv), (9, IN l.length), (10, IN i)]) (fun (i, va) => [cel ob ([va, I 0]) 204, ownB va (b ++ flagL (l.take i)) 5]) (fun (i, va) => l.length - i) ((0, v)) (Nat.zero_le _) sB ((List.Sublist.refl _)) ?_
  rintro ⟨i, va⟩ hI
  try dsimp only at hI ⊢
  have hfl := flagL_len (l := l.take i)
  rw [List.length_take] at hfl
  refine tk_own1 (mm 1 rfl) fun hfa => s_r <| s_q rfl (y_lss rfl rfl) <| s_n <| tk_seq <| tk_condP rfl (fun ht11 => ?_) (fun ht11 => ?_)
  · refine tk_skip <| tk_then <| tk_seq <| tk_block <| s_r <| s_q rfl (y_ixR (j := i) rfl rfl hn.1 lenP kR) <| s_q rfl (y_load rfl rfl (fun w hw => ((fun w hw => Ro.rd hn hw) w hw).cell (gM (d := false) lenP))) <| q_a rfl rfl <| s_n <| s_r <| q_a rfl rfl <| s_n <| tk_seq <| s_r <| q_m rfl rfl <| s_n <| tk_cond rfl (fun ht14 => ?_) (fun ht14 => ?_)
    · exact tk_region <| q_a rfl rfl <| s_n <| tk_region <| q_m rfl rfl <| q_m rfl rfl <| tk_act rfl <| a_slitN (vs := [B 1]) rfl (List.forall_mem_cons.2 ⟨rfl, (fun _ h => nomatch h)⟩) (EL42) rfl rfl dC fun b17 => tk_act rfl <| a_slitN (vs := [.slice (some ⟨b17, 0, none⟩) 1 1]) rfl (List.forall_mem_cons.2 ⟨rfl, (fun _ h => nomatch h)⟩) (EL206) rfl rfl dC fun b18 => tk_act rfl <| tk_ps [3, 3] rfl <| a_callv [] _ rfl kR rfl (fun w' hw' => graw_spec (ob := ob) (v := va) (b := b ++ flagL (l.take i)) (ps := [(.slice (some ⟨b17, 0, none⟩) 1 1, [1])]) (L := [1]) (Ro.cel (vs := [.slice (some ⟨b17, 0, none⟩) 1 1]) hw' (.head _) rS rfl dC) (List.forall_mem_cons.2 ⟨(Ro.cel (b := b17) (o := 0) (m := 1) (cp := 1) (vs := [1].map B) hw' (mm 1 rfl) (rfl) lQ lenP), (fun _ h => nomatch h)⟩) sI lenP lenP lenP (St.pre hw')) rfl fun v19 _ => tk_nil <| tk_in_normal <| tk_then <| tk_region <| s_q rfl (y_addN (a := i) (b := 1) rfl rfl oM) <| q_m rfl rfl <| tk_nil <| tk_R (H1 := [_]) rfl (show ownB v19 ((b ++ flagL (l.take i)) ++ [1]) 5 = ownB v19 (b ++ flagL (l.take (i + 1))) 5 from ownM_cast (by rw [flagL_succ oM, List.append_assoc, flagB, if_pos ht14])) <| tk_again ((i + 1, v19)) (by dsimp only; omega) (by dsimp only; omega) sB (.cons_cons _ (.cons_cons _ (List.nil_sublist _)))
    · exact tk_skip <| tk_then <| tk_region <| q_m rfl rfl <| q_m rfl rfl <| tk_act rfl <| a_slitN (vs := [B 0]) rfl (List.forall_mem_cons.2 ⟨rfl, (fun _ h => nomatch h)⟩) (EL42) rfl rfl dC fun b17 => tk_act rfl <| a_slitN (vs := [.slice (some ⟨b17, 0, none⟩) 1 1]) rfl (List.forall_mem_cons.2 ⟨rfl, (fun _ h => nomatch h)⟩) (EL206) rfl rfl dC fun b18 => tk_act rfl <| tk_ps [3, 3] rfl <| a_callv [] _ rfl kR rfl (fun w' hw' => graw_spec (ob := ob) (v := va) (b := b ++ flagL (l.take i)) (ps := [(.slice (some ⟨b17, 0, none⟩) 1 1, [0])]) (L := [0]) (Ro.cel (vs := [.slice (some ⟨b17, 0, none⟩) 1 1]) hw' (.head _) rS rfl dC) (List.forall_mem_cons.2 ⟨(Ro.cel (b := b17) (o := 0) (m := 1) (cp := 1) (vs := [0].map B) hw' (mm 1 rfl) (rfl) lQ lenP), (fun _ h => nomatch h)⟩) sI lenP lenP lenP (St.pre hw')) rfl fun v19 _ => tk_nil <| tk_in_normal <| tk_then <| tk_region <| s_q rfl (y_addN (a := i) (b := 1) rfl rfl oM) <| q_m rfl rfl <| tk_nil <| tk_R (H1 := [_]) rfl (show ownB v19 ((b ++ flagL (l.take i)) ++ [0]) 5 = ownB v19 (b ++ flagL (l.take (i + 1))) 5 from ownM_cast (by rw [flagL_succ oM, List.append_assoc, flagB, if_neg (by rw [ht14]; decide)])) <| tk_again ((i + 1, v19)) (by dsimp only; omega) (by dsimp only; omega) sB (.cons_cons _ (.cons_cons _ (List.nil_sublist _)))
  · exact tk_exit <| tk_then_exit <| tk_then_exit <| tk_in_hit <| tk_then <| s_r <| q_m rfl rfl <| q_a rfl rfl <| s_n <| tk_retc <| tk_R (H1 := [_]) rfl (show ownB va (b ++ flagL (l.take i)) 5 = ownB va (b ++ flagL l) 5 from ownM_cast (by rw [show i = l.length by omega, List.take_length])) <| tk_ret (va) (trivial) (.inl rfl) (r1 rfl rfl) (List.Sublist.refl _)
theorem iflag_spec {ib : Nat} {f : Bool} {v : Value} {b r : List UInt8} {w : World} (hbf : b = [flagB f] ++ r) (hrl : r.length < 1099511627) (hh : Pre w [cel ib [v, I 0] 282, ownB v b 5]) : Spec Tryz.prog 229 [PT ib] w [cel ib [v, I 0] 282, ownB v b 5] (fun _ : Value => True) (fun _ => .bool f) (fun x => [cel ib [x, I 0] 282, ownB x r 5]) := by
  refine spec_of (n := 19) Tryz.func229 rfl rfl hh.1 hh.2 rfl ?_
  have hf1 : (flagB f).toNat ≤ 1 := by unfold flagB; split <;> decide
  have hbl : b.length = 1 + r.length := by rw [hbf]; simp; omega
  refine tk_own1 (mm 1 rfl) fun hfv => s_r <| q_a rfl rfl <| s_n <| s_r <| q_m rfl rfl <| tk_act rfl <| a_callv [] _ rfl kR rfl (fun w' hw' => iraw_spec (ib := ib) (v := v) (b := b) (n := 1) (f := [flagB f]) (r := r) hbf lenP lenP (St.pre hw')) rfl fun ⟨v5, w5⟩ _ => tk_own1 (mm 2 rfl) fun hfw5 => q_a rfl rfl <| s_n <| tk_seq <| s_r <| q_m rfl rfl <| s_q rfl (y_lenRN (n' := [flagB f].length) rfl hfw5.choose_spec rfl (by first | rfl | (rw [List.length_map]; omega) | simp)) <| s_q rfl (y_eql rfl rfl) <| s_n <| tk_condP rfl (fun ht8 => ?_) (fun ht8 => ?_)
  · exfalso; simp at ht8
  · exact tk_skip <| tk_then <| tk_seq <| s_r <| q_m rfl rfl <| s_q rfl (y_ixR (j := 0) rfl rfl hfw5.choose_spec (show 0 < [flagB f].length from Nat.one_pos) kR) <| s_q rfl (y_load rfl rfl (fun w hw => ((fun w hw => own_rdS (hw.mem (mm 2 rfl))) w hw).cell (gM (d := 0) (show 0 < [flagB f].length from Nat.one_pos)))) <| tk_qe (.bool false) rfl rfl rfl (y_gtr rfl rfl) (bool_f (by show ¬ (1 : Int) < ((flagB f).toNat : Int); omega)) <| s_n <| tk_cond0 rfl <| tk_skip <| tk_then <| s_r <| q_m rfl rfl <| s_q rfl (y_ixR (j := 0) rfl rfl hfw5.choose_spec (show 0 < [flagB f].length from Nat.one_pos) kR) <| s_q rfl (y_load rfl rfl (fun w hw => ((fun w hw => own_rdS (hw.mem (mm 2 rfl))) w hw).cell (gM (d := 0) (show 0 < [flagB f].length from Nat.one_pos)))) <| s_q rfl (y_eql rfl rfl) <| q_a rfl rfl <| s_n <| tk_retc <| tk_re 2 (.bool (decide ((([flagB f].getD 0 0).toNat : Int) = ((1 : UInt8).toNat : Int)))) (.bool f) rfl (by cases f <;> rfl) <| tk_ret (v5) (trivial) (.inl rfl) (r1 rfl rfl) (.cons_cons _ (.cons_cons _ (List.nil_sublist _)))
theorem tick_spec {now n kb : Nat} {w : World} (hb : now + n ≤ 1099511627776) (hh : Pre w [cel kb ([IN now]) 178]) : Spec Tryz.prog 44 [PT kb, IN n] w [cel kb ([IN now]) 178] (fun _ : Unit => True) (fun _ => I 0) (fun _ => [cel kb [IN (now + n)] 178]) := by
  refine spec_of (n := 28) Tryz.func44 rfl rfl hh.1 hh.2 rfl <| s_r <| q_a rfl rfl <| s_n <| tk_seq <| s_r <| q_m rfl rfl <| s_q rfl (y_pnil rfl rfl rfl) <| q_m rfl rfl <| s_g rfl (y_move rfl) <| tk_gqe (.bool false) rfl rfl rfl (y_lss rfl rfl) (bool_f oM) <| s_q rfl (y_pick0 rfl rfl) <| q_m rfl rfl <| s_g rfl (y_move rfl) <| s_g rfl (y_move rfl) <| s_g rfl (y_nilCheck rfl) <| s_g rfl (y_fld0 (o := 0) rfl kR) <| s_g rfl (y_load rfl rfl (hc (o := 0) (.head _) (rfl))) <| s_g rfl (y_subN (a := 1099511627776) (b := now) rfl rfl oM) <| tk_gqe (.bool false) rfl rfl rfl (y_gtr rfl rfl) (bool_f oM) <| s_q rfl (y_pick0 rfl rfl) <| s_n <| tk_cond0 rfl <| tk_skip ?_; exact tk_then <| s_r <| q_m rfl rfl <| s_q rfl (y_nilCheck rfl) <| s_q rfl (y_fld0 (o := 0) rfl kR) <| s_q rfl (y_load rfl rfl (hc (o := 0) (.head _) (rfl))) <| q_m rfl rfl <| s_q rfl (y_addN (a := now) (b := n) rfl rfl oM) <| s_q rfl (y_nilCheck rfl) <| s_q rfl (y_fld0 (o := 0) rfl kR) <| tk_act rfl <| a_storeE (H1 := []) (o := 0) (v := I ((now + n : Nat) : Int)) (cs' := [I ((now + n : Nat) : Int)]) rfl rfl kR rfl rfl sW (rfl) <| s_n <| s_r <| q_a rfl rfl <| s_n <| tk_retc <| tk_ret (()) (trivial) (.inl rfl) (r1 rfl rfl) (List.Sublist.refl _)
theorem ask_spec {x : Lk} {hk mk nk : List UInt8} {tb sb kb lb : Nat} {b : Bool} {w : World} (h3 : hk.length = 32 ∧ mk.length = 32 ∧ nk.length = 32) (h0 : x.own = [] ∧ x.asks = 0) (hh : Pre w [cel lb (hk.map B ++ (mk.map B ++ (nk.map B ++ ([PT tb, PT sb, PT kb, IN x.cl, IN x.made, Str x.own, IN x.asks, .bool x.want, Str x.next, .bool x.shown, IN x.m.c, .bool x.m.a, IN x.m.t])))) 182]) : Spec Tryz.prog 39 [PT lb, .bool b] w [cel lb (hk.map B ++ (mk.map B ++ (nk.map B ++ ([PT tb, PT sb, PT kb, IN x.cl, IN x.made, Str x.own, IN x.asks, .bool x.want, Str x.next, .bool x.shown, IN x.m.c, .bool x.m.a, IN x.m.t])))) 182] (fun _ : Unit => True) (fun _ => I 0) (fun _ => [cel lb (hk.map B ++ (mk.map B ++ (nk.map B ++ ([PT tb, PT sb, PT kb, I (((x.asked b).cl : Nat) : Int), I (((x.asked b).made : Nat) : Int), Str ((x.asked b).own), I (((x.asked b).asks : Nat) : Int), .bool ((x.asked b).want), Str ((x.asked b).next), .bool ((x.asked b).shown), I (((x.asked b).m.c : Nat) : Int), .bool ((x.asked b).m.a), I (((x.asked b).m.t : Nat) : Int)])))) 182]) := by
  refine spec_of (n := 28) Tryz.func39 rfl rfl hh.1 hh.2 rfl ?_
  obtain ⟨hk32, mk32, nk32⟩ := h3
  obtain ⟨ho0, ha0⟩ := h0
  refine s_r <| q_a rfl rfl <| s_n <| tk_seq <| tk_block <| s_r <| q_m rfl rfl <| s_q rfl (y_pnil rfl rfl rfl) <| q_a rfl rfl <| s_n <| tk_cond0 rfl <| s_r <| q_m rfl rfl <| s_q rfl (y_nilCheck rfl) <| s_q rfl (y_fldN (o := 0) 101 rfl kR) <| s_q rfl (y_load rfl rfl (hc (o := 101) (.head _) (gA (k := 32) (i := 69) (by rw [List.length_map]; exact hk32) oM (gA (k := 32) (i := 37) (by rw [List.length_map]; exact mk32) oM (gA (k := 32) (i := 5) (by rw [List.length_map]; exact nk32) oM (rfl)))))) <| tk_qe (.bool false) rfl rfl rfl (y_strNe (l := x.own) (m := []) rfl rfl) (bool_f (fun h => h ho0)) <| q_m rfl rfl <| s_g rfl (y_move rfl) <| s_g rfl (y_nilCheck rfl) <| s_g rfl (y_fldN (o := 0) 102 rfl kR) <| s_g rfl (y_load rfl rfl (hc (o := 102) (.head _) (gA (k := 32) (i := 70) (by rw [List.length_map]; exact hk32) oM (gA (k := 32) (i := 38) (by rw [List.length_map]; exact mk32) oM (gA (k := 32) (i := 6) (by rw [List.length_map]; exact nk32) oM (rfl)))))) <| s_g rfl (y_gtr rfl rfl) <| s_q rfl (y_pick0 rfl rfl) ?_; refine q_a rfl rfl <| s_n <| tk_condP rfl (fun ht8 => ?_) (fun ht8 => ?_)
  · exfalso; omega
  · exact tk_skip <| tk_in_normal <| tk_then <| s_r <| q_m rfl rfl <| q_m rfl rfl <| q_m rfl rfl <| s_q rfl (y_nilCheck rfl) <| s_q rfl (y_fldN (o := 0) 102 rfl kR) <| tk_act rfl <| a_storeE (H1 := []) (o := 102) (v := I 1) (cs' := hk.map B ++ (mk.map B ++ (nk.map B ++ ([PT tb, PT sb, PT kb, IN x.cl, IN x.made, Str x.own, I 1, .bool x.want, Str x.next, .bool x.shown, IN x.m.c, .bool x.m.a, IN x.m.t])))) rfl rfl kR rfl rfl sW (sA (k := 32) (i := 70) (by rw [List.length_map]; exact hk32) oM (sA (k := 32) (i := 38) (by rw [List.length_map]; exact mk32) oM (sA (k := 32) (i := 6) (by rw [List.length_map]; exact nk32) oM (rfl)))) <| s_q rfl (y_nilCheck rfl) <| s_q rfl (y_fldN (o := 0) 103 rfl kR) <| tk_act rfl <| a_storeE (H1 := []) (o := 103) (v := .bool b) (cs' := hk.map B ++ (mk.map B ++ (nk.map B ++ ([PT tb, PT sb, PT kb, IN x.cl, IN x.made, Str x.own, I 1, .bool b, Str x.next, .bool x.shown, IN x.m.c, .bool x.m.a, IN x.m.t])))) rfl rfl kR rfl rfl sW (sA (k := 32) (i := 71) (by rw [List.length_map]; exact hk32) oM (sA (k := 32) (i := 39) (by rw [List.length_map]; exact mk32) oM (sA (k := 32) (i := 7) (by rw [List.length_map]; exact nk32) oM (rfl)))) <| s_n <| s_r <| q_a rfl rfl <| s_n <| tk_retc <| tk_R (H1 := []) rfl (congrArg (fun z_ => cel lb z_ 182) (show hk.map B ++ (mk.map B ++ (nk.map B ++ ([PT tb, PT sb, PT kb, IN x.cl, IN x.made, Str x.own, I 1, .bool b, Str x.next, .bool x.shown, IN x.m.c, .bool x.m.a, IN x.m.t]))) = hk.map B ++ (mk.map B ++ (nk.map B ++ ([PT tb, PT sb, PT kb, I (((x.asked b).cl : Nat) : Int), I (((x.asked b).made : Nat) : Int), Str ((x.asked b).own), I (((x.asked b).asks : Nat) : Int), .bool ((x.asked b).want), Str ((x.asked b).next), .bool ((x.asked b).shown), I (((x.asked b).m.c : Nat) : Int), .bool ((x.asked b).m.a), I (((x.asked b).m.t : Nat) : Int)]))) from rfl)) <| tk_ret (()) (trivial) (.inl rfl) (r1 rfl rfl) (List.Sublist.refl _)
theorem askno_spec {x : Lk} {hk mk nk : List UInt8} {tb sb kb lb : Nat} {b : Bool} {w : World} (h3 : hk.length = 32 ∧ mk.length = 32 ∧ nk.length = 32) (h0 : ¬ x.own = [] ∨ 0 < x.asks) (hh : Pre w [cel lb (hk.map B ++ (mk.map B ++ (nk.map B ++ ([PT tb, PT sb, PT kb, IN x.cl, IN x.made, Str x.own, IN x.asks, .bool x.want, Str x.next, .bool x.shown, IN x.m.c, .bool x.m.a, IN x.m.t])))) 182]) : Spec Tryz.prog 39 [PT lb, .bool b] w [cel lb (hk.map B ++ (mk.map B ++ (nk.map B ++ ([PT tb, PT sb, PT kb, IN x.cl, IN x.made, Str x.own, IN x.asks, .bool x.want, Str x.next, .bool x.shown, IN x.m.c, .bool x.m.a, IN x.m.t])))) 182] (fun _ : Unit => True) (fun _ => I 7) (fun _ => [cel lb (hk.map B ++ (mk.map B ++ (nk.map B ++ ([PT tb, PT sb, PT kb, IN x.cl, IN x.made, Str x.own, IN x.asks, .bool x.want, Str x.next, .bool x.shown, IN x.m.c, .bool x.m.a, IN x.m.t])))) 182]) := by
  refine spec_of (n := 28) Tryz.func39 rfl rfl hh.1 hh.2 rfl ?_
  obtain ⟨hk32, mk32, nk32⟩ := h3
  refine s_r <| q_a rfl rfl <| s_n <| tk_seq <| tk_block <| s_r <| q_m rfl rfl <| s_q rfl (y_pnil rfl rfl rfl) <| q_a rfl rfl <| s_n <| tk_cond0 rfl <| s_r <| q_m rfl rfl <| s_q rfl (y_nilCheck rfl) <| s_q rfl (y_fldN (o := 0) 101 rfl kR) <| s_q rfl (y_load rfl rfl (hc (o := 101) (.head _) (gA (k := 32) (i := 69) (by rw [List.length_map]; exact hk32) oM (gA (k := 32) (i := 37) (by rw [List.length_map]; exact mk32) oM (gA (k := 32) (i := 5) (by rw [List.length_map]; exact nk32) oM (rfl)))))) <| tk_qs rfl rfl rfl (y_strNe (l := x.own) (m := []) rfl rfl) (fun hs3_4 => ?_) (fun hs3_4 => ?_)
  · exact q_m rfl rfl <| tk_gno rfl rfl rfl <| tk_gno rfl rfl rfl <| tk_gno rfl rfl rfl <| tk_gno rfl rfl rfl <| tk_gno rfl rfl rfl <| s_q rfl (y_pick1 rfl rfl) <| q_a rfl rfl <| s_n <| tk_cond1 rfl <| s_r <| q_a rfl rfl <| s_n <| tk_retc <| tk_in_ret <| tk_then_ret <| tk_ret (()) (trivial) (.inl rfl) (r1 rfl rfl) (List.Sublist.refl _)
  · refine q_m rfl rfl <| s_g rfl (y_move rfl) <| s_g rfl (y_nilCheck rfl) <| s_g rfl (y_fldN (o := 0) 102 rfl kR) <| s_g rfl (y_load rfl rfl (hc (o := 102) (.head _) (gA (k := 32) (i := 70) (by rw [List.length_map]; exact hk32) oM (gA (k := 32) (i := 38) (by rw [List.length_map]; exact mk32) oM (gA (k := 32) (i := 6) (by rw [List.length_map]; exact nk32) oM (rfl)))))) <| s_g rfl (y_gtr rfl rfl) <| s_q rfl (y_pick0 rfl rfl) <| q_a rfl rfl <| s_n <| tk_condP rfl (fun ht8 => ?_) (fun ht8 => ?_)
    · exact s_r <| q_a rfl rfl <| s_n <| tk_retc <| tk_in_ret <| tk_then_ret <| tk_ret (()) (trivial) (.inl rfl) (r1 rfl rfl) (List.Sublist.refl _)
    · exfalso; exact h0.elim (fun q => hs3_4 q) (fun q => by omega)
end Go.Proofs.YtkkjfojgjmglpaaGreatDoor
set_option linter.unusedSimpArgs false
set_option linter.unusedVariables false
namespace Go.Proofs.YtkkjfojgjmglpaaGreatDoor
open Go Go.RowKit
set_option maxRecDepth 100000
theorem drop_getS {l m : List (List UInt8)} {j : Nat} (h : m.drop j = l.drop j) : m.getD j [] = l.getD j [] := by
  have := congrArg (fun l => l.getD 0 []) h
  simpa [List.getD_eq_getElem?_getD, List.getElem?_drop] using this
theorem dropS_next {α : Type} {l m : List α} {j : Nat} (h : m.drop j = l.drop j) : m.drop (j + 1) = l.drop (j + 1) := by
  have := congrArg (List.drop 1) h
  rwa [List.drop_drop, List.drop_drop] at this
theorem takeS_succ {l : List (List UInt8)} {j : Nat} (h : j < l.length) : l.take (j + 1) = l.take j ++ [l.getD j []] := by
  have e : l.getD j [] = l[j] := by rw [List.getD_eq_getElem?_getD, List.getElem?_eq_getElem h]; rfl
  rw [e, List.take_add_one, List.getElem?_eq_getElem h]; rfl
theorem filtS_all {l : List (List UInt8)} {p : List UInt8 → Bool} {i : Nat} (hi : i ≤ l.length) (h : ∀ j, j < i → p (l.getD j []) = true) : (l.take i).filter p = l.take i := by
  induction i with
  | zero => rfl
  | succ i ih => rw [takeS_succ oM, List.filter_append, ih oM (fun j hj => h j oM), List.filter_cons, if_pos (h i oM), List.filter_nil]
theorem filtS_init {l : List (List UInt8)} {p : List UInt8 → Bool} {i : Nat} (hi : i < l.length) (hb : ∀ j, j < i → p (l.getD j []) = true) (hz : ¬ p (l.getD i []) = true) : l.take i = (l.take (i + 1)).filter p := by
  rw [takeS_succ hi, List.filter_append, filtS_all oM hb, List.filter_cons, if_neg hz, List.filter_nil, List.append_nil]
theorem filtS_none {l : List (List UInt8)} {p : List UInt8 → Bool} (h : ∀ j, j < l.length → p (l.getD j []) = true) : l.filter p = l := by
  have := filtS_all (Nat.le_refl _) h
  rwa [List.take_length] at this
theorem filtS_keep {l m : List (List UInt8)} {p : List UInt8 → Bool} {i j : Nat} (hi : i < m.length) (hj : j < l.length) (h : m.take i = (l.take j).filter p) (hp : p (l.getD j []) = true) : (m.set i (l.getD j [])).take (i + 1) = (l.take (j + 1)).filter p := by
  rw [takeS_succ (by rw [List.length_set]; exact hi), takeS_succ hj, List.filter_append, List.filter_cons, if_pos hp, List.filter_nil, ← h, List.take_set_of_le (Nat.le_refl _)]
  congr 2
  rw [List.getD_eq_getElem?_getD, List.getElem?_set_self hi]; rfl
theorem filtS_skip {l m : List (List UInt8)} {p : List UInt8 → Bool} {i j : Nat} (hj : j < l.length) (h : m.take i = (l.take j).filter p) (hp : ¬ p (l.getD j []) = true) : m.take i = (l.take (j + 1)).filter p := by
  rw [takeS_succ hj, List.filter_append, List.filter_cons, if_neg hp, List.filter_nil, List.append_nil, h]
theorem kvO_names {l : List Ob} : (kvO l).map Prod.fst = l.map Ob.name := by simp [kvO]
def Sh.list (s : Sh) (m : List UInt8) : Nat × List (List UInt8) := if s.off = true then (9, []) else (0, lsN s m)
theorem ls1_spec {n m : List UInt8} {cb : Nat} {w : World} (hn : n.length < 9223372036854775808) (hm : m.length < 9223372036854775808) (hh : Pre w [cel cb ([Str m]) 9]) : Spec Tryz.prog 95 [Str n, PT cb] w [cel cb ([Str m]) 9] (fun _ : Unit => True) (fun _ => .bool (decide (¬ preB m n = true))) (fun _ => [cel cb ([Str m]) 9]) := by
  exact spec_of (n := 8) Tryz.func95 rfl rfl hh.1 hh.2 rfl <| s_r <| q_a rfl rfl <| s_n <| s_r <| q_m rfl rfl <| s_q rfl (y_load rfl rfl (hc (o := 0) (.head _) (rfl))) <| tk_act rfl <| a_callv [] _ rfl kR rfl (fun w' hw' => pre_spec (l := n) (m := m) lenP lenP) rfl fun _ _ => s_q rfl ((y_not rfl).cast (notdec _)) <| q_a rfl rfl <| s_n <| tk_retc <| tk_re 3 (.bool (decide (¬ (m.length ≤ n.length ∧ n.take m.length = m)))) (.bool (decide (¬ preB m n = true))) rfl (by unfold preB; congr 1; rw [decide_eq_decide, decide_eq_true_eq]) <| tk_ret (()) (trivial) (.inl rfl) (r1 rfl rfl) (List.Sublist.refl _)
theorem ixs_spec {v : Value} {l : List (List UInt8)} {cb : Nat} {m : List UInt8} {w : World} (hll : l.length < 1000000) (hsl : ∀ n ∈ l, n.length < 9223372036854775808) (hm : m.length < 9223372036854775808) (hh : Pre w [ownM Str v l 9, cel cb ([Str m]) 9]) : Spec Tryz.prog 143 [v, .func (.func 95) #[] #[PT cb]] w [ownM Str v l 9, cel cb ([Str m]) 9]
    (fun r : Int => (r = -1 ∧ ∀ j, j < l.length → preB m (l.getD j []) = true) ∨ (∃ i : Nat, r = (i : Int) ∧ i < l.length ∧ ¬ preB m (l.getD i []) = true ∧ ∀ j, j < i → preB m (l.getD j []) = true)) (fun r => I r) (fun _ => [ownM Str v l 9, cel cb ([Str m]) 9]) := by
  refine spec_of (n := 19) Tryz.func143 rfl rfl hh.1 hh.2 rfl <| tk_own1 (.head _) fun hfe => s_r <| q_a rfl rfl <| s_n <| tk_seq <| s_r <| q_m rfl rfl <| s_q rfl (y_lenRN (n' := l.length) rfl hfe.choose_spec rfl (by first | rfl | (rw [List.length_map]; omega) | simp)) <| q_m rfl rfl <| s_n <| tk_block <| tk_loop (X := Nat) (fun i => i ≤ l.length ∧ ∀ j, j < i → preB m (l.getD j []) = true) (fun i => [(0, v), (1, .func (.func 95) #[] #[PT cb]), (7, IN l.length), (8, IN i)]) (fun i => [own v l.length (l.map Str) 9 1, cel cb ([Str m]) 9]) (fun i => l.length - i) (0) (⟨Nat.zero_le _, fun _ h => absurd h oM⟩) sB ((List.Sublist.refl _)) ?_
  rintro i hI
  try dsimp only at hI ⊢
  refine s_r <| s_q rfl (y_lss rfl rfl) <| s_n <| tk_seq <| tk_condP rfl (fun ht9 => ?_) (fun ht9 => ?_)
  · refine tk_skip <| tk_then <| tk_seq <| tk_block <| s_r <| q_m rfl rfl <| q_a rfl rfl <| s_n <| s_r <| q_m rfl rfl <| q_m rfl rfl <| q_m rfl rfl <| s_q rfl (y_ixR (j := i) rfl rfl hfe.choose_spec lenP kR) <| s_q rfl (y_load rfl rfl (fun w hw => ((fun w hw => own_rdS (hw.mem (.head _))) w hw).cell (gM (d := []) lenP))) <| tk_act rfl <| tk_ps [1] rfl <| a_callc [] _ rfl rfl kR rfl (fun w' hw' => ls1_spec (n := l.getD i []) (m := m) (cb := cb) (hsl _ (getD_mem lenP)) lenP (St.pre hw')) rfl fun _ _ => s_n <| tk_condP rfl (fun ht16 => ?_) (fun ht16 => ?_)
    · exact s_r <| q_m rfl rfl <| q_a rfl rfl <| s_n <| tk_retc <| tk_in_ret <| tk_then_ret <| tk_then_ret <| tk_in_ret <| tk_then_ret <| tk_ps [1] rfl <| tk_ret ((i : Int)) (.inr ⟨i, rfl, by omega, ht16, hI.2⟩) (.inl rfl) (r1 rfl rfl) (List.Sublist.refl _)
    · exact tk_skip <| tk_in_normal <| tk_then <| tk_region <| s_q rfl (y_addN (a := i) (b := 1) rfl rfl oM) <| q_m rfl rfl <| tk_nil <| tk_ps [1] rfl <| tk_again (i + 1) (⟨by omega, fun j hj => (Nat.lt_or_ge j i).elim (hI.2 j) (fun h => by rw [show j = i by omega]; exact Classical.not_not.1 ht16)⟩) oM sB (List.Sublist.refl _)
  · exact tk_exit <| tk_then_exit <| tk_then_exit <| tk_in_hit <| tk_then <| s_r <| q_a rfl rfl <| s_n <| tk_retc <| tk_ret (-1) (.inl ⟨rfl, fun j hj => hI.2 j oM⟩) (.inl rfl) (r1 rfl rfl) (List.Sublist.refl _)
theorem dls_spec {v : Value} {l : List (List UInt8)} {cb : Nat} {m : List UInt8} {w : World} (hll : l.length < 1000000) (hsl : ∀ n ∈ l, n.length < 9223372036854775808) (hm : m.length < 9223372036854775808) (hh : Pre w [ownM Str v l 9, cel cb ([Str m]) 9]) : Spec Tryz.prog 93 [v, .func (.func 95) #[] #[PT cb]] w [ownM Str v l 9, cel cb ([Str m]) 9]
    (fun _ : Value => True) (fun x => x) (fun x => [ownM Str x (l.filter (preB m)) 9, cel cb ([Str m]) 9]) := by
  refine spec_of (n := 42) Tryz.func93 rfl rfl hh.1 hh.2 rfl <| tk_own1 (.head _) fun hfe => s_r <| q_a rfl rfl <| s_n <| s_r <| q_m rfl rfl <| q_m rfl rfl <| tk_act rfl <| a_callv [] _ rfl kR rfl (fun w' hw' => ixs_spec (v := v) (l := l) (cb := cb) (m := m) lenP hsl lenP (St.pre hw')) rfl fun r10 hr10 => q_a rfl rfl <| s_n <| tk_seq <| s_r <| q_m rfl rfl <| s_q rfl (y_eql rfl rfl) <| s_n <| tk_condP rfl (fun ht12 => ?_) (fun ht12 => ?_)
  · exact s_r <| q_m rfl rfl <| q_a rfl rfl <| s_n <| tk_retc <| tk_then_ret <| tk_R (H1 := []) rfl (show own v l.length (l.map Str) 9 1 = own v ((l.filter (preB m)).length) ((l.filter (preB m)).map Str) 9 1 from ownM_cast (filtS_none (hr10.elim (fun h => h.2) (fun h => by obtain ⟨i, e, _⟩ := h; omega))).symm) <| tk_ret (v) (trivial) (.inl rfl) (r1 rfl rfl) (List.Sublist.refl _)
  · obtain ⟨i0, rfl, hi0, hz0, hb0⟩ := hr10.resolve_left (fun h => ht12 h.1)
    refine tk_skip <| tk_then <| tk_seq <| s_r <| q_m rfl rfl <| s_q rfl (y_addN (a := i0) (b := 1) rfl rfl oM) <| q_a rfl rfl <| s_n <| tk_block <| tk_loop (X := Nat × Nat × List (List UInt8)) (fun (i, j, m') => m'.length = l.length ∧ i < j ∧ j ≤ l.length ∧ m'.take i = (l.take j).filter (preB m) ∧ m'.drop j = l.drop j) (fun (i, j, m') => [(0, v), (1, .func (.func 95) #[] #[PT cb]), (4, .slice none 0 0), (5, IN i), (6, IN j)]) (fun (i, j, m') => [own v m'.length (m'.map Str) 9 1, cel cb ([Str m]) 9]) (fun (i, j, m') => l.length - j) ((i0, i0 + 1, l)) (⟨rfl, by omega, by omega, filtS_init hi0 hb0 hz0, rfl⟩) sB ((List.Sublist.refl _)) ?_
    rintro ⟨i, j, m'⟩ hI
    try dsimp only at hI ⊢
    have hml := hI.1
    refine tk_own1 (.head _) fun hfm => tk_seq <| s_r <| q_m rfl rfl <| q_m rfl rfl <| s_q rfl (y_lenRN (n' := m'.length) rfl hfm.choose_spec rfl (by first | rfl | (rw [List.length_map]; omega) | simp)) <| s_q rfl (y_lss rfl rfl) <| s_n <| tk_condP rfl (fun ht19 => ?_) (fun ht19 => ?_)
    · have hmj := drop_getS hI.2.2.2.2
      refine tk_skip <| tk_then <| tk_seq <| tk_block <| s_r <| q_m rfl rfl <| q_m rfl rfl <| s_q rfl (y_ixR (j := j) rfl rfl hfm.choose_spec lenP kR) <| s_q rfl (y_load rfl rfl (fun w hw => ((fun w hw => own_rdS (hw.mem (.head _))) w hw).cell (gM (d := []) lenP))) <| tk_re 25 (Str (m'.getD j [])) (Str (l.getD j [])) rfl (by rw [hmj]) <| q_a rfl rfl <| s_n <| s_r <| q_m rfl rfl <| q_m rfl rfl <| tk_act rfl <| tk_ps [1] rfl <| a_callc [] _ rfl rfl kR rfl (fun w' hw' => ls1_spec (n := (l.getD j [])) (m := m) (cb := cb) (hsl _ (getD_mem lenP)) lenP (St.pre hw')) rfl fun _ _ => s_q rfl ((y_not rfl).cast (notdec _)) <| s_n <| tk_condP rfl (fun ht29 => ?_) (fun ht29 => ?_)
      · exact s_r <| q_m rfl rfl <| q_m rfl rfl <| q_m rfl rfl <| s_q rfl (y_ixR (j := i) rfl rfl hfm.choose_spec lenP kR) <| tk_act rfl <| a_storeM (H1 := [_]) (f := Str) (l := m') (i := i) (q := (l.getD j [])) rfl rfl rfl kR rfl lenP <| s_n <| tk_region <| q_m rfl rfl <| s_q rfl (y_addN (a := i) (b := 1) rfl rfl oM) <| q_a rfl rfl <| tk_nil <| tk_in_normal <| tk_then <| tk_region <| q_m rfl rfl <| s_q rfl (y_addN (a := j) (b := 1) rfl rfl oM) <| q_a rfl rfl <| tk_nil <| tk_ps [1] rfl <| tk_again ((i + 1, j + 1, m'.set i (l.getD j []))) (⟨by rw [List.length_set]; exact hml, by dsimp only; omega, by dsimp only; omega, filtS_keep oM oM hI.2.2.2.1 (Classical.not_not.1 ht29), by dsimp only; rw [List.drop_set_of_lt oM]; exact dropS_next hI.2.2.2.2⟩) (by dsimp only; omega) sB (List.Sublist.refl _)
      · exact tk_skip <| tk_in_normal <| tk_then <| tk_region <| q_m rfl rfl <| s_q rfl (y_addN (a := j) (b := 1) rfl rfl oM) <| q_a rfl rfl <| tk_nil <| tk_ps [1] rfl <| tk_again ((i, j + 1, m')) (⟨hml, by dsimp only; omega, by dsimp only; omega, filtS_skip oM hI.2.2.2.1 (fun h => ht29 (fun q => q h)), dropS_next hI.2.2.2.2⟩) (by dsimp only; omega) sB (List.Sublist.refl _)
    · exact tk_exit <| tk_then_exit <| tk_then_exit <| tk_in_hit <| tk_then <| s_r <| q_m rfl rfl <| q_m rfl rfl <| s_q rfl ((y_cutRl i rfl rfl hfm.choose_spec kR ⟨rfl, (by rw [List.length_map]; omega)⟩).cast (u := cutR v i m'.length) (by rw [List.length_map])) <| tk_act rfl <| a_clearM (H1 := []) (f := Str) (l := m') (z := []) (i := i) rfl Tryz.underlying23 (fun _ => kR) rfl rfl rfl lenP <| s_n <| s_r <| q_m rfl rfl <| q_m rfl rfl <| s_q rfl (y_cutRh i rfl rfl hfm.choose_spec kR ⟨rfl, (by rw [List.length_map]; omega)⟩) <| q_a rfl rfl <| s_n <| tk_retc <| tk_R (H1 := []) rfl (show own (cutR v 0 i) ((m'.take i).length) ((m'.take i).map Str) 9 1 = own (cutR v 0 i) ((l.filter (preB m)).length) ((l.filter (preB m)).map Str) 9 1 from ownM_cast (by rw [hI.2.2.2.1, show j = l.length by omega, List.take_length])) <| tk_ret (cutR v 0 i) (trivial) (.inl rfl) (r1 rfl rfl) (List.Sublist.refl _)
theorem names_spec {s : Sh} {sb mb : Nat} {w : World} (hok : ShOk s) (hh : Pre w [cel sb ([Value.map (some mb), I (s.left), .bool s.off, I (s.made), I (s.room)]) 192, mapS mb (kvO s.obs), bag (s.obs.map (obR 5))]) : Spec Tryz.prog 94 [PT sb] w [cel sb ([Value.map (some mb), I (s.left), .bool s.off, I (s.made), I (s.room)]) 192, mapS mb (kvO s.obs), bag (s.obs.map (obR 5))] (fun _ : Value => True) (fun x => x) (fun x => [ownM Str x (sortN (s.obs.map Ob.name)) 9, cel sb ([Value.map (some mb), I (s.left), .bool s.off, I (s.made), I (s.room)]) 192, mapS mb (kvO s.obs), bag (s.obs.map (obR 5))]) := by
  exact spec_of (n := 9) Tryz.func94 rfl rfl hh.1 hh.2 rfl <| s_r <| q_a rfl rfl <| s_n <| s_r <| q_m rfl rfl <| s_q rfl (y_nilCheck rfl) <| s_q rfl (y_fld0 (o := 0) rfl kR) <| s_q rfl (y_load rfl rfl (hc (o := 0) (.head _) (rfl))) <| tk_act rfl <| a_callv [] _ rfl kR rfl (fun w' hw' => keys144_spec (mb := mb)) rfl fun kb7 _ => tk_act rfl <| tk_ps [2, 1] rfl <| a_callv [] _ rfl kR rfl (fun w' hw' => sorted144_spec (b := kb7) (mb := mb) (kv := (kvO s.obs)) (fun p hp => by obtain ⟨o, ho, rfl⟩ := List.mem_map.1 hp; have := hok.names o ho; simp only [maxLen]; omega) (by rw [kvO_len]; have := hok.len; omega) (St.pre hw')) rfl fun v8 _ => tk_own1 (.head _) fun hfv8 => q_a rfl rfl <| s_n <| tk_retc <| tk_R (H1 := []) rfl (show own v8 ((sortN ((kvO s.obs).map Prod.fst)).length) ((sortN ((kvO s.obs).map Prod.fst)).map Str) 9 1 = own v8 ((sortN (s.obs.map Ob.name)).length) ((sortN (s.obs.map Ob.name)).map Str) 9 1 from ownM_cast (by rw [kvO_names])) <| tk_ps [4, 3, 4, 3] rfl <| tk_ret (v8) (trivial) (.inl rfl) (r1 rfl rfl) (.cons_cons _ (.cons_cons _ (.cons_cons _ (.cons_cons _ (List.nil_sublist _)))))
theorem list_spec {s : Sh} {sb mb : Nat} {m : List UInt8} {w : World} (hok : ShOk s) (hm : m.length < 1000000) (hh : Pre w [cel sb ([Value.map (some mb), I (s.left), .bool s.off, I (s.made), I (s.room)]) 192, mapS mb (kvO s.obs), bag (s.obs.map (obR 5))]) : Spec Tryz.prog 42 [PT sb, Str m] w [cel sb ([Value.map (some mb), I (s.left), .bool s.off, I (s.made), I (s.room)]) 192, mapS mb (kvO s.obs), bag (s.obs.map (obR 5))] (fun _ : Value => True) (fun x => .tuple #[x, IN (s.list m).1]) (fun x => [ownM Str x (s.list m).2 9, cel sb ([Value.map (some mb), I (s.left), .bool s.off, I (s.made), I (s.room)]) 192, mapS mb (kvO s.obs), bag (s.obs.map (obR 5))]) := by
  refine spec_of (n := 18) Tryz.func42 rfl rfl hh.1 hh.2 rfl <| s_r <| tk_act rfl <| a_box1 rfl rfl rfl fun b3 => q_a rfl rfl <| q_a rfl rfl <| s_n <| tk_seq <| s_r <| q_m rfl rfl <| tk_act rfl <| tk_ps [1] rfl <| a_callv [] _ rfl kR rfl (fun w' hw' => look_spec (s := s) (sb := sb) (mb := mb) (St.pre hw')) rfl fun _ _ => q_a rfl rfl <| s_n <| s_r <| q_m rfl rfl <| s_q rfl (y_neq rfl rfl) <| s_n <| tk_condP rfl (fun ht10 => ?_) (fun ht10 => ?_)
  · have hof : s.off = true := Classical.not_not.1 fun h => by rw [if_neg h] at ht10; omega
    exact s_r <| q_m rfl rfl <| q_a rfl rfl <| q_a rfl rfl <| s_n <| tk_retc <| tk_then_ret <| tk_ownM0 (f := Str) 9 <| tk_R (H1 := []) rfl (show own (.slice none 0 0) ((([] : List (List UInt8))).length) ((([] : List (List UInt8))).map Str) 9 1 = own (.slice none 0 0) (((s.list m).2).length) (((s.list m).2).map Str) 9 1 from ownM_cast (by rw [Sh.list, if_pos hof])) <| tk_re 5 (I (((if s.off = true then 9 else 0) : Nat) : Int)) (I (((s.list m).1 : Nat) : Int)) rfl (by rw [if_pos hof, Sh.list, if_pos hof]) <| tk_ret ((.slice none 0 0)) (trivial) (.inl rfl) (r2 rfl rfl rfl) (.cons_cons _ (.cons_cons _ (.cons _ (List.Sublist.refl _))))
  · have hno : ¬ s.off = true := fun h => by rw [if_pos h] at ht10; omega
    have hsl : (sortN (s.obs.map Ob.name)).length = s.obs.length := by unfold sortN; rw [List.length_mergeSort, List.length_map]
    have hol := hok.len
    exact tk_skip <| tk_then <| s_r <| q_m rfl rfl <| s_q rfl (y_nilCheck rfl) <| s_q rfl (y_fld0 (o := 0) rfl kR) <| tk_act rfl <| tk_ps [3, 3, 2] rfl <| a_callv [] _ rfl kR rfl (fun w' hw' => names_spec (s := s) (sb := sb) (mb := mb) hok (St.pre hw')) rfl fun v15 _ => tk_own1 (.head _) fun hfv15 => s_q rfl (y_makeFunc (cs := [PT b3]) rfl) <| tk_act rfl <| tk_ps [4, 1] rfl <| a_callv [] _ rfl kR rfl (fun w' hw' => dls_spec (v := v15) (l := sortN (s.obs.map Ob.name)) (cb := b3) (m := m) lenP (fun n hn => by obtain ⟨o, ho, rfl⟩ := List.mem_map.1 (List.mem_mergeSort.1 hn); have := hok.names o ho; omega) lenP (St.pre hw')) rfl fun v17 _ => tk_own1 (.head _) fun hfv17 => q_a rfl rfl <| q_a rfl rfl <| s_n <| tk_retc <| tk_R (H1 := []) rfl (show own v17 (((sortN (s.obs.map Ob.name)).filter (preB m)).length) (((sortN (s.obs.map Ob.name)).filter (preB m)).map Str) 9 1 = own v17 (((s.list m).2).length) (((s.list m).2).map Str) 9 1 from ownM_cast (by rw [Sh.list, if_neg hno]; rfl)) <| tk_re 5 (I 0) (I (((s.list m).1 : Nat) : Int)) rfl (by rw [Sh.list, if_neg hno]; rfl) <| tk_ret (v17) (trivial) (.inl rfl) (r2 rfl rfl rfl) (.cons_cons _ (.cons _ (List.Sublist.refl _)))
end Go.Proofs.YtkkjfojgjmglpaaGreatDoor
set_option linter.unusedSimpArgs false
set_option linter.unusedVariables false
namespace Go.Proofs.YtkkjfojgjmglpaaGreatDoor.Cip
open Go Go.RowKit
set_option maxRecDepth 100000
theorem p6 (k : Nat) : 283 * 2 ^ (6 - k) < 65536 := by
  have h1 : 2 ^ (6 - k) ≤ 2 ^ 6 := Nat.pow_le_pow_right dC oM
  omega
attribute [local irreducible] plus
end Go.Proofs.YtkkjfojgjmglpaaGreatDoor.Cip
set_option linter.unusedSimpArgs false
set_option linter.unusedVariables false
namespace Go.Proofs.YtkkjfojgjmglpaaGreatDoor.Cip
end Go.Proofs.YtkkjfojgjmglpaaGreatDoor.Cip
set_option linter.unusedSimpArgs false
set_option linter.unusedVariables false
namespace Go.Proofs.YtkkjfojgjmglpaaGreatDoor.Cip
open Go Go.RowKit
set_option maxRecDepth 100000
abbrev II (u : UInt8) : Value := I (u.toNat : Int)
theorem dl {v m : Nat} (h : v < 256) : v / 2 ^ m < 4611686018427387904 := by have := Nat.div_le_self v (2 ^ m); omega
theorem xl {a b : Nat} (ha : a < 4611686018427387904) (hb : b < 4611686018427387904) : a ^^^ b < 4611686018427387904 := xor_lt 62 ha hb
theorem kcell {v : Value} {W : List UInt8} {o m : Nat} (ho : o = 1 + m) (hm : m < W.length) : (v :: W.map II)[o]? = some (II (W.getD m 0)) := by
  subst ho
  rw [Nat.add_comm, List.getElem?_cons_succ, List.getElem?_map, List.getElem?_eq_getElem hm, List.getD_eq_getElem?_getD, List.getElem?_eq_getElem hm]; rfl
theorem fcell (u : UInt8) : (fwd.map II)[u.toNat]? = some (II (sbox u)) := by rw [List.getElem?_map, sbox_at]; rfl
section
variable {P : Program} {n : Nat} {S : World → Prop} {L : Sl} {dst : Option Tmp} {rty : TypeId} {pos : String} {af : Array Edge} {gd : Option (Nat × Bool)} {t t' : TypeId} {x y : Operand}
end
attribute [local irreducible] expW keyW tv
end Go.Proofs.YtkkjfojgjmglpaaGreatDoor.Cip
set_option linter.unusedSimpArgs false
set_option linter.unusedVariables false
namespace Go.Proofs.YtkkjfojgjmglpaaGreatDoor.Cip
open Go Go.RowKit
set_option maxRecDepth 100000
attribute [local irreducible] turn plus keyW hideL
/-- the reference's key, as it lies in memory -/
def RK (w : World) (kb bb : Nat) (K : List UInt8) : Prop := w.cell? ⟨kb, 0, none⟩ = some (.slice (some ⟨bb, 0, none⟩) 256 256) ∧ (∀ m, m < 240 → w.cell? ⟨kb, 1 + m, none⟩ = some (II (K.getD m 0))) ∧ ∀ u : UInt8, w.cell? ⟨bb, u.toNat, none⟩ = some (II (sbox u))
end Go.Proofs.YtkkjfojgjmglpaaGreatDoor.Cip
set_option linter.unusedSimpArgs false
set_option linter.unusedVariables false
namespace Go.Proofs.YtkkjfojgjmglpaaGreatDoor.Cip
open Go Go.RowKit
set_option maxRecDepth 100000
attribute [local irreducible] turn plus keyW hideL
theorem RK.of {w : World} {kb bb : Nat} {K : List UInt8} (h1 : (cel kb (.slice (some ⟨bb, 0, none⟩) 256 256 :: K.map II) 231).holds w) (h2 : (cel bb (fwd.map II) 3).holds w) (hK : K.length = 240) : RK w kb bb K :=
  ⟨cel_cell h1 rfl, fun m hm => cel_cell h1 (kcell (m := m) rfl oM), fun u => cel_cell h2 (fcell u)⟩
end Go.Proofs.YtkkjfojgjmglpaaGreatDoor.Cip
set_option linter.unusedSimpArgs false
set_option linter.unusedVariables false
namespace Go.Proofs.YtkkjfojgjmglpaaGreatDoor
open Go Go.RowKit
set_option maxRecDepth 100000
attribute [local irreducible] hidL markL sealL sealF openF keyedL Cip.keyW Cip.hideL
end Go.Proofs.YtkkjfojgjmglpaaGreatDoor
