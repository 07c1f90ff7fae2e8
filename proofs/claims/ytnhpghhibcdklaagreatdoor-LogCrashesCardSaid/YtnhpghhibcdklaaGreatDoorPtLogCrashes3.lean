/- Texts of the claim LogCrashes, part 3 of 6: CipD, CipE, WaxA, KeyG, KeyH, PackA, PackB, LogI, LogEng, IndexA, IndexB, IndexC, LogA, ShelfPure, ShelfInv, LogInv, ShelfA, ShelfB, ShelfC. Own work. -/
import Derived.Lib.ItoaNum
import Derived.Lib.Repeat
import Derived.Test.YtnhpghhibcdklaaGreatDoorPtLogCrashes2
set_option linter.unusedSimpArgs false
set_option linter.unusedVariables false
namespace Go.Proofs.YtnhpghhibcdklaaGreatDoor.Cip
open Go Go.RowKit
set_option maxRecDepth 100000
attribute [local irreducible] turn plus keyW hideL
theorem el5 : elB Tryz.prog 64 5 1 1 := ⟨kR, _, .int .u8 0, rfl, kR, rfl, kR, kR, Nat.one_pos⟩
theorem fl17 {kb : Nat} {N : List UInt8} {a : Int} (h : N.length = 16) : (flowCs kb N a)[17]? = some (I a) := by
  simp [flowCs, List.getElem?_append_right, h]
theorem flN {kb : Nat} {N : List UInt8} {a : Int} {j : Nat} (hj : j < N.length) : (flowCs kb N a)[1 + j]? = some (B (N.getD j 0)) := by
  rw [Nat.add_comm]; simp [flowCs, List.getElem?_append_left, hj, List.getD_eq_getElem?_getD]
theorem fl_set {kb : Nat} {N : List UInt8} {a b : Int} (h : N.length = 16) : (flowCs kb N a).set 17 (I b) = flowCs kb N b := by
  simp [flowCs, List.set_append, h]
theorem take_snoc {l : List UInt8} {j : Nat} {x : UInt8} (h : l[j]? = some x) : l.take (j + 1) = l.take j ++ [x] := by rw [List.take_add_one, h]; rfl
theorem len_snoc {l : List UInt8} {x : UInt8} : (l ++ [x]).length = l.length + 1 := by simp
theorem own_snoc {v : Value} {K N : List UInt8} {a : Nat} {l : List UInt8} {x : UInt8} {e : TypeId} :
    ownB v (hideL K N a (l ++ [x])) e = own v ((hideL K N a l).length + 1) ((hideL K N a l).map B ++ [B (x ^^^ flowB K N (a + l.length))]) e 1 := by
  simp only [ownB, hideL_snoc, List.length_append, List.map_append]; rfl
set_option maxHeartbeats 1000000 in
theorem hide_spec (fb kb a : Nat) (K N : List UInt8) (v : Value) (Ps : List (Value × List UInt8)) (w : World) (hN : N.length = 16) (hfl : (cel fb (flowCs kb N a) 414).holds w) (hkb : kb ≠ fb)
    (hk : ∀ j, j < 240 → w.cell? ⟨kb, j, none⟩ = some (B (K.getD j 0))) (hps : RdS w v (Ps.map Prod.fst)) (hpe : Ps = [] ∨ (adOf v).block ≠ fb) (hpr : ∀ p ∈ Ps, RdB w p.1 p.2 ∧ (p.2 = [] ∨ (adOf p.1).block ≠ fb))
    (ha : a < 2 ^ 61) (hb : (Ps.flatMap Prod.snd).length < 2 ^ 46) (hpl : Ps.length < 2 ^ 61) :
    Spec Tryz.prog 188 [PT fb, v] w [cel fb (flowCs kb N a) 414] (fun _ : Value => True) (fun vo => vo)
      (fun vo => [ownB vo (hideL K N a (Ps.flatMap Prod.snd)) 5, cel fb (flowCs kb N ((a + (Ps.flatMap Prod.snd).length : Nat) : Int)) 414]) := by
  refine spec_of (n := 62) Tryz.func188 rfl rfl ⟨hfl, trivial⟩ ⟨fun _ _ h => h, trivial⟩ rfl <| s_r <| q_a rfl rfl <| s_n <| tk_seq <| s_r <| q_m rfl rfl <| tk_qe (.bool false) rfl rfl rfl (y_pnil rfl rfl rfl) (rfl) <| s_n <| tk_cond0 rfl <| tk_skip <| tk_then <| s_r <| q_a rfl rfl <| s_n <| s_r <| s_q rfl (y_build (v := Ag (List.replicate 16 0)) (vs := []) rfl (fun _ => kR)) <| tk_act rfl <| a_allocL (cs := (List.replicate 16 0).map B) kR rfl fun b6 => tk_act rfl <| a_storeW (H1 := []) 16 rfl rfl kR rfl ⟨by simp, by simp⟩ oneB <| q_a rfl rfl <| s_n <| tk_seq ?_; refine s_r <| tk_own0 5 <| tk_perm (H' := [cel b6 ((List.replicate 16 0).map B) 210, own (.slice none 0 0) 0 [] 5 1, cel fb (flowCs kb N a) 414]) (List.Perm.swap _ _ _) <| q_m rfl rfl <| tk_qe (I (Ps.length : Int)) rfl rfl rfl (y_lenR rfl hps rfl) (by rw [List.length_map]) <| q_m rfl rfl <| s_n <| tk_block <| tk_loop (X := Nat × Value × Int × List UInt8) (fun x => x.1 ≤ Ps.length ∧ x.2.2.2.length = 16 ∧ (x.2.2.1 = -1 ∨ ∃ q : Nat, x.2.2.1 = (q : Int) ∧ x.2.2.2 = turn K (plus N q))) (fun x => [(0, PT fb), (5, x.2.1), (6, PT b6), (7, I x.2.2.1), (16, v), (17, I (Ps.length : Int)), (18, I (x.1 : Int))]) (fun x => [cel b6 ((x.2.2.2).map B) 210, ownB x.2.1 (hideL K N a ((Ps.take x.1).flatMap Prod.snd)) 5, cel fb (flowCs kb N ((a + ((Ps.take x.1).flatMap Prod.snd).length : Nat) : Int)) 414]) (fun x => Ps.length - x.1) ((0, .slice none 0 0, -1, List.replicate 16 0)) (⟨Nat.zero_le _, by simp, .inl rfl⟩) sB (by show List.Sublist [_, ownB (.slice none 0 0) (hideL K N a []) 5, _] _; rw [hideL_nil]; exact List.Sublist.refl _) ?_
  rintro ⟨i, vo, hv, sb⟩ ⟨hi, hsl, hq⟩
  dsimp only at hi hsl hq ⊢
  refine s_r <| s_q rfl (y_lss rfl rfl) <| s_n <| tk_seq <| tk_condP rfl (fun h19 => ?_) (fun h19 => ?_)
  · obtain ⟨p, hp⟩ : ∃ p, Ps[i]? = some p := ⟨_, List.getElem?_eq_getElem oM⟩
    have hpm := hpr p (List.mem_of_getElem? hp)
    have hfl2 := flat_le hp
    refine tk_skip <| tk_then <| tk_seq <| tk_block <| s_r <| s_q rfl (y_ixR rfl rfl hps (by rw [List.length_map]; omega) kR) <| s_q rfl (y_load rfl rfl (hrd hps (u := p.1) (by rw [List.getElem?_map, hp]; rfl) (fun h => (hpe.resolve_left (fun e => by rw [e] at hp; cases hp)) (h.resolve_right id)))) ?_; refine q_a rfl rfl <| s_n <| s_r <| q_m rfl rfl <| tk_qe (I (p.2.length : Int)) rfl rfl rfl (y_lenR rfl hpm.1 rfl) (by rw [List.length_map]) <| q_m rfl rfl <| s_n <| tk_block <| tk_loop (X := Nat × Value × Int × List UInt8) (fun x => x.1 ≤ p.2.length ∧ x.2.2.2.length = 16 ∧ (x.2.2.1 = -1 ∨ ∃ q : Nat, x.2.2.1 = (q : Int) ∧ x.2.2.2 = turn K (plus N q))) (fun x => [(0, PT fb), (5, x.2.1), (6, PT b6), (7, I x.2.2.1), (16, v), (17, I (Ps.length : Int)), (18, I (i : Int)), (22, p.1), (23, I (p.2.length : Int)), (24, I (x.1 : Int))]) (fun x => [cel b6 ((x.2.2.2).map B) 210, ownB x.2.1 (hideL K N a (((Ps.take i).flatMap Prod.snd) ++ p.2.take x.1)) 5, cel fb (flowCs kb N ((a + (((Ps.take i).flatMap Prod.snd) ++ p.2.take x.1).length : Nat) : Int)) 414]) (fun x => p.2.length - x.1) ((0, vo, hv, sb)) (⟨Nat.zero_le _, hsl, hq⟩) sB (by simp only [List.take_zero, List.append_nil]; exact List.Sublist.refl _) ?_
    clear hsl hq
    rintro ⟨j, vo, hv, sb⟩ ⟨hj, hsl, hq⟩
    dsimp only at hj hsl hq ⊢
    generalize hqq : a + (((Ps.take i).flatMap Prod.snd) ++ p.2.take j).length = q
    refine s_r <| s_q rfl (y_lss rfl rfl) <| s_n <| tk_seq <| tk_condP rfl (fun h25 => ?_) (fun h25 => ?_)
    · obtain ⟨x0, hx0⟩ : ∃ x0, p.2[j]? = some x0 := ⟨_, List.getElem?_eq_getElem oM⟩
      have hql : (((Ps.take i).flatMap Prod.snd) ++ p.2.take j).length = ((Ps.take i).flatMap Prod.snd).length + j := by rw [List.length_append, List.length_take, Nat.min_eq_left oM]
      refine tk_skip <| tk_then <| tk_seq <| tk_block <| s_r <| s_q rfl (y_ixR rfl rfl hpm.1 (by rw [List.length_map]; omega) kR) <| s_q rfl (y_load rfl rfl (hrd hpm.1 (u := B x0) (by rw [List.getElem?_map, hx0]; rfl) (fun h => (hpm.2.resolve_left (fun e => by rw [e] at hx0; cases hx0)) (h.resolve_right id)))) ?_; refine q_a rfl rfl <| s_n ?_; refine tk_seqI (X := Unit) (fun _ => True) (fun _ => [(0, PT fb), (5, vo), (6, PT b6), (7, I ((q / 16 : Nat) : Int)), (16, v), (17, I (Ps.length : Int)), (18, I (i : Int)), (22, p.1), (23, I (p.2.length : Int)), (24, I (j : Int)), (11, B x0)]) (fun _ => [cel b6 ((turn K (plus N (q / 16))).map B) 210, ownB vo (hideL K N a (((Ps.take i).flatMap Prod.snd) ++ p.2.take j)) 5, cel fb (flowCs kb N (q : Int)) 414]) ?_ ?_
      · refine s_r <| q_m rfl rfl <| s_q rfl (y_nilCheck rfl) <| s_q rfl (y_fldN 17 rfl kR) <| s_q rfl (y_load rfl rfl (hc (mm 2 rfl) (fl17 hN))) <| s_q rfl (y_quoN (b := 16) rfl rfl oM) <| q_a rfl rfl <| s_n <| s_r <| q_m rfl rfl <| q_m rfl rfl <| s_q rfl (y_neq rfl rfl) <| s_n <| tk_condP rfl (fun h35 => ?_) (fun h35 => ?_)
        · exact tk_region <| q_m rfl rfl <| q_m rfl rfl <| tk_act rfl <| a_callv [] _ rfl kR rfl (fun w' hw' => block_spec fb kb (q / 16) K N w' hN oM (cel_cell (hw'.mem (mm 2 rfl)) rfl) (fun j hj => cel_cell (hw'.mem (mm 2 rfl)) (flN hj)) (fun j hj => hw'.fr.cell (hk j hj) (fun h => hkb (h.resolve_right id)))) rfl fun _ _ => q_m rfl rfl <| tk_act rfl <| a_storeW (H1 := []) 16 rfl rfl kR rfl ⟨by simp [hN], by simp [hsl]⟩ oneB <| q_a rfl rfl <| tk_nil <| tk_to () trivial sB (List.Sublist.refl _)
        · refine tk_skip ?_
          rcases hq with hq | ⟨q', hq, hq2⟩
          · exfalso; omega
          · have hq1 : q' = q / 16 := by omega
            exact tk_to () trivial ⟨rfl, rfl, rfl, by show some (I hv) = _; rw [hq, hq1], rfl, rfl, rfl, rfl, rfl, rfl, rfl, trivial⟩ (by rw [hq2, hq1]; exact List.Sublist.refl _)
      · intro _ _
        refine s_r <| q_m rfl rfl <| q_m rfl rfl <| q_m rfl rfl <| s_q rfl (y_nilCheck rfl) <| s_q rfl (y_fldN 17 rfl kR) <| s_q rfl (y_load rfl rfl (hc (mm 2 rfl) (fl17 hN))) <| s_q rfl (y_remN (b := 16) rfl rfl oM) ?_
        (first | refine s_q rfl (y_ixA01 16 rfl rfl kR oM) ?_ | refine s_q rfl (y_ixAN1 16 rfl rfl kR oM) ?_)
        refine s_q rfl (y_load rfl rfl (hc (.head _) (getB (by simp [hN]; omega)))) <| s_q rfl (y_xor8 rfl rfl) <| tk_act rfl <| a_slit1 rfl rfl el5 rfl fun b50 => tk_act rfl <| a_append (H1 := [_, _]) (news := [_]) rfl rfl el5 rfl rfl rfl (hcw (.head _)) (by simp [Value.oneCell']) (by simp only [hideL_len]; omega) fun vo2 => q_a rfl rfl <| s_n <| tk_region <| q_m rfl rfl <| s_q rfl (y_nilCheck rfl) <| s_q rfl (y_fldN 17 rfl kR) <| s_q rfl (y_load rfl rfl (hc (mm 3 rfl) (fl17 hN))) <| tk_qe (I ((q + 1 : Nat) : Int)) rfl rfl rfl (y_addI rfl rfl oM) (by congr 1 <;> omega) <| s_q rfl (y_nilCheck rfl) <| s_q rfl (y_fldN 17 rfl kR) <| tk_act rfl <| a_store1 (H1 := [_, _, _]) rfl rfl kR rfl rfl (by simp [flowCs, hN]) <| tk_nil <| tk_in_normal <| tk_then <| tk_region <| tk_qe (I ((j + 1 : Nat) : Int)) rfl rfl rfl (y_addI rfl rfl oM) (by congr 1 <;> omega) <| q_m rfl rfl ?_; exact tk_nil <| tk_again (j + 1, vo2, ((q / 16 : Nat) : Int), turn K (plus N (q / 16))) ⟨by show j + 1 ≤ p.2.length; omega, turn_len (by rw [plus_len]; exact hN), .inr ⟨q / 16, rfl, rfl⟩⟩ (by show p.2.length - (j + 1) < p.2.length - j; omega) sB (by dsimp only; rw [take_snoc hx0, ← List.append_assoc, own_snoc, len_snoc, ← Nat.add_assoc, hqq, ← fl_set hN (a := (q : Int))]; exact List.Sublist.cons _ (List.Sublist.refl _))
    · obtain rfl : j = p.2.length := by omega
      subst hqq
      rw [List.take_length, ← flat_succ hp]
      exact tk_exit <| tk_then_exit <| tk_then_exit <| tk_in_hit <| tk_in_normal <| tk_then <| tk_region <| tk_qe (I ((i + 1 : Nat) : Int)) rfl rfl rfl (y_addI rfl rfl oM) (by congr 1 <;> omega) <| q_m rfl rfl <| tk_nil <| tk_again (i + 1, vo, hv, sb) ⟨by show i + 1 ≤ Ps.length; omega, hsl, hq⟩ (by show Ps.length - (i + 1) < Ps.length - i; omega) sB (List.Sublist.refl _)
  · obtain rfl : i = Ps.length := by omega
    rw [List.take_length]
    exact tk_exit <| tk_then_exit <| tk_then_exit <| tk_in_hit <| tk_then <| s_r <| q_m rfl rfl <| q_a rfl rfl <| s_n <| tk_retc <| tk_ret vo trivial (.inl rfl) (r1 rfl rfl) (List.Sublist.cons _ (List.Sublist.refl _))
end Go.Proofs.YtnhpghhibcdklaaGreatDoor.Cip
set_option linter.unusedSimpArgs false
set_option linter.unusedVariables false
namespace Go.Proofs.YtnhpghhibcdklaaGreatDoor.Cip
open Go Go.RowKit
set_option maxRecDepth 100000
theorem makeR_spec (v : Value) (b : List UInt8) (w : World) (hb : b.length = 32) (hR : RdB w v b) :
    Spec Tryz.prog 260 [v] w [] (fun _ : Nat => True) (fun kb => .tuple #[PT kb, I 0]) (fun kb => [cel kb ((keyW b).map B) 466]) := by
  rcases hR with ⟨_, h0⟩ | ⟨ad, cap, rfl, hc, hr⟩
  · have := congrArg List.length h0; simp [hb] at this
  · rw [List.length_map] at hc ⊢
    rw [hb] at hc ⊢
    have hget : ∀ j, j < b.length → w.cell? (ad.add j) = some (B (b.getD j 0)) := fun j hj => hr j _ (getB hj)
    obtain ⟨ab, ao, sp⟩ := ad
    have hsp : sp = none := by
      have h0 := hget 0 oM
      cases sp with
      | none => rfl
      | some q =>
        exfalso
        simp only [Addr.add, if_true, World.cell?, Option.isSome_some] at h0
        split at h0 <;> cases h0
    subst hsp
    exact make_spec ab ao cap b w hb hc (fun j hj => by have := hget j hj; rwa [add_w] at this)
def bb : Nat → List UInt8
  | 0 => List.replicate 16 0
  | k + 1 => (bb k).set (k % 16) (UInt8.ofNat (17 * (k % 16)))
attribute [local irreducible] turn plus keyW hideL
end Go.Proofs.YtnhpghhibcdklaaGreatDoor.Cip
set_option linter.unusedSimpArgs false
set_option linter.unusedVariables false
namespace Go.Proofs.YtnhpghhibcdklaaGreatDoor
open Go Go.RowKit
set_option maxRecDepth 100000
attribute [local irreducible] hidL markL sealL sealF openF keyedL Cip.keyW Cip.hideL
theorem hide_ro {fb kb : Nat} {hk N : List UInt8} {v : Value} {ps : List Sb} {L : List UInt8} {w : World} (hk32 : hk.length = 32) (hN : N.length = 16) (hv : Ro (Fs [cel fb (Cip.flowCs kb N (0 : Int)) 414, cel kb ((Cip.keyW hk).map B) 466]) w (rd v (ps.map Prod.fst)))
    (hp : ∀ p ∈ ps, Ro (Fs [cel fb (Cip.flowCs kb N (0 : Int)) 414, cel kb ((Cip.keyW hk).map B) 466]) w (rdB p.1 p.2)) (hL : ps.flatMap Prod.snd = L) (hb : L.length < 70368744177664) (hn : ps.length < 70368744177664)
    (hh : Pre w [cel fb (Cip.flowCs kb N (0 : Int)) 414, cel kb ((Cip.keyW hk).map B) 466]) :
    Spec Tryz.prog 188 [PT fb, v] w [cel fb (Cip.flowCs kb N (0 : Int)) 414, cel kb ((Cip.keyW hk).map B) 466] (fun _ : Value => True) (fun vo => vo) (fun vo => [ownB vo (hidL hk N L) 5]) := by
  subst hL
  have hne : kb ≠ fb := fun e => hh.2.1 fb rfl (.inl e.symm)
  have hs := Cip.hide_spec fb kb 0 (Cip.keyW hk) N v ps w hN hh.1.1 hne (fun j hj => cel_cell hh.1.2.1 (getB (by rw [Cip.keyW_len hk32]; exact hj))) hv.1 (by
    cases ps with
    | nil => exact .inl rfl
    | cons p ps => exact .inr fun e => hv.2 fb ⟨by simp, e⟩ (.inl rfl)) (fun p hp0 => ⟨(hp p hp0).1, by
      cases hl : p.2 with
      | nil => exact .inl rfl
      | cons a l => exact .inr fun e => (hp p hp0).2 fb ⟨by rw [hl]; simp, e⟩ (.inl rfl)⟩) dC oM oM
  rw [hidL_def] at hs
  exact (Spec.frame (F := [cel kb ((Cip.keyW hk).map B) 466]) hs hh).less (fun vo => .cons_cons _ (List.nil_sublist _))
theorem flow_spec {hk mk N : List UInt8} {nv : Value} {w : World} (hn : Ro (Fs []) w (rdB nv N)) (hk32 : hk.length = 32) (hN : N.length = 16) :
    Spec Tryz.prog 187 [.agg (hk.map B ++ (mk.map B)).toArray, nv] w [] (fun _ : Nat × Nat => True) (fun x => .tuple #[PT x.1, I 0])
      (fun x => [cel x.1 (Cip.flowCs x.2 N (0 : Int)) 414, cel x.2 ((Cip.keyW hk).map B) 466]) := by
  refine spec_of (n := 24) Tryz.func187 rfl rfl trivial trivial rfl <| s_r <| tk_act rfl <| a_boxL (cs := hk.map B ++ (mk.map B)) rfl rfl fun b2 => q_a rfl rfl <| q_a rfl rfl <| s_n <| s_r <| s_q rfl (y_fld0 (o := 0) rfl kR) <| s_q rfl (y_cutA (m := 32) (sz := 1) rfl kR) <| tk_act rfl <| a_callv [] _ rfl kR rfl (fun w' hw' => Cip.makeR_spec _ hk w' lenP ((Ro.cel (H0 := []) (b := b2) (o := 0) (m := 32) (cp := 32) (vs := hk.map B) hw' (.head _) (dsW1) lQ lenP)).1) rfl fun k11 _ => q_m rfl rfl <| s_q rfl (y_extract rfl rfl) <| s_q rfl (y_extract rfl rfl) <| q_a rfl rfl <| q_a rfl rfl <| s_n <| tk_seq <| s_r <| q_m rfl rfl <| s_q rfl ((y_neq rfl rfl).cast (bool_f dC)) <| s_n <| tk_cond0 rfl ?_; exact tk_skip <| tk_then <| s_r <| q_m rfl rfl <| q_m rfl rfl <| s_q rfl (y_s2aR (l := N) rfl rfl hn.1 lenP) <| s_q rfl (y_loadA 16 rfl kR lenP (fun w hw => rd_take (l := N) (m := 16) ((fun w hw => Ro.rd hn hw) w hw) lenP)) <| tk_re 20 (.agg ((N.take 16).map B).toArray) (.agg (N.map B).toArray) rfl (by rw [List.take_of_length_le oM]) <| tk_act rfl <| a_callv [] _ rfl kR rfl (fun w' hw' => Cip.begin_spec k11 N w' lenP) rfl fun f21 _ => s_q rfl (y_extract rfl rfl) <| s_q rfl (y_extract rfl rfl) <| q_a rfl rfl <| q_a rfl rfl <| s_n <| tk_retc <| tk_ret ((f21, k11)) (trivial) (.inl rfl) (r2 rfl rfl rfl) (.cons_cons _ (.cons_cons _ (List.nil_sublist _)))
theorem mark_spec {hk mk name N h : List UInt8} {kind : UInt8} {nv hv : Value} {w : World} (hn : Ro (Fs []) w (rdB nv N)) (hh : Ro (Fs []) w (rdB hv h)) (h2 : hk.length = 32 ∧ mk.length = 32) (hg : Ro (Fs []) w glob) (hb : name.length < 4294967296 ∧ N.length < 4294967296 ∧ h.length < 4294967296) :
    Spec Tryz.prog 189 [.agg (hk.map B ++ (mk.map B)).toArray, B kind, Str name, nv, hv] w [] (fun _ : Unit => True) (fun _ => Ag (markL mk kind name N h)) (fun _ => []) := by
  obtain ⟨hk32, mk32⟩ := h2
  refine spec_of (n := 24) Tryz.func189 rfl rfl trivial trivial rfl <| s_r <| tk_act rfl <| a_boxL (cs := hk.map B ++ (mk.map B)) rfl rfl fun b5 => tk_act rfl <| a_allocL (cs := (List.replicate 32 0).map B) kR rfl fun b10 => s_n <| s_r <| s_q rfl (y_fldN (o := 0) 32 rfl kR) <| s_q rfl (y_cutA (m := 32) (sz := 1) rfl kR) <| q_m rfl rfl <| q_m rfl rfl <| s_q rfl (y_lenStr (l := name) rfl rfl) <| s_q rfl (y_convi8 (m := name.length) rfl rfl rfl) <| tk_act rfl <| a_slitN (vs := [B kind, B (UInt8.ofNat name.length)]) rfl (List.forall_mem_cons.2 ⟨rfl, (List.forall_mem_cons.2 ⟨rfl, (fun _ h => nomatch h)⟩)⟩) (EL64) rfl rfl dC fun b17 => q_m rfl rfl <| tk_act rfl <| a_s2bO (l := name) rfl rfl rfl rfl rfl (by simp only [maxLen]; first | omega | (simp; done) | (simp; omega)) fun v19 => tk_own1 (.head _) fun hfv19 => q_m rfl rfl <| q_m rfl rfl <| tk_act rfl <| a_slitN (vs := [.slice (some ⟨b17, 0, none⟩) 2 2, v19, nv, hv]) rfl (List.forall_mem_cons.2 ⟨rfl, (List.forall_mem_cons.2 ⟨(RdS.one hfv19.choose_spec), (List.forall_mem_cons.2 ⟨(RdS.one hn.1), (List.forall_mem_cons.2 ⟨(RdS.one hh.1), (fun _ h => nomatch h)⟩)⟩)⟩)⟩) (EL208) rfl rfl dC fun b22 => ?_; exact tk_act rfl <| a_callv [] _ rfl kR rfl (fun w' hw' => keyed_spec (k := mk) (ps := [(.slice (some ⟨b17, 0, none⟩) 2 2, [kind, UInt8.ofNat name.length]), (v19, name), (nv, N), (hv, h)]) (L := [kind, UInt8.ofNat name.length] ++ name ++ N ++ h) (Ro.cel (H0 := []) (b := b5) (o := 32) (m := 32) (cp := 32) (vs := mk.map B) hw' (mm 4 rfl) (dsA (k := 32) (i := 0) (by rw [List.length_map]; exact hk32) oM (dsW)) lQ lenP) (Ro.cel (vs := [.slice (some ⟨b17, 0, none⟩) 2 2, v19, nv, hv]) hw' (.head _) rS rfl dC) (List.forall_mem_cons.2 ⟨(Ro.cel (H0 := []) (b := b17) (o := 0) (m := 2) (cp := 2) (vs := [kind, UInt8.ofNat name.length].map B) hw' (mm 2 rfl) (rfl) lQ lenP), (List.forall_mem_cons.2 ⟨(Ro.own (H0 := []) hw' (mm 1 rfl)), (List.forall_mem_cons.2 ⟨(Ro.call (H0 := []) hn hw'), (List.forall_mem_cons.2 ⟨(Ro.call (H0 := []) hh hw'), (fun _ h => nomatch h)⟩)⟩)⟩)⟩) sI ⟨lenP, lenP, lenP⟩ (hg.call hw')) rfl fun _ _ => tk_re 23 (.agg ((keyedL mk ([kind, UInt8.ofNat name.length] ++ name ++ N ++ h)).map B).toArray) (.agg ((markL mk kind name N h).map B).toArray) rfl (by rw [markL_def]) <| tk_act rfl <| a_storeW (H1 := [_, _, _]) (vs := (markL mk kind name N h).map B) 32 rfl rfl kR rfl ⟨lenP, lenP⟩ oneB <| s_n <| tk_retc <| tk_ret (()) (trivial) (.inl rfl) (rc (vs := (markL mk kind name N h).map B) rfl rfl (by simp; kernel_rfl) (hcw (mm 3 rfl))) (List.nil_sublist _)
theorem seal_spec {hk mk name N L : List UInt8} {kind : UInt8} {v : Value} {ps : List Sb} {w : World} (h3 : hk.length = 32 ∧ mk.length = 32 ∧ N.length = 16) (hv : Ro (Fs []) w (rd v (ps.map Prod.fst))) (hp : ∀ p ∈ ps, Ro (Fs []) w (rdB p.1 p.2)) (hL : ps.flatMap Prod.snd = L)
    (hb : name.length < 4294967296 ∧ L.length < 4294967296 ∧ ps.length < 4294967296) (hg : Ro (Fs []) w glob) :
    Spec Tryz.prog 103 [.agg (hk.map B ++ (mk.map B)).toArray, B kind, Str name, Ag N, v] w [] (fun _ : Value => True) (fun vo => .tuple #[vo, I (((sealF hk mk kind name N L).2 : Nat) : Int)]) (fun vo => [ownB vo (sealF hk mk kind name N L).1 5]) := by
  refine spec_of (n := 60) Tryz.func103 rfl rfl trivial trivial rfl ?_
  obtain ⟨hk32, mk32, hN⟩ := h3
  have hLl : (ps.flatMap Prod.snd).length = L.length := by rw [hL]
  refine s_r <| tk_act rfl <| a_boxL (cs := hk.map B ++ (mk.map B)) rfl rfl fun b5 => tk_act rfl <| a_boxL (cs := N.map B) rfl rfl fun b8 => q_a rfl rfl <| q_a rfl rfl <| s_n <| tk_seq <| s_r <| q_m rfl rfl <| s_q rfl (y_lenStr (l := name) rfl rfl) <| s_q rfl (y_gtr rfl rfl) <| s_n <| tk_condP rfl (fun ht21 => ?_) (fun ht21 => ?_)
  · exact s_r <| q_a rfl rfl <| q_a rfl rfl <| s_n <| tk_retc <| tk_then_ret <| tk_ownM0 (f := B) 5 <| tk_R (H1 := []) rfl (show ownB (.slice none 0 0) [] 5 = ownB (.slice none 0 0) ((sealF hk mk kind name N L).1) 5 from ownM_cast (by rw [sealF_name oM])) <| tk_re 11 (I 5) (I (((sealF hk mk kind name N L).2 : Nat) : Int)) rfl (by rw [sealF_name oM]; rfl) <| tk_ret (.slice none 0 0) (trivial) (.inl rfl) (r2 rfl rfl rfl) (.cons_cons _ (List.nil_sublist _))
  · refine tk_skip <| tk_then <| s_r <| q_a rfl rfl <| s_n <| tk_seq <| s_r <| q_m rfl rfl <| s_q rfl (y_lenRN (n' := ps.length) rfl hv.1 rfl (by first | rfl | (rw [List.length_map]; omega) | simp)) <| q_m rfl rfl <| s_n <| tk_block <| tk_loop (X := Nat) (fun j => j ≤ ps.length ∧ ((ps.take j).flatMap Prod.snd).length ≤ 1048576) (fun j => [(1, B kind), (2, Str name), (4, v), (5, PT b5), (8, PT b8), (12, I ((1048576 - ((ps.take j).flatMap Prod.snd).length : Nat) : Int)), (22, v), (23, IN ps.length), (24, IN j)]) (fun j => [cel b8 (N.map B) 210, cel b5 (hk.map B ++ (mk.map B)) 45]) (fun j => ps.length - j) (0) (⟨Nat.zero_le _, by simp⟩) sB ((List.Sublist.refl _)) ?_
    rintro j hI
    try dsimp only at hI ⊢
    refine s_r <| s_q rfl (y_lss rfl rfl) <| s_n <| tk_seq <| tk_condP rfl (fun ht25 => ?_) (fun ht25 => ?_)
    · refine tk_skip <| tk_then <| tk_seq <| tk_block <| s_r <| s_q rfl (y_ixR (j := j) rfl rfl hv.1 lenP kR) <| s_q rfl (y_load rfl rfl (fun w hw => ((fun w hw => Ro.rd hv hw) w hw).cell (gM (f := Prod.fst) (d := dP) lenP))) <| q_a rfl rfl <| s_n <| tk_seq <| s_r ?_
      have hfl := flat_le (ps := ps) (i := j) oM
      refine q_m rfl rfl <| s_q rfl (y_lenRN (n' := ((ps.getD j dP).2).length) rfl (hp _ (getD_mem lenP)).1 rfl (by first | rfl | (rw [List.length_map]; omega) | simp)) <| q_m rfl rfl <| s_q rfl (y_gtr rfl rfl) <| s_n <| tk_condP rfl (fun ht31 => ?_) (fun ht31 => ?_)
      · exact s_r <| q_a rfl rfl <| q_a rfl rfl <| s_n <| tk_retc <| tk_then_ret <| tk_in_ret <| tk_then_ret <| tk_then_ret <| tk_in_ret <| tk_then_ret <| tk_ownM0 (f := B) 5 <| tk_R (H1 := []) rfl (show ownB (.slice none 0 0) [] 5 = ownB (.slice none 0 0) ((sealF hk mk kind name N L).1) 5 from ownM_cast (by rw [sealF_big oM oM])) <| tk_re 11 (I 4) (I (((sealF hk mk kind name N L).2 : Nat) : Int)) rfl (by rw [sealF_big oM oM]; rfl) <| tk_ret (.slice none 0 0) (trivial) (.inl rfl) (r2 rfl rfl rfl) (.cons_cons _ (List.nil_sublist _))
      · exact tk_skip <| tk_then <| tk_region <| q_m rfl rfl <| q_m rfl rfl <| s_q rfl (y_lenRN (n' := ((ps.getD j dP).2).length) rfl (hp _ (getD_mem lenP)).1 rfl (by first | rfl | (rw [List.length_map]; omega) | simp)) <| s_q rfl (y_subN (a := 1048576 - ((ps.take j).flatMap Prod.snd).length) (b := ((ps.getD j dP).2).length) rfl rfl oM) <| q_a rfl rfl <| tk_nil <| tk_in_normal <| tk_then <| tk_region <| s_q rfl (y_addN (a := j) (b := 1) rfl rfl oM) <| q_m rfl rfl <| tk_nil <| tk_re 12 (I (((1048576 - ((ps.take j).flatMap Prod.snd).length) - (((ps.getD j dP).2).length) : Nat) : Int)) (I ((1048576 - ((ps.take (j + 1)).flatMap Prod.snd).length : Nat) : Int)) rfl (by rw [flat_snoc (d := dP) oM, List.length_append]; congr 2; omega) <| tk_again (j + 1) (⟨by omega, by rw [flat_snoc (d := dP) oM, List.length_append]; omega⟩) oM sB (List.Sublist.refl _)
    · have hok : ¬ 1048576 < L.length := by have h := hI.2; rw [List.take_of_length_le oM] at h; omega
      refine tk_exit <| tk_then_exit <| tk_then_exit <| tk_in_hit <| tk_then <| tk_seq <| tk_drawH [cel b8 (N.map B) 210, cel b5 (hk.map B ++ (mk.map B)) 45] [] kR <| s_l 0 rfl (fun _ h => h) (y_loadA 64 rfl kR lenP (hcw (mm 1 rfl))) <| s_x 1 rfl (y_cutA (m := 16) (sz := 1) rfl kR) <| tx_a 2 rfl kR rfl <| a_callv [] _ rfl kR rfl (fun w' hw' => flow_spec (hk := hk) (mk := mk) (N := N) (Ro.cel (H0 := []) (b := b8) (o := 0) (m := 16) (cp := 16) (vs := N.map B) hw' (.head _) (dsW) lQ lenP) lenP lenP) rfl fun ⟨f40, k40⟩ _ => tk_S (fun _ h => kD 2 rfl h) <| s_x 3 rfl (y_move rfl) <| s_x 4 rfl (y_extract rfl rfl) <| s_x 5 rfl (y_extract rfl rfl) <| s_x 6 rfl (y_assign rfl) <| s_x 7 rfl (y_assign rfl) <| tx_done kR <| tk_then <| tk_seq <| s_r <| q_m rfl rfl <| s_q rfl ((y_neq rfl rfl).cast (bool_f dC)) <| s_n ?_; refine tk_cond0 rfl <| tk_skip <| tk_then <| s_r <| q_m rfl rfl <| q_m rfl rfl <| tk_act rfl <| a_callv [] _ rfl kR rfl (fun w' hw' => hide_ro (hk := hk) (N := N) (ps := ps) (L := L) hk32 hN (Ro.call hv hw') (fun p hp0 => (hp p hp0).call hw') hL lenP lenP (St.pre hw')) rfl fun v48 _ => q_a rfl rfl <| s_n <| tk_seq <| tk_drawH [ownB v48 (hidL hk N L) 5, cel b8 (N.map B) 210, cel b5 (hk.map B ++ (mk.map B)) 45] [] kR <| s_l 0 rfl (fun _ h => h) (y_loadA 64 rfl kR lenP (hcw (mm 2 rfl))) <| s_x 1 rfl (y_move rfl) <| s_x 2 rfl (y_move rfl) <| s_x 3 rfl (y_cutA (m := 16) (sz := 1) rfl kR) <| s_x 4 rfl (y_move rfl) <| tx_all (is := [5, 6]) kR rfl ⟨⟨_, rfl, rfl, ?_⟩, ⟨_, rfl, rfl, ?_⟩, trivial⟩
      · refine a_callv [] _ rfl kR rfl (fun w' hw' => mark_spec (hk := hk) (mk := mk) (kind := kind) (name := name) (N := N) (h := hidL hk N L) (Ro.cel (H0 := []) (b := b8) (o := 0) (m := 16) (cp := 16) (vs := N.map B) hw' (mm 1 rfl) (dsW) lQ lenP) (Ro.own (H0 := []) hw' (.head _)) ⟨lenP, lenP⟩ (hg.call hw') ⟨lenP, lenP, lenP⟩) rfl fun _ _ => tk_S (fun _ h => h) <| tx_a 6 rfl kR rfl <| a_allocL (cs := (List.replicate 32 0).map B) kR rfl fun b18 => tk_S (fun _ h => kD 1 rfl h) <| tx_a 7 rfl kR rfl <| a_storeW (H1 := []) (vs := (markL mk kind name N (hidL hk N L)).map B) 32 rfl rfl kR rfl ⟨lenP, lenP⟩ oneB <| tk_S (fun _ h => kD 1 rfl h) <| tx_done kR <| tk_then <| tk_seq <| tk_drawH [cel b18 ((markL mk kind name N (hidL hk N L)).map B) 28, ownB v48 (hidL hk N L) 5, cel b5 (hk.map B ++ (mk.map B)) 45] [] kR <| s_x 0 rfl (y_cutA (m := 16) (sz := 1) rfl kR) <| s_x 1 rfl (y_move rfl) <| s_x 3 rfl (y_cutA (m := 32) (sz := 1) rfl kR) <| tk_celM (H1 := [_, _]) (f := B) (l := N) (T := 5) rfl hN dC <| tx_a 2 rfl kR rfl <| a_appM (H1 := [_, _]) (f := B) (l := N) (m := hidL hk N L) rfl rfl EL64 rfl rfl (fun w hw => own_rdS (hw.mem (mm 1 rfl))) (fun _ => rfl) ⟨lenP, lenP⟩ fun v57 => tk_own1 (mm 2 rfl) fun hfv57 => tk_S (fun _ h => kT [0, 0] 1 rfl h) <| tx_a 4 rfl kR rfl <| a_appM (H1 := [_, _]) (f := B) (l := N ++ (hidL hk N L)) (m := markL mk kind name N (hidL hk N L)) rfl rfl EL64 rfl rfl (fun w hw => cel_rdE (o := 0) (m := 32) (cp := 32) (vs := (markL mk kind name N (hidL hk N L)).map B) (hw.mem (.head _)) (dsW) lQ lenP) (fun _ => rfl) ⟨lenP, lenP⟩ fun v59 => tk_own1 (mm 2 rfl) fun hfv59 => tk_S (fun _ h => kT [0, 0] 1 rfl h) ?_; exact s_x 5 rfl (y_assign rfl) <| s_x 6 rfl (y_assign rfl) <| tx_done kR <| tk_then <| tk_retc <| tk_R (H1 := [_, _]) rfl (show ownB v59 ((N ++ (hidL hk N L)) ++ (markL mk kind name N (hidL hk N L))) 5 = ownB v59 ((sealF hk mk kind name N L).1) 5 from ownM_cast (by rw [sealF_ok oM hok]; exact sealL_def)) <| tk_re 11 (I 0) (I (((sealF hk mk kind name N L).2 : Nat) : Int)) rfl (by rw [sealF_ok oM hok]; rfl) <| tk_ret (v59) (trivial) (.inl rfl) (r2 rfl rfl rfl) (.cons _ (.cons _ (.cons_cons _ (List.nil_sublist _))))
      · refine a_allocL (cs := (List.replicate 32 0).map B) kR rfl fun b18 => tk_S (fun _ h => kD 1 rfl h) <| tx_a 5 rfl kR rfl <| a_callv [] _ rfl kR rfl (fun w' hw' => mark_spec (hk := hk) (mk := mk) (kind := kind) (name := name) (N := N) (h := hidL hk N L) (Ro.cel (H0 := []) (b := b8) (o := 0) (m := 16) (cp := 16) (vs := N.map B) hw' (mm 2 rfl) (dsW) lQ lenP) (Ro.own (H0 := []) hw' (mm 1 rfl)) ⟨lenP, lenP⟩ (hg.call hw') ⟨lenP, lenP, lenP⟩) rfl fun _ _ => tk_S (fun _ h => kD 1 rfl h) <| tx_a 7 rfl kR rfl <| a_storeW (H1 := []) (vs := (markL mk kind name N (hidL hk N L)).map B) 32 rfl rfl kR rfl ⟨lenP, lenP⟩ oneB <| tk_S (fun _ h => kD 1 rfl h) <| tx_done kR <| tk_then <| tk_seq <| tk_drawH [cel b18 ((markL mk kind name N (hidL hk N L)).map B) 28, ownB v48 (hidL hk N L) 5, cel b5 (hk.map B ++ (mk.map B)) 45] [] kR <| s_x 0 rfl (y_cutA (m := 16) (sz := 1) rfl kR) <| s_x 1 rfl (y_move rfl) <| s_x 3 rfl (y_cutA (m := 32) (sz := 1) rfl kR) <| tk_celM (H1 := [_, _]) (f := B) (l := N) (T := 5) rfl hN dC <| tx_a 2 rfl kR rfl <| a_appM (H1 := [_, _]) (f := B) (l := N) (m := hidL hk N L) rfl rfl EL64 rfl rfl (fun w hw => own_rdS (hw.mem (mm 1 rfl))) (fun _ => rfl) ⟨lenP, lenP⟩ fun v57 => tk_own1 (mm 2 rfl) fun hfv57 => tk_S (fun _ h => kT [0, 0] 1 rfl h) <| tx_a 4 rfl kR rfl <| a_appM (H1 := [_, _]) (f := B) (l := N ++ (hidL hk N L)) (m := markL mk kind name N (hidL hk N L)) rfl rfl EL64 rfl rfl (fun w hw => cel_rdE (o := 0) (m := 32) (cp := 32) (vs := (markL mk kind name N (hidL hk N L)).map B) (hw.mem (.head _)) (dsW) lQ lenP) (fun _ => rfl) ⟨lenP, lenP⟩ fun v59 => tk_own1 (mm 2 rfl) fun hfv59 => tk_S (fun _ h => kT [0, 0] 1 rfl h) ?_; exact s_x 5 rfl (y_assign rfl) <| s_x 6 rfl (y_assign rfl) <| tx_done kR <| tk_then <| tk_retc <| tk_R (H1 := [_, _]) rfl (show ownB v59 ((N ++ (hidL hk N L)) ++ (markL mk kind name N (hidL hk N L))) 5 = ownB v59 ((sealF hk mk kind name N L).1) 5 from ownM_cast (by rw [sealF_ok oM hok]; exact sealL_def)) <| tk_re 11 (I 0) (I (((sealF hk mk kind name N L).2 : Nat) : Int)) rfl (by rw [sealF_ok oM hok]; rfl) <| tk_ret (v59) (trivial) (.inl rfl) (r2 rfl rfl rfl) (.cons _ (.cons _ (.cons_cons _ (List.nil_sublist _))))
theorem open_spec {hk mk name b : List UInt8} {kind : UInt8} {bv : Value} {w : World} (h2 : hk.length = 32 ∧ mk.length = 32) (hb : Ro (Fs []) w (rdB bv b)) (h3 : name.length < 4294967296 ∧ b.length < 4611686018427387904) (hg : Ro (Fs []) w glob) :
    Spec Tryz.prog 122 [.agg (hk.map B ++ (mk.map B)).toArray, B kind, Str name, bv] w [] (fun _ : Value => True) (fun vo => .tuple #[vo, I (((openF hk mk kind name b).2 : Nat) : Int)]) (fun vo => [ownB vo (openF hk mk kind name b).1 5]) := by
  refine spec_of (n := 64) Tryz.func122 rfl rfl trivial trivial rfl ?_
  obtain ⟨hk32, mk32⟩ := h2
  refine s_r <| tk_act rfl <| a_boxL (cs := hk.map B ++ (mk.map B)) rfl rfl fun b4 => q_a rfl rfl <| q_a rfl rfl <| s_n <| tk_seq <| tk_block <| s_r <| q_m rfl rfl <| s_q rfl (y_lenStr (l := name) rfl rfl) <| s_q rfl (y_gtr rfl rfl) <| q_a rfl rfl <| s_n <| tk_condP rfl (fun ht16 => ?_) (fun ht16 => ?_)
  · exact s_r <| q_a rfl rfl <| q_a rfl rfl <| s_n <| tk_retc <| tk_in_ret <| tk_then_ret <| tk_ownM0 (f := B) 5 <| tk_R (H1 := []) rfl (show ownB (.slice none 0 0) [] 5 = ownB (.slice none 0 0) ((openF hk mk kind name b).1) 5 from ownM_cast (by rw [openF_name oM])) <| tk_re 9 (I 5) (I (((openF hk mk kind name b).2 : Nat) : Int)) rfl (by rw [openF_name oM]; rfl) <| tk_ret (.slice none 0 0) (trivial) (.inl rfl) (r2 rfl rfl rfl) (.cons_cons _ (List.nil_sublist _))
  · refine s_r <| q_m rfl rfl <| s_q rfl (y_lenRN (n' := b.length) rfl hb.1 rfl (by first | rfl | (rw [List.length_map]; omega) | simp)) <| tk_qs rfl rfl rfl (y_lss rfl rfl) (fun hs3_2 => ?_) (fun hs3_2 => ?_)
    · exact q_m rfl rfl <| tk_gno rfl rfl rfl <| tk_gno rfl rfl rfl <| tk_gno rfl rfl rfl <| tk_gno rfl rfl rfl <| s_q rfl (y_pick1 rfl rfl) <| q_a rfl rfl <| s_n <| tk_cond1 rfl <| s_r <| q_a rfl rfl <| q_a rfl rfl <| s_n <| tk_retc <| tk_in_ret <| tk_then_ret <| tk_ownM0 (f := B) 5 <| tk_R (H1 := []) rfl (show ownB (.slice none 0 0) [] 5 = ownB (.slice none 0 0) ((openF hk mk kind name b).1) 5 from ownM_cast (by rw [openF_len oM oM])) <| tk_re 9 (I 10) (I (((openF hk mk kind name b).2 : Nat) : Int)) rfl (by rw [openF_len oM oM]; rfl) <| tk_ret (.slice none 0 0) (trivial) (.inl rfl) (r2 rfl rfl rfl) (.cons_cons _ (List.nil_sublist _))
    · refine q_m rfl rfl <| s_g rfl (y_move rfl) <| s_g rfl (y_lenRN (n' := b.length) rfl hb.1 rfl (by first | rfl | (rw [List.length_map]; omega) | simp)) <| s_g rfl (y_subN (a := b.length) (b := 48) rfl rfl oM) <| s_g rfl (y_gtr rfl rfl) <| s_q rfl (y_pick0 rfl rfl) <| q_a rfl rfl <| s_n <| tk_condP rfl (fun ht20 => ?_) (fun ht20 => ?_)
      · exact s_r <| q_a rfl rfl <| q_a rfl rfl <| s_n <| tk_retc <| tk_in_ret <| tk_then_ret <| tk_ownM0 (f := B) 5 <| tk_R (H1 := []) rfl (show ownB (.slice none 0 0) [] 5 = ownB (.slice none 0 0) ((openF hk mk kind name b).1) 5 from ownM_cast (by rw [openF_len oM oM])) <| tk_re 9 (I 10) (I (((openF hk mk kind name b).2 : Nat) : Int)) rfl (by rw [openF_len oM oM]; rfl) <| tk_ret (.slice none 0 0) (trivial) (.inl rfl) (r2 rfl rfl rfl) (.cons_cons _ (List.nil_sublist _))
      · refine tk_skip <| tk_in_normal <| tk_then <| s_r <| q_m rfl rfl <| s_q rfl (y_lenRN (n' := b.length) rfl hb.1 rfl (by first | rfl | (rw [List.length_map]; omega) | simp)) <| s_q rfl (y_subN (a := b.length) (b := 32) rfl rfl oM) <| q_a rfl rfl <| s_n <| tk_seq <| tk_drawH [cel b4 (hk.map B ++ (mk.map B)) 45] [] kR <| s_x 0 rfl (y_move rfl) <| s_x 1 rfl (y_cutRBh (l := b) 16 rfl rfl hb.1 kR lenP rfl) <| s_x 2 rfl (y_move rfl) <| s_x 3 rfl (y_move rfl) <| s_x 4 rfl (y_cutRBlh (l := b) 16 (b.length - 32) rfl rfl rfl hb.1 kR ⟨lenP, lenP⟩ rfl rfl) <| s_x 5 rfl (y_assign rfl) <| s_x 6 rfl (y_assign rfl) <| tx_done kR <| tk_then <| tk_seq <| s_r <| s_q rfl (y_loadA 64 rfl kR lenP (hcw (.head _))) <| q_m rfl rfl ?_; refine q_m rfl rfl <| q_m rfl rfl <| q_m rfl rfl <| tk_act rfl <| a_callv [] _ rfl kR rfl (fun w' hw' => mark_spec (hk := hk) (mk := mk) (kind := kind) (name := name) (N := b.take 16) (h := (b.drop 16).take ((b.length - 32) - 16)) (Ro.cutBh (Ro.call (H0 := []) hb hw') (hi := 16) lenP) (Ro.cutB (Ro.call (H0 := []) hb hw') (lo := 16) (hi := b.length - 32) ⟨lenP, lenP⟩) ⟨lenP, lenP⟩ (hg.call hw') ⟨lenP, lenP, lenP⟩) rfl fun _ _ => tk_act rfl <| a_allocL (cs := (List.replicate 32 0).map B) kR rfl fun b13 => tk_act rfl <| a_storeW (H1 := []) (vs := (markL mk kind name (b.take 16) ((b.drop 16).take ((b.length - 32) - 16))).map B) 32 rfl rfl kR rfl ⟨lenP, lenP⟩ oneB <| s_n <| tk_seq <| tk_drawH [cel b13 ((markL mk kind name (b.take 16) ((b.drop 16).take ((b.length - 32) - 16))).map B) 28, cel b4 (hk.map B ++ (mk.map B)) 45] [] kR <| s_x 0 rfl (y_cutA (m := 32) (sz := 1) rfl kR) <| s_x 1 rfl (y_move rfl) <| s_x 2 rfl (y_move rfl) <| s_x 3 rfl (y_cutRBl (l := b) (b.length - 32) rfl rfl hb.1 kR lenP rfl) <| tx_a 4 rfl kR rfl <| a_slitN (vs := [cutR bv (b.length - 32) b.length]) rfl (List.forall_mem_cons.2 ⟨(RdS.one (RdS.cutBl hb.1 (lo := b.length - 32) lenP)), (fun _ h => nomatch h)⟩) (EL208) rfl rfl dC fun b48 => tk_S (fun _ h => kD 1 rfl h) <| tx_more [cel b48 ([cutR bv (b.length - 32) b.length]) 64, cel b13 ((markL mk kind name (b.take 16) ((b.drop 16).take ((b.length - 32) - 16))).map B) 28, cel b4 (hk.map B ++ (mk.map B)) 45] (fun _ h => kD 1 rfl h) (fun _ h => h) <| tx_a 5 rfl kR rfl <| a_callv [] _ rfl kR rfl (fun w' hw' => same1_spec (l := markL mk kind name (b.take 16) ((b.drop 16).take ((b.length - 32) - 16))) (m := b.drop (b.length - 32)) (u2 := cutR bv (b.length - 32) b.length) (Ro.cel (H0 := []) (b := b13) (o := 0) (m := 32) (cp := 32) (vs := (markL mk kind name (b.take 16) ((b.drop 16).take ((b.length - 32) - 16))).map B) hw' (mm 1 rfl) (dsW) lQ lenP) (Ro.cel (vs := [cutR bv (b.length - 32) b.length]) hw' (.head _) rS rfl dC) (List.forall_mem_cons.2 ⟨(Ro.cutBl (Ro.call (H0 := []) hb hw') (lo := b.length - 32) lenP), (fun _ h => nomatch h)⟩) ⟨lenP, lenP⟩) rfl fun _ _ => tk_S (fun _ h => h) <| tk_re 49 (.bool (decide (b.drop (b.length - 32) = markL mk kind name (b.take 16) ((b.drop 16).take ((b.length - 32) - 16))))) (.bool (decide (markL mk kind name (b.take 16) ((b.drop 16).take (b.length - 32 - 16)) = b.drop (b.length - 32)))) rfl (congrArg Value.bool (decide_eq_decide.2 eq_comm)) ?_; refine s_x 6 rfl (y_not rfl) <| tx_done kR <| tk_then <| tk_cond rfl (fun ht50 => ?_) (fun ht50 => ?_)
        · have hno : ¬ markL mk kind name (b.take 16) ((b.drop 16).take (b.length - 32 - 16)) = b.drop (b.length - 32) := by simpa using ht50
          exact s_r <| q_a rfl rfl <| q_a rfl rfl <| s_n <| tk_retc <| tk_then_ret <| tk_ownM0 (f := B) 5 <| tk_R (H1 := []) rfl (show ownB (.slice none 0 0) [] 5 = ownB (.slice none 0 0) ((openF hk mk kind name b).1) 5 from ownM_cast (by rw [openF_no oM oM hno])) <| tk_re 9 (I 10) (I (((openF hk mk kind name b).2 : Nat) : Int)) rfl (by rw [openF_no oM oM hno]; rfl) <| tk_ret (.slice none 0 0) (trivial) (.inl rfl) (r2 rfl rfl rfl) (.cons_cons _ (List.nil_sublist _))
        · have hyes : markL mk kind name (b.take 16) ((b.drop 16).take (b.length - 32 - 16)) = b.drop (b.length - 32) := by simpa using ht50
          refine tk_skip <| tk_then <| s_r <| s_q rfl (y_loadA 64 rfl kR lenP (hcw (mm 2 rfl))) <| q_m rfl rfl <| tk_act rfl <| a_callv [] _ rfl kR rfl (fun w' hw' => flow_spec (hk := hk) (mk := mk) (N := b.take 16) (Ro.cutBh (Ro.call (H0 := []) hb hw') (hi := 16) lenP) lenP lenP) rfl fun ⟨f54, k54⟩ _ => q_m rfl rfl <| s_q rfl (y_extract rfl rfl) <| s_q rfl (y_extract rfl rfl) <| q_a rfl rfl <| q_a rfl rfl <| s_n <| tk_seq <| s_r <| q_m rfl rfl <| s_q rfl ((y_neq rfl rfl).cast (bool_f dC)) <| s_n <| tk_cond0 rfl <| tk_skip <| tk_then <| s_r <| q_m rfl rfl <| q_m rfl rfl ?_; exact tk_act rfl <| a_slitN (vs := [cutR bv 16 (b.length - 32)]) rfl (List.forall_mem_cons.2 ⟨(RdS.one (RdS.cutB hb.1 (lo := 16) (hi := b.length - 32) ⟨lenP, lenP⟩)), (fun _ h => nomatch h)⟩) (EL208) rfl rfl dC fun b62 => tk_act rfl <| tk_ps [2, 2] rfl <| a_callv [] _ rfl kR rfl (fun w' hw' => hide_ro (hk := hk) (N := (b.take 16)) (ps := [(cutR bv 16 (b.length - 32), (b.drop 16).take ((b.length - 32) - 16))]) (L := (b.drop 16).take ((b.length - 32) - 16)) lenP lenP (Ro.cel (vs := [cutR bv 16 (b.length - 32)]) hw' (.head _) rS rfl dC) (List.forall_mem_cons.2 ⟨(Ro.cutB (Ro.call hb hw') (lo := 16) (hi := b.length - 32) ⟨lenP, lenP⟩), (fun _ h => nomatch h)⟩) sI lenP lenP (St.pre hw')) rfl fun v63 _ => q_a rfl rfl <| q_a rfl rfl <| s_n <| tk_retc <| tk_R (H1 := []) rfl (show ownB v63 (hidL hk (b.take 16) ((b.drop 16).take ((b.length - 32) - 16))) 5 = ownB v63 ((openF hk mk kind name b).1) 5 from ownM_cast (by rw [openF_ok oM oM hyes])) <| tk_re 9 (I 0) (I (((openF hk mk kind name b).2 : Nat) : Int)) rfl (by rw [openF_ok oM oM hyes]; rfl) <| tk_ret (v63) (trivial) (.inl rfl) (r2 rfl rfl rfl) (.cons_cons _ (List.nil_sublist _))
end Go.Proofs.YtnhpghhibcdklaaGreatDoor
set_option linter.unusedSimpArgs false
set_option linter.unusedVariables false
namespace Go.Proofs.YtnhpghhibcdklaaGreatDoor
open Go Go.RowKit
set_option maxRecDepth 100000
attribute [local irreducible] sumL keyedL strL sealF tapeL tapeN
theorem write_spec {hk mk nk name L : List UInt8} {kind : UInt8} {v : Value} {ps : List Sb} {tb c p : Nat} {vb vl : Value} {b : List UInt8} {w : World} (h3 : hk.length = 32 ∧ mk.length = 32 ∧ nk.length = 32) (hI0 : p ≤ 32 * c ∧ 32 * c < p + 32) (hp0 : p < 1000000000000) (hlb : b.length < 1099511627776)
    (hv : Ro (Fs [cel tb [vb, .int .u64 (c : Int), vl] 224, ownB vb b 5, ownB vl ((tapeL b c).drop p) 5]) w (rd v (ps.map Prod.fst))) (hp : ∀ q ∈ ps, Ro (Fs [cel tb [vb, .int .u64 (c : Int), vl] 224, ownB vb b 5, ownB vl ((tapeL b c).drop p) 5]) w (rdB q.1 q.2)) (hL : ps.flatMap Prod.snd = L)
    (hb : name.length < 4294967296 ∧ L.length < 4294967296 ∧ ps.length < 4294967296) (hg : Ro (Fs [cel tb [vb, .int .u64 (c : Int), vl] 224, ownB vb b 5, ownB vl ((tapeL b c).drop p) 5]) w glob) (hh : Pre w [cel tb [vb, .int .u64 (c : Int), vl] 224, ownB vb b 5, ownB vl ((tapeL b c).drop p) 5]) :
    Spec Tryz.prog 54 [.agg (hk.map B ++ (mk.map B ++ (nk.map B ++ [PT tb]))).toArray, B kind, Str name, v] w [cel tb [vb, .int .u64 (c : Int), vl] 224, ownB vb b 5, ownB vl ((tapeL b c).drop p) 5] (fun x : Nat × Value × Value => p + 16 ≤ 32 * x.1 ∧ 32 * x.1 < p + 16 + 32) (fun x => .tuple #[x.2.2, I (((sealF hk mk kind name (tapeN b p 16) L).2 : Nat) : Int)])
      (fun x => [ownB x.2.2 (sealF hk mk kind name (tapeN b p 16) L).1 5, cel tb [vb, .int .u64 (x.1 : Int), x.2.1] 224, ownB vb b 5, ownB x.2.1 ((tapeL b x.1).drop (p + 16)) 5]) := by
  refine spec_of (n := 22) Tryz.func54 rfl rfl hh.1 hh.2 rfl ?_
  subst hL
  obtain ⟨hk32, mk32, nk32⟩ := h3
  refine tk_own1 (mm 1 rfl) fun hfb => tk_own1 (mm 2 rfl) fun hfl => s_r <| tk_act rfl <| a_boxL (cs := hk.map B ++ (mk.map B ++ (nk.map B ++ ([PT tb])))) rfl rfl fun b4 => q_a rfl rfl <| q_a rfl rfl <| s_n <| tk_seq <| tk_drawH [cel b4 (hk.map B ++ (mk.map B ++ (nk.map B ++ ([PT tb])))) 50] [] kR <| s_x 0 rfl (y_fld0 (o := 0) rfl kR) <| s_x 1 rfl (y_fld0 (o := 0) rfl kR) <| s_l 2 rfl (fun _ h => kS [0] rfl h) (y_loadA (vs := hk.map B ++ (mk.map B)) 64 rfl kR lenP (hseg (pre := ([] : List Value)) (post := nk.map B ++ ([PT tb])) (.head _) lenP sI)) <| s_x 3 rfl (y_move rfl) <| s_x 4 rfl (y_move rfl) <| s_x 5 rfl (y_fldN (o := 0) 96 rfl kR) <| s_l 6 rfl (fun _ h => kS [0] rfl h) (y_load rfl rfl (hc (o := 96) (.head _) (gA (k := 32) (i := 64) (by rw [List.length_map]; exact hk32) oM (gA (k := 32) (i := 32) (by rw [List.length_map]; exact mk32) oM (gA (k := 32) (i := 0) (by rw [List.length_map]; exact nk32) oM (rfl)))))) <| s_x 8 rfl (y_move rfl) <| tx_a 7 rfl kR rfl <| tk_ps [3, 3, 3] rfl <| a_callv [] _ rfl kR rfl (fun w' hw' => nonce_spec (tb := tb) (c := c) (p := p) (vb := vb) (vl := vl) (b := b) ⟨lenP, lenP⟩ lenP lenP (hg.call hw') (St.pre hw')) rfl fun ⟨c17, vl17⟩ hx17 => tk_S (fun _ h => kD 3 rfl h) <| tx_a 9 rfl kR rfl <| a_callv [] _ rfl kR rfl (fun w' hw' => seal_spec (hk := hk) (mk := mk) (kind := kind) (name := name) (N := tapeN b p 16) (ps := ps) (L := ps.flatMap Prod.snd) ⟨lenP, lenP, lenP⟩ (Ro.call hv hw') (fun p hp0 => (hp p hp0).call hw') sI ⟨lenP, lenP, lenP⟩ (hg.call hw')) rfl fun v19 _ => ?_; exact tk_S (fun _ h => kD 4 rfl h) <| s_x 10 rfl (y_extract rfl rfl) <| s_x 11 rfl (y_extract rfl rfl) <| s_x 12 rfl (y_assign rfl) <| s_x 13 rfl (y_assign rfl) <| tx_done kR <| tk_then <| tk_retc <| tk_ret ((c17, vl17, v19)) (hx17) (.inl rfl) (r2 rfl rfl rfl) (.cons_cons _ (.cons_cons _ (.cons_cons _ (.cons_cons _ (List.nil_sublist _)))))
end Go.Proofs.YtnhpghhibcdklaaGreatDoor
set_option linter.unusedSimpArgs false
set_option linter.unusedVariables false
namespace Go.Proofs.YtnhpghhibcdklaaGreatDoor
open Go Go.RowKit
set_option maxRecDepth 100000
attribute [local irreducible] sumL tapeL bej be8 tapeN
end Go.Proofs.YtnhpghhibcdklaaGreatDoor
set_option linter.unusedSimpArgs false
set_option linter.unusedVariables false
namespace Go.Proofs.YtnhpghhibcdklaaGreatDoor
open Go Go.RowKit
set_option maxRecDepth 100000
theorem hex_hi (x : UInt8) : (UInt8.ofNat (x.toNat / 2 ^ 4)).toNat < 16 := by have := x.toNat_lt; simp; omega
theorem hex_lo (x : UInt8) : (x &&& 15).toNat < 16 := by rw [UInt8.toNat_and]; have := @Nat.and_le_right x.toNat (15 : UInt8).toNat; have : (15 : UInt8).toNat = 15 := rfl; omega
theorem hex_step {l : List UInt8} {i : Nat} (h : i < l.length) : hexL (l.take i) ++ [([48, 49, 50, 51, 52, 53, 54, 55, 56, 57, 97, 98, 99, 100, 101, 102] : List UInt8).getD (UInt8.ofNat ((l.getD i 0).toNat / 2 ^ 4)).toNat 0, ([48, 49, 50, 51, 52, 53, 54, 55, 56, 57, 97, 98, 99, 100, 101, 102] : List UInt8).getD ((l.getD i 0) &&& 15).toNat 0] = hexL (l.take (i + 1)) := by
  rw [← hexL_take h]
  generalize l.getD i 0 = x
  have e1 : (UInt8.ofNat (x.toNat / 2 ^ 4)).toNat = x.toNat / 16 := by have := x.toNat_lt; simp; omega
  have e2 : (x &&& 15).toNat = x.toNat % 16 := by rw [UInt8.toNat_and]; exact Nat.and_two_pow_sub_one_eq_mod x.toNat 4
  rw [e1, e2]; rfl
attribute [local irreducible] sumL keyedL hexL
theorem text_spec {l : List UInt8} {w : World} (hl : l.length = 32) : Spec Tryz.prog 151 [Ag l] w [] (fun _ : Unit => True) (fun _ => Str (hexL l)) (fun _ => []) := by
  refine spec_of (n := 22) Tryz.func151 rfl rfl trivial trivial rfl <| s_r <| tk_act rfl <| a_boxL (cs := l.map B) rfl rfl fun b1 => q_a rfl rfl <| s_n <| s_r <| q_a rfl rfl <| s_n <| tk_seq <| s_r <| s_q rfl (y_loadA 32 rfl kR lenP (hcw (.head _))) <| q_m rfl rfl <| s_n <| tk_block <| tk_ownM0 (f := B) 5 <| tk_R (H1 := []) rfl (show ownB (.slice none 0 0) ([] : List UInt8) 5 = ownB (.slice none 0 0) (hexL (l.take 0)) 5 from ownM_cast (hexL_0.symm)) <| tk_loop (X := Nat × Value) (fun (i, v) => i ≤ 32) (fun (i, v) => [(2, Str []), (3, v), (6, .agg (l.map B).toArray), (7, IN i)]) (fun (i, v) => [ownB v (hexL (l.take i)) 5, cel b1 (l.map B) 28]) (fun (i, v) => 32 - i) ((0, .slice none 0 0)) (Nat.zero_le _) sB ((List.Sublist.refl _)) ?_
  rintro ⟨i, v⟩ hI
  try dsimp only at hI ⊢
  have hlx : (hexL (l.take i)).length ≤ 2 * l.length := by rw [hexL_len, List.length_take]; omega
  refine tk_own1 (.head _) fun hfv => s_r <| s_q rfl (y_lss rfl rfl) <| s_n <| tk_seq <| tk_condP rfl (fun ht8 => ?_) (fun ht8 => ?_)
  · refine tk_skip <| tk_then <| tk_seq <| tk_block <| s_r <| s_q rfl (y_ixVM (d0 := 0) (i := i) rfl rfl rfl rfl (fun _ => kR) oM lenP) <| q_a rfl rfl <| s_n <| tk_drawH [cel b1 (l.map B) 28] [] kR <| s_x 0 rfl (y_move rfl) <| s_x 1 rfl (y_move rfl) <| s_x 2 rfl (y_shr8 (a := l.getD i 0) (m := 4) rfl rfl dC) <| s_x 3 rfl (y_ixT (l := [48, 49, 50, 51, 52, 53, 54, 55, 56, 57, 97, 98, 99, 100, 101, 102]) (i := (UInt8.ofNat ((l.getD i 0).toNat / 2 ^ 4)).toNat) rfl rfl rfl ⟨rfl, (hex_hi _)⟩) <| s_x 4 rfl (y_move rfl) <| s_x 5 rfl (y_and8 (a := l.getD i 0) (b := 15) rfl rfl) <| s_x 6 rfl (y_ixT (l := [48, 49, 50, 51, 52, 53, 54, 55, 56, 57, 97, 98, 99, 100, 101, 102]) (i := ((l.getD i 0) &&& 15).toNat) rfl rfl rfl ⟨rfl, (hex_lo _)⟩) <| tx_a 7 rfl kR rfl <| a_slitN (vs := [B ([48, 49, 50, 51, 52, 53, 54, 55, 56, 57, 97, 98, 99, 100, 101, 102].getD ((UInt8.ofNat ((l.getD i 0).toNat / 2 ^ 4)).toNat) 0), B ([48, 49, 50, 51, 52, 53, 54, 55, 56, 57, 97, 98, 99, 100, 101, 102].getD (((l.getD i 0) &&& 15).toNat) 0)]) rfl (List.forall_mem_cons.2 ⟨rfl, (List.forall_mem_cons.2 ⟨rfl, (fun _ h => nomatch h)⟩)⟩) (EL64) rfl rfl dC fun b17 => tk_S (fun _ h => kD 2 rfl h) <| tx_more [cel b17 ([B ([48, 49, 50, 51, 52, 53, 54, 55, 56, 57, 97, 98, 99, 100, 101, 102].getD ((UInt8.ofNat ((l.getD i 0).toNat / 2 ^ 4)).toNat) 0), B ([48, 49, 50, 51, 52, 53, 54, 55, 56, 57, 97, 98, 99, 100, 101, 102].getD (((l.getD i 0) &&& 15).toNat) 0)]) 5, cel b1 (l.map B) 28] (fun _ h => kD 1 rfl h) (fun _ h => kT [0] 1 rfl h) <| tx_a 8 rfl kR rfl <| a_appM (H1 := [_]) (f := B) (l := hexL (l.take i)) (m := [[48, 49, 50, 51, 52, 53, 54, 55, 56, 57, 97, 98, 99, 100, 101, 102].getD ((UInt8.ofNat ((l.getD i 0).toNat / 2 ^ 4)).toNat) 0, [48, 49, 50, 51, 52, 53, 54, 55, 56, 57, 97, 98, 99, 100, 101, 102].getD (((l.getD i 0) &&& 15).toNat) 0]) rfl rfl EL64 rfl rfl (fun w hw => cel_rdE (o := 0) (m := 2) (cp := 2) (vs := ([[48, 49, 50, 51, 52, 53, 54, 55, 56, 57, 97, 98, 99, 100, 101, 102].getD ((UInt8.ofNat ((l.getD i 0).toNat / 2 ^ 4)).toNat) 0, [48, 49, 50, 51, 52, 53, 54, 55, 56, 57, 97, 98, 99, 100, 101, 102].getD (((l.getD i 0) &&& 15).toNat) 0]).map B) (hw.mem (.head _)) (rfl) lQ lenP) (fun _ => rfl) ⟨lenP, lenP⟩ fun v18 => tk_own1 (mm 1 rfl) fun hfv18 => tk_S (fun _ h => kT [0] 1 rfl h) ?_; exact s_x 9 rfl (y_assign rfl) <| tx_done kR <| tk_in_normal <| tk_then <| tk_region <| s_q rfl (y_addN (a := i) (b := 1) rfl rfl oM) <| q_m rfl rfl <| tk_nil <| tk_R (H1 := [_]) rfl (show ownB v18 ((hexL (l.take i)) ++ ([[48, 49, 50, 51, 52, 53, 54, 55, 56, 57, 97, 98, 99, 100, 101, 102].getD ((UInt8.ofNat ((l.getD i 0).toNat / 2 ^ 4)).toNat) 0, [48, 49, 50, 51, 52, 53, 54, 55, 56, 57, 97, 98, 99, 100, 101, 102].getD (((l.getD i 0) &&& 15).toNat) 0])) 5 = ownB v18 (hexL (l.take (i + 1))) 5 from ownM_cast (hex_step oM)) <| tk_again ((i + 1, v18)) (by dsimp only; omega) (by dsimp only; omega) sB (.cons _ (List.Sublist.refl _))
  · exact tk_exit <| tk_then_exit <| tk_then_exit <| tk_in_hit <| tk_then <| s_r <| q_m rfl rfl <| s_q rfl (y_str (l := hexL (l.take i)) rfl rfl rfl rfl (fun w hw => own_rdS (hw.mem (.head _)))) <| tk_re 21 (Str (hexL (l.take i))) (Str (hexL l)) rfl (by rw [show i = 32 by omega, ← hl, List.take_length]) <| q_a rfl rfl <| s_n <| tk_retc <| tk_ret (()) (trivial) (.inl rfl) (r1 rfl rfl) (List.nil_sublist _)
end Go.Proofs.YtnhpghhibcdklaaGreatDoor
set_option linter.unusedSimpArgs false
set_option linter.unusedVariables false
namespace Go.Proofs.YtnhpghhibcdklaaGreatDoor
open Go Go.RowKit
set_option maxRecDepth 100000

def numsL (ns : List Nat) : List UInt8 := ns.flatMap numL
theorem flat_succ {ps : List Sb} {i : Nat} (h : i < ps.length) : (ps.take (i + 1)).flatMap Prod.snd = (ps.take i).flatMap Prod.snd ++ (ps.getD i dP).2 := by
  have e : ps.getD i dP = ps[i] := by rw [List.getD_eq_getElem?_getD, List.getElem?_eq_getElem h]; rfl
  rw [e, List.take_add_one, List.getElem?_eq_getElem h]
  simp only [List.flatMap_append, Option.toList, List.flatMap_cons, List.flatMap_nil, List.append_nil]
theorem flat_pre {ps : List Sb} (i : Nat) : ((ps.take i).flatMap Prod.snd).length ≤ (ps.flatMap Prod.snd).length := by
  have := congrArg (fun l => (l.flatMap Prod.snd).length) (List.take_append_drop i ps)
  simp only [List.flatMap_append, List.length_append] at this; omega
theorem numsL_succ {ns : List Nat} {i : Nat} (h : i < ns.length) : numsL (ns.take i) ++ numL (ns.getD i 0) = numsL (ns.take (i + 1)) := by
  have e : ns.getD i 0 = ns[i] := by rw [List.getD_eq_getElem?_getD, List.getElem?_eq_getElem h]; rfl
  rw [e, List.take_add_one, List.getElem?_eq_getElem h]
  simp only [numsL, List.flatMap_append, Option.toList, List.flatMap_cons, List.flatMap_nil, List.append_nil]
theorem numsL_len {ns : List Nat} (h : ∀ n ∈ ns, n < 4611686018427387904) (i : Nat) : (numsL (ns.take i)).length ≤ 9 * ns.length := by
  have h2 : ∀ (l : List Nat), (∀ n ∈ l, n < 4611686018427387904) → (numsL l).length ≤ 9 * l.length := fun l => by
    induction l with
    | nil => intro _; simp [numsL]
    | cons n l ih =>
      intro hl
      have h3 := ih (fun m hm => hl m (List.mem_cons_of_mem _ hm))
      have h4 := numL_len 8 (n := n) (by have := hl n (List.mem_cons_self ..); omega)
      simp only [numsL, List.flatMap_cons, List.length_append, List.length_cons] at h3 ⊢; omega
  have h5 := h2 (ns.take i) (fun n hn => h n (List.mem_of_mem_take hn))
  have : (ns.take i).length ≤ ns.length := by simp; omega
  omega
attribute [local irreducible] sumL keyedL hexL
theorem grow0_spec {n : Nat} {w : World} (hn : n < 140737488355328) : Spec Tryz.prog 220 [.slice none 0 0, I (n : Int)] w [] (fun _ : Value => True) (fun v => v) (fun v => [ownB v ([] : List UInt8) 5]) := by
  refine spec_of (n := 27) Tryz.func220 rfl rfl trivial trivial rfl <| s_r <| q_a rfl rfl <| s_n <| tk_seq <| s_r <| q_m rfl rfl <| tk_qe (.bool false) rfl rfl rfl (y_lss rfl rfl) (bool_f oM) <| s_n <| tk_cond0 rfl <| tk_skip <| tk_then <| tk_seq <| s_r <| q_m rfl rfl <| q_m rfl rfl <| s_q rfl (y_capNil rfl rfl) <| q_m rfl rfl <| s_q rfl (y_lenRN (n' := 0) rfl (RdS.nil (w := default)) rfl (by first | rfl | (rw [List.length_map]; omega) | simp)) <| s_q rfl (y_subN (a := 0) (b := 0) rfl rfl oM) <| tk_qe (IN n) rfl rfl rfl (y_subN (a := n) (b := 0) rfl rfl oM) sI <| q_a rfl rfl <| s_n <| s_r ?_; refine q_m rfl rfl <| s_q rfl (y_gtr rfl rfl) <| s_n <| tk_condP rfl (fun ht16 => ?_) (fun ht16 => ?_)
  · exact tk_region <| q_m rfl rfl <| q_m rfl rfl <| s_q rfl (y_capNil rfl rfl) <| tk_qe (.slice none 0 0) rfl rfl rfl (y_cutRBh (l := []) 0 rfl rfl (RdS.nil (w := default)) kR lenP rfl) (rfl) <| q_m rfl rfl <| tk_act rfl <| a_appZ (n := n) rfl rfl MK64 rfl lenP lenP rfl fun v22 => tk_own1 (.head _) fun hfv22 => q_m rfl rfl <| s_q rfl (y_lenRN (n' := 0) rfl (RdS.nil (w := default)) rfl (by first | rfl | (rw [List.length_map]; omega) | simp)) <| s_q rfl (y_cutRBh (l := List.replicate n 0) 0 rfl rfl hfv22.choose_spec kR lenP rfl) <| tk_ownTake (H1 := []) 0 rfl (Nat.zero_le _) <| q_a rfl rfl <| s_n <| s_r <| q_m rfl rfl <| q_a rfl rfl <| s_n <| tk_retc <| tk_ret (cutR v22 0 0) (trivial) (.inl rfl) (r1 rfl rfl) (List.Sublist.refl _)
  · exact tk_ownM0 (f := B) 5 <| tk_skip <| tk_then <| s_r <| q_m rfl rfl <| q_a rfl rfl <| s_n <| tk_retc <| tk_ret (.slice none 0 0) (trivial) (.inl rfl) (r1 rfl rfl) (List.Sublist.refl _)
theorem concat_spec {v : Value} {ps : List Sb} {L : List UInt8} {w : World} (hv : Ro (Fs []) w (rd v (ps.map Prod.fst))) (hp : ∀ p ∈ ps, Ro (Fs []) w (rdB p.1 p.2)) (hL : ps.flatMap Prod.snd = L) (hb : L.length < 1099511627776 ∧ ps.length < 1099511627776) :
    Spec Tryz.prog 140 [v] w [] (fun _ : Value => True) (fun v => v) (fun v => [ownB v L 5]) := by
  refine spec_of (n := 36) Tryz.func140 rfl rfl trivial trivial rfl ?_
  subst hL
  refine s_r <| q_a rfl rfl <| s_n <| s_r <| q_a rfl rfl <| s_n <| tk_seq <| s_r <| q_m rfl rfl <| s_q rfl (y_lenRN (n' := ps.length) rfl hv.1 rfl (by first | rfl | (rw [List.length_map]; omega) | simp)) <| q_m rfl rfl <| s_n <| tk_block <| tk_loop (X := Nat) (fun i => i ≤ ps.length) (fun i => [(0, v), (2, .slice none 0 0), (3, I ((((ps.take i).flatMap Prod.snd).length : Nat) : Int)), (9, v), (10, IN ps.length), (11, IN i)]) (fun i => []) (fun i => ps.length - i) (0) (Nat.zero_le _) sB ((List.Sublist.refl _)) ?_
  rintro i hI
  try dsimp only at hI ⊢
  have hfl := flat_pre (ps := ps) i
  refine s_r <| s_q rfl (y_lss rfl rfl) <| s_n <| tk_seq <| tk_condP rfl (fun ht12 => ?_) (fun ht12 => ?_)
  · refine tk_skip <| tk_then <| tk_seq <| tk_block <| s_r <| s_q rfl (y_ixR (j := i) rfl rfl hv.1 lenP kR) <| s_q rfl (y_load rfl rfl (fun w hw => ((fun w hw => Ro.rd hv hw) w hw).cell (gM (f := Prod.fst) (d := dP) lenP))) <| q_a rfl rfl <| s_n <| s_r <| q_m rfl rfl <| q_m rfl rfl <| s_q rfl (y_lenRN (n' := ((ps.getD i dP).2).length) rfl (hp _ (getD_mem lenP)).1 rfl (by first | rfl | (rw [List.length_map]; omega) | simp)) ?_
    have hfl3 : ((ps.take i).flatMap Prod.snd).length + (ps.getD i dP).2.length = ((ps.take (i + 1)).flatMap Prod.snd).length := by rw [flat_succ oM, List.length_append]
    have hfl2 := flat_pre (ps := ps) (i + 1)
    exact s_q rfl (y_addN (a := ((ps.take i).flatMap Prod.snd).length) (b := ((ps.getD i dP).2).length) rfl rfl oM) <| q_a rfl rfl <| s_n <| s_r <| q_m rfl rfl <| tk_qe (.bool false) rfl rfl rfl (y_lss rfl rfl) (bool_f oM) <| s_n <| tk_cond0 rfl <| tk_skip <| tk_in_normal <| tk_then <| tk_region <| s_q rfl (y_addN (a := i) (b := 1) rfl rfl oM) <| q_m rfl rfl <| tk_nil <| tk_re 3 (I (((((ps.take i).flatMap Prod.snd).length) + (((ps.getD i dP).2).length) : Nat) : Int)) (I ((((ps.take (i + 1)).flatMap Prod.snd).length : Nat) : Int)) rfl (congrArg I (by rw [flat_succ oM]; simp)) <| tk_again (i + 1) (by first | exact trivial | omega | (dsimp only; omega)) (by first | omega | (dsimp only; omega)) sB (List.Sublist.refl _)
  · refine tk_exit <| tk_then_exit <| tk_then_exit <| tk_in_hit <| tk_then <| s_r <| q_m rfl rfl <| tk_act rfl <| a_callv [] _ rfl kR rfl (fun w' hw' => grow0_spec (n := ((ps.take i).flatMap Prod.snd).length) lenP) rfl fun v24 _ => q_a rfl rfl <| s_n <| tk_seq <| s_r <| q_m rfl rfl <| s_q rfl (y_lenRN (n' := ps.length) rfl hv.1 rfl (by first | rfl | (rw [List.length_map]; omega) | simp)) <| q_m rfl rfl <| s_n <| tk_block <| tk_R (H1 := []) rfl (show ownB v24 ([] : List UInt8) 5 = ownB v24 ((ps.take 0).flatMap Prod.snd) 5 from ownM_cast rfl) <| tk_loop (X := Nat × Value) (fun (i, vg) => i ≤ ps.length) (fun (i, vg) => [(2, .slice none 0 0), (6, vg), (25, v), (26, IN ps.length), (27, IN i)]) (fun (i, vg) => [ownB vg ((ps.take i).flatMap Prod.snd) 5]) (fun (i, vg) => ps.length - i) ((0, v24)) (Nat.zero_le _) sB ((List.Sublist.refl _)) ?_
    rintro ⟨i, vg⟩ hI
    try dsimp only at hI ⊢
    have hfl := flat_pre (ps := ps) i
    have hfl2 := flat_pre (ps := ps) (i + 1)
    refine tk_own1 (.head _) fun hfg => s_r <| s_q rfl (y_lss rfl rfl) <| s_n <| tk_seq <| tk_condP rfl (fun ht28 => ?_) (fun ht28 => ?_)
    · refine tk_skip <| tk_then <| tk_seq <| tk_block <| s_r <| s_q rfl (y_ixR (j := i) rfl rfl hv.1 lenP kR) <| s_q rfl (y_load rfl rfl (fun w hw => ((fun w hw => Ro.rd hv hw) w hw).cell (gM (f := Prod.fst) (d := dP) lenP))) <| q_a rfl rfl <| s_n <| tk_region <| q_m rfl rfl <| q_m rfl rfl ?_
      have hfl3 : ((ps.take i).flatMap Prod.snd).length + (ps.getD i dP).2.length = ((ps.take (i + 1)).flatMap Prod.snd).length := by rw [flat_succ oM, List.length_append]
      exact tk_act rfl <| a_appM (H1 := []) (f := B) (l := (ps.take i).flatMap Prod.snd) (m := (ps.getD i dP).2) rfl rfl EL64 rfl rfl (fun w hw => Ro.rd (hp _ (getD_mem lenP)) hw) (fun _ => rfl) ⟨lenP, lenP⟩ fun v33 => tk_own1 (.head _) fun hfv33 => q_a rfl rfl <| tk_nil <| tk_in_normal <| tk_then <| tk_region <| s_q rfl (y_addN (a := i) (b := 1) rfl rfl oM) <| q_m rfl rfl <| tk_nil <| tk_R (H1 := []) rfl (show ownB v33 (((ps.take i).flatMap Prod.snd) ++ ((ps.getD i dP).2)) 5 = ownB v33 ((ps.take (i + 1)).flatMap Prod.snd) 5 from ownM_cast (flat_succ oM).symm) <| tk_again ((i + 1, v33)) (by first | exact trivial | omega | (dsimp only; omega)) (by first | omega | (dsimp only; omega)) sB (List.Sublist.refl _)
    · exact tk_exit <| tk_then_exit <| tk_then_exit <| tk_in_hit <| tk_then <| s_r <| q_m rfl rfl <| tk_R (H1 := []) rfl (show ownB vg ((ps.take i).flatMap Prod.snd) 5 = ownB vg (ps.flatMap Prod.snd) 5 from ownM_cast (by rw [show i = ps.length by omega, List.take_length])) <| q_a rfl rfl <| s_n <| tk_retc <| tk_ret (vg) (trivial) (.inl rfl) (r1 rfl rfl) (List.Sublist.refl _)
theorem gbegin_spec {kind : UInt8} {w : World} : Spec Tryz.prog 98 [B kind] w [] (fun _ : Nat × Value => True) (fun x => PT x.1) (fun x => [cel x.1 [x.2, I 0] 320, ownB x.2 [72, 89, kind] 5]) := by
  refine spec_of (n := 10) Tryz.func98 rfl rfl trivial trivial rfl <| s_r <| q_a rfl rfl <| s_n <| s_r <| tk_act rfl <| a_slitN (vs := [B 72, B 89]) rfl (List.forall_mem_cons.2 ⟨rfl, (List.forall_mem_cons.2 ⟨rfl, (fun _ h => nomatch h)⟩)⟩) (EL64) rfl rfl dC fun b3 => tk_act rfl <| a_convX (H1 := []) rfl Tryz.underlying64 Tryz.underlying5 rfl rfl <| q_m rfl rfl <| tk_act rfl <| a_slitN (vs := [B kind]) rfl (List.forall_mem_cons.2 ⟨rfl, (fun _ h => nomatch h)⟩) (EL64) rfl rfl dC fun b6 => tk_celM (H1 := [_]) (f := B) (l := [72, 89]) (T := 5) rfl rfl dC <| tk_act rfl <| a_appM (H1 := [_]) (f := B) (l := [72, 89]) (m := [kind]) rfl rfl EL64 rfl rfl (fun w hw => cel_rdE (o := 0) (m := 1) (cp := 1) (vs := [kind].map B) (hw.mem (.head _)) (rfl) lQ lenP) (fun _ => rfl) ⟨lenP, lenP⟩ fun v7 => tk_own1 (mm 1 rfl) fun hfv7 => tk_own1 (mm 1 rfl) fun hf7 => tk_R (H1 := [_]) rfl (show ownB v7 ([72, 89] ++ [kind]) 5 = ownB v7 [72, 89, kind] 5 from ownM_cast rfl) ?_
  have hc7 := hf7.choose_spec.cells
  simp only [Value.cells] at hc7
  exact s_q rfl (y_build (v := .agg ([v7, I 0]).toArray) (vs := [(0, v7)]) rfl (run_build (zs := [Value.slice none 0 0, I 0]) (pl := [(0, 1), (1, 1)]) Tryz.underlying320 (fun _ => kR) (fun _ => kR) (fill_s0 (RdS.cells hfv7.choose_spec)))) <| tk_act rfl <| a_boxL (cs := [v7, I 0]) rfl rfl fun b9 => q_a rfl rfl <| s_n <| tk_retc <| tk_ret ((b9, v7)) (trivial) (.inl rfl) (r1 rfl rfl) (.cons_cons _ (.cons _ (List.Sublist.refl _)))
theorem gnum1_spec {ob n : Nat} {v : Value} {b : List UInt8} {w : World} (hn : n < 4611686018427387904) (hb : b.length < 1099511627776) (hh : Pre w [cel ob [v, I 0] 320, ownB v b 5]) :
    Spec Tryz.prog 185 [PT ob, I (n : Int)] w [cel ob [v, I 0] 320, ownB v b 5] (fun _ : Value => True) (fun _ => .tuple #[]) (fun x => [cel ob [x, I 0] 320, ownB x (b ++ numL n) 5]) := by
  refine spec_of (n := 39) Tryz.func185 rfl rfl hh.1 hh.2 rfl ?_
  have hn9 := numL_len 8 (n := n) oM
  refine tk_seq <| s_r <| q_m rfl rfl <| tk_qe (.bool false) rfl rfl rfl (y_lss rfl rfl) (bool_f oM) <| q_m rfl rfl <| s_g rfl (y_move rfl) <| tk_gqe (.bool false) rfl rfl rfl (y_geq rfl rfl) (bool_f oM) <| s_q rfl (y_pick0 rfl rfl) <| s_n <| tk_cond0 rfl <| tk_skip <| tk_then <| tk_seq <| tk_block <| tk_loop (X := List UInt8 × Nat × Value) (fun (a, m, va) => a ++ numL m = b ++ numL n ∧ m < 4611686018427387904) (fun (a, m, va) => [(0, PT ob), (1, IN m)]) (fun (a, m, va) => [cel ob ([va, I 0]) 320, ownB va a 5]) (fun (a, m, va) => m) ((b, n, v)) (⟨rfl, by omega⟩) sB ((List.Sublist.refl _)) ?_
  rintro ⟨a, m, va⟩ hI
  try dsimp only at hI ⊢
  have hla := congrArg List.length hI.1
  rw [List.length_append, List.length_append] at hla
  refine tk_own1 (mm 1 rfl) fun hfa => tk_seq <| s_r <| q_m rfl rfl <| s_q rfl (y_geq rfl rfl) <| s_n <| tk_condP rfl (fun ht13 => ?_) (fun ht13 => ?_)
  · refine tk_skip <| tk_then <| tk_seq <| tk_block <| tk_region <| q_m rfl rfl <| q_m rfl rfl <| s_q rfl (y_nilCheck rfl) <| s_q rfl (y_fld0 (o := 0) rfl kR) <| s_q rfl (y_load rfl rfl (hc (o := 0) (.head _) (rfl))) <| q_m rfl rfl <| s_q rfl (y_convi8 (m := m) rfl rfl rfl) <| s_q rfl (y_or8 (a := UInt8.ofNat m) (b := 128) rfl rfl) <| tk_act rfl <| a_slitN (vs := [B ((UInt8.ofNat m) ||| 128)]) rfl (List.forall_mem_cons.2 ⟨rfl, (fun _ h => nomatch h)⟩) (EL64) rfl rfl dC fun b24 => tk_act rfl <| a_appM (H1 := [_, _]) (f := B) (l := a) (m := [(UInt8.ofNat m) ||| 128]) rfl rfl EL64 rfl rfl (fun w hw => cel_rdE (o := 0) (m := 1) (cp := 1) (vs := [(UInt8.ofNat m) ||| 128].map B) (hw.mem (.head _)) (rfl) lQ lenP) (fun _ => rfl) ⟨lenP, lenP⟩ fun v25 => tk_own1 (mm 2 rfl) fun hfv25 => s_q rfl (y_nilCheck rfl) <| s_q rfl (y_fld0 (o := 0) rfl kR) <| tk_act rfl <| a_storeE (H1 := [_]) (o := 0) (v := v25) (cs' := [v25, I 0]) rfl rfl kR (RdS.one hfv25.choose_spec) rfl sW (rfl) <| tk_nil <| tk_in_normal ?_; exact tk_then <| tk_region <| q_m rfl rfl <| s_q rfl (y_shrN (k := .i64) (k' := .u64) (a := m) (m := 7) rfl rfl dC) <| q_a rfl rfl <| tk_nil <| tk_again ((a ++ [UInt8.ofNat m ||| 128], m / 2 ^ 7, v25)) (⟨by dsimp only; rw [← hI.1]; exact numL_step oM, by dsimp only; omega⟩) (by dsimp only; omega) sB (.cons _ (List.Sublist.refl _))
  · refine tk_exit <| tk_then_exit <| tk_then_exit <| tk_in_hit <| tk_then <| tk_region <| q_m rfl rfl <| q_m rfl rfl <| s_q rfl (y_nilCheck rfl) <| s_q rfl (y_fld0 (o := 0) rfl kR) <| s_q rfl (y_load rfl rfl (hc (o := 0) (.head _) (rfl))) <| q_m rfl rfl <| s_q rfl (y_convi8 (m := m) rfl rfl rfl) <| tk_act rfl <| a_slitN (vs := [B (UInt8.ofNat m)]) rfl (List.forall_mem_cons.2 ⟨rfl, (fun _ h => nomatch h)⟩) (EL64) rfl rfl dC fun b35 => tk_act rfl <| a_appM (H1 := [_, _]) (f := B) (l := a) (m := [UInt8.ofNat m]) rfl rfl EL64 rfl rfl (fun w hw => cel_rdE (o := 0) (m := 1) (cp := 1) (vs := [UInt8.ofNat m].map B) (hw.mem (.head _)) (rfl) lQ lenP) (fun _ => rfl) ⟨lenP, lenP⟩ fun v36 => tk_own1 (mm 2 rfl) fun hfv36 => s_q rfl (y_nilCheck rfl) <| s_q rfl (y_fld0 (o := 0) rfl kR) <| tk_act rfl <| a_storeE (H1 := [_]) (o := 0) (v := v36) (cs' := [v36, I 0]) rfl rfl kR (RdS.one hfv36.choose_spec) rfl sW (rfl) <| tk_nil <| tk_R (H1 := [_, _]) rfl (show ownB v36 (a ++ [UInt8.ofNat m]) 5 = ownB v36 (b ++ numL n) 5 from ownM_cast (by rw [← hI.1, numL_lt (n := m) oM])) ?_; exact tk_ret (v36) (trivial) (.inr rfl) (r0 rfl) (.cons _ (List.Sublist.refl _))
theorem gnum_spec {ob : Nat} {nv v : Value} {b : List UInt8} {ns : List Nat} {w : World} (hn : Ro (Fs [cel ob [v, I 0] 320, ownB v b 5]) w (rd nv (ns.map IN))) (hn62 : ∀ n ∈ ns, n < 4611686018427387904) (hnl : ns.length < 1000000) (hb : b.length < 109951162777) (hh : Pre w [cel ob [v, I 0] 320, ownB v b 5]) :
    Spec Tryz.prog 100 [PT ob, nv] w [cel ob [v, I 0] 320, ownB v b 5] (fun _ : Value => True) (fun _ => PT ob) (fun x => [cel ob [x, I 0] 320, ownB x (b ++ numsL ns) 5]) := by
  refine spec_of (n := 27) Tryz.func100 rfl rfl hh.1 hh.2 rfl <| s_r <| q_a rfl rfl <| s_n <| tk_seq <| s_r <| q_m rfl rfl <| s_q rfl (y_lenRN (n' := ns.length) rfl hn.1 rfl (by first | rfl | (rw [List.length_map]; omega) | simp)) <| q_m rfl rfl <| s_n <| tk_block <| tk_R (H1 := [_]) rfl (show ownB v b 5 = ownB v (b ++ numsL (ns.take 0)) 5 from ownM_cast (by simp [numsL])) <| tk_loop (X := Nat × Value) (fun (i, va) => i ≤ ns.length) (fun (i, va) => [(0, PT ob), (4, .pointer none), (7, nv), (8, IN ns.length), (9, IN i)]) (fun (i, va) => [cel ob ([va, I 0]) 320, ownB va (b ++ numsL (ns.take i)) 5]) (fun (i, va) => ns.length - i) ((0, v)) (Nat.zero_le _) sB ((List.Sublist.refl _)) ?_
  rintro ⟨i, va⟩ hI
  try dsimp only at hI ⊢
  have hll := numsL_len (ns := ns) hn62 i
  refine tk_own1 (mm 1 rfl) fun hfa => s_r <| s_q rfl (y_lss rfl rfl) <| s_n <| tk_seq <| tk_condP rfl (fun ht10 => ?_) (fun ht10 => ?_)
  · refine tk_skip <| tk_then <| tk_seq <| tk_block <| s_r <| s_q rfl (y_ixR (j := i) rfl rfl hn.1 lenP kR) <| s_q rfl (y_load rfl rfl (fun w hw => ((fun w hw => Ro.rd hn hw) w hw).cell (gM (f := IN) (d := 0) lenP))) <| q_a rfl rfl <| s_n <| s_r <| q_m rfl rfl <| s_q rfl (y_pnnil rfl rfl rfl) <| q_m rfl rfl <| s_g rfl (y_move rfl) <| s_g rfl (y_nilCheck rfl) <| s_g rfl (y_fldN (o := 0) 1 rfl kR) <| s_g rfl (y_load rfl rfl (hc (o := 1) (.head _) (rfl))) <| s_g rfl ((y_eql rfl rfl).cast (bool_t dC)) <| s_q rfl (y_pick1 rfl rfl) <| s_n <| tk_cond1 rfl <| tk_region <| q_m rfl rfl <| q_m rfl rfl ?_
    have hni : ns.getD i 0 < 4611686018427387904 := hn62 _ (getD_mem oM)
    exact tk_act rfl <| a_callv [] _ rfl kR rfl (fun w' hw' => gnum1_spec (ob := ob) (v := va) (b := b ++ numsL (ns.take i)) (n := ns.getD i 0) lenP lenP (St.pre hw')) rfl fun v24 _ => tk_nil <| tk_in_normal <| tk_then <| tk_region <| s_q rfl (y_addN (a := i) (b := 1) rfl rfl oM) <| q_m rfl rfl <| tk_nil <| tk_R (H1 := [_]) rfl (show ownB v24 ((b ++ numsL (ns.take i)) ++ numL (ns.getD i 0)) 5 = ownB v24 (b ++ numsL (ns.take (i + 1))) 5 from ownM_cast (by rw [List.append_assoc, numsL_succ oM])) <| tk_again ((i + 1, v24)) (by first | exact trivial | omega | (dsimp only; omega)) (by first | omega | (dsimp only; omega)) sB (List.Sublist.refl _)
  · exact tk_exit <| tk_then_exit <| tk_then_exit <| tk_in_hit <| tk_then <| s_r <| q_m rfl rfl <| q_a rfl rfl <| s_n <| tk_retc <| tk_R (H1 := [_]) rfl (show ownB va (b ++ numsL (ns.take i)) 5 = ownB va (b ++ numsL ns) 5 from ownM_cast (by rw [show i = ns.length by omega, List.take_length])) <| tk_ret (va) (trivial) (.inl rfl) (r1 rfl rfl) (List.Sublist.refl _)
theorem graw_spec {ob : Nat} {pv v : Value} {b L : List UInt8} {ps : List Sb} {w : World} (hv : Ro (Fs [cel ob [v, I 0] 320, ownB v b 5]) w (rd pv (ps.map Prod.fst))) (hp : ∀ p ∈ ps, Ro (Fs [cel ob [v, I 0] 320, ownB v b 5]) w (rdB p.1 p.2)) (hL : ps.flatMap Prod.snd = L)
    (hpl : ps.length < 1099511627776) (hLl : L.length < 1099511627776) (hb : b.length < 1099511627776) (hh : Pre w [cel ob [v, I 0] 320, ownB v b 5]) :
    Spec Tryz.prog 99 [PT ob, pv] w [cel ob [v, I 0] 320, ownB v b 5] (fun _ : Value => True) (fun _ => PT ob) (fun x => [cel ob [x, I 0] 320, ownB x (b ++ L) 5]) := by
  refine spec_of (n := 33) Tryz.func99 rfl rfl hh.1 hh.2 rfl ?_
  subst hL
  refine s_r <| q_a rfl rfl <| s_n <| tk_seq <| s_r <| q_m rfl rfl <| s_q rfl (y_lenRN (n' := ps.length) rfl hv.1 rfl (by first | rfl | (rw [List.length_map]; omega) | simp)) <| q_m rfl rfl <| s_n <| tk_block <| tk_R (H1 := [_]) rfl (show ownB v b 5 = ownB v (b ++ (ps.take 0).flatMap Prod.snd) 5 from ownM_cast sI) <| tk_loop (X := Nat × Value) (fun (i, va) => i ≤ ps.length) (fun (i, va) => [(0, PT ob), (4, .pointer none), (7, pv), (8, IN ps.length), (9, IN i)]) (fun (i, va) => [cel ob ([va, I 0]) 320, ownB va (b ++ (ps.take i).flatMap Prod.snd) 5]) (fun (i, va) => ps.length - i) ((0, v)) (Nat.zero_le _) sB ((List.Sublist.refl _)) ?_
  rintro ⟨i, va⟩ hI
  try dsimp only at hI ⊢
  have hfl := flat_pre (ps := ps) i
  have hfl2 := flat_pre (ps := ps) (i + 1)
  refine tk_own1 (mm 1 rfl) fun hfa => s_r <| s_q rfl (y_lss rfl rfl) <| s_n <| tk_seq <| tk_condP rfl (fun ht10 => ?_) (fun ht10 => ?_)
  · refine tk_skip <| tk_then <| tk_seq <| tk_block <| s_r <| s_q rfl (y_ixR (j := i) rfl rfl hv.1 lenP kR) <| s_q rfl (y_load rfl rfl (fun w hw => ((fun w hw => Ro.rd hv hw) w hw).cell (gM (f := Prod.fst) (d := dP) lenP))) <| q_a rfl rfl <| s_n <| s_r <| q_m rfl rfl <| s_q rfl (y_pnnil rfl rfl rfl) <| q_m rfl rfl <| s_g rfl (y_move rfl) <| s_g rfl (y_nilCheck rfl) <| s_g rfl (y_fldN (o := 0) 1 rfl kR) <| s_g rfl (y_load rfl rfl (hc (o := 1) (.head _) (rfl))) <| s_g rfl ((y_eql rfl rfl).cast (bool_t dC)) <| s_q rfl (y_pick1 rfl rfl) <| s_n <| tk_cond1 rfl <| tk_region <| q_m rfl rfl <| q_m rfl rfl ?_; refine s_q rfl (y_nilCheck rfl) <| s_q rfl (y_fld0 (o := 0) rfl kR) <| s_q rfl (y_load rfl rfl (hc (o := 0) (.head _) (rfl))) <| q_m rfl rfl ?_
    have hfl3 : ((ps.take i).flatMap Prod.snd).length + (ps.getD i dP).2.length = ((ps.take (i + 1)).flatMap Prod.snd).length := by rw [flat_succ oM, List.length_append]
    exact tk_act rfl <| a_appM (H1 := [_]) (f := B) (l := b ++ (ps.take i).flatMap Prod.snd) (m := (ps.getD i dP).2) rfl rfl EL64 rfl rfl (fun w hw => Ro.rd (hp _ (getD_mem lenP)) hw) (fun _ => rfl) ⟨lenP, lenP⟩ fun v28 => tk_own1 (mm 1 rfl) fun hfv28 => s_q rfl (y_nilCheck rfl) <| s_q rfl (y_fld0 (o := 0) rfl kR) <| tk_act rfl <| a_storeE (H1 := []) (o := 0) (v := v28) (cs' := [v28, I 0]) rfl rfl kR (RdS.one hfv28.choose_spec) rfl sW (rfl) <| tk_nil <| tk_in_normal <| tk_then <| tk_region <| s_q rfl (y_addN (a := i) (b := 1) rfl rfl oM) <| q_m rfl rfl <| tk_nil <| tk_R (H1 := [_]) rfl (show ownB v28 ((b ++ (ps.take i).flatMap Prod.snd) ++ ((ps.getD i dP).2)) 5 = ownB v28 (b ++ (ps.take (i + 1)).flatMap Prod.snd) 5 from ownM_cast (by rw [List.append_assoc, flat_succ oM])) <| tk_again ((i + 1, v28)) (by first | exact trivial | omega | (dsimp only; omega)) (by first | omega | (dsimp only; omega)) sB (List.Sublist.refl _)
  · exact tk_exit <| tk_then_exit <| tk_then_exit <| tk_in_hit <| tk_then <| s_r <| q_m rfl rfl <| q_a rfl rfl <| s_n <| tk_retc <| tk_R (H1 := [_]) rfl (show ownB va (b ++ (ps.take i).flatMap Prod.snd) 5 = ownB va (b ++ ps.flatMap Prod.snd) 5 from ownM_cast (by rw [show i = ps.length by omega, List.take_length])) <| tk_ret (va) (trivial) (.inl rfl) (r1 rfl rfl) (List.Sublist.refl _)
theorem gbytes_spec {ob : Nat} {v : Value} {b : List UInt8} {w : World} (hb : b.length < 1099511627776) (hh : Pre w [cel ob [v, I 0] 320, ownB v b 5]) :
    Spec Tryz.prog 102 [PT ob] w [cel ob [v, I 0] 320, ownB v b 5] (fun _ : Value => True) (fun x => .tuple #[x, I 0]) (fun x => [cel ob [v, I 0] 320, ownB v b 5, ownB x b 5]) := by
  refine spec_of (n := 22) Tryz.func102 rfl rfl hh.1 hh.2 rfl <| s_r <| q_a rfl rfl <| q_a rfl rfl <| s_n <| tk_seq <| tk_block <| s_r <| q_m rfl rfl <| s_q rfl (y_pnil rfl rfl rfl) <| q_a rfl rfl <| s_n <| tk_cond0 rfl <| s_r <| q_m rfl rfl <| s_q rfl (y_nilCheck rfl) <| s_q rfl (y_fldN (o := 0) 1 rfl kR) <| s_q rfl (y_load rfl rfl (hc (o := 1) (.head _) (rfl))) <| s_q rfl ((y_neq rfl rfl).cast (bool_f dC)) <| q_a rfl rfl <| s_n <| tk_cond0 rfl <| tk_skip <| tk_in_normal ?_; exact tk_then <| s_r <| q_m rfl rfl <| s_q rfl (y_nilCheck rfl) <| s_q rfl (y_fld0 (o := 0) rfl kR) <| s_q rfl (y_load rfl rfl (hc (o := 0) (.head _) (rfl))) <| tk_act rfl <| a_callv [] _ rfl kR rfl (fun w' hw' => clone_spec (l := b) (Ro.own (H0 := []) hw' (mm 1 rfl)) lenP) rfl fun v21 _ => q_a rfl rfl <| q_a rfl rfl <| s_n <| tk_retc <| tk_ps [2, 2] rfl <| tk_ret (v21) (trivial) (.inl rfl) (r2 rfl rfl rfl) (List.Sublist.refl _)
end Go.Proofs.YtnhpghhibcdklaaGreatDoor
set_option linter.unusedSimpArgs false
set_option linter.unusedVariables false
namespace Go.Proofs.YtnhpghhibcdklaaGreatDoor
open Go Go.RowKit
set_option maxRecDepth 100000
theorem drop_cons {α : Type} {b l : List α} {x d : α} {k : Nat} (h : b.drop k = x :: l) : k < b.length ∧ b.getD k d = x ∧ b.drop (k + 1) = l := by
  have hk : k < b.length := by
    rcases Nat.lt_or_ge k b.length with h1 | h1
    · exact h1
    · rw [List.drop_of_length_le h1] at h; cases h
  rw [List.drop_eq_getElem_cons hk] at h
  obtain ⟨h1, h2⟩ := List.cons.inj h
  exact ⟨hk, by rw [List.getD_eq_getElem?_getD, List.getElem?_eq_getElem hk]; exact h1, h2⟩
structure NAt (b r : List UInt8) (n k acc m : Nat) : Prop where
  k8 : k ≤ 8
  sum : acc + m * 2 ^ (7 * k) = n
  low : acc < 2 ^ (7 * k)
  rest : b.drop k = numL m ++ r
  big : m * 2 ^ (7 * k) < 4611686018427387904
  pos : k = 0 ∨ 1 ≤ m
theorem nat0 {b r : List UInt8} {n : Nat} (h : b = numL n ++ r) (hn : n < 4611686018427387904) : NAt b r n 0 0 n := ⟨by omega, by simp, by simp, by simpa using h, by simpa using hn, .inl rfl⟩
theorem nat_x {b r : List UInt8} {n k acc m : Nat} (h : NAt b r n k acc m) : k < b.length ∧ (128 ≤ m → b.getD k 0 = UInt8.ofNat (m % 128 + 128) ∧ b.drop (k + 1) = numL (m / 128) ++ r) ∧ (m < 128 → b.getD k 0 = UInt8.ofNat m ∧ b.drop (k + 1) = r) := by
  by_cases hm : m < 128
  · have h1 := h.rest
    rw [numL_lt hm] at h1
    obtain ⟨h2, h3, h4⟩ := drop_cons (d := 0) h1
    exact ⟨h2, fun h5 => absurd h5 oM, fun _ => ⟨h3, h4⟩⟩
  · have h1 := h.rest
    rw [numL_ge hm] at h1
    obtain ⟨h2, h3, h4⟩ := drop_cons (d := 0) h1
    exact ⟨h2, fun _ => ⟨h3, h4⟩, fun h5 => absurd h5 hm⟩
theorem nat_b {b r : List UInt8} {n k acc m : Nat} (h : NAt b r n k acc m) : ((b.getD k 0) &&& 127).toNat = m % 128 ∧ (128 ≤ (b.getD k 0).toNat ↔ 128 ≤ m) ∧ (m < 128 → (b.getD k 0).toNat = m) := by
  obtain ⟨_, h1, h2⟩ := nat_x h
  have e1 : ∀ x : UInt8, (x &&& 127).toNat = x.toNat % 128 := fun x => by rw [UInt8.toNat_and]; exact Nat.and_two_pow_sub_one_eq_mod x.toNat 7
  rw [e1]
  by_cases hm : m < 128
  · rw [(h2 hm).1]
    have : (UInt8.ofNat m).toNat = m := by simp; omega
    omega
  · rw [(h1 oM).1]
    have : (UInt8.ofNat (m % 128 + 128)).toNat = m % 128 + 128 := by simp; omega
    omega
theorem pow_pos' (k : Nat) : 0 < 2 ^ (7 * k) := Nat.pow_pos dC
theorem nat_or {b r : List UInt8} {n k acc m : Nat} (h : NAt b r n k acc m) : acc ||| (m % 128 * 2 ^ (7 * k)) = acc + m % 128 * 2 ^ (7 * k) ∧ m % 128 * 2 ^ (7 * k) < 4611686018427387904 ∧ acc < 4611686018427387904 ∧ acc + m % 128 * 2 ^ (7 * k) ≤ n := by
  have h1 := h.low
  have h2 : m % 128 * 2 ^ (7 * k) ≤ m * 2 ^ (7 * k) := Nat.mul_le_mul_right _ (Nat.mod_le _ _)
  have h3 := h.big
  have h4 : 2 ^ (7 * k) ≤ 2 ^ 56 := Nat.pow_le_pow_right dC (by have := h.k8; omega)
  have h5 := h.sum
  refine ⟨?_, by omega, by omega, by omega⟩
  rw [Nat.or_comm, or_add _ _ _ h1, Nat.add_comm]
theorem nat_fin {b r : List UInt8} {n k acc m : Nat} (h : NAt b r n k acc m) (hm : m < 128) : acc + m % 128 * 2 ^ (7 * k) = n := by rw [Nat.mod_eq_of_lt hm]; exact h.sum
theorem nat_next {b r : List UInt8} {n k acc m : Nat} (h : NAt b r n k acc m) (hm : 128 ≤ m) : NAt b r n (k + 1) (acc + m % 128 * 2 ^ (7 * k)) (m / 128) := by
  have hp := pow_pos' k
  have e : 2 ^ (7 * (k + 1)) = 128 * 2 ^ (7 * k) := by rw [show 7 * (k + 1) = 7 + 7 * k by omega, Nat.pow_add]
  have e2 : m * 2 ^ (7 * k) = m / 128 * (128 * 2 ^ (7 * k)) + m % 128 * 2 ^ (7 * k) := by
    conv => lhs; rw [← Nat.div_add_mod m 128]
    rw [Nat.add_mul, Nat.mul_comm 128 (m / 128), Nat.mul_assoc]
  have hs := h.sum; have hb := h.big; have hl := h.low
  have hk : k < 8 := by
    rcases Nat.lt_or_ge k 8 with h1 | h1
    · exact h1
    · have : k = 8 := by have := h.k8; omega
      subst this
      omega
  refine ⟨by omega, ?_, ?_, ((nat_x h).2.1 hm).2, ?_, .inr oM⟩
  · rw [e]; omega
  · rw [e]
    have : m % 128 * 2 ^ (7 * k) ≤ 127 * 2 ^ (7 * k) := Nat.mul_le_mul_right _ oM
    omega
  · rw [e]; omega
theorem beq_spec {v1 v2 : Value} {l m : List UInt8} {w : World} (h1 : Ro (Fs []) w (rdB v1 l)) (h2 : Ro (Fs []) w (rdB v2 m)) : Spec Tryz.prog 207 [v1, v2] w [] (fun _ : Unit => True) (fun _ => .bool (decide (l = m))) (fun _ => []) := by
  exact spec_of (n := 10) Tryz.func207 rfl rfl trivial trivial rfl <| s_r <| q_a rfl rfl <| s_n <| s_r <| q_m rfl rfl <| s_q rfl (y_str (l := l) rfl rfl rfl rfl (fun w hw => Ro.rd h1 hw)) <| q_m rfl rfl <| s_q rfl (y_str (l := m) rfl rfl rfl rfl (fun w hw => Ro.rd h2 hw)) <| s_q rfl (y_strEq (l := l) (m := m) rfl rfl) <| q_a rfl rfl <| s_n <| tk_retc <| tk_ret (()) (trivial) (.inl rfl) (r1 rfl rfl) (List.Sublist.refl _)
theorem gopen_spec {kind : UInt8} {bv : Value} {b r : List UInt8} {w : World} (hb : Ro (Fs []) w (rdB bv b)) (hbr : b = [72, 89, kind] ++ r) (hrl : r.length < 1099511627776) :
    Spec Tryz.prog 123 [B kind, bv] w [] (fun _ : Nat × Value => True) (fun x => PT x.1) (fun x => [cel x.1 [x.2, I 0] 348, ownB x.2 r 5]) := by
  refine spec_of (n := 41) Tryz.func123 rfl rfl trivial trivial rfl ?_
  have hbl : b.length = r.length + 3 := by rw [hbr]; simp
  refine s_r <| q_a rfl rfl <| s_n <| s_r <| tk_act rfl <| a_slitN (vs := [B 72, B 89]) rfl (List.forall_mem_cons.2 ⟨rfl, (List.forall_mem_cons.2 ⟨rfl, (fun _ h => nomatch h)⟩)⟩) (EL64) rfl rfl dC fun b7 => tk_act rfl <| a_convX (H1 := []) rfl Tryz.underlying64 Tryz.underlying5 rfl rfl <| q_m rfl rfl <| tk_act rfl <| a_slitN (vs := [B kind]) rfl (List.forall_mem_cons.2 ⟨rfl, (fun _ h => nomatch h)⟩) (EL64) rfl rfl dC fun b10 => tk_celM (H1 := [_]) (f := B) (l := [72, 89]) (T := 5) rfl rfl dC <| tk_act rfl <| a_appM (H1 := [_]) (f := B) (l := [72, 89]) (m := [kind]) rfl rfl EL64 rfl rfl (fun w hw => cel_rdE (o := 0) (m := 1) (cp := 1) (vs := [kind].map B) (hw.mem (.head _)) (rfl) lQ lenP) (fun _ => rfl) ⟨lenP, lenP⟩ fun v11 => tk_own1 (mm 1 rfl) fun hfv11 => tk_R (H1 := [_]) rfl (show ownB v11 ([72, 89] ++ [kind]) 5 = ownB v11 [72, 89, kind] 5 from ownM_cast rfl) <| tk_own1 (mm 1 rfl) fun hf11 => q_a rfl rfl <| s_n <| s_r <| q_m rfl rfl <| s_q rfl (y_lenRN (n' := b.length) rfl hb.1 rfl (by first | rfl | (rw [List.length_map]; omega) | simp)) <| q_m rfl rfl <| s_q rfl (y_lenRN (n' := 3) rfl hf11.choose_spec rfl (by first | rfl | (rw [List.length_map]; omega) | simp)) ?_; refine s_q rfl (y_minN (a := b.length) (b := 3) rfl rfl) <| tk_re 16 (IN (min b.length 3)) (I 3) rfl (congrArg I oM) <| q_a rfl rfl <| s_n <| tk_seq <| tk_block <| tk_seq <| tk_drawH [cel b10 ([B kind]) 5, ownB v11 [72, 89, kind] 5] [] kR <| s_x 0 rfl (y_move rfl) <| s_x 1 rfl (y_move rfl) <| s_x 2 rfl (y_cutRBh (l := b) 3 rfl rfl hb.1 kR lenP rfl) <| s_x 3 rfl (y_move rfl) <| s_x 4 rfl (y_move rfl) <| s_x 5 rfl (y_cutRBh (l := [72, 89, kind]) 3 rfl rfl hf11.choose_spec kR lenP rfl) <| tx_a 6 rfl kR rfl <| a_callv [] _ rfl kR rfl (fun w' hw' => beq_spec (l := b.take 3) (m := [72, 89, kind].take 3) (Ro.cutBh (Ro.call (H0 := []) hb hw') (hi := 3) lenP) (Ro.cutBh (Ro.own (H0 := []) hw' (mm 1 rfl)) (hi := 3) lenP)) rfl fun _ _ => tk_S (fun _ h => h) <| tk_re 24 (.bool (decide (b.take 3 = [72, 89, kind].take 3))) (.bool true) rfl (bool_t (by rw [hbr]; rfl)) <| s_x 7 rfl (y_not rfl) <| s_x 8 rfl (y_assign rfl) <| tx_done kR <| tk_then <| tk_cond0 rfl <| s_r ?_; refine q_m rfl rfl <| q_m rfl rfl <| s_q rfl (y_lenRN (n' := 3) rfl hf11.choose_spec rfl (by first | rfl | (rw [List.length_map]; omega) | simp)) <| s_q rfl ((y_lss rfl rfl).cast (bool_f dC)) <| q_a rfl rfl <| s_n <| tk_cond0 rfl <| tk_skip <| tk_in_normal <| tk_then <| s_r <| q_m rfl rfl <| q_m rfl rfl <| s_q rfl (y_cutRBl (l := b) 3 rfl rfl hb.1 kR lenP rfl) <| tk_act rfl <| a_callv [] _ rfl kR rfl (fun w' hw' => clone_spec (l := b.drop 3) (Ro.cutBl (Ro.call (H0 := []) hb hw') (lo := 3) lenP) lenP) rfl fun v38 _ => tk_R (H1 := []) rfl (show ownB v38 (b.drop 3) 5 = ownB v38 r 5 from ownM_cast (by rw [hbr]; rfl)) <| tk_own1 (.head _) fun hf38 => ?_
  have hc38 := hf38.choose_spec.cells
  simp only [Value.cells] at hc38
  exact s_q rfl (y_build (v := .agg ([v38, I 0]).toArray) (vs := [(0, v38)]) rfl (run_build (zs := [Value.slice none 0 0, I 0]) (pl := [(0, 1), (1, 1)]) Tryz.underlying348 (fun _ => kR) (fun _ => kR) (fill_s0 (RdS.cells hf38.choose_spec)))) <| tk_act rfl <| a_boxL (cs := [v38, I 0]) rfl rfl fun b40 => q_a rfl rfl <| s_n <| tk_retc <| tk_ret ((b40, v38)) (trivial) (.inl rfl) (r1 rfl rfl) (.cons_cons _ (.cons_cons _ (List.nil_sublist _)))
theorem inum_spec {ib lim n : Nat} {v : Value} {b r : List UInt8} {w : World} (hbn : b = numL n ++ r) (hn : n < 4611686018427387904) (hlim : n ≤ lim) (hbl : b.length < 1099511627776) (hh : Pre w [cel ib [v, I 0] 348, ownB v b 5]) :
    Spec Tryz.prog 125 [PT ib, I (lim : Int)] w [cel ib [v, I 0] 348, ownB v b 5] (fun _ : Value => True) (fun _ => I (n : Int)) (fun x => [cel ib [x, I 0] 348, ownB x r 5]) := by
  refine spec_of (n := 81) Tryz.func125 rfl rfl hh.1 hh.2 rfl <| tk_own1 (mm 1 rfl) fun hfv => s_r <| q_a rfl rfl <| s_n <| tk_seq <| s_r <| q_m rfl rfl <| s_q rfl (y_pnil rfl rfl rfl) <| q_m rfl rfl <| s_g rfl (y_move rfl) <| s_g rfl (y_nilCheck rfl) <| s_g rfl (y_fldN (o := 0) 1 rfl kR) <| s_g rfl (y_load rfl rfl (hc (o := 1) (.head _) (rfl))) <| s_g rfl ((y_neq rfl rfl).cast (bool_f dC)) <| s_q rfl (y_pick0 rfl rfl) <| s_n <| tk_cond0 rfl <| tk_skip <| tk_then <| s_r <| q_a rfl rfl <| s_n <| tk_seq ?_; refine s_r <| q_m rfl rfl <| s_n <| tk_block <| tk_loop (X := Nat × Nat × Nat) (fun (k, acc, m) => NAt b r n k acc m) (fun (k, acc, m) => [(0, PT ib), (1, IN lim), (5, IN acc), (17, IN k)]) (fun (k, acc, m) => [cel ib ([v, I 0]) 348, ownB v b 5]) (fun (k, acc, m) => 9 - k) ((0, 0, n)) (nat0 hbn hn) sB ((List.Sublist.refl _)) ?_
  rintro ⟨k, acc, m⟩ hI
  try dsimp only at hI ⊢
  have hk8 := hI.k8
  obtain ⟨hx1, hx2, hx3⟩ := nat_x hI
  obtain ⟨hy1, hy2, hy3⟩ := nat_b hI
  obtain ⟨ho1, ho2, ho3, ho4⟩ := nat_or hI
  have hpos := hI.pos
  refine s_r <| s_q rfl (y_lss rfl rfl) <| s_n <| tk_seq <| tk_condP rfl (fun ht18 => ?_) (fun ht18 => ?_)
  · refine tk_skip <| tk_then <| tk_seq <| tk_block <| s_r <| q_m rfl rfl <| q_a rfl rfl <| s_n <| tk_seq <| s_r <| q_m rfl rfl <| q_m rfl rfl <| s_q rfl (y_nilCheck rfl) <| s_q rfl (y_fld0 (o := 0) rfl kR) <| s_q rfl (y_load rfl rfl (hc (o := 0) (.head _) (rfl))) <| s_q rfl (y_lenRN (n' := b.length) rfl hfv.choose_spec rfl (by first | rfl | (rw [List.length_map]; omega) | simp)) <| tk_qe (.bool false) rfl rfl rfl (y_eql rfl rfl) (bool_f oM) <| s_n <| tk_cond0 rfl <| tk_skip <| tk_then <| s_r <| q_m rfl rfl <| s_q rfl (y_nilCheck rfl) ?_; refine s_q rfl (y_fld0 (o := 0) rfl kR) <| s_q rfl (y_load rfl rfl (hc (o := 0) (.head _) (rfl))) <| q_m rfl rfl <| s_q rfl (y_ixR (j := k) rfl rfl hfv.choose_spec lenP kR) <| s_q rfl (y_load rfl rfl (fun w hw => ((fun w hw => own_rdS (hw.mem (mm 1 rfl))) w hw).cell (gM (d := 0) lenP))) <| q_a rfl rfl <| s_n <| s_r <| q_m rfl rfl <| q_m rfl rfl <| s_q rfl (y_and8 (a := b.getD k 0) (b := 127) rfl rfl) <| tk_qe (I ((m % 128 : Nat) : Int)) rfl rfl rfl (y_conv8i (a := (b.getD k 0) &&& 127) rfl rfl rfl) (by rw [hy1]) <| q_m rfl rfl <| s_q rfl (y_mulN (a := 7) (b := k) rfl rfl oM) <| s_q rfl (y_shlI (a := m % 128) (m := 7 * k) rfl rfl oM oM) <| tk_qe (I ((acc + m % 128 * 2 ^ (7 * k) : Nat) : Int)) rfl rfl rfl (y_orN (a := acc) (b := (m % 128) * 2 ^ (7 * k)) rfl rfl ⟨ho3, ho2⟩) (by rw [ho1]) <| q_a rfl rfl <| s_n <| tk_seq <| s_r <| q_m rfl rfl <| s_q rfl (y_geq rfl rfl) <| s_n <| tk_condP rfl (fun ht45 => ?_) (fun ht45 => ?_)
    · exact tk_exit <| tk_then_exit <| tk_in_hit <| tk_then <| tk_region <| s_q rfl (y_addN (a := k) (b := 1) rfl rfl oM) <| q_m rfl rfl <| tk_nil <| tk_again ((k + 1, acc + m % 128 * 2 ^ (7 * k), m / 128)) (nat_next hI (hy2.1 oM)) (by dsimp only; omega) sB (List.Sublist.refl _)
    · have hm8 : m < 128 := Nat.lt_of_not_le (fun h => ht45 (by have := hy2.2 h; omega))
      have hfin := nat_fin hI hm8
      have hx0 := hy3 hm8
      refine tk_skip <| tk_then <| tk_seq <| tk_block <| tk_seq <| s_r <| q_m rfl rfl <| tk_qs rfl rfl rfl (y_gtr rfl rfl) (fun hs13_1 => ?_) (fun hs13_1 => ?_)
      · refine q_m rfl rfl <| s_g rfl (y_move rfl) <| tk_gqe (.bool false) rfl rfl rfl (y_eql rfl rfl) (bool_f oM) <| s_q rfl (y_pick1 rfl rfl) <| q_a rfl rfl <| s_n <| tk_cond0 rfl <| tk_region <| q_m rfl rfl <| tk_qe (.bool false) rfl rfl rfl (y_lss rfl rfl) (bool_f oM) <| q_m rfl rfl <| s_g rfl (y_move rfl) <| tk_gqe (.bool false) rfl rfl rfl (y_geq rfl rfl) (bool_f oM) <| s_q rfl (y_pick0 rfl rfl) <| q_a rfl rfl <| s_n <| tk_cond0 rfl <| s_r <| q_m rfl rfl <| q_m rfl rfl <| tk_qe (.bool false) rfl rfl rfl (y_gtr rfl rfl) (bool_f oM) <| q_a rfl rfl <| s_n <| tk_cond0 rfl ?_; refine tk_skip <| tk_in_normal <| tk_then <| s_r <| q_m rfl rfl <| q_m rfl rfl <| s_q rfl (y_nilCheck rfl) <| s_q rfl (y_fld0 (o := 0) rfl kR) <| s_q rfl (y_load rfl rfl (hc (o := 0) (.head _) (rfl))) <| q_m rfl rfl <| s_q rfl (y_addN (a := k) (b := 1) rfl rfl oM) <| s_q rfl (y_cutRBl (l := b) (k + 1) rfl rfl hfv.choose_spec kR lenP rfl) <| s_q rfl (y_nilCheck rfl) <| s_q rfl (y_fld0 (o := 0) rfl kR) <| tk_act rfl <| a_storeE (H1 := []) (o := 0) (v := cutR v (k + 1) b.length) (cs' := [cutR v (k + 1) b.length, I 0]) rfl rfl kR (RdS.one (RdS.cutBl hfv.choose_spec (lo := k + 1) lenP)) rfl sW (rfl) <| s_n <| s_r <| q_m rfl rfl <| q_a rfl rfl <| s_n <| tk_retc <| tk_in_ret <| tk_then_ret ?_; exact tk_then_ret <| tk_in_ret <| tk_then_ret <| tk_ownCut (H1 := [_]) (k + 1) rfl oM <| tk_R (H1 := [_]) rfl (show ownB ((cutR v (k + 1) b.length)) (b.drop (k + 1)) 5 = ownB ((cutR v (k + 1) b.length)) r 5 from ownM_cast (hx3 hm8).2) <| tk_re 4 (I ((acc + m % 128 * 2 ^ (7 * k) : Nat) : Int)) (IN n) rfl (congrArg I oM) <| tk_ret (cutR v (k + 1) b.length) (trivial) (.inl rfl) (r1 rfl rfl) (List.Sublist.refl _)
      · refine q_m rfl rfl <| tk_gno rfl rfl rfl <| tk_gno rfl rfl rfl <| s_q rfl (y_pick0 rfl rfl) <| q_a rfl rfl <| s_n <| tk_cond0 rfl <| tk_region <| q_m rfl rfl <| tk_qe (.bool false) rfl rfl rfl (y_lss rfl rfl) (bool_f oM) <| q_m rfl rfl <| s_g rfl (y_move rfl) <| tk_gqe (.bool false) rfl rfl rfl (y_geq rfl rfl) (bool_f oM) <| s_q rfl (y_pick0 rfl rfl) <| q_a rfl rfl <| s_n <| tk_cond0 rfl <| s_r <| q_m rfl rfl <| q_m rfl rfl <| tk_qe (.bool false) rfl rfl rfl (y_gtr rfl rfl) (bool_f oM) <| q_a rfl rfl <| s_n <| tk_cond0 rfl ?_; refine tk_skip <| tk_in_normal <| tk_then <| s_r <| q_m rfl rfl <| q_m rfl rfl <| s_q rfl (y_nilCheck rfl) <| s_q rfl (y_fld0 (o := 0) rfl kR) <| s_q rfl (y_load rfl rfl (hc (o := 0) (.head _) (rfl))) <| q_m rfl rfl <| s_q rfl (y_addN (a := k) (b := 1) rfl rfl oM) <| s_q rfl (y_cutRBl (l := b) (k + 1) rfl rfl hfv.choose_spec kR lenP rfl) <| s_q rfl (y_nilCheck rfl) <| s_q rfl (y_fld0 (o := 0) rfl kR) <| tk_act rfl <| a_storeE (H1 := []) (o := 0) (v := cutR v (k + 1) b.length) (cs' := [cutR v (k + 1) b.length, I 0]) rfl rfl kR (RdS.one (RdS.cutBl hfv.choose_spec (lo := k + 1) lenP)) rfl sW (rfl) <| s_n <| s_r <| q_m rfl rfl <| q_a rfl rfl <| s_n <| tk_retc <| tk_in_ret <| tk_then_ret ?_; exact tk_then_ret <| tk_in_ret <| tk_then_ret <| tk_ownCut (H1 := [_]) (k + 1) rfl oM <| tk_R (H1 := [_]) rfl (show ownB ((cutR v (k + 1) b.length)) (b.drop (k + 1)) 5 = ownB ((cutR v (k + 1) b.length)) r 5 from ownM_cast (hx3 hm8).2) <| tk_re 4 (I ((acc + m % 128 * 2 ^ (7 * k) : Nat) : Int)) (IN n) rfl (congrArg I oM) <| tk_ret (cutR v (k + 1) b.length) (trivial) (.inl rfl) (r1 rfl rfl) (List.Sublist.refl _)
  · exfalso; omega
theorem iraw_spec {ib n : Nat} {v : Value} {b f r : List UInt8} {w : World} (hbf : b = f ++ r) (hf : f.length = n) (hbl0 : b.length < 1099511627776) (hh : Pre w [cel ib [v, I 0] 348, ownB v b 5]) :
    Spec Tryz.prog 124 [PT ib, I (n : Int)] w [cel ib [v, I 0] 348, ownB v b 5] (fun _ : Value × Value => True) (fun x => x.2) (fun x => [cel ib [x.1, I 0] 348, ownB x.1 r 5, ownB x.2 f 5]) := by
  refine spec_of (n := 48) Tryz.func124 rfl rfl hh.1 hh.2 rfl ?_
  have hbl : b.length = n + r.length := by rw [hbf, List.length_append, hf]
  refine tk_own1 (mm 1 rfl) fun hfv => s_r <| q_a rfl rfl <| s_n <| tk_seq <| tk_block <| s_r <| q_m rfl rfl <| s_q rfl (y_pnil rfl rfl rfl) <| q_m rfl rfl <| s_g rfl (y_move rfl) <| s_g rfl (y_nilCheck rfl) <| s_g rfl (y_fldN (o := 0) 1 rfl kR) <| s_g rfl (y_load rfl rfl (hc (o := 1) (.head _) (rfl))) <| s_g rfl ((y_neq rfl rfl).cast (bool_f dC)) <| s_q rfl (y_pick0 rfl rfl) <| q_a rfl rfl <| s_n <| tk_cond0 rfl <| s_r <| q_m rfl rfl <| tk_qe (.bool false) rfl rfl rfl (y_lss rfl rfl) (bool_f oM) <| q_a rfl rfl <| s_n ?_; refine tk_cond0 rfl <| s_r <| q_m rfl rfl <| q_m rfl rfl <| s_q rfl (y_nilCheck rfl) <| s_q rfl (y_fld0 (o := 0) rfl kR) <| s_q rfl (y_load rfl rfl (hc (o := 0) (.head _) (rfl))) <| s_q rfl (y_lenRN (n' := b.length) rfl hfv.choose_spec rfl (by first | rfl | (rw [List.length_map]; omega) | simp)) <| tk_qe (.bool false) rfl rfl rfl (y_gtr rfl rfl) (bool_f oM) <| q_a rfl rfl <| s_n <| tk_cond0 rfl <| tk_skip <| tk_in_normal <| tk_then <| s_r <| q_m rfl rfl <| s_q rfl (y_nilCheck rfl) <| s_q rfl (y_fld0 (o := 0) rfl kR) <| s_q rfl (y_load rfl rfl (hc (o := 0) (.head _) (rfl))) <| q_m rfl rfl <| s_q rfl (y_cutRBh (l := b) n rfl rfl hfv.choose_spec kR lenP rfl) <| tk_act rfl <| a_callv [] _ rfl kR rfl (fun w' hw' => clone_spec (l := b.take n) (Ro.cutBh (Ro.own (H0 := []) hw' (mm 1 rfl)) (hi := n) lenP) lenP) rfl fun v37 _ => ?_; refine q_a rfl rfl <| s_n <| s_r <| q_m rfl rfl <| q_m rfl rfl <| s_q rfl (y_nilCheck rfl) <| s_q rfl (y_fld0 (o := 0) rfl kR) <| s_q rfl (y_load rfl rfl (hc (o := 0) (mm 1 rfl) (rfl))) <| q_m rfl rfl <| s_q rfl (y_cutRBl (l := b) n rfl rfl hfv.choose_spec kR lenP rfl) <| s_q rfl (y_nilCheck rfl) <| s_q rfl (y_fld0 (o := 0) rfl kR) <| tk_act rfl <| a_storeE (H1 := [_]) (o := 0) (v := cutR v n b.length) (cs' := [cutR v n b.length, I 0]) rfl rfl kR (RdS.one (RdS.cutBl hfv.choose_spec (lo := n) lenP)) rfl sW (rfl) <| s_n <| s_r <| q_m rfl rfl <| q_a rfl rfl <| s_n <| tk_retc <| tk_ownCut (H1 := [_, _]) n rfl oM <| tk_R (H1 := [_, _]) rfl (show ownB (cutR v n b.length) (b.drop n) 5 = ownB (cutR v n b.length) r 5 from ownM_cast (by rw [hbf, ← hf, List.drop_left])) <| tk_R (H1 := []) rfl (show ownB v37 (b.take n) 5 = ownB v37 f 5 from ownM_cast (by rw [hbf, ← hf, List.take_left])) <| tk_ps [2, 2] rfl ?_; exact tk_ret ((cutR v n b.length, v37)) (trivial) (.inl rfl) (r1 rfl rfl) (List.Sublist.refl _)
theorem ierr_spec {ib : Nat} {v : Value} {w : World} (hh : Pre w [cel ib [v, I 0] 348]) : Spec Tryz.prog 209 [PT ib] w [cel ib [v, I 0] 348] (fun _ : Unit => True) (fun _ => I 0) (fun _ => [cel ib [v, I 0] 348]) := by
  exact spec_of (n := 9) Tryz.func209 rfl rfl hh.1 hh.2 rfl <| s_r <| q_a rfl rfl <| s_n <| tk_seq <| s_r <| q_m rfl rfl <| s_q rfl (y_pnil rfl rfl rfl) <| s_n <| tk_cond0 rfl <| tk_skip <| tk_then <| s_r <| q_m rfl rfl <| s_q rfl (y_nilCheck rfl) <| s_q rfl (y_fldN (o := 0) 1 rfl kR) <| s_q rfl (y_load rfl rfl (hc (o := 1) (.head _) (rfl))) <| q_a rfl rfl <| s_n <| tk_retc <| tk_ret (()) (trivial) (.inl rfl) (r1 rfl rfl) (List.Sublist.refl _)
theorem iend_spec {ib : Nat} {v : Value} {b : List UInt8} {w : World} (hb0 : b = []) (hh : Pre w [cel ib [v, I 0] 348, ownB v b 5]) : Spec Tryz.prog 127 [PT ib] w [cel ib [v, I 0] 348, ownB v b 5] (fun _ : Unit => True) (fun _ => I 0) (fun _ => [cel ib [v, I 0] 348, ownB v b 5]) := by
  refine spec_of (n := 17) Tryz.func127 rfl rfl hh.1 hh.2 rfl ?_
  subst hb0
  refine tk_own1 (mm 1 rfl) fun hfv => s_r <| q_a rfl rfl <| s_n <| tk_seq <| s_r <| q_m rfl rfl <| s_q rfl (y_pnnil rfl rfl rfl) <| q_m rfl rfl <| s_g rfl (y_move rfl) <| s_g rfl (y_nilCheck rfl) <| s_g rfl (y_fld0 (o := 0) rfl kR) <| s_g rfl (y_load rfl rfl (hc (o := 0) (.head _) (rfl))) <| s_g rfl (y_lenRN (n' := 0) rfl hfv.choose_spec rfl (by first | rfl | (rw [List.length_map]; omega) | simp)) <| s_g rfl ((y_gtr rfl rfl).cast (bool_f dC)) <| s_q rfl (y_pick1 rfl rfl) <| s_n <| tk_cond0 rfl <| tk_skip <| tk_then <| s_r <| q_m rfl rfl <| tk_act rfl <| a_callv [] _ rfl kR rfl (fun w' hw' => ierr_spec (ib := ib) (v := v) (St.pre hw')) rfl fun _ _ => ?_; exact q_a rfl rfl <| s_n <| tk_retc <| tk_ret (()) (trivial) (.inl rfl) (r1 rfl rfl) (List.Sublist.refl _)
theorem itext_spec {ib lim : Nat} {v : Value} {b t r : List UInt8} {w : World} (hbt : b = textL t ++ r) (htl : t.length ≤ lim) (hlim : lim ≤ 131072) (hrl : r.length < 1000000) (hh : Pre w [cel ib [v, I 0] 348, ownB v b 5]) :
    Spec Tryz.prog 126 [PT ib, I (lim : Int)] w [cel ib [v, I 0] 348, ownB v b 5] (fun _ : Value => True) (fun _ => Str t) (fun x => [cel ib [x, I 0] 348, ownB x r 5]) := by
  refine spec_of (n := 12) Tryz.func126 rfl rfl hh.1 hh.2 rfl ?_
  have hn9 := numL_len 8 (n := t.length) oM
  have hbl : b.length = (numL t.length).length + t.length + r.length := by rw [hbt]; simp [textL]; omega
  exact tk_own1 (mm 1 rfl) fun hfv => s_r <| q_a rfl rfl <| s_n <| s_r <| q_m rfl rfl <| q_m rfl rfl <| q_m rfl rfl <| s_q rfl (y_minN (a := lim) (b := 131072) rfl rfl) <| tk_act rfl <| a_callv [] _ rfl kR rfl (fun w' hw' => inum_spec (ib := ib) (v := v) (b := b) (n := t.length) (r := t ++ r) (lim := min lim 131072) (by rw [hbt, textL, List.append_assoc]) lenP lenP lenP (St.pre hw')) rfl fun v9 _ => tk_act rfl <| a_callv [] _ rfl kR rfl (fun w' hw' => iraw_spec (ib := ib) (v := v9) (b := t ++ r) (n := t.length) (f := t) (r := r) rfl lenP lenP (St.pre hw')) rfl fun ⟨v10, w10⟩ _ => tk_own1 (mm 2 rfl) fun hfw10 => s_q rfl (y_str (l := t) rfl rfl rfl rfl (fun w hw => own_rdS (hw.mem (mm 2 rfl)))) <| q_a rfl rfl <| s_n <| tk_retc <| tk_ret (v10) (trivial) (.inl rfl) (r1 rfl rfl) (.cons_cons _ (.cons_cons _ (List.nil_sublist _)))
end Go.Proofs.YtnhpghhibcdklaaGreatDoor
set_option linter.unusedSimpArgs false
set_option linter.unusedVariables false
namespace Go.Proofs.YtnhpghhibcdklaaGreatDoor
open Go Go.RowKit
section
variable {c : Cx} {L : Sl} {H : List Res} {P : Program} {Q : Exit → Act → World → Prop} {K : Act → World → Prop} {d : Nat} {rty : TypeId} {pos : String} {af : Array Edge} {gd : Option (Nat × Bool)} {t t' : TypeId} {x y : Operand} {v u : Value}
theorem a_appendC {H1 H2 : List Res} {n m k : Nat} {xs news : List Value} {e : TypeId} {bytes : Nat} (hx : ev L x = some v) (hy : ev L y = some u) (he : elB P t e k bytes) (hn : Nat.blt d c.n = true)
    (hH : H = H1 ++ own v n xs e k :: H2) (hr : ∀ w, St c w H → RdC w u m news) (hm : news.length = m * k) (h1 : ∀ u ∈ news, u.oneCell' = true)
    (hb : n + m ≤ 140737488355328 ∧ (n + m) * bytes ≤ 140737488355328) (h : ∀ v', TK c K ((d, v') :: L) (H1 ++ own v' (n + m) (xs ++ news) e k :: H2)) :
    TK c (fun a w => (⟨some d, .call { callee := .builtin .append, args := #[x, y], argTypes := #[t, t] }, rty, pos, af, gd⟩ : Oper).wp P a w K Q) L H := fun a w ha hw => by
  rcases hr w hw with ⟨rfl, rfl, rfl⟩ | ⟨ad, cp, rfl, hc, hcell⟩
  · subst hH
    have h2 := ha.ev hx; have h3 := ha.ev hy
    obtain ⟨ht, i, z, hi, hz, hzs, hs1, rfl, hsz⟩ := he
    have hown := hw.mem (r := own v n xs e k) sI
    have e1 : (Builtin.append_ #[t, t] rty #[v, .slice none 0 0]).run P w = .ok v w := by
      rcases hown.2 with ⟨rfl, rfl⟩ | ⟨g, o, cap, cur, fr, T, rfl, hg, hf, hnc, hcm, hcs, htake⟩
      · simp [Builtin.append_, run_underlying ht, sizeOf, typeInfo, hi, Builtin.lenOf, Builtin.firstCells]
      · simp [Builtin.append_, run_underlying ht, sizeOf, typeInfo, hi, Builtin.lenOf, Builtin.firstCells, hnc, storeCells]
    have e2 : (execOp a.eval (⟨some d, .call { callee := .builtin .append, args := #[x, y], argTypes := #[t, t] }, rty, pos, af, gd⟩ : Oper)).run P w = .ok (.value v) w := by
      simp [execOp, resolve, h2, h3, invoke, builtin, e1]
    change Oper.upon P _ a K Q ((execOp a.eval _).run P w)
    rw [e2, Oper.upon_value]
    have := h v
    simp only [Nat.add_zero, List.append_nil] at this
    exact this _ _ (ha.put hn _) hw
  · exact (a_append (c := c) (K := K) (Q := Q) (rty := rty) (pos := pos) (af := af) (gd := gd) (L := L) (H := H) (d := d) hx hy he hn hH hm (fun w' hw' j u' hj => by
        rcases hr w' hw' with ⟨h0, _⟩ | ⟨ad', cp', h0, _, hcell'⟩
        · cases h0
        · cases h0; exact hcell' j u' hj) h1 hb h) a w ha hw
theorem a_appW {α : Type} {f : α → List Value} {H1 H2 : List Res} {l m : List α} {T : TypeId} {k bytes : Nat} (hx : ev L x = some v) (hy : ev L y = some u) (he : elB P t T k bytes) (hn : Nat.blt d c.n = true)
    (hH : H = H1 ++ ownA f k v l T :: H2) (hr : ∀ w, St c w H → RdC w u m.length (m.flatMap f)) (hk : ∀ a, (f a).length = k) (h1 : ∀ a, ∀ u ∈ f a, u.oneCell' = true)
    (hl : l.length + m.length ≤ 140737488355328) (hy1 : (l.length + m.length) * bytes ≤ 140737488355328) (h : ∀ v', TK c K ((d, v') :: L) (H1 ++ ownA f k v' (l ++ m) T :: H2)) :
    TK c (fun a w => (⟨some d, .call { callee := .builtin .append, args := #[x, y], argTypes := #[t, t] }, rty, pos, af, gd⟩ : Oper).wp P a w K Q) L H :=
  a_appendC (n := l.length) (m := m.length) (xs := l.flatMap f) (news := m.flatMap f) hx hy he hn hH hr (flat_len hk) (fun u hu => by obtain ⟨a, _, ha⟩ := List.mem_flatMap.1 hu; exact h1 a u ha) ⟨hl, hy1⟩
    (fun v' => by have := h v'; simp only [ownA, List.length_append, List.flatMap_append] at this; exact this)
theorem tk_celEmpty {H1 H2 : List Res} {g k : Nat} {e T : TypeId} (hH : H = H1 ++ cel g [] T :: H2) (h : TK c K L (H1 ++ own (.slice (some ⟨g, 0, none⟩) 0 0) 0 [] e k :: H2)) : TK c K L H := fun a w ha hw => by
  subst hH
  obtain ⟨fr, hb, hf⟩ := hw.mem (r := cel g [] T) sI
  refine h a w ha ((St.turn (r := cel g [] T) (N := [own (.slice (some ⟨g, 0, none⟩) 0 0) 0 [] e k]) hw (Fo.refl _ _) ⟨⟨by simp, .inr ⟨g, 0, 0, ([] : List Value).toArray, fr, T, rfl, hb, by simpa using hf, Nat.le_refl _, Nat.zero_le _, by simp, by simp⟩⟩, trivial⟩ ⟨fun _ _ h => h, trivial⟩ (fun k hk => ?_)).perm perm_mid)
  rcases hk with hk | hk
  · left; simp [own, Value.ownBlock] at hk; exact hk.symm
  · exact hk.elim
theorem run_slit0C {w : World} {e : TypeId} {k bytes : Nat} (he : elB P t e k bytes) :
    (Instr.buildSlice t 0 #[]).run P w = .ok (.slice (some ⟨w.heap.size, 0, none⟩) 0 0) { w with heap := w.heap.push (.cells ([] : List Value).toArray e) } := by
  obtain ⟨ht, i, _, hi, _, _, _, _, _⟩ := he
  have e0 : Array.range 0 = #[] := rfl
  simp [Instr.buildSlice, underlying, ht, Go.sizeOf, typeInfo, hi, Instr.fill, newRow, e0]
theorem a_slit0C {e : TypeId} {k bytes : Nat} (he : elB P t e k bytes) (hn : Nat.blt d c.n = true)
    (h : ∀ v, TK c K ((d, v) :: L) (own v 0 [] e k :: H)) :
    TK c (fun a w => (⟨some d, .buildSlice t 0 #[], rty, pos, af, gd⟩ : Oper).wp P a w K Q) L H :=
  a_slit (xs := []) (vs := []) (cs := []) rfl hn (fun _ => run_slit0C he) (fun b => tk_celEmpty (H1 := []) rfl (h _))
variable {ops : Array Oper} {S : World → Prop} {X : List Nat} {f : Nat} {l : Array Bool}
/-- each operation that may come next, those of X freely -/
def AllY (P : Program) (ops : Array Oper) (Q : Exit → Act → World → Prop) (S : World → Prop) (X : List Nat) (f : Nat) (l : Array Bool) (c : Cx) (L : Sl) (H : List Res) : List Nat → Prop
  | [] => True
  | i :: is => (∃ oi, ops[i]? = some oi ∧ gdB ops L oi = some true ∧ TK c (fun a w => oi.wp P a w (fun a w => (X.contains i = true ∨ S w) ∧ AnyX P ops Q S X f (l.setIfInBounds i true) a w) Q) L H) ∧ AllY P ops Q S X f l c L H is
theorem AllY.mem : ∀ {is : List Nat}, AllY P ops Q S X f l c L H is → ∀ i ∈ is, ∃ oi, ops[i]? = some oi ∧ gdB ops L oi = some true ∧ TK c (fun a w => oi.wp P a w (fun a w => (X.contains i = true ∨ S w) ∧ AnyX P ops Q S X f (l.setIfInBounds i true) a w) Q) L H
  | _ :: _, h, _, .head _ => h.1
  | _ :: _, h, i, .tail _ hm => AllY.mem h.2 i hm
end
end Go.Proofs.YtnhpghhibcdklaaGreatDoor
set_option linter.unusedSimpArgs false
set_option linter.unusedVariables false
namespace Go.Proofs.YtnhpghhibcdklaaGreatDoor
open Go Go.RowKit
set_option maxRecDepth 100000
def setA (cs : List UInt8) : List Bool := cs.foldl (fun s c => s.set c.toNat true) (List.replicate 256 false)
theorem setA_len {cs : List UInt8} : (setA cs).length = 256 := by
  have : ∀ (cs : List UInt8) (s : List Bool), (cs.foldl (fun s c => s.set c.toNat true) s).length = s.length := by
    intro cs
    induction cs with
    | nil => intro s; rfl
    | cons c cs ih => intro s; rw [List.foldl_cons, ih, List.length_set]
  unfold setA; rw [this, List.length_replicate]
theorem setA_step {l : List UInt8} {i : Nat} (h : i < l.length) : setA (l.take (i + 1)) = (setA (l.take i)).set (l.getD i 0).toNat true := by
  unfold setA
  rw [List.take_add_one, List.getElem?_eq_getElem h, List.foldl_append, List.getD_eq_getElem?_getD, List.getElem?_eq_getElem h]; rfl
theorem setA_get {cs : List UInt8} {x : UInt8} : (setA cs).getD x.toNat false = cs.contains x := by
  have : ∀ (cs : List UInt8) (s : List Bool), s.length = 256 → (cs.foldl (fun s c => s.set c.toNat true) s).getD x.toNat false = (s.getD x.toNat false || cs.contains x) := by
    intro cs
    induction cs with
    | nil => intro s _; simp
    | cons c cs ih =>
      intro s hs
      rw [List.foldl_cons, ih _ (by rw [List.length_set]; exact hs)]
      have hx : x.toNat < s.length := by have := UInt8.toNat_lt x; omega
      by_cases hc : c = x
      · subst hc
        simp [List.getD_eq_getElem?_getD, hx]
      · have hne : c.toNat ≠ x.toNat := fun e => hc (UInt8.toNat.inj e)
        have hbeq : (x == c) = false := by simpa using fun e : x = c => hc e.symm
        simp [List.getD_eq_getElem?_getD, List.getElem?_set_ne hne, hbeq, Ne.symm hc]
  unfold setA; rw [this _ _ sI, List.getD_eq_getElem?_getD, List.getElem?_replicate]
  split <;> rfl
theorem mkasc_spec {l : List UInt8} {w : World} (hA : ∀ c ∈ l, c.toNat < 128) (hl : l.length < 1099511627776) : Spec Tryz.prog 161 [Str l] w [] (fun _ : Unit => True) (fun _ => .tuple #[.agg ((setA l).map bo).toArray, .bool true]) (fun _ => []) := by
  refine spec_of (n := 21) Tryz.func161 rfl rfl trivial trivial rfl <| s_r <| tk_act rfl <| a_allocL (cs := (List.replicate 256 false).map bo) kR rfl fun b2 => q_a rfl rfl <| s_n <| tk_seq <| s_r <| q_a rfl rfl <| s_n <| tk_block <| tk_R (H1 := []) rfl (congrArg (fun z_ => cel b2 z_ 278) (show (List.replicate 256 false).map bo = (setA (l.take 0)).map bo from rfl)) <| tk_loop (X := Nat) (fun i => i ≤ l.length) (fun i => [(0, Str l), (2, PT b2), (4, IN i)]) (fun i => [cel b2 ((setA (l.take i)).map bo) 278]) (fun i => l.length - i) (0) (Nat.zero_le _) sB ((List.Sublist.refl _)) ?_
  rintro i hI
  try dsimp only at hI ⊢
  refine tk_seq <| s_r <| q_m rfl rfl <| q_m rfl rfl <| s_q rfl (y_lenStr (l := l) rfl rfl) <| s_q rfl (y_lss rfl rfl) <| s_n <| tk_condP rfl (fun ht9 => ?_) (fun ht9 => ?_)
  · refine tk_skip <| tk_then <| tk_seq <| tk_block <| s_r <| q_m rfl rfl <| q_m rfl rfl <| s_q rfl (y_ixT (l := l) (i := i) rfl rfl rfl ⟨rfl, lenP⟩) <| q_a rfl rfl <| s_n <| tk_seq <| s_r <| q_m rfl rfl <| tk_qe (.bool false) rfl rfl rfl (y_geq rfl rfl) (bool_f (by have := hA _ (getD_mem (d := 0) (l := l) (i := i) oM); omega)) <| s_n <| tk_cond0 rfl <| tk_skip <| tk_then <| tk_region <| q_m rfl rfl <| s_q rfl (y_ixA01 256 (i := (l.getD i 0).toNat) rfl rfl kR (by have := UInt8.toNat_lt (l.getD i 0); omega)) <| tk_act rfl <| a_storeE (H1 := []) (o := (l.getD i 0).toNat) (v := .bool true) (cs' := ((setA (l.take i)).set ((l.getD i 0).toNat) true).map bo) rfl rfl kR rfl rfl (by rw [List.length_map, setA_len]; exact UInt8.toNat_lt _) (sM) <| tk_nil ?_; exact tk_in_normal <| tk_then <| tk_region <| q_m rfl rfl <| s_q rfl (y_addN (a := i) (b := 1) rfl rfl oM) <| q_a rfl rfl <| tk_nil <| tk_R (H1 := []) rfl (congrArg (fun z_ => cel b2 z_ 278) (show ((setA (l.take i)).set ((l.getD i 0).toNat) true).map bo = (setA (l.take (i + 1))).map bo from by rw [setA_step oM])) <| tk_again (i + 1) oM oM sB (List.Sublist.refl _)
  · exact tk_exit <| tk_then_exit <| tk_then_exit <| tk_in_hit <| tk_then <| s_r <| tk_R (H1 := []) rfl (congrArg (fun z_ => cel b2 z_ 278) (show (setA (l.take i)).map bo = (setA l).map bo from by rw [show i = l.length by omega, List.take_length])) <| s_q rfl (y_loadA 256 rfl kR (by rw [List.length_map, setA_len]) (hcw (.head _))) <| tk_act rfl <| a_storeW (H1 := []) (vs := (setA l).map bo) 256 rfl rfl kR rfl ⟨(by rw [List.length_map, setA_len]), (by rw [List.length_map, setA_len])⟩ oneBo <| q_a rfl rfl <| s_n <| tk_retc <| tk_ret (()) (trivial) (.inl rfl) (rct (vs := (setA l).map bo) rfl rfl (by rw [List.length_map, setA_len]; kernel_rfl) (hcw (.head _)) rfl) (List.nil_sublist _)
theorem asc_spec {cs : List UInt8} {x : UInt8} {b : Nat} {w : World} (hh : Pre w [cel b ((setA cs).map bo) 278]) : Spec Tryz.prog 236 [PT b, B x] w [cel b ((setA cs).map bo) 278] (fun _ : Unit => True) (fun _ => .bool (cs.contains x)) (fun _ => [cel b ((setA cs).map bo) 278]) := by
  exact spec_of (n := 10) Tryz.func236 rfl rfl hh.1 hh.2 rfl <| s_r <| q_a rfl rfl <| s_n <| s_r <| q_m rfl rfl <| q_m rfl rfl <| s_q rfl (y_nilCheck rfl) <| s_q rfl (y_ixA01 256 (i := x.toNat) rfl rfl kR (by have := UInt8.toNat_lt x; omega)) <| tk_qe (.bool (List.contains cs x)) rfl rfl rfl (y_load rfl rfl (hc (o := x.toNat) (.head _) (gM (d := false) (by rw [setA_len]; have := UInt8.toNat_lt x; omega)))) (by rw [setA_get]) <| q_a rfl rfl <| s_n <| tk_retc <| tk_ret (()) (trivial) (.inl rfl) (r1 rfl rfl) (List.Sublist.refl _)
theorem hasp_spec {l m : List UInt8} {w : World} (hl : l.length < 9223372036854775808) (hm : m.length < 9223372036854775808) : Spec Tryz.prog 134 [Str l, Str m] w [] (fun _ : Unit => True) (fun _ => .bool (decide (m.length ≤ l.length ∧ l.take m.length = m))) (fun _ => []) := by
  refine spec_of (n := 18) Tryz.func134 rfl rfl trivial trivial rfl <| s_r <| q_a rfl rfl <| s_n <| s_r <| q_m rfl rfl <| s_q rfl (y_lenStr (l := l) rfl rfl) <| q_m rfl rfl <| s_q rfl (y_lenStr (l := m) rfl rfl) <| tk_qs rfl rfl rfl (y_geq rfl rfl) (fun hs1_4 => ?_) (fun hs1_4 => ?_)
  · exact q_m rfl rfl <| s_g rfl (y_move rfl) <| s_g rfl (y_move rfl) <| s_g rfl (y_lenStr (l := m) rfl rfl) <| s_g rfl (y_cutTh (l := l) (hi := m.length) rfl rfl rfl oM) <| s_g rfl (y_move rfl) <| s_g rfl (y_strEq (l := l.take m.length) (m := m) rfl rfl) <| s_q rfl (y_pick1 rfl rfl) <| q_a rfl rfl <| s_n <| tk_retc <| tk_re 4 (.bool (decide (l.take m.length = m))) (.bool (decide (m.length ≤ l.length ∧ l.take m.length = m))) rfl (congrArg Value.bool (by rw [decide_eq_decide]; exact ⟨fun h => ⟨by omega, h⟩, fun h => h.2⟩)) <| tk_ret (()) (trivial) (.inl rfl) (r1 rfl rfl) (List.Sublist.refl _)
  · exact q_m rfl rfl <| tk_gno rfl rfl rfl <| tk_gno rfl rfl rfl <| tk_gno rfl rfl rfl <| tk_gno rfl rfl rfl <| tk_gno rfl rfl rfl <| tk_gno rfl rfl rfl <| s_q rfl (y_pick0 rfl rfl) <| q_a rfl rfl <| s_n <| tk_retc <| tk_re 4 (.bool false) (.bool (decide (m.length ≤ l.length ∧ l.take m.length = m))) rfl ((bool_f (fun h => absurd h.1 oM)).symm) <| tk_ret (()) (trivial) (.inl rfl) (r1 rfl rfl) (List.Sublist.refl _)
theorem pre_spec {l m : List UInt8} {w : World} (hl : l.length < 9223372036854775808) (hm : m.length < 9223372036854775808) : Spec Tryz.prog 74 [Str l, Str m] w [] (fun _ : Unit => True) (fun _ => .bool (decide (m.length ≤ l.length ∧ l.take m.length = m))) (fun _ => []) := by
  exact spec_of (n := 8) Tryz.func74 rfl rfl trivial trivial rfl <| s_r <| q_a rfl rfl <| s_n <| s_r <| q_m rfl rfl <| q_m rfl rfl <| tk_act rfl <| a_callv [] _ rfl kR rfl (fun w' hw' => hasp_spec (l := l) (m := m) lenP lenP) rfl fun _ _ => q_a rfl rfl <| s_n <| tk_retc <| tk_ret (()) (trivial) (.inl rfl) (r1 rfl rfl) (List.Sublist.refl _)
theorem take_getD {l : List UInt8} {n j : Nat} (h : j < n) : (l.take n).getD j 0 = l.getD j 0 := by
  rw [List.getD_eq_getElem?_getD, List.getElem?_take, if_pos h, List.getD_eq_getElem?_getD]
theorem drop_getD {l : List UInt8} {n j : Nat} : (l.drop n).getD j 0 = l.getD (n + j) 0 := by
  rw [List.getD_eq_getElem?_getD, List.getElem?_drop, List.getD_eq_getElem?_getD]
def endR (cs l : List UInt8) (n : Nat) : Prop := n ≤ l.length ∧ ∀ j, n ≤ j → j < l.length → cs.contains (l.getD j 0) = true
def endL (cs l : List UInt8) (n : Nat) : Prop := n ≤ l.length ∧ ∀ j, j < n → cs.contains (l.getD j 0) = true
theorem trimr_step {cs l : List UInt8} {n : Nat} (h : endR cs l n) (hn : 0 < n) (hc : cs.contains (l.getD (n - 1) 0) = true) : endR cs l (n - 1) :=
  ⟨by have := h.1; omega, fun j h1 h2 => by
    by_cases e : j = n - 1
    · rw [e]; exact hc
    · exact h.2 j oM h2⟩
theorem triml_step {cs l : List UInt8} {n : Nat} (h : endL cs l n) (hn : n < l.length) (hc : cs.contains (l.getD n 0) = true) : endL cs l (n + 1) :=
  ⟨hn, fun j h1 => by
    by_cases e : j = n
    · rw [e]; exact hc
    · exact h.2 j oM⟩
theorem trimr_spec {cs l : List UInt8} {b : Nat} {w : World} (hl : l.length < 9223372036854775808) (hh : Pre w [cel b ((setA cs).map bo) 278]) : Spec Tryz.prog 163 [Str l, PT b] w [cel b ((setA cs).map bo) 278] (fun n : Nat => endR cs l n ∧ (n = 0 ∨ cs.contains (l.getD (n - 1) 0) = false)) (fun n => Str (l.take n)) (fun _ => [cel b ((setA cs).map bo) 278]) := by
  refine spec_of (n := 22) Tryz.func163 rfl rfl hh.1 hh.2 rfl <| s_r <| q_a rfl rfl <| s_n <| tk_seq <| tk_block <| tk_re 0 (Str l) (Str (l.take l.length)) rfl (by rw [List.take_length]) <| tk_loop (X := Nat) (fun n => endR cs l n) (fun n => [(0, Str (l.take n)), (1, PT b), (4, Str [])]) (fun n => [cel b ((setA cs).map bo) 278]) (fun n => n) (l.length) (⟨Nat.le_refl _, fun j h1 h2 => absurd h2 oM⟩) sB ((List.Sublist.refl _)) ?_
  rintro n hI
  try dsimp only at hI ⊢
  have hnl := hI.1
  have hln : (l.take n).length = n := by rw [List.length_take]; omega
  refine tk_seq <| s_r <| q_m rfl rfl <| s_q rfl (y_lenStr (l := l.take n) rfl rfl) <| s_q rfl (y_gtr rfl rfl) <| s_n <| tk_condP rfl (fun ht7 => ?_) (fun ht7 => ?_)
  · refine tk_skip <| tk_then <| tk_block <| tk_seq <| s_r <| q_m rfl rfl <| q_m rfl rfl <| q_m rfl rfl <| s_q rfl (y_lenStr (l := l.take n) rfl rfl) <| s_q rfl (y_subN (a := (l.take n).length) (b := 1) rfl rfl oM) <| s_q rfl (y_ixT (l := l.take n) (i := ((l.take n).length) - 1) rfl rfl rfl ⟨rfl, lenP⟩) <| tk_re 13 (B ((l.take n).getD (((l.take n).length) - 1) 0)) (B (l.getD (n - 1) 0)) rfl (by rw [hln, take_getD oM]) <| tk_act rfl <| a_callv [] _ rfl kR rfl (fun w' hw' => asc_spec (b := b) (cs := cs) (x := l.getD (n - 1) 0) (St.pre hw')) rfl fun _ _ => s_q rfl (y_not rfl) <| s_n <| tk_cond rfl (fun ht15 => ?_) (fun ht15 => ?_)
    · exact tk_exit <| tk_then_exit <| tk_in_miss rfl <| tk_then_exit <| tk_in_hit <| tk_then <| s_r <| q_m rfl rfl <| q_a rfl rfl <| s_n <| tk_retc <| tk_ret (n) (⟨hI, .inr (by simpa using ht15)⟩) (.inl rfl) (r1 rfl rfl) (List.Sublist.refl _)
    · exact tk_skip <| tk_then <| tk_region <| q_m rfl rfl <| q_m rfl rfl <| s_q rfl (y_lenStr (l := l.take n) rfl rfl) <| s_q rfl (y_subN (a := (l.take n).length) (b := 1) rfl rfl oM) <| s_q rfl (y_cutTh (l := l.take n) (hi := ((l.take n).length) - 1) rfl rfl rfl oM) <| q_a rfl rfl <| tk_re 0 (Str ((l.take n).take (((l.take n).length) - 1))) (Str (l.take (n - 1))) rfl (by rw [hln, List.take_take, Nat.min_eq_left oM]) <| tk_nil <| tk_in_normal <| tk_again (n - 1) (trimr_step hI oM (by simpa using ht15)) oM sB (List.Sublist.refl _)
  · exact tk_exit <| tk_then_exit <| tk_then_exit <| tk_in_hit <| tk_then <| s_r <| q_m rfl rfl <| q_a rfl rfl <| s_n <| tk_retc <| tk_ret (n) (⟨hI, .inl oM⟩) (.inl rfl) (r1 rfl rfl) (List.Sublist.refl _)
theorem triml_spec {cs l : List UInt8} {b : Nat} {w : World} (hl : l.length < 9223372036854775808) (hh : Pre w [cel b ((setA cs).map bo) 278]) : Spec Tryz.prog 162 [Str l, PT b] w [cel b ((setA cs).map bo) 278] (fun n : Nat => endL cs l n ∧ (n = l.length ∨ cs.contains (l.getD n 0) = false)) (fun n => Str (l.drop n)) (fun _ => [cel b ((setA cs).map bo) 278]) := by
  refine spec_of (n := 16) Tryz.func162 rfl rfl hh.1 hh.2 rfl <| s_r <| q_a rfl rfl <| s_n <| tk_seq <| tk_block <| tk_re 0 (Str l) (Str (l.drop 0)) rfl (by rw [List.drop_zero]) <| tk_loop (X := Nat) (fun n => endL cs l n) (fun n => [(0, Str (l.drop n)), (1, PT b), (4, Str [])]) (fun n => [cel b ((setA cs).map bo) 278]) (fun n => l.length - n) (0) (⟨Nat.zero_le _, fun j h => absurd h oM⟩) sB ((List.Sublist.refl _)) ?_
  rintro n hI
  try dsimp only at hI ⊢
  have hnl := hI.1
  have hln : (l.drop n).length = l.length - n := by rw [List.length_drop]
  refine tk_seq <| s_r <| q_m rfl rfl <| s_q rfl (y_lenStr (l := l.drop n) rfl rfl) <| s_q rfl (y_gtr rfl rfl) <| s_n <| tk_condP rfl (fun ht7 => ?_) (fun ht7 => ?_)
  · refine tk_skip <| tk_then <| tk_block <| tk_seq <| s_r <| q_m rfl rfl <| q_m rfl rfl <| s_q rfl (y_ixT (l := l.drop n) (i := 0) rfl rfl rfl ⟨rfl, lenP⟩) <| tk_re 10 (B ((l.drop n).getD 0 0)) (B (l.getD n 0)) rfl (by rw [drop_getD]; rfl) <| tk_act rfl <| a_callv [] _ rfl kR rfl (fun w' hw' => asc_spec (b := b) (cs := cs) (x := l.getD n 0) (St.pre hw')) rfl fun _ _ => s_q rfl (y_not rfl) <| s_n <| tk_cond rfl (fun ht12 => ?_) (fun ht12 => ?_)
    · exact tk_exit <| tk_then_exit <| tk_in_miss rfl <| tk_then_exit <| tk_in_hit <| tk_then <| s_r <| q_m rfl rfl <| q_a rfl rfl <| s_n <| tk_retc <| tk_ret (n) (⟨hI, .inr (by simpa using ht12)⟩) (.inl rfl) (r1 rfl rfl) (List.Sublist.refl _)
    · exact tk_skip <| tk_then <| tk_region <| q_m rfl rfl <| s_q rfl (y_cutTl (l := l.drop n) (lo := 1) rfl rfl rfl oM) <| tk_re 14 (Str ((l.drop n).drop 1)) (Str (l.drop (n + 1))) rfl (by rw [List.drop_drop]) <| q_a rfl rfl <| tk_nil <| tk_in_normal <| tk_again (n + 1) (triml_step hI oM (by simpa using ht12)) oM sB (List.Sublist.refl _)
  · exact tk_exit <| tk_then_exit <| tk_then_exit <| tk_in_hit <| tk_then <| s_r <| q_m rfl rfl <| q_a rfl rfl <| s_n <| tk_retc <| tk_ret (n) (⟨hI, .inl oM⟩) (.inl rfl) (r1 rfl rfl) (List.Sublist.refl _)
end Go.Proofs.YtnhpghhibcdklaaGreatDoor
set_option linter.unusedSimpArgs false
set_option linter.unusedVariables false
namespace Go.Proofs.YtnhpghhibcdklaaGreatDoor
open Go Go.RowKit
set_option maxRecDepth 100000
def signsL : List UInt8 := [97, 98, 99, 100, 101, 102, 103, 104, 105, 106, 107, 108, 109, 110, 111, 112, 113, 114, 115, 116, 117, 118, 119, 120, 121, 122, 48, 49, 50, 51, 52, 53, 54, 55, 56, 57, 45, 47]
theorem signs_eq (c : UInt8) : signsL.contains c = signB c := by
  have h : ∀ n, n < 256 → signsL.contains (UInt8.ofNat n) = signB (UInt8.ofNat n) := by decide +kernel
  have := h c.toNat (UInt8.toNat_lt c)
  rwa [UInt8.ofNat_toNat] at this
theorem all_sign {l : List UInt8} : l.all signB = true ↔ ∀ j, j < l.length → signB (l.getD j 0) = true := by
  rw [List.all_eq_true]
  constructor
  · intro h j hj
    exact h _ (getD_mem hj)
  · intro h x hx
    obtain ⟨j, hj, rfl⟩ := List.mem_iff_getElem.1 hx
    have := h j hj
    rwa [List.getD_eq_getElem?_getD, List.getElem?_eq_getElem hj] at this
theorem trim_nil {l : List UInt8} (h : l = []) : l = [] ↔ l.all signB = true := by subst h; simp
theorem trim_iff {l : List UInt8} {n k : Nat} (h1 : endR signsL l n ∧ (n = 0 ∨ signsL.contains (l.getD (n - 1) 0) = false)) (h2 : endL signsL (l.take n) k ∧ (k = (l.take n).length ∨ signsL.contains ((l.take n).getD k 0) = false)) :
    (l.take n).drop k = [] ↔ l.all signB = true := by
  obtain ⟨⟨hn, hr⟩, hn0⟩ := h1
  obtain ⟨⟨hk, hl⟩, _⟩ := h2
  have hln : (l.take n).length = n := by rw [List.length_take]; omega
  rw [all_sign]
  constructor
  · intro h j hj
    have hkn : n ≤ k := by have := congrArg List.length h; rw [List.length_drop, hln, List.length_nil] at this; omega
    rw [← signs_eq]
    by_cases hjn : j < n
    · have := hl j oM
      rwa [take_getD hjn] at this
    · exact hr j oM hj
  · intro h
    have : n = 0 := Decidable.byContradiction fun hz => by
      have h3 := hn0.resolve_left hz
      have h4 := h (n - 1) oM
      rw [signs_eq, h4] at h3; cases h3
    subst this; simp
theorem trim_spec {l : List UInt8} {w : World} (hl : l.length < 9223372036854775808) : Spec Tryz.prog 84 [Str l, Str [97, 98, 99, 100, 101, 102, 103, 104, 105, 106, 107, 108, 109, 110, 111, 112, 113, 114, 115, 116, 117, 118, 119, 120, 121, 122, 48, 49, 50, 51, 52, 53, 54, 55, 56, 57, 45, 47]] w [] (fun r : List UInt8 => r = [] ↔ l.all signB = true) (fun r => Str r) (fun _ => []) := by
  refine spec_of (n := 43) Tryz.func84 rfl rfl trivial trivial rfl <| s_r <| q_a rfl rfl <| s_n <| tk_seq <| s_r <| q_m rfl rfl <| tk_qs rfl rfl rfl (y_strEq (l := l) (m := []) rfl rfl) (fun hs1_1 => ?_) (fun hs1_1 => ?_)
  · exact q_m rfl rfl <| tk_gno rfl rfl rfl <| tk_gno rfl rfl rfl <| s_q rfl (y_pick1 rfl rfl) <| s_n <| tk_cond1 rfl <| s_r <| q_m rfl rfl <| q_a rfl rfl <| s_n <| tk_retc <| tk_then_ret <| tk_ret (l) (trim_nil (by assumption)) (.inl rfl) (r1 rfl rfl) (List.Sublist.refl _)
  · refine q_m rfl rfl <| s_g rfl (y_move rfl) <| tk_gqe (.bool false) rfl rfl rfl (y_strEq (l := [97, 98, 99, 100, 101, 102, 103, 104, 105, 106, 107, 108, 109, 110, 111, 112, 113, 114, 115, 116, 117, 118, 119, 120, 121, 122, 48, 49, 50, 51, 52, 53, 54, 55, 56, 57, 45, 47]) (m := []) rfl rfl) (bool_f dC) <| s_q rfl (y_pick0 rfl rfl) <| s_n <| tk_cond0 rfl <| tk_skip <| tk_then <| tk_seq <| s_r <| q_m rfl rfl <| tk_qe (I 38) rfl rfl rfl (y_lenStr (l := [97, 98, 99, 100, 101, 102, 103, 104, 105, 106, 107, 108, 109, 110, 111, 112, 113, 114, 115, 116, 117, 118, 119, 120, 121, 122, 48, 49, 50, 51, 52, 53, 54, 55, 56, 57, 45, 47]) rfl rfl) (rfl) <| s_q rfl ((y_eql rfl rfl).cast (bool_f dC)) <| q_m rfl rfl <| tk_gno rfl rfl rfl <| tk_gno rfl rfl rfl <| tk_gno rfl rfl rfl <| s_q rfl (y_pick0 rfl rfl) <| s_n <| tk_cond0 rfl <| tk_skip <| tk_then <| tk_seq <| s_r ?_; refine q_m rfl rfl <| tk_act rfl <| a_callv [] _ rfl kR rfl (fun w' hw' => mkasc_spec (l := [97, 98, 99, 100, 101, 102, 103, 104, 105, 106, 107, 108, 109, 110, 111, 112, 113, 114, 115, 116, 117, 118, 119, 120, 121, 122, 48, 49, 50, 51, 52, 53, 54, 55, 56, 57, 45, 47]) dC lenP) rfl fun _ _ => q_m rfl rfl <| s_q rfl (y_extract rfl rfl) <| s_q rfl (y_extract rfl rfl) <| tk_act rfl <| a_allocL (cs := (List.replicate 256 false).map bo) kR rfl fun b5 => tk_act rfl <| a_storeW (H1 := []) (vs := (setA [97, 98, 99, 100, 101, 102, 103, 104, 105, 106, 107, 108, 109, 110, 111, 112, 113, 114, 115, 116, 117, 118, 119, 120, 121, 122, 48, 49, 50, 51, 52, 53, 54, 55, 56, 57, 45, 47]).map bo) 256 rfl rfl kR rfl ⟨(by first | (rw [List.length_map, setA_len]; done) | (rw [List.length_map]; rfl)), (by first | (rw [List.length_map, setA_len]; done) | (rw [List.length_map]; rfl))⟩ oneBo <| q_a rfl rfl <| s_n <| s_r <| q_m rfl rfl <| s_n <| tk_cond1 rfl <| s_r <| q_m rfl rfl <| tk_act rfl <| a_callv [] _ rfl kR rfl (fun w' hw' => trimr_spec (b := b5) (cs := [97, 98, 99, 100, 101, 102, 103, 104, 105, 106, 107, 108, 109, 110, 111, 112, 113, 114, 115, 116, 117, 118, 119, 120, 121, 122, 48, 49, 50, 51, 52, 53, 54, 55, 56, 57, 45, 47]) (l := l) lenP (St.pre hw')) rfl fun n36 hx36 => tk_act rfl <| a_callv [] _ rfl kR rfl (fun w' hw' => triml_spec (b := b5) (cs := [97, 98, 99, 100, 101, 102, 103, 104, 105, 106, 107, 108, 109, 110, 111, 112, 113, 114, 115, 116, 117, 118, 119, 120, 121, 122, 48, 49, 50, 51, 52, 53, 54, 55, 56, 57, 45, 47]) (l := l.take n36) lenP (St.pre hw')) rfl fun n37 hx37 => q_a rfl rfl <| s_n ?_; exact tk_retc <| tk_then_ret <| tk_ret ((l.take n36).drop n37) (trim_iff hx36 hx37) (.inl rfl) (r1 rfl rfl) (List.nil_sublist _)
theorem isname_spec {l : List UInt8} {w : World} (hl : l.length < 9223372036854775808) : Spec Tryz.prog 35 [Str l] w [] (fun _ : Unit => True) (fun _ => .bool (decide (isNm l))) (fun _ => []) := by
  refine spec_of (n := 15) Tryz.func35 rfl rfl trivial trivial rfl <| s_r <| q_a rfl rfl <| s_n <| s_r <| q_m rfl rfl <| tk_qs rfl rfl rfl (y_strNe (l := l) (m := []) rfl rfl) (fun hs1_1 => ?_) (fun hs1_1 => ?_)
  · refine q_m rfl rfl <| s_g rfl (y_move rfl) <| s_g rfl (y_lenStr (l := l) rfl rfl) <| s_g rfl (y_leq rfl rfl) <| tk_qs rfl rfl rfl (y_pick1 rfl rfl) (fun hs1_6 => ?_) (fun hs1_6 => ?_)
    · exact q_m rfl rfl <| s_g rfl (y_move rfl) <| tk_gact rfl <| a_callv [] _ rfl kR rfl (fun w' hw' => trim_spec (l := l) lenP) rfl fun r12 hx12 => s_g rfl (y_strEq (l := r12) (m := []) rfl rfl) <| s_q rfl (y_pick1 rfl rfl) <| q_a rfl rfl <| s_n <| tk_retc <| tk_re 2 (.bool (decide (r12 = []))) (.bool (decide (isNm l))) rfl (congrArg Value.bool (by rw [decide_eq_decide, hx12]; exact ⟨fun h => ⟨h, by have h0 : ¬ l = [] := (by assumption); have := List.length_pos_iff.2 h0; omega, by omega⟩, fun h => h.1⟩)) <| tk_ret (()) (trivial) (.inl rfl) (r1 rfl rfl) (List.Sublist.refl _)
    · exact q_m rfl rfl <| tk_gno rfl rfl rfl <| tk_gno rfl rfl rfl <| tk_gno rfl rfl rfl <| s_q rfl (y_pick0 rfl rfl) <| q_a rfl rfl <| s_n <| tk_retc <| tk_re 2 (.bool false) (.bool (decide (isNm l))) rfl ((bool_f (fun h => absurd h.2.2 oM)).symm) <| tk_ret (()) (trivial) (.inl rfl) (r1 rfl rfl) (List.Sublist.refl _)
  · exact q_m rfl rfl <| tk_gno rfl rfl rfl <| tk_gno rfl rfl rfl <| tk_gno rfl rfl rfl <| s_q rfl (y_pick0 rfl rfl) <| q_m rfl rfl <| tk_gno rfl rfl rfl <| tk_gno rfl rfl rfl <| tk_gno rfl rfl rfl <| s_q rfl (y_pick0 rfl rfl) <| q_a rfl rfl <| s_n <| tk_retc <| tk_re 2 (.bool false) (.bool (decide (isNm l))) rfl ((bool_f (fun h => by have h0 : l = [] := (by first | assumption | exact Decidable.not_not.1 (by assumption)); rw [h0] at h; exact absurd h.2.1 dC)).symm) <| tk_ret (()) (trivial) (.inl rfl) (r1 rfl rfl) (List.Sublist.refl _)
end Go.Proofs.YtnhpghhibcdklaaGreatDoor
set_option linter.unusedSimpArgs false
set_option linter.unusedVariables false
namespace Go.Proofs.YtnhpghhibcdklaaGreatDoor
open Go Go.RowKit
set_option maxRecDepth 100000
theorem take_snoc {α : Type} {l : List α} {d : α} {i : Nat} (h : i < l.length) : l.take i ++ [l.getD i d] = l.take (i + 1) := by
  have e : l.getD i d = l[i] := by rw [List.getD_eq_getElem?_getD, List.getElem?_eq_getElem h]; rfl
  rw [e, List.take_add_one, List.getElem?_eq_getElem h]; rfl
theorem list_ext {α : Type} {l m : List α} {d : α} (h : l.length = m.length) (hj : ∀ j, j < l.length → l.getD j d = m.getD j d) : l = m := by
  apply List.ext_getElem h
  intro i h1 h2
  have := hj i h1
  rw [List.getD_eq_getElem?_getD, List.getElem?_eq_getElem h1, List.getD_eq_getElem?_getD, List.getElem?_eq_getElem h2] at this
  simpa using this
theorem eqc_id {d : Nat} : EqC Tryz.prog (d + 2) 29 32 (fun xs => ∃ l : List UInt8, l.length = 32 ∧ xs = l.map B) := eqc_arr Tryz.underlying29 (by kernel_rfl) Tryz.underlying5 (by kernel_rfl)
end Go.Proofs.YtnhpghhibcdklaaGreatDoor
set_option linter.unusedSimpArgs false
set_option linter.unusedVariables false
namespace Go.Proofs.YtnhpghhibcdklaaGreatDoor
open Go Go.RowKit
set_option maxRecDepth 100000
theorem EL37 : elB Tryz.prog 37 31 35 64 := ⟨kR, _, _, rfl, rfl, rfl, rfl, rfl, by decide⟩
theorem EL35 : elB Tryz.prog 35 33 36 72 := ⟨kR, _, _, rfl, rfl, rfl, rfl, rfl, by decide⟩
theorem filt_1 {s : Snp} {z : Int} (h : ¬ s.seq = z) : [s].filter (notS z) = [s] := by simp [notS, h]
theorem filt_0 {s : Snp} {z : Int} (h : s.seq = z) : [s].filter (notS z) = [] := by simp [notS, h]
theorem fill_snap {a b c : Value} {l : List UInt8} (hl : l.length = 32) : fillL [(0, 1), (1, 1), (2, 1), (3, 32)] ([I 0, I 0, Str []] ++ (List.replicate 32 (0 : UInt8)).map B) [(0, [a]), (1, [b]), (2, [c]), (3, l.map B)] = some ([a, b, c] ++ l.map B) := by
  simp [fillL, hl]
theorem fill_rec {a : Value} {s : Snp} : fillL [(0, 1), (1, 35)] ([I 0, I 0, I 0, Str []] ++ (List.replicate 32 (0 : UInt8)).map B) [(0, [a]), (1, [I s.seq, I s.time, Str s.note] ++ s.root.map B)] = some ([a, I s.seq, I s.time, Str s.note] ++ s.root.map B) := by
  simp [fillL, s.h]
theorem eqc_str {P : Program} {d : Nat} {t : TypeId} (ht : P.underlying t = some .string) : EqC P (d + 1) t 1 (fun xs => ∃ l : List UInt8, xs = [Str l]) := fun w cs ds o h1 h2 => by
  obtain ⟨a, ha⟩ := h1; obtain ⟨b, hb⟩ := h2
  have sc : scB P t = true := by simp [scB, ht]
  have g : ∀ {cs : Array Value} {a : List UInt8}, (cs.toList.drop o).take 1 = [Str a] → cs[o]? = some (Str a) := fun {cs a} h => by
    have := congrArg (fun l => l[0]?) h
    simpa using this
  refine ⟨Str a, Str b, decide (a = b), ?_, ?_, ?_, ?_⟩
  · simp [part, scB_run sc, g ha]
  · simp [part, scB_run sc, g hb]
  · have h : (Op.equalIn (d + 1) t (Str a) (Str b)).run P w = .ok ((⟨a.toArray⟩ : ByteArray) == ⟨b.toArray⟩) w := by
      simp only [Op.equalIn, Sem.run_bind, run_underlying ht]
      rfl
    rw [h, ba_beq]
  · rw [ha, hb]; simp [Str]
theorem sqA_spec {s : Snp} {r : Rec} {rb : Nat} {w : World} (hh : Pre w [cel rb ([I (r.kind), I (r.s.seq), I (r.s.time), Str r.s.note] ++ (r.s.root.map B)) 33]) : Spec Tryz.prog 111 [.agg ([I (s.seq), I (s.time), Str s.note] ++ (s.root.map B)).toArray, PT rb] w [cel rb ([I (r.kind), I (r.s.seq), I (r.s.time), Str r.s.note] ++ (r.s.root.map B)) 33] (fun _ : Unit => True) (fun _ => .bool (decide (s.seq = r.s.seq))) (fun _ => [cel rb ([I (r.kind), I (r.s.seq), I (r.s.time), Str r.s.note] ++ (r.s.root.map B)) 33]) := by
  refine spec_of (n := 10) Tryz.func111 rfl rfl hh.1 hh.2 rfl ?_
  have hsh := s.h
  have hrh := r.s.h
  exact s_r <| tk_act rfl <| a_boxL (cs := [I (s.seq), I (s.time), Str s.note] ++ (s.root.map B)) rfl rfl fun b2 => q_a rfl rfl <| s_n <| s_r <| s_q rfl (y_fld0 (o := 0) rfl kR) <| s_q rfl (y_load rfl rfl (hc (o := 0) (.head _) (rfl))) <| s_q rfl (y_fldN (o := 0) 1 rfl kR) <| s_q rfl (y_fld0 (o := 1) rfl kR) <| s_q rfl (y_load rfl rfl (hc (o := 1) (mm 1 rfl) (rfl))) <| s_q rfl (y_eql rfl rfl) <| q_a rfl rfl <| s_n <| tk_retc <| tk_ret (()) (trivial) (.inl rfl) (r1 rfl rfl) (.cons _ (List.Sublist.refl _))
theorem sqB_spec {s : Snp} {r : Rec} {rb : Nat} {w : World} (hh : Pre w [cel rb ([I (r.kind), I (r.s.seq), I (r.s.time), Str r.s.note] ++ (r.s.root.map B)) 33]) : Spec Tryz.prog 130 [.agg ([I (s.seq), I (s.time), Str s.note] ++ (s.root.map B)).toArray, PT rb] w [cel rb ([I (r.kind), I (r.s.seq), I (r.s.time), Str r.s.note] ++ (r.s.root.map B)) 33] (fun _ : Unit => True) (fun _ => .bool (decide (s.seq = r.s.seq))) (fun _ => [cel rb ([I (r.kind), I (r.s.seq), I (r.s.time), Str r.s.note] ++ (r.s.root.map B)) 33]) := by
  refine spec_of (n := 10) Tryz.func130 rfl rfl hh.1 hh.2 rfl ?_
  have hsh := s.h
  have hrh := r.s.h
  exact s_r <| tk_act rfl <| a_boxL (cs := [I (s.seq), I (s.time), Str s.note] ++ (s.root.map B)) rfl rfl fun b2 => q_a rfl rfl <| s_n <| s_r <| s_q rfl (y_fld0 (o := 0) rfl kR) <| s_q rfl (y_load rfl rfl (hc (o := 0) (.head _) (rfl))) <| s_q rfl (y_fldN (o := 0) 1 rfl kR) <| s_q rfl (y_fld0 (o := 1) rfl kR) <| s_q rfl (y_load rfl rfl (hc (o := 1) (mm 1 rfl) (rfl))) <| s_q rfl (y_eql rfl rfl) <| q_a rfl rfl <| s_n <| tk_retc <| tk_ret (()) (trivial) (.inl rfl) (r1 rfl rfl) (.cons _ (List.Sublist.refl _))
theorem idxA_spec {v : Value} {l : List Snp} {r : Rec} {rb : Nat} {w : World} (hn : l.length < 1000000) (hh : Pre w [own v l.length (l.flatMap snC) 31 35, cel rb ([I (r.kind), I (r.s.seq), I (r.s.time), Str r.s.note] ++ (r.s.root.map B)) 33]) : Spec Tryz.prog 199 [v, .func (.func 111) #[] #[PT rb]] w [own v l.length (l.flatMap snC) 31 35, cel rb ([I (r.kind), I (r.s.seq), I (r.s.time), Str r.s.note] ++ (r.s.root.map B)) 33] (fun z : Int => idxS l r.s.seq z) (fun z => I z) (fun _ => [own v l.length (l.flatMap snC) 31 35, cel rb ([I (r.kind), I (r.s.seq), I (r.s.time), Str r.s.note] ++ (r.s.root.map B)) 33]) := by
  refine spec_of (n := 19) Tryz.func199 rfl rfl hh.1 hh.2 rfl <| tk_ownA (.head _) fun hfe => ?_
  have hrh := r.s.h
  refine s_r <| q_a rfl rfl <| s_n <| tk_seq <| s_r <| q_m rfl rfl <| s_q rfl (y_lenE rfl hfe.choose_spec rfl) <| q_m rfl rfl <| s_n <| tk_block <| tk_loop (X := Nat) (fun i => i ≤ l.length ∧ ∀ j, j < i → ¬ (l.getD j dSn).seq = r.s.seq) (fun i => [(0, v), (1, .func (.func 111) #[] #[PT rb]), (7, IN l.length), (8, IN i)]) (fun i => [own v l.length (l.flatMap snC) 31 35, cel rb ([I (r.kind), I (r.s.seq), I (r.s.time), Str r.s.note] ++ (r.s.root.map B)) 33]) (fun i => l.length - i) (0) (⟨Nat.zero_le _, fun _ h => absurd h oM⟩) sB ((List.Sublist.refl _)) ?_
  rintro i hI
  try dsimp only at hI ⊢
  refine s_r <| s_q rfl (y_lss rfl rfl) <| s_n <| tk_seq <| tk_condP rfl (fun ht9 => ?_) (fun ht9 => ?_)
  · have hsh := (l.getD i dSn).h
    refine tk_skip <| tk_then <| tk_seq <| tk_block <| s_r <| q_m rfl rfl <| q_a rfl rfl <| s_n <| s_r <| q_m rfl rfl <| q_m rfl rfl <| q_m rfl rfl <| s_q rfl (y_ixE (i := i) (k := 35) rfl rfl hfe.choose_spec lenP kR) <| s_q rfl (y_loadE (i := i) (k := 35) (o := 0) (f := snC) (l := l) (d0 := dSn) (vs := [I ((l.getD i dSn).seq), I ((l.getD i dSn).time), Str ((l.getD i dSn).note)] ++ (((l.getD i dSn).root).map B)) 35 rfl kR (by rw [List.length_append, List.length_map, (l.getD i dSn).h]; rfl) snC_len lenP (snC_all _) (fun w hw => own_rdC (hw.mem (.head _)))) <| tk_act rfl <| tk_ps [1] rfl <| a_callc [] _ rfl rfl kR rfl (fun w' hw' => sqA_spec (s := (l.getD i dSn)) (rb := rb) (r := r) (St.pre hw')) rfl fun _ _ => s_n <| tk_condP rfl (fun ht16 => ?_) (fun ht16 => ?_)
    · exact s_r <| q_m rfl rfl <| q_a rfl rfl <| s_n <| tk_retc <| tk_in_ret <| tk_then_ret <| tk_then_ret <| tk_in_ret <| tk_then_ret <| tk_ps [1] rfl <| tk_ret ((i : Int)) (.inr ⟨i, rfl, by omega, ht16, hI.2⟩) (.inl rfl) (r1 rfl rfl) (List.Sublist.refl _)
    · exact tk_skip <| tk_in_normal <| tk_then <| tk_region <| s_q rfl (y_addN (a := i) (b := 1) rfl rfl oM) <| q_m rfl rfl <| tk_nil <| tk_ps [1] rfl <| tk_again (i + 1) (⟨by omega, fun j hj => (Nat.lt_or_ge j i).elim (hI.2 j) (fun h => by rw [show j = i by omega]; exact ht16)⟩) oM sB (List.Sublist.refl _)
  · exact tk_exit <| tk_then_exit <| tk_then_exit <| tk_in_hit <| tk_then <| s_r <| q_a rfl rfl <| s_n <| tk_retc <| tk_ret (-1) (.inl ⟨rfl, fun j hj => hI.2 j oM⟩) (.inl rfl) (r1 rfl rfl) (List.Sublist.refl _)
theorem idxB_spec {v : Value} {l : List Snp} {r : Rec} {rb : Nat} {w : World} (hn : l.length < 1000000) (hh : Pre w [own v l.length (l.flatMap snC) 31 35, cel rb ([I (r.kind), I (r.s.seq), I (r.s.time), Str r.s.note] ++ (r.s.root.map B)) 33]) : Spec Tryz.prog 199 [v, .func (.func 130) #[] #[PT rb]] w [own v l.length (l.flatMap snC) 31 35, cel rb ([I (r.kind), I (r.s.seq), I (r.s.time), Str r.s.note] ++ (r.s.root.map B)) 33] (fun z : Int => idxS l r.s.seq z) (fun z => I z) (fun _ => [own v l.length (l.flatMap snC) 31 35, cel rb ([I (r.kind), I (r.s.seq), I (r.s.time), Str r.s.note] ++ (r.s.root.map B)) 33]) := by
  refine spec_of (n := 19) Tryz.func199 rfl rfl hh.1 hh.2 rfl <| tk_ownA (.head _) fun hfe => ?_
  have hrh := r.s.h
  refine s_r <| q_a rfl rfl <| s_n <| tk_seq <| s_r <| q_m rfl rfl <| s_q rfl (y_lenE rfl hfe.choose_spec rfl) <| q_m rfl rfl <| s_n <| tk_block <| tk_loop (X := Nat) (fun i => i ≤ l.length ∧ ∀ j, j < i → ¬ (l.getD j dSn).seq = r.s.seq) (fun i => [(0, v), (1, .func (.func 130) #[] #[PT rb]), (7, IN l.length), (8, IN i)]) (fun i => [own v l.length (l.flatMap snC) 31 35, cel rb ([I (r.kind), I (r.s.seq), I (r.s.time), Str r.s.note] ++ (r.s.root.map B)) 33]) (fun i => l.length - i) (0) (⟨Nat.zero_le _, fun _ h => absurd h oM⟩) sB ((List.Sublist.refl _)) ?_
  rintro i hI
  try dsimp only at hI ⊢
  refine s_r <| s_q rfl (y_lss rfl rfl) <| s_n <| tk_seq <| tk_condP rfl (fun ht9 => ?_) (fun ht9 => ?_)
  · have hsh := (l.getD i dSn).h
    refine tk_skip <| tk_then <| tk_seq <| tk_block <| s_r <| q_m rfl rfl <| q_a rfl rfl <| s_n <| s_r <| q_m rfl rfl <| q_m rfl rfl <| q_m rfl rfl <| s_q rfl (y_ixE (i := i) (k := 35) rfl rfl hfe.choose_spec lenP kR) <| s_q rfl (y_loadE (i := i) (k := 35) (o := 0) (f := snC) (l := l) (d0 := dSn) (vs := [I ((l.getD i dSn).seq), I ((l.getD i dSn).time), Str ((l.getD i dSn).note)] ++ (((l.getD i dSn).root).map B)) 35 rfl kR (by rw [List.length_append, List.length_map, (l.getD i dSn).h]; rfl) snC_len lenP (snC_all _) (fun w hw => own_rdC (hw.mem (.head _)))) <| tk_act rfl <| tk_ps [1] rfl <| a_callc [] _ rfl rfl kR rfl (fun w' hw' => sqB_spec (s := (l.getD i dSn)) (rb := rb) (r := r) (St.pre hw')) rfl fun _ _ => s_n <| tk_condP rfl (fun ht16 => ?_) (fun ht16 => ?_)
    · exact s_r <| q_m rfl rfl <| q_a rfl rfl <| s_n <| tk_retc <| tk_in_ret <| tk_then_ret <| tk_then_ret <| tk_in_ret <| tk_then_ret <| tk_ps [1] rfl <| tk_ret ((i : Int)) (.inr ⟨i, rfl, by omega, ht16, hI.2⟩) (.inl rfl) (r1 rfl rfl) (List.Sublist.refl _)
    · exact tk_skip <| tk_in_normal <| tk_then <| tk_region <| s_q rfl (y_addN (a := i) (b := 1) rfl rfl oM) <| q_m rfl rfl <| tk_nil <| tk_ps [1] rfl <| tk_again (i + 1) (⟨by omega, fun j hj => (Nat.lt_or_ge j i).elim (hI.2 j) (fun h => by rw [show j = i by omega]; exact ht16)⟩) oM sB (List.Sublist.refl _)
  · exact tk_exit <| tk_then_exit <| tk_then_exit <| tk_in_hit <| tk_then <| s_r <| q_a rfl rfl <| s_n <| tk_retc <| tk_ret (-1) (.inl ⟨rfl, fun j hj => hI.2 j oM⟩) (.inl rfl) (r1 rfl rfl) (List.Sublist.refl _)
theorem delF_spec {v : Value} {l : List Snp} {r : Rec} {rb : Nat} {w : World} (hn : l.length < 1000000) (hh : Pre w [own v l.length (l.flatMap snC) 31 35, cel rb ([I (r.kind), I (r.s.seq), I (r.s.time), Str r.s.note] ++ (r.s.root.map B)) 33]) : Spec Tryz.prog 110 [v, .func (.func 111) #[] #[PT rb]] w [own v l.length (l.flatMap snC) 31 35, cel rb ([I (r.kind), I (r.s.seq), I (r.s.time), Str r.s.note] ++ (r.s.root.map B)) 33] (fun _ : Value => True) (fun x => x) (fun x => [own x ((l.filter (notS r.s.seq)).length) ((l.filter (notS r.s.seq)).flatMap snC) 31 35, cel rb ([I (r.kind), I (r.s.seq), I (r.s.time), Str r.s.note] ++ (r.s.root.map B)) 33]) := by
  refine spec_of (n := 42) Tryz.func110 rfl rfl hh.1 hh.2 rfl <| tk_ownA (.head _) fun hfe => ?_
  have hrh := r.s.h
  refine s_r <| q_a rfl rfl <| s_n <| s_r <| q_m rfl rfl <| q_m rfl rfl <| tk_act rfl <| a_callv [] _ rfl kR rfl (fun w' hw' => idxA_spec (v := v) (l := l) (rb := rb) (r := r) lenP (St.pre hw')) rfl fun r10 hr10 => q_a rfl rfl <| s_n <| tk_seq <| s_r <| q_m rfl rfl <| s_q rfl (y_eql rfl rfl) <| s_n <| tk_condP rfl (fun ht12 => ?_) (fun ht12 => ?_)
  · exact s_r <| q_m rfl rfl <| q_a rfl rfl <| s_n <| tk_retc <| tk_then_ret <| tk_R (H1 := []) rfl (show own v l.length (l.flatMap snC) 31 35 = own v ((l.filter (notS r.s.seq)).length) ((l.filter (notS r.s.seq)).flatMap snC) 31 35 from ownA_cast (filt_none (hr10.elim (fun h => h.2) (fun h => by obtain ⟨i, e, _⟩ := h; omega))).symm) <| tk_ret (v) (trivial) (.inl rfl) (r1 rfl rfl) (List.Sublist.refl _)
  · obtain ⟨i0, rfl, hi0, hz0, hb0⟩ := hr10.resolve_left (fun h => ht12 h.1)
    refine tk_skip <| tk_then <| tk_seq <| s_r <| q_m rfl rfl <| s_q rfl (y_addN (a := i0) (b := 1) rfl rfl oM) <| q_a rfl rfl <| s_n <| tk_block <| tk_loop (X := Nat × Nat × List Snp) (fun (i, j, m) => m.length = l.length ∧ i < j ∧ j ≤ l.length ∧ m.take i = (l.take j).filter (notS r.s.seq) ∧ m.drop j = l.drop j) (fun (i, j, m) => [(0, v), (1, .func (.func 111) #[] #[PT rb]), (4, .slice none 0 0), (5, IN i), (6, IN j)]) (fun (i, j, m) => [own v m.length (m.flatMap snC) 31 35, cel rb ([I (r.kind), I (r.s.seq), I (r.s.time), Str r.s.note] ++ (r.s.root.map B)) 33]) (fun (i, j, m) => l.length - j) ((i0, i0 + 1, l)) (⟨rfl, by omega, by omega, filt_init hi0 hb0 hz0, rfl⟩) sB ((List.Sublist.refl _)) ?_
    rintro ⟨i, j, m⟩ hI
    try dsimp only at hI ⊢
    have hml := hI.1
    refine tk_ownA (.head _) fun hfm => tk_seq <| s_r <| q_m rfl rfl <| q_m rfl rfl <| s_q rfl (y_lenE rfl hfm.choose_spec rfl) <| s_q rfl (y_lss rfl rfl) <| s_n <| tk_condP rfl (fun ht19 => ?_) (fun ht19 => ?_)
    · have hsh := (l.getD j dSn).h
      have hmj := drop_get hI.2.2.2.2
      refine tk_skip <| tk_then <| tk_seq <| tk_block <| s_r <| q_m rfl rfl <| q_m rfl rfl <| s_q rfl (y_ixE (i := j) (k := 35) rfl rfl hfm.choose_spec lenP kR) <| s_q rfl (y_loadE (i := j) (k := 35) (o := 0) (f := snC) (l := m) (d0 := dSn) (vs := [I ((m.getD j dSn).seq), I ((m.getD j dSn).time), Str ((m.getD j dSn).note)] ++ (((m.getD j dSn).root).map B)) 35 rfl kR (by rw [List.length_append, List.length_map, (m.getD j dSn).h]; rfl) snC_len lenP (snC_all _) (fun w hw => own_rdC (hw.mem (.head _)))) <| tk_re 25 (.agg ([I ((m.getD j dSn).seq), I ((m.getD j dSn).time), Str ((m.getD j dSn).note)] ++ (((m.getD j dSn).root).map B)).toArray) (.agg ([I ((l.getD j dSn).seq), I ((l.getD j dSn).time), Str ((l.getD j dSn).note)] ++ (((l.getD j dSn).root).map B)).toArray) rfl (by rw [hmj]) <| tk_act rfl <| a_allocL (cs := [I 0, I 0, Str []] ++ ((List.replicate 32 0).map B)) kR rfl fun b7 => tk_act rfl <| a_storeW (H1 := []) (vs := [I ((l.getD j dSn).seq), I ((l.getD j dSn).time), Str ((l.getD j dSn).note)] ++ (((l.getD j dSn).root).map B)) 35 rfl rfl kR rfl ⟨lenP, lenP⟩ (List.forall_mem_append.2 ⟨(List.forall_mem_cons.2 ⟨rfl, (List.forall_mem_cons.2 ⟨rfl, (List.forall_mem_cons.2 ⟨rfl, (fun _ h => nomatch h)⟩)⟩)⟩), oneB⟩) <| s_n <| s_r <| q_m rfl rfl <| s_q rfl (y_loadA 35 rfl kR lenP (hcw (.head _))) <| tk_act rfl <| tk_ps [2] rfl <| a_callc [] _ rfl rfl kR rfl (fun w' hw' => sqA_spec (s := (l.getD j dSn)) (rb := rb) (r := r) (St.pre hw')) rfl fun _ _ => s_q rfl ((y_not rfl).cast (notdec _)) <| s_n <| tk_condP rfl (fun ht29 => ?_) (fun ht29 => ?_)
      · exact s_r <| q_m rfl rfl <| q_m rfl rfl <| s_q rfl (y_loadA 35 rfl kR lenP (hcw (mm 1 rfl))) <| s_q rfl (y_ixE (i := i) (k := 35) rfl rfl hfm.choose_spec lenP kR) <| tk_act rfl <| a_storeElt (H1 := [_, _]) (f := snC) (l := m) (e := (l.getD j dSn)) (i := i) (k := 35) rfl rfl kR snC_len dC rfl lenP (List.forall_mem_append.2 ⟨(List.forall_mem_cons.2 ⟨rfl, (List.forall_mem_cons.2 ⟨rfl, (List.forall_mem_cons.2 ⟨rfl, (fun _ h => nomatch h)⟩)⟩)⟩), oneB⟩) <| s_n <| tk_region <| q_m rfl rfl <| s_q rfl (y_addN (a := i) (b := 1) rfl rfl oM) <| q_a rfl rfl <| tk_nil <| tk_in_normal <| tk_then <| tk_region <| q_m rfl rfl <| s_q rfl (y_addN (a := j) (b := 1) rfl rfl oM) <| q_a rfl rfl <| tk_nil <| tk_ps [2] rfl <| tk_again ((i + 1, j + 1, m.set i (l.getD j dSn))) (⟨by rw [List.length_set]; exact hml, by dsimp only; omega, by dsimp only; omega, filt_keep oM oM hI.2.2.2.1 ht29, by dsimp only; rw [set_drop oM]; exact drop_next hI.2.2.2.2⟩) (by dsimp only; omega) sB (.cons_cons _ (.cons_cons _ (List.nil_sublist _)))
      · exact tk_skip <| tk_in_normal <| tk_then <| tk_region <| q_m rfl rfl <| s_q rfl (y_addN (a := j) (b := 1) rfl rfl oM) <| q_a rfl rfl <| tk_nil <| tk_ps [2] rfl <| tk_again ((i, j + 1, m)) (⟨hml, by dsimp only; omega, by dsimp only; omega, filt_skip oM hI.2.2.2.1 (Classical.not_not.1 ht29), drop_next hI.2.2.2.2⟩) (by dsimp only; omega) sB (.cons_cons _ (.cons_cons _ (List.nil_sublist _)))
    · exact tk_exit <| tk_then_exit <| tk_then_exit <| tk_in_hit <| tk_then <| s_r <| q_m rfl rfl <| q_m rfl rfl <| s_q rfl (y_cutW (sz := 35) i rfl rfl hfm.choose_spec kR lenP rfl) <| tk_act rfl <| a_clearCut (H1 := []) (f := snC) (l := m) (i := i) (k := 35) (zc := [I 0, I 0, Str []] ++ ((List.replicate 32 0).map B)) rfl Tryz.underlying37 (fun _ => kR) (by rfl) dC (List.forall_mem_append.2 ⟨(List.forall_mem_cons.2 ⟨rfl, (List.forall_mem_cons.2 ⟨rfl, (List.forall_mem_cons.2 ⟨rfl, (fun _ h => nomatch h)⟩)⟩)⟩), oneB⟩) snC_len rfl lenP <| s_n <| s_r <| q_m rfl rfl <| q_m rfl rfl <| s_q rfl (y_cutE (sz := 35) i rfl rfl hfm.choose_spec kR lenP rfl) <| q_a rfl rfl <| s_n <| tk_retc <| tk_R (H1 := []) rfl (show own (cutR v 0 i) ((m.take i).length) ((m.take i).flatMap snC) 31 35 = own (cutR v 0 i) ((l.filter (notS r.s.seq)).length) ((l.filter (notS r.s.seq)).flatMap snC) 31 35 from ownA_cast (by rw [hI.2.2.2.1, show j = l.length by omega, List.take_length])) <| tk_ret (cutR v 0 i) (trivial) (.inl rfl) (r1 rfl rfl) (List.Sublist.refl _)
theorem conF_spec {v : Value} {l : List Snp} {r : Rec} {rb : Nat} {w : World} (hn : l.length < 1000000) (hh : Pre w [own v l.length (l.flatMap snC) 31 35, cel rb ([I (r.kind), I (r.s.seq), I (r.s.time), Str r.s.note] ++ (r.s.root.map B)) 33]) : Spec Tryz.prog 129 [v, .func (.func 130) #[] #[PT rb]] w [own v l.length (l.flatMap snC) 31 35, cel rb ([I (r.kind), I (r.s.seq), I (r.s.time), Str r.s.note] ++ (r.s.root.map B)) 33] (fun _ : Unit => True) (fun _ => .bool (decide (hasS l r.s.seq))) (fun _ => [own v l.length (l.flatMap snC) 31 35, cel rb ([I (r.kind), I (r.s.seq), I (r.s.time), Str r.s.note] ++ (r.s.root.map B)) 33]) := by
  refine spec_of (n := 9) Tryz.func129 rfl rfl hh.1 hh.2 rfl <| tk_ownA (.head _) fun hfe => ?_
  have hrh := r.s.h
  exact s_r <| q_a rfl rfl <| s_n <| s_r <| q_m rfl rfl <| q_m rfl rfl <| tk_act rfl <| a_callv [] _ rfl kR rfl (fun w' hw' => idxB_spec (v := v) (l := l) (rb := rb) (r := r) lenP (St.pre hw')) rfl fun r7 hr7 => s_q rfl (y_geq rfl rfl) <| q_a rfl rfl <| s_n <| tk_retc <| tk_re 4 (.bool (decide ((0 : Int) ≤ r7))) (.bool (decide (hasS l r.s.seq))) rfl (congrArg Value.bool (by rw [decide_eq_decide]; exact idx_has hr7)) <| tk_ret (()) (trivial) (.inl rfl) (r1 rfl rfl) (List.Sublist.refl _)
theorem lfold_spec {v : Value} {l : List Rec} {w : World} (h1 : Ro (Fs []) w (rdC v l.length (l.flatMap rcC))) (hn : l.length < 1000000) : Spec Tryz.prog 59 [v] w [] (fun _ : Value => True) (fun x => x) (fun x => [ownA snC 35 x (foldR l) 31]) := by
  refine spec_of (n := 28) Tryz.func59 rfl rfl trivial trivial rfl <| s_r <| q_a rfl rfl <| s_n <| s_r <| q_a rfl rfl <| s_n <| tk_seq <| s_r <| q_m rfl rfl <| s_q rfl (y_lenE rfl h1.1 rfl) <| q_m rfl rfl <| s_n <| tk_block <| tk_ownA0 (f := snC) 35 31 <| tk_R (H1 := []) rfl (show own (.slice none 0 0) (([] : List Snp).length) (([] : List Snp).flatMap snC) 31 35 = own (.slice none 0 0) ((foldR (l.take 0)).length) ((foldR (l.take 0)).flatMap snC) 31 35 from ownA_cast rfl) <| tk_loop (X := Nat × Value) (fun (i, vo) => i ≤ l.length) (fun (i, vo) => [(2, .slice none 0 0), (3, vo), (6, v), (7, IN l.length), (8, IN i)]) (fun (i, vo) => [own vo ((foldR (l.take i)).length) ((foldR (l.take i)).flatMap snC) 31 35]) (fun (i, vo) => l.length - i) ((0, .slice none 0 0)) (Nat.zero_le _) sB ((List.Sublist.refl _)) ?_
  rintro ⟨i, vo⟩ hI
  try dsimp only at hI ⊢
  have hfl := foldR_len (l := l.take i)
  have hlt : (l.take i).length = i := by rw [List.length_take]; omega
  refine tk_ownA (.head _) fun hfo => s_r <| s_q rfl (y_lss rfl rfl) <| s_n <| tk_seq <| tk_condP rfl (fun ht9 => ?_) (fun ht9 => ?_)
  · have hrh := (l.getD i dRec).s.h
    refine tk_skip <| tk_then <| tk_seq <| tk_block <| s_r <| s_q rfl (y_ixE (i := i) (k := 36) rfl rfl h1.1 lenP kR) <| s_q rfl (y_loadE (i := i) (k := 36) (o := 0) (f := rcC) (l := l) (d0 := dRec) (vs := [I ((l.getD i dRec).kind), I ((l.getD i dRec).s.seq), I ((l.getD i dRec).s.time), Str ((l.getD i dRec).s.note)] ++ (((l.getD i dRec).s.root).map B)) 36 rfl kR (by rw [List.length_append, List.length_map, (l.getD i dRec).s.h]; rfl) rcC_len lenP (rcC_all _) (fun w hw => Ro.rdC h1 hw)) <| tk_act rfl <| a_allocL (cs := [I 0, I 0, I 0, Str []] ++ ((List.replicate 32 0).map B)) kR rfl fun b5 => tk_act rfl <| a_storeW (H1 := []) (vs := [I ((l.getD i dRec).kind), I ((l.getD i dRec).s.seq), I ((l.getD i dRec).s.time), Str ((l.getD i dRec).s.note)] ++ (((l.getD i dRec).s.root).map B)) 36 rfl rfl kR rfl ⟨lenP, lenP⟩ (List.forall_mem_append.2 ⟨(List.forall_mem_cons.2 ⟨rfl, (List.forall_mem_cons.2 ⟨rfl, (List.forall_mem_cons.2 ⟨rfl, (List.forall_mem_cons.2 ⟨rfl, (fun _ h => nomatch h)⟩)⟩)⟩)⟩), oneB⟩) <| s_n <| s_r <| s_q rfl (y_fld0 (o := 0) rfl kR) <| s_q rfl (y_load rfl rfl (hc (o := 0) (.head _) (rfl))) <| s_n <| tk_block <| s_r <| s_q rfl (y_eql rfl rfl) <| q_a rfl rfl <| s_n <| tk_condP rfl (fun ht14 => ?_) (fun ht14 => ?_)
    · exact tk_region <| q_m rfl rfl <| s_q rfl (y_fldN (o := 0) 1 rfl kR) <| s_q rfl (y_loadA (vs := [I ((l.getD i dRec).s.seq), I ((l.getD i dRec).s.time), Str ((l.getD i dRec).s.note)] ++ (((l.getD i dRec).s.root).map B)) 35 rfl kR lenP (hseg (pre := [I ((l.getD i dRec).kind)]) (post := ([] : List Value)) (.head _) lenP sI)) <| tk_act rfl <| a_slitE (k := 35) (cs := [I ((l.getD i dRec).s.seq), I ((l.getD i dRec).s.time), Str ((l.getD i dRec).s.note)] ++ (((l.getD i dRec).s.root).map B)) rfl EL37 lenP dC rfl fun b19 => tk_act rfl <| a_appE (H1 := [_, _]) (f := snC) (l := foldR (l.take i)) (e := (l.getD i dRec).s) (b := b19) (k := 35) rfl rfl EL37 rfl rfl (.head _) (snC_len _) (List.forall_mem_append.2 ⟨(List.forall_mem_cons.2 ⟨rfl, (List.forall_mem_cons.2 ⟨rfl, (List.forall_mem_cons.2 ⟨rfl, (fun _ h => nomatch h)⟩)⟩)⟩), oneB⟩) lenP lenP fun v20 => tk_ownA (mm 2 rfl) fun hfv20 => q_a rfl rfl <| tk_nil <| tk_in_normal <| tk_in_normal <| tk_then <| tk_region <| s_q rfl (y_addN (a := i) (b := 1) rfl rfl oM) <| q_m rfl rfl <| tk_nil <| tk_R (H1 := [_, _]) rfl (show own v20 (((foldR (l.take i)) ++ [(l.getD i dRec).s]).length) (((foldR (l.take i)) ++ [(l.getD i dRec).s]).flatMap snC) 31 35 = own v20 ((foldR (l.take (i + 1))).length) ((foldR (l.take (i + 1))).flatMap snC) 31 35 from ownA_cast (by rw [foldR_succ oM, step_1 ht14])) <| tk_again ((i + 1, v20)) (by dsimp only; omega) (by dsimp only; omega) sB (.cons _ (.cons _ (List.Sublist.refl _)))
    · refine s_r <| s_q rfl (y_eql rfl rfl) <| q_a rfl rfl <| s_n <| tk_condP rfl (fun ht21 => ?_) (fun ht21 => ?_)
      · exact tk_region <| q_m rfl rfl <| s_q rfl (y_makeFunc (cs := [PT b5]) rfl) <| tk_act rfl <| tk_ps [1] rfl <| a_callv [] _ rfl kR rfl (fun w' hw' => delF_spec (v := vo) (l := foldR (l.take i)) (rb := b5) (r := (l.getD i dRec)) lenP (St.pre hw')) rfl fun v25 _ => tk_ownA (.head _) fun hfv25 => q_a rfl rfl <| tk_nil <| tk_in_normal <| tk_in_normal <| tk_then <| tk_region <| s_q rfl (y_addN (a := i) (b := 1) rfl rfl oM) <| q_m rfl rfl <| tk_nil <| tk_R (H1 := []) rfl (show own v25 (((foldR (l.take i)).filter (notS (l.getD i dRec).s.seq)).length) (((foldR (l.take i)).filter (notS (l.getD i dRec).s.seq)).flatMap snC) 31 35 = own v25 ((foldR (l.take (i + 1))).length) ((foldR (l.take (i + 1))).flatMap snC) 31 35 from ownA_cast (by rw [foldR_succ oM, step_2 ht21])) <| tk_again ((i + 1, v25)) (by dsimp only; omega) (by dsimp only; omega) sB (.cons_cons _ (List.nil_sublist _))
      · exact tk_skip <| tk_in_normal <| tk_in_normal <| tk_then <| tk_region <| s_q rfl (y_addN (a := i) (b := 1) rfl rfl oM) <| q_m rfl rfl <| tk_nil <| tk_R (H1 := [_]) rfl (show own vo ((foldR (l.take i)).length) ((foldR (l.take i)).flatMap snC) 31 35 = own vo ((foldR (l.take (i + 1))).length) ((foldR (l.take (i + 1))).flatMap snC) 31 35 from ownA_cast (by rw [foldR_succ oM, step_0 ht14 ht21])) <| tk_again ((i + 1, vo)) (by dsimp only; omega) (by dsimp only; omega) sB (.cons _ (List.Sublist.refl _))
  · exact tk_exit <| tk_then_exit <| tk_then_exit <| tk_in_hit <| tk_then <| s_r <| q_m rfl rfl <| q_a rfl rfl <| s_n <| tk_retc <| tk_R (H1 := []) rfl (show own vo ((foldR (l.take i)).length) ((foldR (l.take i)).flatMap snC) 31 35 = own vo ((foldR l).length) ((foldR l).flatMap snC) 31 35 from ownA_cast (by rw [show i = l.length by omega, List.take_length])) <| tk_ret (vo) (trivial) (.inl rfl) (r1 rfl rfl) (List.Sublist.refl _)
theorem rfold_spec {v : Value} {l : List Rec} {w : World} (h1 : Ro (Fs []) w (rdC v l.length (l.flatMap rcC))) (hn : l.length < 1000000) : Spec Tryz.prog 22 [v] w [] (fun _ : Value => True) (fun x => x) (fun x => [ownA snC 35 x (foldR l) 31]) := by
  refine spec_of (n := 59) Tryz.func22 rfl rfl trivial trivial rfl <| s_r <| q_a rfl rfl <| s_n <| s_r <| q_a rfl rfl <| s_n <| tk_seq <| s_r <| q_a rfl rfl <| s_n <| tk_block <| tk_ownA0 (f := snC) 35 31 <| tk_R (H1 := []) rfl (show own (.slice none 0 0) (([] : List Snp).length) (([] : List Snp).flatMap snC) 31 35 = own (.slice none 0 0) ((foldR (l.take 0)).length) ((foldR (l.take 0)).flatMap snC) 31 35 from ownA_cast rfl) <| tk_loop (X := Nat × Value) (fun (i, vo) => i ≤ l.length) (fun (i, vo) => [(0, v), (2, .slice none 0 0), (3, vo), (4, IN i)]) (fun (i, vo) => [own vo ((foldR (l.take i)).length) ((foldR (l.take i)).flatMap snC) 31 35]) (fun (i, vo) => l.length - i) ((0, .slice none 0 0)) (Nat.zero_le _) sB ((List.Sublist.refl _)) ?_
  rintro ⟨i, vo⟩ hI
  try dsimp only at hI ⊢
  have hfl := foldR_len (l := l.take i)
  have hlt : (l.take i).length = i := by rw [List.length_take]; omega
  refine tk_ownA (.head _) fun hfo => tk_seq <| s_r <| q_m rfl rfl <| q_m rfl rfl <| s_q rfl (y_lenE rfl h1.1 rfl) <| s_q rfl (y_lss rfl rfl) <| s_n <| tk_condP rfl (fun ht11 => ?_) (fun ht11 => ?_)
  · have hrh := (l.getD i dRec).s.h
    refine tk_skip <| tk_then <| tk_seq <| tk_block <| s_r <| q_m rfl rfl <| q_m rfl rfl <| s_q rfl (y_ixE (i := i) (k := 36) rfl rfl h1.1 lenP kR) <| s_q rfl (y_loadE (i := i) (k := 36) (o := 0) (f := rcC) (l := l) (d0 := dRec) (vs := [I ((l.getD i dRec).kind), I ((l.getD i dRec).s.seq), I ((l.getD i dRec).s.time), Str ((l.getD i dRec).s.note)] ++ (((l.getD i dRec).s.root).map B)) 36 rfl kR (by rw [List.length_append, List.length_map, (l.getD i dRec).s.h]; rfl) rcC_len lenP (rcC_all _) (fun w hw => Ro.rdC h1 hw)) <| tk_act rfl <| a_allocL (cs := [I 0, I 0, I 0, Str []] ++ ((List.replicate 32 0).map B)) kR rfl fun b5 => tk_act rfl <| a_storeW (H1 := []) (vs := [I ((l.getD i dRec).kind), I ((l.getD i dRec).s.seq), I ((l.getD i dRec).s.time), Str ((l.getD i dRec).s.note)] ++ (((l.getD i dRec).s.root).map B)) 36 rfl rfl kR rfl ⟨lenP, lenP⟩ (List.forall_mem_append.2 ⟨(List.forall_mem_cons.2 ⟨rfl, (List.forall_mem_cons.2 ⟨rfl, (List.forall_mem_cons.2 ⟨rfl, (List.forall_mem_cons.2 ⟨rfl, (fun _ h => nomatch h)⟩)⟩)⟩)⟩), oneB⟩) <| s_n <| tk_seq <| s_r <| s_q rfl (y_fld0 (o := 0) rfl kR) <| s_q rfl (y_load rfl rfl (hc (o := 0) (.head _) (rfl))) <| s_q rfl (y_eql rfl rfl) <| s_n <| tk_condP rfl (fun ht20 => ?_) (fun ht20 => ?_)
    · refine tk_region <| q_m rfl rfl <| s_q rfl (y_fldN (o := 0) 1 rfl kR) <| s_q rfl (y_load rfl rfl (hc (o := 1) (.head _) (rfl))) <| s_q rfl (y_fldN (o := 0) 2 rfl kR) <| s_q rfl (y_load rfl rfl (hc (o := 2) (.head _) (rfl))) <| s_q rfl (y_fldN (o := 0) 3 rfl kR) <| s_q rfl (y_load rfl rfl (hc (o := 3) (.head _) (rfl))) <| s_q rfl (y_fldN (o := 0) 4 rfl kR) <| s_q rfl (y_loadA (vs := ((l.getD i dRec).s.root).map B) 32 rfl kR lenP (hseg (pre := [I ((l.getD i dRec).kind), I ((l.getD i dRec).s.seq), I ((l.getD i dRec).s.time), Str ((l.getD i dRec).s.note)]) (post := ([] : List Value)) (.head _) lenP sI)) <| s_q rfl (y_build (v := .agg ([I ((l.getD i dRec).s.seq), I ((l.getD i dRec).s.time), Str ((l.getD i dRec).s.note)] ++ (((l.getD i dRec).s.root).map B)).toArray) (vs := [(0, I ((l.getD i dRec).s.seq)), (1, I ((l.getD i dRec).s.time)), (2, Str (l.getD i dRec).s.note), (3, .agg ((l.getD i dRec).s.root.map B).toArray)]) rfl (run_build (zs := [I 0, I 0, Str []] ++ (List.replicate 32 0).map B) (pl := [(0, 1), (1, 1), (2, 1), (3, 32)]) Tryz.underlying31 (fun _ => kR) (fun _ => kR) (fill_snap (l.getD i dRec).s.h))) <| tk_act rfl <| a_slitE (k := 35) (cs := [I ((l.getD i dRec).s.seq), I ((l.getD i dRec).s.time), Str ((l.getD i dRec).s.note)] ++ (((l.getD i dRec).s.root).map B)) rfl EL37 lenP dC rfl fun b31 => tk_act rfl <| a_appE (H1 := [_, _]) (f := snC) (l := foldR (l.take i)) (e := (l.getD i dRec).s) (b := b31) (k := 35) rfl rfl EL37 rfl rfl (.head _) (snC_len _) (List.forall_mem_append.2 ⟨(List.forall_mem_cons.2 ⟨rfl, (List.forall_mem_cons.2 ⟨rfl, (List.forall_mem_cons.2 ⟨rfl, (fun _ h => nomatch h)⟩)⟩)⟩), oneB⟩) lenP lenP fun v32 => tk_ownA (mm 2 rfl) fun hfv32 => q_a rfl rfl <| s_n <| s_r <| s_q rfl (y_fld0 (o := 0) rfl kR) <| s_q rfl (y_load rfl rfl (hc (o := 0) (mm 1 rfl) (rfl))) <| s_q rfl (y_eql rfl rfl) <| s_n <| tk_condP rfl (fun ht35 => ?_) (fun ht35 => ?_)
      · exfalso; omega
      · exact tk_skip <| tk_in_normal <| tk_then <| tk_region <| q_m rfl rfl <| s_q rfl (y_addN (a := i) (b := 1) rfl rfl oM) <| q_a rfl rfl <| tk_nil <| tk_R (H1 := [_, _]) rfl (show own v32 (((foldR (l.take i)) ++ [(l.getD i dRec).s]).length) (((foldR (l.take i)) ++ [(l.getD i dRec).s]).flatMap snC) 31 35 = own v32 ((foldR (l.take (i + 1))).length) ((foldR (l.take (i + 1))).flatMap snC) 31 35 from ownA_cast (by rw [foldR_succ oM, step_1 ht20])) <| tk_again ((i + 1, v32)) (by dsimp only; omega) (by dsimp only; omega) sB (.cons _ (.cons _ (List.Sublist.refl _)))
    · refine tk_skip <| tk_then <| s_r <| s_q rfl (y_fld0 (o := 0) rfl kR) <| s_q rfl (y_load rfl rfl (hc (o := 0) (.head _) (rfl))) <| s_q rfl (y_eql rfl rfl) <| s_n <| tk_condP rfl (fun ht35 => ?_) (fun ht35 => ?_)
      · refine s_r <| q_a rfl rfl <| s_n <| tk_seq <| s_r <| q_a rfl rfl <| s_n <| tk_block <| tk_ownA0 (f := snC) 35 31 <| tk_R (H1 := []) rfl (show own (.slice none 0 0) (([] : List Snp).length) (([] : List Snp).flatMap snC) 31 35 = own (.slice none 0 0) ((((foldR (l.take i)).take 0).filter (notS (l.getD i dRec).s.seq)).length) ((((foldR (l.take i)).take 0).filter (notS (l.getD i dRec).s.seq)).flatMap snC) 31 35 from ownA_cast rfl) <| tk_loop (X := Nat × Value) (fun (k, vl) => k ≤ (foldR (l.take i)).length) (fun (k, vl) => [(0, v), (2, .slice none 0 0), (3, vo), (4, IN i), (5, PT b5), (6, vl), (7, IN k)]) (fun (k, vl) => [own vl ((((foldR (l.take i)).take k).filter (notS (l.getD i dRec).s.seq)).length) ((((foldR (l.take i)).take k).filter (notS (l.getD i dRec).s.seq)).flatMap snC) 31 35, cel b5 ([I ((l.getD i dRec).kind), I ((l.getD i dRec).s.seq), I ((l.getD i dRec).s.time), Str ((l.getD i dRec).s.note)] ++ (((l.getD i dRec).s.root).map B)) 57, own vo ((foldR (l.take i)).length) ((foldR (l.take i)).flatMap snC) 31 35]) (fun (k, vl) => (foldR (l.take i)).length - k) ((0, .slice none 0 0)) (Nat.zero_le _) sB ((List.Sublist.refl _)) ?_
        rintro ⟨k, vl⟩ hK
        dsimp only at hK ⊢
        have hfk : (((foldR (l.take i)).take k).filter (notS (l.getD i dRec).s.seq)).length ≤ (foldR (l.take i)).length := by have h1 := List.length_filter_le (notS (l.getD i dRec).s.seq) ((foldR (l.take i)).take k); rw [List.length_take] at h1; omega
        refine tk_ownA (.head _) fun hfp => tk_seq <| s_r <| q_m rfl rfl <| q_m rfl rfl <| s_q rfl (y_lenE rfl hfo.choose_spec rfl) <| s_q rfl (y_lss rfl rfl) <| s_n <| tk_condP rfl (fun ht39 => ?_) (fun ht39 => ?_)
        · have hkh := ((foldR (l.take i)).getD k dSn).h
          refine tk_skip <| tk_then <| tk_seq <| tk_block <| tk_seq <| tk_drawH [own vl ((((foldR (l.take i)).take k).filter (notS (l.getD i dRec).s.seq)).length) ((((foldR (l.take i)).take k).filter (notS (l.getD i dRec).s.seq)).flatMap snC) 31 35, cel b5 ([I ((l.getD i dRec).kind), I ((l.getD i dRec).s.seq), I ((l.getD i dRec).s.time), Str ((l.getD i dRec).s.note)] ++ (((l.getD i dRec).s.root).map B)) 57, own vo ((foldR (l.take i)).length) ((foldR (l.take i)).flatMap snC) 31 35] [] kR <| s_x 0 rfl (y_move rfl) <| s_x 1 rfl (y_move rfl) <| s_x 2 rfl (y_ixE (i := k) (k := 35) rfl rfl hfo.choose_spec lenP kR) <| s_x 3 rfl (y_fldE (o := k * 35 + 0) (off := 0) rfl kR) <| s_l 4 rfl (fun _ h => h) (y_loadE1 (i := k) (k := 35) (o := 0) (f := snC) (l := foldR (l.take i)) (d0 := dSn) (u := I (((foldR (l.take i)).getD k dSn).seq)) rfl rfl snC_len lenP rfl (fun w hw => own_rdC (hw.mem (mm 2 rfl)))) <| s_x 5 rfl (y_fldN (o := 0) 1 rfl kR) <| s_l 6 rfl (fun _ h => h) (y_load rfl rfl (hc (o := 1) (mm 1 rfl) (rfl))) <| s_x 7 rfl (y_neq rfl rfl) <| tx_done kR <| tk_then <| tk_condP rfl (fun ht49 => ?_) (fun ht49 => ?_)
          · exact tk_region <| q_m rfl rfl <| q_m rfl rfl <| q_m rfl rfl <| s_q rfl (y_ixE (i := k) (k := 35) rfl rfl hfo.choose_spec lenP kR) <| s_q rfl (y_loadE (i := k) (k := 35) (o := 0) (f := snC) (l := foldR (l.take i)) (d0 := dSn) (vs := [I (((foldR (l.take i)).getD k dSn).seq), I (((foldR (l.take i)).getD k dSn).time), Str (((foldR (l.take i)).getD k dSn).note)] ++ ((((foldR (l.take i)).getD k dSn).root).map B)) 35 rfl kR (by rw [List.length_append, List.length_map, ((foldR (l.take i)).getD k dSn).h]; rfl) snC_len lenP (snC_all _) (fun w hw => own_rdC (hw.mem (mm 2 rfl)))) <| tk_act rfl <| a_slitE (k := 35) (cs := [I (((foldR (l.take i)).getD k dSn).seq), I (((foldR (l.take i)).getD k dSn).time), Str (((foldR (l.take i)).getD k dSn).note)] ++ ((((foldR (l.take i)).getD k dSn).root).map B)) rfl EL37 lenP dC rfl fun b55 => tk_act rfl <| a_appE (H1 := [_]) (f := snC) (l := ((foldR (l.take i)).take k).filter (notS (l.getD i dRec).s.seq)) (e := ((foldR (l.take i)).getD k dSn)) (b := b55) (k := 35) rfl rfl EL37 rfl rfl (.head _) (snC_len _) (List.forall_mem_append.2 ⟨(List.forall_mem_cons.2 ⟨rfl, (List.forall_mem_cons.2 ⟨rfl, (List.forall_mem_cons.2 ⟨rfl, (fun _ h => nomatch h)⟩)⟩)⟩), oneB⟩) lenP lenP fun v56 => tk_ownA (mm 1 rfl) fun hfv56 => q_a rfl rfl <| tk_nil <| tk_in_normal <| tk_then <| tk_region <| q_m rfl rfl <| s_q rfl (y_addN (a := k) (b := 1) rfl rfl oM) <| q_a rfl rfl <| tk_nil <| tk_R (H1 := [_]) rfl (show own v56 (((((foldR (l.take i)).take k).filter (notS (l.getD i dRec).s.seq)) ++ [((foldR (l.take i)).getD k dSn)]).length) (((((foldR (l.take i)).take k).filter (notS (l.getD i dRec).s.seq)) ++ [((foldR (l.take i)).getD k dSn)]).flatMap snC) 31 35 = own v56 ((((foldR (l.take i)).take (k + 1)).filter (notS (l.getD i dRec).s.seq)).length) ((((foldR (l.take i)).take (k + 1)).filter (notS (l.getD i dRec).s.seq)).flatMap snC) 31 35 from ownA_cast (by rw [take_snocL (d := dSn) (show k < (foldR (l.take i)).length by omega), List.filter_append, filt_1 ht49])) <| tk_again ((k + 1, v56)) (by dsimp only; omega) (by dsimp only; omega) sB (.cons _ (List.Sublist.refl _))
          · exact tk_skip <| tk_in_normal <| tk_then <| tk_region <| q_m rfl rfl <| s_q rfl (y_addN (a := k) (b := 1) rfl rfl oM) <| q_a rfl rfl <| tk_nil <| tk_R (H1 := []) rfl (show own vl ((((foldR (l.take i)).take k).filter (notS (l.getD i dRec).s.seq)).length) ((((foldR (l.take i)).take k).filter (notS (l.getD i dRec).s.seq)).flatMap snC) 31 35 = own vl ((((foldR (l.take i)).take (k + 1)).filter (notS (l.getD i dRec).s.seq)).length) ((((foldR (l.take i)).take (k + 1)).filter (notS (l.getD i dRec).s.seq)).flatMap snC) 31 35 from ownA_cast (by rw [take_snocL (d := dSn) (show k < (foldR (l.take i)).length by omega), List.filter_append, filt_0 (Classical.not_not.1 ht49), List.append_nil])) <| tk_again ((k + 1, vl)) (by dsimp only; omega) (by dsimp only; omega) sB (List.Sublist.refl _)
        · exact tk_exit <| tk_then_exit <| tk_then_exit <| tk_in_hit <| tk_then <| tk_region <| q_m rfl rfl <| q_a rfl rfl <| tk_nil <| tk_in_normal <| tk_then <| tk_region <| q_m rfl rfl <| s_q rfl (y_addN (a := i) (b := 1) rfl rfl oM) <| q_a rfl rfl <| tk_nil <| tk_drop (.cons_cons _ (.cons_cons _ (List.nil_sublist _))) <| tk_R (H1 := []) rfl (show own vl ((((foldR (l.take i)).take k).filter (notS (l.getD i dRec).s.seq)).length) ((((foldR (l.take i)).take k).filter (notS (l.getD i dRec).s.seq)).flatMap snC) 31 35 = own vl ((foldR (l.take (i + 1))).length) ((foldR (l.take (i + 1))).flatMap snC) 31 35 from ownA_cast (by rw [foldR_succ oM, step_2 ht35, show k = (foldR (l.take i)).length by omega, List.take_length])) <| tk_again ((i + 1, vl)) (by dsimp only; omega) (by dsimp only; omega) sB (.cons_cons _ (List.nil_sublist _))
      · exact tk_skip <| tk_in_normal <| tk_then <| tk_region <| q_m rfl rfl <| s_q rfl (y_addN (a := i) (b := 1) rfl rfl oM) <| q_a rfl rfl <| tk_nil <| tk_R (H1 := [_]) rfl (show own vo ((foldR (l.take i)).length) ((foldR (l.take i)).flatMap snC) 31 35 = own vo ((foldR (l.take (i + 1))).length) ((foldR (l.take (i + 1))).flatMap snC) 31 35 from ownA_cast (by rw [foldR_succ oM, step_0 ht20 ht35])) <| tk_again ((i + 1, vo)) (by dsimp only; omega) (by dsimp only; omega) sB (.cons _ (List.Sublist.refl _))
  · exact tk_exit <| tk_then_exit <| tk_then_exit <| tk_in_hit <| tk_then <| s_r <| q_m rfl rfl <| q_a rfl rfl <| s_n <| tk_retc <| tk_R (H1 := []) rfl (show own vo ((foldR (l.take i)).length) ((foldR (l.take i)).flatMap snC) 31 35 = own vo ((foldR l).length) ((foldR l).flatMap snC) 31 35 from ownA_cast (by rw [show i = l.length by omega, List.take_length])) <| tk_ret (vo) (trivial) (.inl rfl) (r1 rfl rfl) (List.Sublist.refl _)
theorem to18_spec {r : Rec} {w : World} : Spec Tryz.prog 17 [.agg ([I (r.kind), I (r.s.seq), I (r.s.time), Str r.s.note] ++ (r.s.root.map B)).toArray] w [] (fun _ : Unit => True) (fun _ => .agg ([I (r.kind), I (r.s.seq), I (r.s.time), Str r.s.note] ++ (r.s.root.map B)).toArray) (fun _ => []) := by
  refine spec_of (n := 15) Tryz.func17 rfl rfl trivial trivial rfl ?_
  have hrh := r.s.h
  exact s_r <| tk_act rfl <| a_boxL (cs := [I (r.kind), I (r.s.seq), I (r.s.time), Str r.s.note] ++ (r.s.root.map B)) rfl rfl fun b1 => tk_act rfl <| a_allocL (cs := [I 0, I 0, I 0, Str []] ++ ((List.replicate 32 0).map B)) kR rfl fun b2 => s_n <| s_r <| s_q rfl (y_fld0 (o := 0) rfl kR) <| s_q rfl (y_load rfl rfl (hc (o := 0) (mm 1 rfl) (rfl))) <| s_q rfl (y_fldN (o := 0) 1 rfl kR) <| s_q rfl (y_load rfl rfl (hc (o := 1) (mm 1 rfl) (rfl))) <| s_q rfl (y_fldN (o := 0) 2 rfl kR) <| s_q rfl (y_load rfl rfl (hc (o := 2) (mm 1 rfl) (rfl))) <| s_q rfl (y_fldN (o := 0) 3 rfl kR) <| s_q rfl (y_load rfl rfl (hc (o := 3) (mm 1 rfl) (rfl))) <| s_q rfl (y_fldN (o := 0) 4 rfl kR) <| s_q rfl (y_loadA (vs := r.s.root.map B) 32 rfl kR (by simp [r.s.h]) (hseg (pre := [I (r.kind), I (r.s.seq), I (r.s.time), Str r.s.note]) (post := ([] : List Value)) (mm 1 rfl) (by simp [r.s.h]) sI)) <| s_q rfl (y_build (v := .agg ([I (r.s.seq), I (r.s.time), Str r.s.note] ++ (r.s.root.map B)).toArray) (vs := [(0, I (r.s.seq)), (1, I (r.s.time)), (2, Str r.s.note), (3, .agg (r.s.root.map B).toArray)]) rfl (run_build (zs := [I 0, I 0, Str []] ++ (List.replicate 32 0).map B) (pl := [(0, 1), (1, 1), (2, 1), (3, 32)]) Tryz.underlying31 (fun _ => kR) (fun _ => kR) (fill_snap r.s.h))) <| s_q rfl (y_build (v := .agg ([I (r.kind), I (r.s.seq), I (r.s.time), Str r.s.note] ++ (r.s.root.map B)).toArray) (vs := [(0, I (r.kind)), (1, .agg ([I (r.s.seq), I (r.s.time), Str r.s.note] ++ (r.s.root.map B)).toArray)]) rfl (run_build (zs := [I 0, I 0, I 0, Str []] ++ (List.replicate 32 0).map B) (pl := [(0, 1), (1, 35)]) Tryz.underlying33 (fun _ => kR) (fun _ => kR) (fill_rec (s := r.s)))) <| tk_act rfl <| a_storeW (H1 := []) (vs := [I (r.kind), I (r.s.seq), I (r.s.time), Str r.s.note] ++ (r.s.root.map B)) 36 rfl rfl kR rfl ⟨(by simp [r.s.h]), (by simp [r.s.h])⟩ (List.forall_mem_append.2 ⟨(List.forall_mem_cons.2 ⟨rfl, (List.forall_mem_cons.2 ⟨rfl, (List.forall_mem_cons.2 ⟨rfl, (List.forall_mem_cons.2 ⟨rfl, (fun _ h => nomatch h)⟩)⟩)⟩)⟩), oneB⟩) <| s_n <| tk_retc <| tk_ret (()) (trivial) (.inl rfl) (rc (vs := [I (r.kind), I (r.s.seq), I (r.s.time), Str r.s.note] ++ (r.s.root.map B)) rfl rfl (by simp [r.s.h]; kernel_rfl) (hcw (.head _))) (List.nil_sublist _)
end Go.Proofs.YtnhpghhibcdklaaGreatDoor
set_option linter.unusedSimpArgs false
set_option linter.unusedVariables false
namespace Go.Proofs.YtnhpghhibcdklaaGreatDoor
open Go
/-- an object as it lies in memory -/
structure Ob where
  name : List UInt8
  v : Value
  b : List UInt8
  sure : Bool
def dOb : Ob := ⟨[], .slice none 0 0, [], false⟩
def obV (o : Ob) : Value := .agg [o.v, .bool o.sure].toArray
def nameTo (o : Ob) (n : List UInt8) : Ob := ⟨n, o.v, o.b, o.sure⟩
def kvO (l : List Ob) : KV := l.map (fun o => (o.name, obV o))
def hasO (l : List Ob) (k : List UInt8) : Prop := k ∈ l.map Ob.name
instance (l : List Ob) (k : List UInt8) : Decidable (hasO l k) := by unfold hasO; infer_instance
def lkO (l : List Ob) (k : List UInt8) : Ob := (l.find? (fun o => decide (o.name = k))).getD dOb
def delO (l : List Ob) (k : List UInt8) : List Ob := l.filter (fun o => !decide (o.name = k))
def syncO (l : List Ob) (k : List UInt8) : List Ob := l.map (fun o => if o.name = k then { o with sure := true } else o)
def sumO (l : List Ob) : Nat := (l.map (fun o => o.b.length)).sum
theorem kvO_len {l : List Ob} : (kvO l).length = l.length := by simp [kvO]
theorem kvO_find {l : List Ob} {k : List UInt8} : getS (kvO l) k = (l.find? (fun o => decide (o.name = k))).map obV := by
  unfold getS kvO
  rw [List.find?_map, Option.map_map]; rfl
theorem kvO_get {l : List Ob} {k : List UInt8} : (getS (kvO l) k).getD (.agg [Value.slice none 0 0, .bool false].toArray) = obV (lkO l k) := by
  rw [kvO_find, lkO]
  cases l.find? (fun o => decide (o.name = k)) <;> rfl
theorem kvO_some {l : List Ob} {k : List UInt8} : (getS (kvO l) k).isSome = decide (hasO l k) := by
  rw [kvO_find, Option.isSome_map, Bool.eq_iff_iff, List.find?_isSome]
  simp [hasO]
theorem kvO_ok {l : List Ob} {k : List UInt8} : Value.tuple #[(getS (kvO l) k).getD (.agg [Value.slice none 0 0, .bool false].toArray), .bool (getS (kvO l) k).isSome] = Value.tuple #[obV (lkO l k), .bool (decide (hasO l k))] := by rw [kvO_get, kvO_some]
theorem lkO_name {l : List Ob} {k : List UInt8} (h : hasO l k) : (lkO l k).name = k ∧ lkO l k ∈ l := by
  unfold lkO
  cases hf : l.find? (fun o => decide (o.name = k)) with
  | none =>
    obtain ⟨o, ho, e⟩ := List.mem_map.1 h
    have := List.find?_eq_none.1 hf o ho
    simp [e] at this
  | some o => exact ⟨by simpa using List.find?_some hf, List.mem_of_find?_eq_some hf⟩
theorem kvO_new {l : List Ob} {o : Ob} (h : ¬ hasO l o.name) : setS (kvO l) o.name (obV o) = kvO (l ++ [o]) := by
  rw [setS, kvO_some, decide_eq_false h]; simp [kvO]
theorem kvO_del {l : List Ob} {k : List UInt8} : delS (kvO l) k = kvO (delO l k) := by
  unfold delS kvO delO
  rw [List.filter_map]; rfl
theorem one_name {l : List Ob} (hn : (l.map Ob.name).Nodup) {a b : Ob} (ha : a ∈ l) (hb : b ∈ l) (h : a.name = b.name) : a = b := by
  induction l with
  | nil => cases ha
  | cons x l ih =>
    rw [List.map_cons, List.nodup_cons] at hn
    rcases List.mem_cons.1 ha with rfl | ha <;> rcases List.mem_cons.1 hb with rfl | hb
    · rfl
    · exact (hn.1 (by rw [h]; exact List.mem_map.2 ⟨b, ‹b ∈ l›, rfl⟩)).elim
    · exact (hn.1 (by rw [← h]; exact List.mem_map.2 ⟨a, ‹a ∈ l›, rfl⟩)).elim
    · exact ih hn.2 ‹a ∈ l› ‹b ∈ l›
theorem kvO_sync {l : List Ob} {k : List UInt8} (hn : (l.map Ob.name).Nodup) (h : hasO l k) : setS (kvO l) k (obV { lkO l k with sure := true }) = kvO (syncO l k) := by
  rw [setS, kvO_some, decide_eq_true h, if_pos rfl]
  unfold putS kvO syncO
  rw [List.map_map, List.map_map]
  refine List.map_congr_left (fun o ho => ?_)
  simp only [Function.comp]
  by_cases e : o.name = k
  · rw [if_pos e, if_pos e]
    have : lkO l k = o := one_name hn (lkO_name h).2 ho ((lkO_name h).1.trans e.symm)
    rw [this, e]
  · rw [if_neg e, if_neg e]
theorem sync_names {l : List Ob} {k : List UInt8} : (syncO l k).map Ob.name = l.map Ob.name := by
  unfold syncO
  rw [List.map_map]
  refine List.map_congr_left (fun o _ => ?_)
  simp only [Function.comp]
  split <;> rfl
def obR (T : TypeId) (o : Ob) : Res := ownB o.v o.b T
theorem sync_bag {T : TypeId} {l : List Ob} {k : List UInt8} : (syncO l k).map (obR T) = l.map (obR T) := by
  unfold syncO
  rw [List.map_map]
  refine List.map_congr_left (fun o _ => ?_)
  simp only [Function.comp]
  split <;> rfl
theorem del_has {l : List Ob} {k n : List UInt8} : hasO (delO l k) n ↔ hasO l n ∧ n ≠ k := by
  unfold hasO delO
  constructor
  · intro h
    obtain ⟨o, ho, rfl⟩ := List.mem_map.1 h
    have := List.mem_filter.1 ho
    exact ⟨List.mem_map.2 ⟨o, this.1, rfl⟩, by simpa using this.2⟩
  · rintro ⟨h, hne⟩
    obtain ⟨o, ho, rfl⟩ := List.mem_map.1 h
    exact List.mem_map.2 ⟨o, List.mem_filter.2 ⟨ho, by simpa using hne⟩, rfl⟩
theorem del_nodup {l : List Ob} {k : List UInt8} (h : (l.map Ob.name).Nodup) : ((delO l k).map Ob.name).Nodup := h.sublist (List.Sublist.map _ List.filter_sublist)
theorem add_nodup {l : List Ob} {o : Ob} (h : (l.map Ob.name).Nodup) (hn : ¬ hasO l o.name) : ((l ++ [o]).map Ob.name).Nodup := by
  rw [List.map_append, List.nodup_append]
  refine ⟨h, by simp, fun a ha b hb e => ?_⟩
  simp at hb
  exact hn (by unfold hasO; rw [← hb, ← e]; exact ha)
theorem del_perm {l : List Ob} {k : List UInt8} (hn : (l.map Ob.name).Nodup) (h : hasO l k) : l.Perm (delO l k ++ [lkO l k]) := by
  induction l with
  | nil => exact absurd h (by simp [hasO])
  | cons x l ih =>
    have hn0 := hn
    rw [List.map_cons, List.nodup_cons] at hn
    by_cases e : x.name = k
    · have hl : lkO (x :: l) k = x := by simp [lkO, e]
      have hd : delO (x :: l) k = l := by
        unfold delO
        rw [List.filter_cons, if_neg (by simp [e])]
        exact List.filter_eq_self.2 (fun o ho => by
          have : o.name ≠ k := fun e2 => hn.1 (by rw [e, ← e2]; exact List.mem_map.2 ⟨o, ho, rfl⟩)
          simp [this])
      rw [hl, hd]
      exact List.perm_append_comm (l₁ := [x]) (l₂ := l)
    · have hl : lkO (x :: l) k = lkO l k := by simp [lkO, e]
      have hd : delO (x :: l) k = x :: delO l k := by simp [delO, e]
      have h2 : hasO l k := by
        unfold hasO at h ⊢
        rw [List.map_cons, List.mem_cons] at h
        exact h.resolve_left (fun h => e h.symm)
      rw [hl, hd]
      exact (ih hn.2 h2).cons x
/-! ### what has come of a range -/
def VO (l vs : List Ob) : Prop := ∃ rest, (vs ++ rest).Perm l
theorem vo_0 {l : List Ob} : VO l [] := ⟨l, List.Perm.refl _⟩
theorem kvO_app {a b : List Ob} : kvO (a ++ b) = kvO a ++ kvO b := by simp [kvO]
theorem vo_step {l vs : List Ob} {p : List UInt8 × Value} {rest : KV} (hv : VO l vs) (h : (kvO vs ++ p :: rest).Perm (kvO l)) : ∃ o ∈ l, p = (o.name, obV o) ∧ VO l (vs ++ [o]) := by
  obtain ⟨r0, hr⟩ := hv
  have h1 : (kvO vs ++ kvO r0).Perm (kvO l) := by rw [← kvO_app]; exact hr.map _
  have h2 : (p :: rest).Perm (kvO r0) := (List.perm_append_left_iff _).1 (h.trans h1.symm)
  have h3 : p ∈ kvO r0 := h2.subset (List.mem_cons_self ..)
  obtain ⟨o, ho, e⟩ := List.mem_map.1 h3
  obtain ⟨s, t, rfl⟩ := List.append_of_mem ho
  refine ⟨o, hr.subset (List.mem_append_right _ ho), e.symm, s ++ t, ?_⟩
  refine List.Perm.trans ?_ hr
  rw [List.append_assoc]
  exact List.Perm.append_left vs ((List.perm_middle (a := o) (l₁ := s) (l₂ := t)).symm)
theorem vo_end {l vs : List Ob} (hv : VO l vs) (h : (kvO vs).Perm (kvO l)) : vs.Perm l := by
  obtain ⟨r0, hr⟩ := hv
  have h1 := h.length_eq
  have h2 := hr.length_eq
  rw [kvO_len, kvO_len] at h1
  rw [List.length_append] at h2
  have : r0 = [] := List.eq_nil_of_length_eq_zero (by omega)
  subst this
  rwa [List.append_nil] at hr
theorem sumO_perm {a b : List Ob} (h : a.Perm b) : sumO a = sumO b := by
  unfold sumO
  exact (h.map _).sum_nat
theorem sumO_snoc {a : List Ob} {o : Ob} : sumO (a ++ [o]) = sumO a + o.b.length := by simp [sumO]
theorem sumO_le {l vs : List Ob} (h : VO l vs) : sumO vs ≤ sumO l := by
  obtain ⟨r, hr⟩ := h
  rw [← sumO_perm hr]
  simp [sumO]
/-! ### the store -/
structure Sh where
  obs : List Ob
  left : Int
  off : Bool
  made : Int
  room : Int
/-- the same with other objects -/
def Sh.obsTo (s : Sh) (l : List Ob) : Sh := { s with obs := l }
def Sh.cells (s : Sh) (mb : Nat) : List Value := [.map (some mb), I s.left, .bool s.off, I s.made, I s.room]
structure ShOk (s : Sh) : Prop where
  nodup : (s.obs.map Ob.name).Nodup
  left : -1 ≤ s.left ∧ s.left < 4611686018427387904
  made : 0 ≤ s.made ∧ s.made < 4611686018427387904
  room : 0 ≤ s.room ∧ s.room < 4611686018427387904
  sum : sumO s.obs < 4611686018427387904
  len : s.obs.length < 1000000
  names : ∀ o ∈ s.obs, o.name.length < 9223372036854775808
  bytes : ∀ o ∈ s.obs, o.b.length < 4294967296
def Sh.spend (s : Sh) : Sh × Nat := if s.off = true ∨ s.left = 0 then ({ s with off := true }, 9) else ({ s with left := if 0 < s.left then s.left - 1 else s.left, made := s.made + 1 }, 0)
def Sh.change (s : Sh) (code : Nat) (d : Sh → Sh) : Sh × Nat := if s.off = true then (s, 9) else if ¬ code = 0 then (s, code) else if ¬ s.spend.2 = 0 then s.spend else (d s.spend.1, 0)
theorem spend_off {s : Sh} (h : s.off = true ∨ s.left = 0) : s.spend = ({ s with off := true }, 9) := by rw [Sh.spend, if_pos h]
theorem spend_pos {s : Sh} (h1 : ¬ s.off = true) (h : 0 < s.left) : s.spend = ({ s with left := s.left - 1, made := s.made + 1 }, 0) := by
  rw [Sh.spend, if_neg (fun q => q.elim h1 (by omega)), if_pos h]
theorem spend_neg {s : Sh} (h1 : ¬ s.off = true) (h0 : ¬ s.left = 0) (h : ¬ 0 < s.left) : s.spend = ({ s with made := s.made + 1 }, 0) := by
  rw [Sh.spend, if_neg (fun q => q.elim h1 h0), if_neg h]
theorem spend_obs {s : Sh} : s.spend.1.obs = s.obs ∧ s.spend.1.room = s.room := by
  unfold Sh.spend; split <;> exact ⟨rfl, rfl⟩
theorem change_off {s : Sh} {c : Nat} {d : Sh → Sh} (h : s.off = true) : s.change c d = (s, 9) := by rw [Sh.change, if_pos h]
theorem change_no {s : Sh} {c : Nat} {d : Sh → Sh} (h : ¬ s.off = true) (hc : ¬ c = 0) : s.change c d = (s, c) := by rw [Sh.change, if_neg h, if_pos hc]
theorem change_sp {s : Sh} {c : Nat} {d : Sh → Sh} (h : ¬ s.off = true) (hc : c = 0) (hs : ¬ s.spend.2 = 0) : s.change c d = s.spend := by rw [Sh.change, if_neg h, if_neg (fun q => q hc), if_pos hs]
theorem change_ok {s : Sh} {c : Nat} {d : Sh → Sh} (h : ¬ s.off = true) (hc : c = 0) (hs : s.spend.2 = 0) : s.change c d = (d s.spend.1, 0) := by rw [Sh.change, if_neg h, if_neg (fun q => q hc), if_neg (fun q => q hs)]
def putC (s : Sh) (name b : List UInt8) : Nat := if ¬ isNm name then 5 else if hasO s.obs name then 7 else if 1048576 < b.length then 4 else if s.room - (sumO s.obs : Int) < (b.length : Int) ∨ 2000 ≤ s.obs.length then 8 else 0
theorem putC_ok {s : Sh} {nm b : List UInt8} (h : putC s nm b = 0) : isNm nm ∧ ¬ hasO s.obs nm ∧ b.length ≤ 1048576 := by
  unfold putC at h
  split at h
  · cases h
  split at h
  · cases h
  split at h
  · cases h
  next h1 h2 h3 => exact ⟨Classical.not_not.1 h1, h2, by omega⟩
def Sh.put (s : Sh) (name : List UInt8) (v : Value) (b : List UInt8) : Sh × Nat := s.change (putC s name b) (fun s => s.obsTo (s.obs ++ [⟨name, v, b, false⟩]))
def renC (s : Sh) (a b : List UInt8) : Nat := if ¬ isNm b then 5 else if ¬ hasO s.obs a then 6 else if hasO s.obs b ∧ ¬ a = b then 7 else 0
theorem renC_ok {s : Sh} {a b : List UInt8} (h : renC s a b = 0) : isNm b ∧ hasO s.obs a ∧ (hasO s.obs b → a = b) := by
  unfold renC at h
  split at h
  · cases h
  split at h
  · cases h
  split at h
  · cases h
  next h1 h2 h3 => exact ⟨Classical.not_not.1 h1, Classical.not_not.1 h2, fun hb => Classical.not_not.1 fun hn => h3 ⟨hb, hn⟩⟩
def Sh.ren (s : Sh) (a b : List UInt8) : Sh × Nat := s.change (renC s a b) (fun s => s.obsTo (delO s.obs a ++ [nameTo (lkO s.obs a) b]))
def delC (s : Sh) (a : List UInt8) : Nat := if ¬ hasO s.obs a then 6 else 0
def Sh.del (s : Sh) (a : List UInt8) : Sh × Nat := s.change (delC s a) (fun s => s.obsTo (delO s.obs a))
def Sh.nudge (s : Sh) : Sh × Nat := s.change 0 id
def Sh.sync1 (s : Sh) (a : List UInt8) : Sh × Nat := if ¬ s.nudge.2 = 0 then s.nudge else if ¬ hasO s.nudge.1.obs a then (s.nudge.1, 6) else (s.nudge.1.obsTo (syncO s.nudge.1.obs a), 0)
theorem nudge_obs {s : Sh} : s.nudge.1.obs = s.obs ∧ s.nudge.1.room = s.room := by
  unfold Sh.nudge Sh.change
  split
  · exact ⟨rfl, rfl⟩
  split
  · exact ⟨rfl, rfl⟩
  split
  · exact spend_obs
  · exact spend_obs
theorem sync1_no {s : Sh} {a : List UInt8} (h : ¬ s.nudge.2 = 0) : s.sync1 a = s.nudge := by rw [Sh.sync1, if_pos h]
theorem sync1_miss {s : Sh} {a : List UInt8} (h : s.nudge.2 = 0) (h2 : ¬ hasO s.nudge.1.obs a) : s.sync1 a = (s.nudge.1, 6) := by rw [Sh.sync1, if_neg (fun q => q h), if_pos h2]
theorem sync1_ok {s : Sh} {a : List UInt8} (h : s.nudge.2 = 0) (h2 : hasO s.nudge.1.obs a) : s.sync1 a = (s.nudge.1.obsTo (syncO s.nudge.1.obs a), 0) := by rw [Sh.sync1, if_neg (fun q => q h), if_neg (fun q => q h2)]
/-- an object's bytes -/
def Sh.get (s : Sh) (a : List UInt8) : Nat × List UInt8 := if s.off = true then (9, []) else if ¬ hasO s.obs a then (6, []) else (0, (lkO s.obs a).b)
theorem lk_one {l : List Ob} (h : ∀ o ∈ l, ∃ w0, RdS w0 o.v (o.b.map B)) (k : List UInt8) : (lkO l k).v.oneCell' = true := by
  unfold lkO
  cases hf : l.find? (fun o => decide (o.name = k)) with
  | none => rfl
  | some o => exact (h o (List.mem_of_find?_eq_some hf)).choose_spec.one
end Go.Proofs.YtnhpghhibcdklaaGreatDoor
set_option linter.unusedSimpArgs false
set_option linter.unusedVariables false
namespace Go.Proofs.YtnhpghhibcdklaaGreatDoor
open Go
structure ShAt (s : Sh) (k : Int) : Prop where
  nodup : (s.obs.map Ob.name).Nodup
  left : -1 ≤ s.left ∧ s.left < 4611686018427387904
  made : 0 ≤ s.made ∧ s.made ≤ k
  room : 0 ≤ s.room ∧ s.room ≤ 1073741824
  sum : (sumO s.obs : Int) ≤ s.room
  len : s.obs.length ≤ 2000
  names : ∀ o ∈ s.obs, isNm o.name
  bytes : ∀ o ∈ s.obs, o.b.length ≤ 1048576
theorem ShAt.ok {s : Sh} {k : Int} (h : ShAt s k) (hk : k < 4611686018427387904) : ShOk s :=
  ⟨h.nodup, h.left, ⟨h.made.1, by have := h.made.2; omega⟩, ⟨h.room.1, by have := h.room.2; omega⟩, by have := h.sum; have := h.room.2; omega, by have := h.len; omega, fun o ho => by have := (h.names o ho).2.2; omega, fun o ho => by have := h.bytes o ho; omega⟩
theorem ShAt.mono {s : Sh} {k j : Int} (h : ShAt s k) (hk : k ≤ j) : ShAt s j := ⟨h.nodup, h.left, ⟨h.made.1, by have := h.made.2; omega⟩, h.room, h.sum, h.len, h.names, h.bytes⟩
theorem at_spend {s : Sh} {k : Int} (h : ShAt s k) : ShAt s.spend.1 (k + 1) := by
  unfold Sh.spend
  split
  · exact ⟨h.nodup, h.left, ⟨h.made.1, by have := h.made.2; dsimp only; omega⟩, h.room, h.sum, h.len, h.names, h.bytes⟩
  · have h1 := h.left; have h2 := h.made
    exact ⟨h.nodup, by dsimp only; split <;> omega, by dsimp only; omega, h.room, h.sum, h.len, h.names, h.bytes⟩
theorem at_obs {t : Sh} {k : Int} {l : List Ob} (h : ShAt t k) (h1 : (l.map Ob.name).Nodup) (h2 : (sumO l : Int) ≤ t.room) (h3 : l.length ≤ 2000) (h4 : ∀ o ∈ l, isNm o.name) (h5 : ∀ o ∈ l, o.b.length ≤ 1048576) : ShAt (t.obsTo l) k := ⟨h1, h.left, h.made, h.room, h2, h3, h4, h5⟩
theorem at_change {s : Sh} {k : Int} {c : Nat} {d : Sh → Sh} (h : ShAt s k) (hd : c = 0 → ∀ t : Sh, t.obs = s.obs → t.room = s.room → ShAt t (k + 1) → ShAt (d t) (k + 1)) : ShAt (s.change c d).1 (k + 1) := by
  unfold Sh.change
  split
  · exact h.mono (by omega)
  split
  · exact h.mono (by omega)
  split
  · exact at_spend h
  · next h1 h2 h3 => exact hd (Classical.not_not.1 h2) _ spend_obs.1 spend_obs.2 (at_spend h)
theorem at_nudge {s : Sh} {k : Int} (h : ShAt s k) : ShAt s.nudge.1 (k + 1) := at_change h (fun _ _ _ _ h => h)
theorem sumO_del {l : List Ob} {k : List UInt8} : sumO (delO l k) ≤ sumO l := by
  unfold sumO delO
  induction l with
  | nil => simp
  | cons o l ih =>
    rw [List.filter_cons]
    split
    · simp only [List.map_cons, List.sum_cons]; omega
    · simp only [List.map_cons, List.sum_cons]; omega
theorem at_del {s : Sh} {k : Int} {a : List UInt8} (h : ShAt s k) : ShAt (s.del a).1 (k + 1) := at_change h (fun _ t ho hr ht => at_obs ht (by rw [ho]; exact del_nodup h.nodup) (by have := sumO_del (l := t.obs) (k := a); have := ht.sum; omega)
  (by have : (delO t.obs a).length ≤ t.obs.length := List.length_filter_le _ _; have := ht.len; omega) (fun o hm => ht.names o (List.mem_filter.1 hm).1) (fun o hm => ht.bytes o (List.mem_filter.1 hm).1))
theorem at_put {s : Sh} {k : Int} {nm b : List UInt8} {v : Value} (h : ShAt s k) : ShAt (s.put nm v b).1 (k + 1) := at_change h (fun hc t ho hr ht => by
  obtain ⟨h1, h2, h3⟩ := putC_ok hc
  have h4 : ¬ (s.room - (sumO s.obs : Int) < (b.length : Int) ∨ 2000 ≤ s.obs.length) := fun q => by
    rw [putC, if_neg (fun q => q h1), if_neg h2, if_neg (by omega), if_pos q] at hc; cases hc
  rw [not_or] at h4
  refine at_obs ht (by rw [ho]; exact add_nodup h.nodup h2) (by rw [ho, sumO_snoc, hr]; dsimp only; omega) (by rw [ho, List.length_append]; simp; omega) (fun o hm => ?_) (fun o hm => ?_)
  · rcases List.mem_append.1 hm with hm | hm
    · exact ht.names o hm
    · rw [List.mem_singleton.1 hm]; exact h1
  · rcases List.mem_append.1 hm with hm | hm
    · exact ht.bytes o hm
    · rw [List.mem_singleton.1 hm]; exact h3)
theorem ren_nodup {l : List Ob} {a b : List UInt8} (hn : (l.map Ob.name).Nodup) (h : hasO l b → a = b) : ((delO l a ++ [nameTo (lkO l a) b]).map Ob.name).Nodup :=
  add_nodup (o := nameTo (lkO l a) b) (del_nodup hn) (fun q => (del_has.1 q).2 (h (del_has.1 q).1).symm)
theorem at_ren {s : Sh} {k : Int} {a b : List UInt8} (h : ShAt s k) : ShAt (s.ren a b).1 (k + 1) := at_change h (fun hc t ho hr ht => by
  obtain ⟨h1, h2, h3⟩ := renC_ok hc
  have hp := del_perm h.nodup h2
  have hs := sumO_perm hp
  have hl := hp.length_eq
  rw [sumO_snoc] at hs
  rw [List.length_append] at hl
  have hm2 := (lkO_name h2).2
  refine at_obs ht (by rw [ho]; exact ren_nodup h.nodup h3) (by rw [ho, sumO_snoc, hr]; show ((sumO (delO s.obs a) + (lkO s.obs a).b.length : Nat) : Int) ≤ s.room; have := h.sum; omega) (by rw [ho, List.length_append]; have := h.len; simp at hl ⊢; omega) (fun o hm => ?_) (fun o hm => ?_)
  · rw [ho] at hm
    rcases List.mem_append.1 hm with hm | hm
    · exact h.names o (List.mem_filter.1 hm).1
    · rw [List.mem_singleton.1 hm]; exact h1
  · rw [ho] at hm
    rcases List.mem_append.1 hm with hm | hm
    · exact h.bytes o (List.mem_filter.1 hm).1
    · rw [List.mem_singleton.1 hm]; exact h.bytes (lkO s.obs a) hm2)
theorem sumO_sync {l : List Ob} {k : List UInt8} : sumO (syncO l k) = sumO l := by
  unfold sumO syncO
  rw [List.map_map]
  congr 1
  refine List.map_congr_left (fun o _ => ?_)
  simp only [Function.comp]; split <;> rfl
theorem sync_mem {l : List Ob} {k : List UInt8} {o : Ob} (h : o ∈ syncO l k) : ∃ p ∈ l, o.name = p.name ∧ o.b = p.b := by
  obtain ⟨p, hp, rfl⟩ := List.mem_map.1 h
  refine ⟨p, hp, ?_⟩
  split <;> exact ⟨rfl, rfl⟩
theorem at_sync {s : Sh} {k : Int} {a : List UInt8} (h : ShAt s k) : ShAt (s.sync1 a).1 (k + 1) := by
  have hn := at_nudge h
  unfold Sh.sync1
  split
  · exact hn
  split
  · exact hn
  · refine at_obs hn (by rw [sync_names]; exact hn.nodup) (by rw [sumO_sync]; exact hn.sum) (by have := hn.len; simpa [syncO] using this) (fun o hm => ?_) (fun o hm => ?_)
    · obtain ⟨p, hp, e, _⟩ := sync_mem hm
      rw [e]; exact hn.names p hp
    · obtain ⟨p, hp, _, e⟩ := sync_mem hm
      rw [e]; exact hn.bytes p hp
/-! ### publishing -/
def dgL (b : List UInt8) : List UInt8 := (hexL (sumL b)).take 40
def drL (nm : List UInt8) : List UInt8 := [116, 47] ++ dgL nm
def pubK (nm d : List UInt8) (r3 : Sh × Nat) : Sh × Nat := if ¬ r3.2 = 0 then ((r3.1.del d).1, r3.2) else if ¬ (r3.1.ren d nm).2 = 0 then (((r3.1.ren d nm).1.del d).1, (r3.1.ren d nm).2) else r3.1.ren d nm
def Sh.pub (s : Sh) (nm : List UInt8) (v : Value) (b : List UInt8) : Sh × Nat :=
  if ¬ isNm nm then (s, 5) else if ¬ (s.del (drL nm)).2 = 0 ∧ ¬ (s.del (drL nm)).2 = 6 then s.del (drL nm) else
  if ¬ ((s.del (drL nm)).1.put (drL nm) v b).2 = 0 then (s.del (drL nm)).1.put (drL nm) v b else pubK nm (drL nm) (((s.del (drL nm)).1.put (drL nm) v b).1.sync1 (drL nm))
theorem pub_nm {s : Sh} {nm b : List UInt8} {v : Value} (h : ¬ isNm nm) : s.pub nm v b = (s, 5) := by rw [Sh.pub, if_pos h]
theorem pub_d1 {s : Sh} {nm b : List UInt8} {v : Value} (h : isNm nm) (h1 : ¬ (s.del (drL nm)).2 = 0 ∧ ¬ (s.del (drL nm)).2 = 6) : s.pub nm v b = s.del (drL nm) := by rw [Sh.pub, if_neg (fun q => q h), if_pos h1]
theorem pub_d2 {s : Sh} {nm b : List UInt8} {v : Value} (h : isNm nm) (h1 : ¬ (¬ (s.del (drL nm)).2 = 0 ∧ ¬ (s.del (drL nm)).2 = 6)) (h2 : ¬ ((s.del (drL nm)).1.put (drL nm) v b).2 = 0) : s.pub nm v b = (s.del (drL nm)).1.put (drL nm) v b := by rw [Sh.pub, if_neg (fun q => q h), if_neg h1, if_pos h2]
theorem pub_d3 {s : Sh} {nm b : List UInt8} {v : Value} (h : isNm nm) (h1 : ¬ (¬ (s.del (drL nm)).2 = 0 ∧ ¬ (s.del (drL nm)).2 = 6)) (h2 : ((s.del (drL nm)).1.put (drL nm) v b).2 = 0) : s.pub nm v b = pubK nm (drL nm) (((s.del (drL nm)).1.put (drL nm) v b).1.sync1 (drL nm)) := by rw [Sh.pub, if_neg (fun q => q h), if_neg h1, if_neg (fun q => q h2)]
theorem pubK_1 {nm d : List UInt8} {r : Sh × Nat} (h : ¬ r.2 = 0) : pubK nm d r = ((r.1.del d).1, r.2) := by rw [pubK, if_pos h]
theorem pubK_2 {nm d : List UInt8} {r : Sh × Nat} (h : r.2 = 0) (h2 : ¬ (r.1.ren d nm).2 = 0) : pubK nm d r = (((r.1.ren d nm).1.del d).1, (r.1.ren d nm).2) := by rw [pubK, if_neg (fun q => q h), if_pos h2]
theorem pubK_3 {nm d : List UInt8} {r : Sh × Nat} (h : r.2 = 0) (h2 : (r.1.ren d nm).2 = 0) : pubK nm d r = r.1.ren d nm := by rw [pubK, if_neg (fun q => q h), if_neg (fun q => q h2)]
theorem at_pub {s : Sh} {k : Int} {nm b : List UInt8} {v : Value} (h : ShAt s k) : ShAt (s.pub nm v b).1 (k + 5) := by
  have h1 := at_del (a := drL nm) h
  have h2 := at_put (nm := drL nm) (v := v) (b := b) h1
  have h3 := at_sync (a := drL nm) h2
  have h4 := at_ren (a := drL nm) (b := nm) h3
  have h5 := at_del (a := drL nm) h4
  have h6 := at_del (a := drL nm) h3
  unfold Sh.pub
  split
  · exact h.mono (by omega)
  split
  · exact h1.mono (by omega)
  split
  · exact h2.mono (by omega)
  unfold pubK
  split
  · exact h6.mono (by omega)
  split
  · exact h5.mono (by omega)
  · exact h4.mono (by omega)
end Go.Proofs.YtnhpghhibcdklaaGreatDoor
set_option linter.unusedSimpArgs false
set_option linter.unusedVariables false
namespace Go.Proofs.YtnhpghhibcdklaaGreatDoor
open Go
def rightR (r : Rec) : Prop := 0 ≤ r.s.time ∧ r.s.time ≤ 1099511627776 ∧ ((r.kind = 1 ∧ r.s.note.length ≤ 1000) ∨ (r.kind = 2 ∧ r.s.note = [] ∧ r.s.root = List.replicate 32 0))
instance (r : Rec) : Decidable (rightR r) := by unfold rightR; infer_instance
/-- may it come next? -/
def fitsR (rs : List Rec) (r : Rec) : Prop := if r.kind = 1 then r.s.seq = (rs.length : Int) + 1 else hasS (foldR rs) r.s.seq
instance (rs : List Rec) (r : Rec) : Decidable (fitsR rs r) := by unfold fitsR; infer_instance
def checkR (rs : List Rec) (off : Bool) (cn : Int) (r : Rec) : Nat :=
  if ¬ rightR r then 2 else if r.kind = 2 ∧ ¬ fitsR rs r then 6 else if (r.kind = 1 ∧ 200 ≤ (foldR rs).length) ∨ 99999999 ≤ rs.length then 8 else if off = true then 9 else if ¬ cn = (rs.length : Int) then 12 else 0
section
variable {rs : List Rec} {off : Bool} {cn : Int} {r : Rec}
theorem ck_2 (h : ¬ rightR r) : checkR rs off cn r = 2 := by rw [checkR, if_pos h]
theorem ck_6 (h : rightR r) (h2 : r.kind = 2 ∧ ¬ fitsR rs r) : checkR rs off cn r = 6 := by rw [checkR, if_neg (fun q => q h), if_pos h2]
theorem ck_8 (h : rightR r) (h2 : ¬ (r.kind = 2 ∧ ¬ fitsR rs r)) (h3 : (r.kind = 1 ∧ 200 ≤ (foldR rs).length) ∨ 99999999 ≤ rs.length) : checkR rs off cn r = 8 := by rw [checkR, if_neg (fun q => q h), if_neg h2, if_pos h3]
theorem ck_9 (h : rightR r) (h2 : ¬ (r.kind = 2 ∧ ¬ fitsR rs r)) (h3 : ¬ ((r.kind = 1 ∧ 200 ≤ (foldR rs).length) ∨ 99999999 ≤ rs.length)) (h4 : off = true) : checkR rs off cn r = 9 := by rw [checkR, if_neg (fun q => q h), if_neg h2, if_neg h3, if_pos h4]
theorem ck_12 (h : rightR r) (h2 : ¬ (r.kind = 2 ∧ ¬ fitsR rs r)) (h3 : ¬ ((r.kind = 1 ∧ 200 ≤ (foldR rs).length) ∨ 99999999 ≤ rs.length)) (h4 : ¬ off = true) (h5 : ¬ cn = (rs.length : Int)) : checkR rs off cn r = 12 := by rw [checkR, if_neg (fun q => q h), if_neg h2, if_neg h3, if_neg h4, if_pos h5]
theorem ck_0 (h : rightR r) (h2 : ¬ (r.kind = 2 ∧ ¬ fitsR rs r)) (h3 : ¬ ((r.kind = 1 ∧ 200 ≤ (foldR rs).length) ∨ 99999999 ≤ rs.length)) (h4 : ¬ off = true) (h5 : cn = (rs.length : Int)) : checkR rs off cn r = 0 := by rw [checkR, if_neg (fun q => q h), if_neg h2, if_neg h3, if_neg h4, if_neg (fun q => q h5)]
end
/-- a record with its number -/
def numR (n : Nat) (r : Rec) : Rec := if r.kind = 1 then ⟨r.kind, ⟨(n : Int), r.s.time, r.s.note, r.s.root, r.s.h⟩⟩ else r
theorem right_1 {r : Rec} (h0 : 0 ≤ r.s.time) (h1 : r.s.time ≤ 1099511627776) (hk : r.kind = 1) : r.s.note.length ≤ 1000 ↔ rightR r := by
  unfold rightR
  exact ⟨fun h => ⟨h0, h1, .inl ⟨hk, h⟩⟩, fun h => h.2.2.elim (fun h => h.2) (fun h => absurd h.1 (by omega))⟩
theorem right_2 {r : Rec} (h0 : 0 ≤ r.s.time) (h1 : r.s.time ≤ 1099511627776) (hk : r.kind = 2) (hn : r.s.note = []) : r.s.root = List.replicate 32 0 ↔ rightR r := by
  unfold rightR
  exact ⟨fun h => ⟨h0, h1, .inr ⟨hk, hn, h⟩⟩, fun h => h.2.2.elim (fun h => absurd h.1 (by omega)) (fun h => h.2.2)⟩
theorem rightR_no {r : Rec} (h : r.s.time < 0 ∨ 1099511627776 < r.s.time ∨ (¬ r.kind = 1 ∧ ¬ r.kind = 2) ∨ (¬ r.kind = 1 ∧ ¬ r.s.note = [])) : ¬ rightR r := fun q => by
  unfold rightR at q
  obtain ⟨h1, h2, h3⟩ := q
  rcases h with h | h | h | h
  · omega
  · omega
  · exact h3.elim (fun h4 => h.1 h4.1) (fun h4 => h.2 h4.1)
  · exact h3.elim (fun h4 => h.1 h4.1) (fun h4 => h.2 h4.2.1)
theorem fits_1 {rs : List Rec} {r : Rec} (hk : r.kind = 1) : r.s.seq = ((rs.length + 1 : Nat) : Int) ↔ fitsR rs r := by rw [fitsR, if_pos hk]; simp
theorem fits_2 {rs : List Rec} {r : Rec} (hk : ¬ r.kind = 1) : hasS (foldR rs) r.s.seq ↔ fitsR rs r := by rw [fitsR, if_neg hk]
/-- a number below 100 -/
def dec2 (n : Nat) : List UInt8 := if n < 10 then [UInt8.ofNat (48 + n)] else [UInt8.ofNat (48 + n / 10), UInt8.ofNat (48 + n % 10)]
theorem dec2_eq {n : Nat} (h : n < 100) : Lib.decDigits n = dec2 n := by
  rw [Lib.decDigits, dec2]
  split
  · rfl
  · rw [Lib.decDigits, dif_pos (by omega)]; rfl
theorem dec2_len {n : Nat} : (dec2 n).length ≤ 2 := by unfold dec2; split <;> simp
def nameR (n : Nat) : List UInt8 := ([115, 47] ++ Lib.repeatL [48] (max (8 - (dec2 n).length) 0)) ++ dec2 n
theorem nameR_nm {n : Nat} (h : n < 100) : isNm (nameR n) ∧ (nameR n).length = 10 := by
  have : ∀ n, n < 100 → (nameR n).all signB = true ∧ (nameR n).length = 10 := by decide +kernel
  have := this n h
  exact ⟨⟨this.1, by omega, by omega⟩, this.2⟩
theorem nameR_inj {m n : Nat} (hm : m < 100) (hn : n < 100) (h : nameR m = nameR n) : m = n := by
  have : ∀ m, m < 100 → ((nameR m).getD 8 0).toNat * 10 + ((nameR m).getD 9 0).toNat = 528 + m := by decide +kernel
  have h1 := this m hm
  have h2 := this n hn
  rw [h] at h1; omega
end Go.Proofs.YtnhpghhibcdklaaGreatDoor
set_option linter.unusedSimpArgs false
set_option linter.unusedVariables false
namespace Go.Proofs.YtnhpghhibcdklaaGreatDoor
open Go Go.RowKit
set_option maxRecDepth 100000
theorem itS_cast {r b : Nat} {kv vis vis' : KV} (h : vis = vis') : itS r b kv vis = itS r b kv vis' := by rw [h]
theorem tk_bagO {c : Cx} {L : Sl} {H : List Res} {K : Act → World → Prop} {T : TypeId} {l : List Ob} (hm : bag (l.map (obR T)) ∈ H) (h : (∀ o ∈ l, ∃ w0, RdS w0 o.v (o.b.map B)) → TK c K L H) : TK c K L H :=
  tk_form (fun w hw o ho => ⟨w, own_rdS (e := T) (Hs.mem (hw.mem hm) (obR T o) (List.mem_map.2 ⟨o, ho, rfl⟩))⟩) h
theorem ro_bagO {c : Cx} {T : TypeId} {w : World} {l : List Ob} {H0 Hr : List Res} {o : Ob} (hw : St c w (H0 ++ Hr)) (hq : bag (l.map (obR T)) ∈ Hr) (ho : o ∈ l) : Ro (Fs H0) w (rd o.v (o.b.map B)) := by
  have hb := hw.mem (r := bag (l.map (obR T))) (by simp [hq])
  have hm : obR T o ∈ l.map (obR T) := List.mem_map.2 ⟨o, ho, rfl⟩
  have h1 : (obR T o).holds w := Hs.mem hb _ hm
  refine ⟨own_rdS (e := T) h1, fun j hk h0 => (Dj_append.1 hw.dj).2.2 j h0 (Fs.of_mem hq (show Fs (l.map (obR T)) j from Fs.of_mem hm ?_))⟩
  rcases own_cells (e := T) h1 with ⟨_, _, h⟩ | ⟨g, o', cap, h, _⟩
  · exact (hk.1 h).elim
  · show o.v.ownBlock = some j
    have h2 := hk.2
    rw [h] at h2 ⊢
    rw [← h2]; rfl
theorem spend_spec {s : Sh} {sb mb : Nat} {w : World} (hok : ShOk s) (hh : Pre w [cel sb ([Value.map (some mb), I (s.left), .bool s.off, I (s.made), I (s.room)]) 159]) : Spec Tryz.prog 200 [.pointer (some ⟨sb, 1, none⟩)] w [cel sb ([Value.map (some mb), I (s.left), .bool s.off, I (s.made), I (s.room)]) 159] (fun _ : Unit => True) (fun _ => IN s.spend.2) (fun _ => [cel sb ([Value.map (some mb), I (s.spend.1.left), .bool s.spend.1.off, I (s.spend.1.made), I (s.spend.1.room)]) 159]) := by
  refine spec_of (n := 36) Tryz.func200 rfl rfl hh.1 hh.2 rfl ?_
  obtain ⟨_, ⟨hl1, hl2⟩, ⟨hm1, hm2⟩, _, _, _, _, _⟩ := hok
  refine s_r <| q_a rfl rfl <| s_n <| tk_seq <| s_r <| q_m rfl rfl <| s_q rfl (y_nilCheck rfl) <| s_q rfl (y_fldN (o := 1) 1 rfl kR) <| tk_qe (.bool (decide (s.off = true))) rfl rfl rfl (y_load rfl rfl (hc (o := 2) (.head _) (rfl))) sI <| tk_qs rfl rfl rfl (y_move rfl) (fun hs1_4 => ?_) (fun hs1_4 => ?_)
  · exact tk_gno rfl rfl rfl <| tk_gno rfl rfl rfl <| tk_gno rfl rfl rfl <| tk_gno rfl rfl rfl <| tk_gno rfl rfl rfl <| s_q rfl (y_pick1 rfl rfl) <| s_n <| tk_cond1 rfl <| s_r <| q_m rfl rfl <| s_q rfl (y_nilCheck rfl) <| s_q rfl (y_fldN (o := 1) 1 rfl kR) <| tk_act rfl <| a_storeE (H1 := []) (o := 2) (v := .bool true) (cs' := [Value.map (some mb), I (s.left), .bool true, I (s.made), I (s.room)]) rfl rfl kR rfl rfl sW (rfl) <| s_n <| s_r <| q_a rfl rfl <| s_n <| tk_retc <| tk_then_ret <| tk_R (H1 := []) rfl (congrArg (fun z_ => cel sb z_ 159) (show [Value.map (some mb), I (s.left), .bool true, I (s.made), I (s.room)] = [Value.map (some mb), I (s.spend.1.left), .bool s.spend.1.off, I (s.spend.1.made), I (s.spend.1.room)] from by rw [spend_off (.inl hs1_4)])) <| tk_re 2 (I 9) (IN s.spend.2) rfl (by rw [spend_off (.inl hs1_4)]; rfl) <| tk_ret (()) (trivial) (.inl rfl) (r1 rfl rfl) (List.Sublist.refl _)
  · refine s_g rfl (y_move rfl) <| s_g rfl (y_nilCheck rfl) <| s_g rfl (y_fld0 (o := 1) rfl kR) <| s_g rfl (y_load rfl rfl (hc (o := 1) (.head _) (rfl))) <| s_g rfl (y_eql rfl rfl) <| s_q rfl (y_pick0 rfl rfl) <| s_n <| tk_condP rfl (fun ht13 => ?_) (fun ht13 => ?_)
    · exact s_r <| q_m rfl rfl <| s_q rfl (y_nilCheck rfl) <| s_q rfl (y_fldN (o := 1) 1 rfl kR) <| tk_act rfl <| a_storeE (H1 := []) (o := 2) (v := .bool true) (cs' := [Value.map (some mb), I (s.left), .bool true, I (s.made), I (s.room)]) rfl rfl kR rfl rfl sW (rfl) <| s_n <| s_r <| q_a rfl rfl <| s_n <| tk_retc <| tk_then_ret <| tk_R (H1 := []) rfl (congrArg (fun z_ => cel sb z_ 159) (show [Value.map (some mb), I (s.left), .bool true, I (s.made), I (s.room)] = [Value.map (some mb), I (s.spend.1.left), .bool s.spend.1.off, I (s.spend.1.made), I (s.spend.1.room)] from by rw [spend_off (.inr ht13)])) <| tk_re 2 (I 9) (IN s.spend.2) rfl (by rw [spend_off (.inr ht13)]; rfl) <| tk_ret (()) (trivial) (.inl rfl) (r1 rfl rfl) (List.Sublist.refl _)
    · refine tk_skip <| tk_then <| tk_seq <| s_r <| q_m rfl rfl <| s_q rfl (y_nilCheck rfl) <| s_q rfl (y_fld0 (o := 1) rfl kR) <| s_q rfl (y_load rfl rfl (hc (o := 1) (.head _) (rfl))) <| s_q rfl (y_gtr rfl rfl) <| s_n <| tk_condP rfl (fun ht21 => ?_) (fun ht21 => ?_)
      · refine tk_region <| q_m rfl rfl <| s_q rfl (y_nilCheck rfl) <| s_q rfl (y_fld0 (o := 1) rfl kR) <| s_q rfl (y_load rfl rfl (hc (o := 1) (.head _) (rfl))) <| s_q rfl (y_subI rfl rfl oM) <| s_q rfl (y_nilCheck rfl) <| s_q rfl (y_fld0 (o := 1) rfl kR) <| tk_act rfl <| a_storeE (H1 := []) (o := 1) (v := I (s.left - (1 : Int))) (cs' := [Value.map (some mb), I (s.left - (1 : Int)), .bool s.off, I (s.made), I (s.room)]) rfl rfl kR rfl rfl sW (rfl) <| s_n <| s_r <| q_m rfl rfl <| s_q rfl (y_nilCheck rfl) <| s_q rfl (y_fldN (o := 1) 2 rfl kR) <| s_q rfl (y_load rfl rfl (hc (o := 3) (.head _) (rfl))) <| s_q rfl (y_addI rfl rfl oM) <| s_q rfl (y_nilCheck rfl) <| s_q rfl (y_fldN (o := 1) 2 rfl kR) <| tk_act rfl <| a_storeE (H1 := []) (o := 3) (v := I (s.made + (1 : Int))) (cs' := [Value.map (some mb), I (s.left - (1 : Int)), .bool s.off, I (s.made + (1 : Int)), I (s.room)]) rfl rfl kR rfl rfl sW (rfl) <| s_n <| s_r <| q_a rfl rfl ?_; exact s_n <| tk_retc <| tk_R (H1 := []) rfl (congrArg (fun z_ => cel sb z_ 159) (show [Value.map (some mb), I (s.left - (1 : Int)), .bool s.off, I (s.made + (1 : Int)), I (s.room)] = [Value.map (some mb), I (s.spend.1.left), .bool s.spend.1.off, I (s.spend.1.made), I (s.spend.1.room)] from by rw [spend_pos hs1_4 ht21])) <| tk_re 2 (I 0) (IN s.spend.2) rfl (by rw [spend_pos hs1_4 ht21]; rfl) <| tk_ret (()) (trivial) (.inl rfl) (r1 rfl rfl) (List.Sublist.refl _)
      · exact tk_skip <| tk_then <| s_r <| q_m rfl rfl <| s_q rfl (y_nilCheck rfl) <| s_q rfl (y_fldN (o := 1) 2 rfl kR) <| s_q rfl (y_load rfl rfl (hc (o := 3) (.head _) (rfl))) <| s_q rfl (y_addI rfl rfl oM) <| s_q rfl (y_nilCheck rfl) <| s_q rfl (y_fldN (o := 1) 2 rfl kR) <| tk_act rfl <| a_storeE (H1 := []) (o := 3) (v := I (s.made + (1 : Int))) (cs' := [Value.map (some mb), I (s.left), .bool s.off, I (s.made + (1 : Int)), I (s.room)]) rfl rfl kR rfl rfl sW (rfl) <| s_n <| s_r <| q_a rfl rfl <| s_n <| tk_retc <| tk_R (H1 := []) rfl (congrArg (fun z_ => cel sb z_ 159) (show [Value.map (some mb), I (s.left), .bool s.off, I (s.made + (1 : Int)), I (s.room)] = [Value.map (some mb), I (s.spend.1.left), .bool s.spend.1.off, I (s.spend.1.made), I (s.spend.1.room)] from by rw [spend_neg hs1_4 ht13 ht21])) <| tk_re 2 (I 0) (IN s.spend.2) rfl (by rw [spend_neg hs1_4 ht13 ht21]; rfl) <| tk_ret (()) (trivial) (.inl rfl) (r1 rfl rfl) (List.Sublist.refl _)
theorem used_spec {s : Sh} {sb mb : Nat} {w : World} (hok : ShOk s) (hh : Pre w [cel sb ([Value.map (some mb), I (s.left), .bool s.off, I (s.made), I (s.room)]) 159, mapS mb (kvO s.obs), bag (s.obs.map (obR 5))]) : Spec Tryz.prog 153 [PT sb] w [cel sb ([Value.map (some mb), I (s.left), .bool s.off, I (s.made), I (s.room)]) 159, mapS mb (kvO s.obs), bag (s.obs.map (obR 5))] (fun _ : Unit => True) (fun _ => IN (sumO s.obs)) (fun _ => [cel sb ([Value.map (some mb), I (s.left), .bool s.off, I (s.made), I (s.room)]) 159, mapS mb (kvO s.obs), bag (s.obs.map (obR 5))]) := by
  refine spec_of (n := 24) Tryz.func153 rfl rfl hh.1 hh.2 rfl ?_
  have hsum := hok.sum
  refine tk_bagO (mm 2 rfl) fun hbo => s_r <| q_a rfl rfl <| s_n <| s_r <| q_a rfl rfl <| s_n <| tk_seq <| s_r <| q_m rfl rfl <| s_q rfl (y_pnnil rfl rfl rfl) <| s_n <| tk_cond1 rfl <| s_r <| q_m rfl rfl <| s_q rfl (y_nilCheck rfl) <| s_q rfl (y_fld0 (o := 0) rfl kR) <| s_q rfl (y_fld0 (o := 0) rfl kR) <| s_q rfl (y_load rfl rfl (hc (o := 0) (.head _) (rfl))) <| tk_act rfl <| a_rangeS (H1 := [_]) (b := mb) (kv := (kvO s.obs)) rfl Tryz.underlying153 rfl rfl fun r13 => s_n <| tk_block <| tk_R (H1 := [_]) rfl (show itS r13 mb (kvO s.obs) [] = itS r13 mb (kvO s.obs) (kvO []) from rfl) ?_; refine tk_re 3 (I 0) (I ((sumO [] : Nat) : Int)) rfl (rfl) <| tk_loop (X := List Ob) (fun vs => VO s.obs vs) (fun vs => [(2, I 0), (3, IN (sumO vs)), (13, PT r13)]) (fun vs => [cel sb ([Value.map (some mb), I (s.left), .bool s.off, I (s.made), I (s.room)]) 159, itS r13 mb (kvO s.obs) (kvO vs), bag (s.obs.map (obR 5))]) (fun vs => s.obs.length - vs.length) ([]) (vo_0) sB ((List.Sublist.refl _)) ?_
  rintro vs hI
  try dsimp only at hI ⊢
  refine s_r <| tk_act rfl <| a_nextS (H1 := [_]) (kv := kvO s.obs) (vis := kvO vs) rfl rfl rfl (fun hv14 => ?_) (fun p14 rest14 hv14 => ?_)
  · exact s_q rfl (y_extract rfl rfl) <| s_n <| tk_seq <| tk_cond0 rfl <| tk_exit <| tk_then_exit <| tk_then_exit <| tk_in_hit <| tk_then <| s_r <| tk_ps [1] rfl <| tk_itS <| q_m rfl rfl <| q_a rfl rfl <| s_n <| tk_retc <| tk_re 2 (IN (sumO vs)) (IN (sumO s.obs)) rfl (by rw [sumO_perm (vo_end hI hv14)]) <| tk_ps [2, 1, 2] rfl <| tk_ret (()) (trivial) (.inl rfl) (r1 rfl rfl) (List.Sublist.refl _)
  · obtain ⟨o, ho, rfl, hvo⟩ := vo_step hI hv14
    have hsl := sumO_le hvo
    rw [sumO_snoc] at hsl
    refine tk_R (H1 := [_]) rfl (show itS r13 mb (kvO s.obs) (kvO vs ++ [(o.name, obV o)]) = itS r13 mb (kvO s.obs) (kvO (vs ++ [o])) from itS_cast (by rw [kvO_app]; rfl)) <| s_q rfl (y_extract rfl rfl) <| s_n <| tk_seq <| tk_cond1 rfl <| tk_skip <| tk_then <| tk_block <| s_r <| s_q rfl (y_entryS (p := (o.name, obV o)) (vis := kvO vs) rfl (fun w hw => by have h := hw.mem (mm 1 rfl); rw [kvO_app] at h; exact h)) <| s_q rfl (y_extract rfl rfl) <| tk_act rfl <| a_allocL (cs := [Value.slice none 0 0, .bool false]) kR rfl fun b5 => tk_act rfl <| a_storeW (H1 := []) (vs := [o.v, .bool o.sure]) 2 rfl rfl kR rfl ⟨lenP, lenP⟩ (List.forall_mem_cons.2 ⟨(RdS.one (hbo _ ho).choose_spec), (List.forall_mem_cons.2 ⟨rfl, (fun _ h => nomatch h)⟩)⟩) <| s_n <| tk_region <| q_m rfl rfl <| s_q rfl (y_fld0 (o := 0) rfl kR) <| s_q rfl (y_load rfl rfl (hc (o := 0) (.head _) (rfl))) <| s_q rfl (y_lenRN (n' := o.b.length) rfl (hbo _ ho).choose_spec rfl (by first | rfl | (rw [List.length_map]; omega) | simp)) <| s_q rfl (y_addN (a := sumO vs) (b := o.b.length) rfl rfl oM) <| q_a rfl rfl <| tk_nil ?_; exact tk_in_normal <| tk_re 3 (I (((sumO vs) + o.b.length : Nat) : Int)) (I ((sumO (vs ++ [o]) : Nat) : Int)) rfl (by rw [sumO_snoc]) <| tk_again (vs ++ [o]) (hvo) (by have := hvo; obtain ⟨rr, hr⟩ := this; have := hr.length_eq; simp only [List.length_append, List.length_cons, List.length_nil] at this ⊢; omega) sB (.cons _ (List.Sublist.refl _))
theorem look_spec {s : Sh} {sb mb : Nat} {w : World} (hh : Pre w [cel sb ([Value.map (some mb), I (s.left), .bool s.off, I (s.made), I (s.room)]) 159]) : Spec Tryz.prog 64 [PT sb] w [cel sb ([Value.map (some mb), I (s.left), .bool s.off, I (s.made), I (s.room)]) 159] (fun _ : Unit => True) (fun _ => I (((if s.off = true then 9 else 0 : Nat) : Nat) : Int)) (fun _ => [cel sb ([Value.map (some mb), I (s.left), .bool s.off, I (s.made), I (s.room)]) 159]) := by
  refine spec_of (n := 10) Tryz.func64 rfl rfl hh.1 hh.2 rfl <| s_r <| q_a rfl rfl <| s_n <| tk_seq <| s_r <| q_m rfl rfl <| s_q rfl (y_pnil rfl rfl rfl) <| s_n <| tk_cond0 rfl <| tk_skip <| tk_then <| tk_seq <| s_r <| q_m rfl rfl <| s_q rfl (y_nilCheck rfl) <| s_q rfl (y_fldN (o := 0) 1 rfl kR) <| s_q rfl (y_fldN (o := 1) 1 rfl kR) <| tk_qe (.bool (decide (s.off = true))) rfl rfl rfl (y_load rfl rfl (hc (o := 2) (.head _) (rfl))) sI <| s_n <| tk_condP rfl (fun ht9 => ?_) (fun ht9 => ?_)
  · exact s_r <| q_a rfl rfl <| s_n <| tk_retc <| tk_then_ret <| tk_re 2 (I 9) (I (((if s.off = true then 9 else 0) : Nat) : Int)) rfl (by rw [if_pos ht9]; rfl) <| tk_ret (()) (trivial) (.inl rfl) (r1 rfl rfl) (List.Sublist.refl _)
  · exact tk_skip <| tk_then <| s_r <| q_a rfl rfl <| s_n <| tk_retc <| tk_re 2 (I 0) (I (((if s.off = true then 9 else 0) : Nat) : Int)) rfl (by rw [if_neg ht9]; rfl) <| tk_ret (()) (trivial) (.inl rfl) (r1 rfl rfl) (List.Sublist.refl _)
end Go.Proofs.YtnhpghhibcdklaaGreatDoor
set_option linter.unusedSimpArgs false
set_option linter.unusedVariables false
namespace Go.Proofs.YtnhpghhibcdklaaGreatDoor
open Go Go.RowKit
set_option maxRecDepth 100000
theorem put1_spec {s : Sh} {sb mb c0 c1 c2 : Nat} {vv : Value} {nm b : List UInt8} {w : World} (hok : ShOk s) (hnm : nm.length < 9223372036854775808) (hbl : b.length < 4611686018427387904) (hh : Pre w [cel sb ([Value.map (some mb), I (s.left), .bool s.off, I (s.made), I (s.room)]) 159, mapS mb (kvO s.obs), bag (s.obs.map (obR 5)), cel c0 ([PT sb]) 40, cel c1 ([Str nm]) 9, cel c2 ([vv]) 64, ownB vv b 5]) : Spec Tryz.prog 152 [PT c0, PT c1, PT c2] w [cel sb ([Value.map (some mb), I (s.left), .bool s.off, I (s.made), I (s.room)]) 159, mapS mb (kvO s.obs), bag (s.obs.map (obR 5)), cel c0 ([PT sb]) 40, cel c1 ([Str nm]) 9, cel c2 ([vv]) 64, ownB vv b 5] (fun _ : Unit => True) (fun _ => IN (putC s nm b)) (fun _ => [cel sb ([Value.map (some mb), I (s.left), .bool s.off, I (s.made), I (s.room)]) 159, mapS mb (kvO s.obs), bag (s.obs.map (obR 5)), cel c0 ([PT sb]) 40, cel c1 ([Str nm]) 9, cel c2 ([vv]) 64, ownB vv b 5]) := by
  refine spec_of (n := 46) Tryz.func152 rfl rfl hh.1 hh.2 rfl ?_
  have hsum := hok.sum
  have hrm := hok.room
  refine tk_bagO (mm 2 rfl) fun hbo => ?_
  have hlk := lk_one hbo
  refine tk_own1 (mm 6 rfl) fun hfv => s_r <| q_a rfl rfl <| s_n <| tk_seq <| tk_drawH [cel sb ([Value.map (some mb), I (s.left), .bool s.off, I (s.made), I (s.room)]) 159, mapS mb (kvO s.obs), bag (s.obs.map (obR 5)), cel c0 ([PT sb]) 40, cel c1 ([Str nm]) 9, cel c2 ([vv]) 64, ownB vv b 5] [] kR <| s_l 0 rfl (fun _ h => h) (y_load rfl rfl (hc (o := 0) (mm 3 rfl) (rfl))) <| s_x 1 rfl (y_nilCheck rfl) <| s_x 2 rfl (y_fld0 (o := 0) rfl kR) <| s_x 3 rfl (y_fld0 (o := 0) rfl kR) <| s_l 4 rfl (fun _ h => h) (y_load rfl rfl (hc (o := 0) (.head _) (rfl))) <| s_l 5 rfl (fun _ h => h) (y_load rfl rfl (hc (o := 0) (mm 4 rfl) (rfl))) <| s_l 6 rfl (fun _ h => h) ((y_getSok (b := mb) (kv := (kvO s.obs)) (k := nm) (zv := .agg [Value.slice none 0 0, .bool false].toArray) rfl rfl Tryz.underlying153 Tryz.underlying9 (fun _ => kR) (fun w hw => hw.mem (mm 1 rfl))).cast (kvO_ok)) <| s_x 7 rfl (y_move rfl) <| s_x 8 rfl (y_extract rfl rfl) <| s_x 9 rfl (y_extract rfl rfl) <| tx_a 10 rfl kR rfl <| a_allocL (cs := [Value.slice none 0 0, .bool false]) kR rfl fun b4 => tk_S (fun _ h => kD 1 rfl h) <| tx_a 11 rfl kR rfl <| a_storeW (H1 := []) (vs := [(lkO s.obs nm).v, .bool ((lkO s.obs nm).sure)]) 2 rfl rfl kR rfl ⟨lenP, lenP⟩ (List.forall_mem_cons.2 ⟨(hlk _), (List.forall_mem_cons.2 ⟨rfl, (fun _ h => nomatch h)⟩)⟩) <| tk_S (fun _ h => kD 1 rfl h) <| s_x 12 rfl (y_assign rfl) <| tx_done kR ?_; refine tk_then <| tk_seq <| tk_block <| s_r <| s_q rfl (y_load rfl rfl (hc (o := 0) (mm 5 rfl) (rfl))) <| tk_act rfl <| a_callv [] _ rfl kR rfl (fun w' hw' => isname_spec (l := nm) lenP) rfl fun _ _ => s_q rfl ((y_not rfl).cast (notdec _)) <| q_a rfl rfl <| s_n <| tk_condP rfl (fun ht16 => ?_) (fun ht16 => ?_)
  · exact s_r <| q_a rfl rfl <| s_n <| tk_retc <| tk_in_ret <| tk_then_ret <| tk_re 3 (I 5) (IN (putC s nm b)) rfl (by rw [putC, if_pos ht16]; rfl) <| tk_ret (()) (trivial) (.inl rfl) (r1 rfl rfl) (.cons _ (List.Sublist.refl _))
  · refine s_r <| q_m rfl rfl <| q_a rfl rfl <| s_n <| tk_condP rfl (fun ht20 => ?_) (fun ht20 => ?_)
    · exact s_r <| q_a rfl rfl <| s_n <| tk_retc <| tk_in_ret <| tk_then_ret <| tk_re 3 (I 7) (IN (putC s nm b)) rfl (by rw [putC, if_neg ht16, if_pos ht20]; rfl) <| tk_ret (()) (trivial) (.inl rfl) (r1 rfl rfl) (.cons _ (List.Sublist.refl _))
    · refine s_r <| s_q rfl (y_load rfl rfl (hc (o := 0) (mm 6 rfl) (rfl))) <| s_q rfl (y_lenRN (n' := b.length) rfl hfv.choose_spec rfl (by first | rfl | (rw [List.length_map]; omega) | simp)) <| s_q rfl (y_gtr rfl rfl) <| q_a rfl rfl <| s_n <| tk_condP rfl (fun ht22 => ?_) (fun ht22 => ?_)
      · exact s_r <| q_a rfl rfl <| s_n <| tk_retc <| tk_in_ret <| tk_then_ret <| tk_re 3 (I 4) (IN (putC s nm b)) rfl (by rw [putC, if_neg ht16, if_neg ht20, if_pos oM]; rfl) <| tk_ret (()) (trivial) (.inl rfl) (r1 rfl rfl) (.cons _ (List.Sublist.refl _))
      · refine tk_seq <| tk_drawH [cel b4 ([(lkO s.obs nm).v, .bool ((lkO s.obs nm).sure)]) 151, cel sb ([Value.map (some mb), I (s.left), .bool s.off, I (s.made), I (s.room)]) 159, mapS mb (kvO s.obs), bag (s.obs.map (obR 5)), cel c0 ([PT sb]) 40, cel c1 ([Str nm]) 9, cel c2 ([vv]) 64, ownB vv b 5] [] kR <| s_l 0 rfl (fun _ h => h) (y_load rfl rfl (hc (o := 0) (mm 6 rfl) (rfl))) <| s_x 1 rfl (y_lenRN (n' := b.length) rfl hfv.choose_spec rfl (by first | rfl | (rw [List.length_map]; omega) | simp)) <| s_l 2 rfl (fun _ h => h) (y_load rfl rfl (hc (o := 0) (mm 4 rfl) (rfl))) <| s_x 3 rfl (y_nilCheck rfl) <| s_x 4 rfl (y_fldN (o := 0) 4 rfl kR) <| s_l 5 rfl (fun _ h => h) (y_load rfl rfl (hc (o := 4) (mm 1 rfl) (rfl))) <| s_l 6 rfl (fun _ h => h) (y_load rfl rfl (hc (o := 0) (mm 4 rfl) (rfl))) <| tx_a 7 rfl kR rfl <| tk_ps [3, 3, 3] rfl <| a_callv [] _ rfl kR rfl (fun w' hw' => used_spec (s := s) (sb := sb) (mb := mb) hok (St.pre hw')) rfl fun _ _ => tk_S (fun _ h => ((((((((h.perm (pk 7 rfl)).perm (pk 7 rfl)).perm (pk 7 rfl)).perm (pk 7 rfl)).perm (pk 6 rfl)).perm (pk 6 rfl)).perm (pk 6 rfl)).perm (pk 7 rfl)).sub (List.Sublist.refl _)) <| s_x 8 rfl (y_subI rfl rfl oM) ?_
        by_cases hs8_9 : (s.room - ((sumO s.obs : Nat) : Int)) < ((b.length : Nat) : Int)
        · exact s_x 9 rfl ((y_gtr rfl rfl).cast (v := _) (u := .bool true) (bool_t hs8_9)) <| s_x 10 rfl (y_move rfl) <| tx_no 11 rfl kR rfl rfl rfl (fun _ _ _ h => h) <| tx_no 12 rfl kR rfl rfl rfl (fun _ _ _ h => h) <| tx_no 13 rfl kR rfl rfl rfl (fun _ _ _ h => h) <| tx_no 14 rfl kR rfl rfl rfl (fun _ _ _ h => h) <| tx_no 15 rfl kR rfl rfl rfl (fun _ _ _ h => h) <| tx_no 16 rfl kR rfl rfl rfl (fun _ _ _ h => h) <| tx_no 17 rfl kR rfl rfl rfl (fun _ _ _ h => h) <| s_x 18 rfl (y_pick1 rfl rfl) <| s_x 19 rfl (y_assign rfl) <| tx_done kR <| tk_then <| tk_cond1 rfl <| s_r <| q_a rfl rfl <| s_n <| tk_retc <| tk_in_ret <| tk_then_ret <| tk_re 3 (I 8) (IN (putC s nm b)) rfl (by rw [putC, if_neg ht16, if_neg ht20, if_neg oM, if_pos (.inl hs8_9)]; rfl) <| tk_ret (()) (trivial) (.inl rfl) (r1 rfl rfl) (.cons_cons _ (.cons_cons _ (.cons_cons _ (.cons _ (List.Sublist.refl _)))))
        · refine s_x 9 rfl ((y_gtr rfl rfl).cast (v := _) (u := .bool false) (bool_f hs8_9)) <| s_x 10 rfl (y_move rfl) <| s_l 11 rfl (fun _ h => ((((((((h.perm (pk 7 rfl)).perm (pk 7 rfl)).perm (pk 7 rfl)).perm (pk 7 rfl)).perm (pk 6 rfl)).perm (pk 6 rfl)).perm (pk 6 rfl)).perm (pk 7 rfl)).sub (List.Sublist.refl _)) (y_load rfl rfl (hc (o := 0) (mm 4 rfl) (rfl))) <| s_x 12 rfl (y_nilCheck rfl) <| s_x 13 rfl (y_fld0 (o := 0) rfl kR) <| s_x 14 rfl (y_fld0 (o := 0) rfl kR) <| s_l 15 rfl (fun _ h => ((((((((h.perm (pk 7 rfl)).perm (pk 7 rfl)).perm (pk 7 rfl)).perm (pk 7 rfl)).perm (pk 6 rfl)).perm (pk 6 rfl)).perm (pk 6 rfl)).perm (pk 7 rfl)).sub (List.Sublist.refl _)) (y_load rfl rfl (hc (o := 0) (mm 1 rfl) (rfl))) <| s_l 16 rfl (fun _ h => ((((((((h.perm (pk 7 rfl)).perm (pk 7 rfl)).perm (pk 7 rfl)).perm (pk 7 rfl)).perm (pk 6 rfl)).perm (pk 6 rfl)).perm (pk 6 rfl)).perm (pk 7 rfl)).sub (List.Sublist.refl _)) (y_lenM (b := mb) (kv := (kvO s.obs)) rfl Tryz.underlying153 (fun w hw => hw.mem (mm 2 rfl))) <| tk_re 43 (I (((kvO s.obs).length : Nat) : Int)) (IN s.obs.length) rfl (by rw [kvO_len]) <| s_x 17 rfl (y_geq rfl rfl) <| s_x 18 rfl (y_pick0 rfl rfl) <| s_x 19 rfl (y_assign rfl) <| tx_done kR <| tk_then <| tk_condP rfl (fun ht26 => ?_) (fun ht26 => ?_)
          · exact s_r <| q_a rfl rfl <| s_n <| tk_retc <| tk_in_ret <| tk_then_ret <| tk_re 3 (I 8) (IN (putC s nm b)) rfl (by rw [putC, if_neg ht16, if_neg ht20, if_neg oM, if_pos (.inr oM)]; rfl) <| tk_ret (()) (trivial) (.inl rfl) (r1 rfl rfl) (.cons_cons _ (.cons_cons _ (.cons_cons _ (.cons _ (List.Sublist.refl _)))))
          · exact tk_skip <| tk_in_normal <| tk_then <| s_r <| q_a rfl rfl <| s_n <| tk_retc <| tk_re 3 (I 0) (IN (putC s nm b)) rfl (by rw [putC, if_neg ht16, if_neg ht20, if_neg oM, if_neg (fun q => q.elim hs8_9 oM)]; rfl) <| tk_ret (()) (trivial) (.inl rfl) (r1 rfl rfl) (.cons_cons _ (.cons_cons _ (.cons_cons _ (.cons _ (List.Sublist.refl _)))))
theorem put2_spec {s : Sh} {sb mb c0 c1 c2 : Nat} {vv : Value} {nm b : List UInt8} {w : World} (hno : ¬ hasO s.obs nm) (hh : Pre w [cel sb ([Value.map (some mb), I (s.left), .bool s.off, I (s.made), I (s.room)]) 159, mapS mb (kvO s.obs), bag (s.obs.map (obR 5)), cel c0 ([PT sb]) 40, cel c1 ([Str nm]) 9, cel c2 ([vv]) 64, ownB vv b 5]) : Spec Tryz.prog 154 [PT c2, PT c0, PT c1] w [cel sb ([Value.map (some mb), I (s.left), .bool s.off, I (s.made), I (s.room)]) 159, mapS mb (kvO s.obs), bag (s.obs.map (obR 5)), cel c0 ([PT sb]) 40, cel c1 ([Str nm]) 9, cel c2 ([vv]) 64, ownB vv b 5] (fun _ : Unit => True) (fun _ => .tuple #[]) (fun _ => [cel sb ([Value.map (some mb), I ((s.obsTo (s.obs ++ [(⟨nm, vv, b, false⟩ : Ob)])).left), .bool ((s.obsTo (s.obs ++ [(⟨nm, vv, b, false⟩ : Ob)])).off), I ((s.obsTo (s.obs ++ [(⟨nm, vv, b, false⟩ : Ob)])).made), I ((s.obsTo (s.obs ++ [(⟨nm, vv, b, false⟩ : Ob)])).room)]) 159, mapS mb (kvO ((s.obsTo (s.obs ++ [(⟨nm, vv, b, false⟩ : Ob)])).obs)), bag (((s.obsTo (s.obs ++ [(⟨nm, vv, b, false⟩ : Ob)])).obs).map (obR 5)), cel c0 ([PT sb]) 40, cel c1 ([Str nm]) 9, cel c2 ([vv]) 64]) := by
  exact spec_of (n := 11) Tryz.func154 rfl rfl hh.1 hh.2 rfl <| tk_own1 (mm 6 rfl) fun hfv => tk_drawH [cel sb ([Value.map (some mb), I (s.left), .bool s.off, I (s.made), I (s.room)]) 159, bag (s.obs.map (obR 5)), cel c0 ([PT sb]) 40, cel c1 ([Str nm]) 9, cel c2 ([vv]) 64, ownB vv b 5] [] kR <| s_l 0 rfl (fun _ h => kT [0] 1 rfl h) (y_load rfl rfl (hc (o := 0) (mm 2 rfl) (rfl))) <| s_x 1 rfl (y_nilCheck rfl) <| s_x 2 rfl (y_fld0 (o := 0) rfl kR) <| s_x 3 rfl (y_fld0 (o := 0) rfl kR) <| s_l 4 rfl (fun _ h => kT [0] 1 rfl h) (y_load rfl rfl (hc (o := 0) (.head _) (rfl))) <| s_l 5 rfl (fun _ h => kT [0] 1 rfl h) (y_load rfl rfl (hc (o := 0) (mm 3 rfl) (rfl))) <| s_l 6 rfl (fun _ h => kT [0] 1 rfl h) (y_load rfl rfl (hc (o := 0) (mm 4 rfl) (rfl))) <| s_x 7 rfl (y_build (v := .agg ([vv, .bool false]).toArray) (vs := [(0, vv)]) rfl (run_build (zs := [Value.slice none 0 0, .bool false]) (pl := [(0, 1), (1, 1)]) Tryz.underlying151 (fun _ => kR) (fun _ => kR) (fill_s0 (RdS.cells hfv.choose_spec)))) <| tx_a 8 rfl kR rfl <| a_setS (H1 := [_]) (b := mb) (kv := (kvO s.obs)) (k := nm) (v := (Value.agg ([vv, .bool false]).toArray)) rfl rfl rfl Tryz.underlying153 Tryz.underlying9 rfl <| tk_S (fun _ h => kT [0] 1 rfl h) <| tx_done kR <| tk_R (H1 := [_]) rfl (show mapS mb (setS (kvO s.obs) nm ((Value.agg ([vv, .bool false]).toArray))) = mapS mb (kvO (s.obs ++ [(⟨nm, vv, b, false⟩ : Ob)])) from mapS_cast (kvO_new (o := ⟨nm, vv, b, false⟩) hno)) <| tk_ps [2, 6] rfl <| tk_bag <| tk_R (H1 := []) rfl (show bag ((s.obs.map (obR 5)) ++ [ownB vv b 5]) = bag (((s.obs ++ [(⟨nm, vv, b, false⟩ : Ob)])).map (obR 5)) from bag_cast (by rw [List.map_append]; rfl)) <| tk_ps [5, 5, 5, 3, 5, 5] rfl <| tk_ret (()) (trivial) (.inr rfl) (r0 rfl) (List.Sublist.refl _)
theorem chPut_spec {s : Sh} {q : Sh × Nat} {sb mb c0 c1 c2 : Nat} {vv : Value} {nm b : List UInt8} {w : World} (hq : s.put nm vv b = q) (hok : ShOk s) (hnm : nm.length < 9223372036854775808) (hbl : b.length < 4611686018427387904) (hh : Pre w [cel sb ([Value.map (some mb), I (s.left), .bool s.off, I (s.made), I (s.room)]) 159, mapS mb (kvO s.obs), bag (s.obs.map (obR 5)), cel c0 ([PT sb]) 40, cel c1 ([Str nm]) 9, cel c2 ([vv]) 64, ownB vv b 5]) : Spec Tryz.prog 112 [PT sb, .func (.func 152) #[] #[PT c0, PT c1, PT c2], .func (.func 154) #[] #[PT c2, PT c0, PT c1]] w [cel sb ([Value.map (some mb), I (s.left), .bool s.off, I (s.made), I (s.room)]) 159, mapS mb (kvO s.obs), bag (s.obs.map (obR 5)), cel c0 ([PT sb]) 40, cel c1 ([Str nm]) 9, cel c2 ([vv]) 64, ownB vv b 5] (fun _ : Unit => True) (fun _ => IN q.2) (fun _ => [cel sb ([Value.map (some mb), I (q.1.left), .bool q.1.off, I (q.1.made), I (q.1.room)]) 159, mapS mb (kvO q.1.obs), bag (q.1.obs.map (obR 5))]) := by
  refine spec_of (n := 30) Tryz.func112 rfl rfl hh.1 hh.2 rfl ?_
  have hoff : ∀ h : Bool, Value.bool h = Value.bool (decide (h = true)) := fun h => by simp
  refine tk_own1 (mm 6 rfl) fun hfv => s_r <| q_a rfl rfl <| s_n <| tk_seq <| s_r <| q_m rfl rfl <| s_q rfl (y_pnil rfl rfl rfl) <| s_n <| tk_cond0 rfl <| tk_skip <| tk_then <| tk_seq <| s_r <| q_m rfl rfl <| s_q rfl (y_nilCheck rfl) <| s_q rfl (y_fldN (o := 0) 1 rfl kR) <| s_q rfl (y_fldN (o := 1) 1 rfl kR) <| tk_qe (.bool (decide (s.off = true))) rfl rfl rfl (y_load rfl rfl (hc (o := 2) (.head _) (rfl))) sI <| s_n <| tk_condP rfl (fun ht15 => ?_) (fun ht15 => ?_)
  · refine s_r <| q_a rfl rfl <| s_n <| tk_retc <| tk_then_ret ?_
    obtain rfl : (s, 9) = q := by rw [← hq]; exact Eq.symm (change_off ht15)
    exact tk_ret (()) (trivial) (.inl rfl) (r1 rfl rfl) (.cons_cons _ (.cons_cons _ (.cons_cons _ (List.nil_sublist _))))
  · refine tk_skip <| tk_then <| tk_seq <| s_r <| q_m rfl rfl <| tk_act rfl <| a_callc [] _ rfl rfl kR rfl (fun w' hw' => put1_spec (s := s) hok hnm hbl (St.pre hw')) rfl fun _ _ => q_a rfl rfl <| s_n <| s_r <| q_m rfl rfl <| s_q rfl (y_neq rfl rfl) <| s_n <| tk_condP rfl (fun ht19 => ?_) (fun ht19 => ?_)
    · refine s_r <| q_m rfl rfl <| q_a rfl rfl <| s_n <| tk_retc <| tk_then_ret ?_
      obtain rfl : (s, putC s nm b) = q := by rw [← hq]; exact Eq.symm (change_no ht15 oM)
      exact tk_ret (()) (trivial) (.inl rfl) (r1 rfl rfl) (.cons_cons _ (.cons_cons _ (.cons_cons _ (List.nil_sublist _))))
    · refine tk_skip <| tk_then <| tk_seq <| s_r <| q_m rfl rfl <| s_q rfl (y_nilCheck rfl) <| s_q rfl (y_fldN (o := 0) 1 rfl kR) <| tk_act rfl <| a_callv [] _ rfl kR rfl (fun w' hw' => spend_spec (s := s) (sb := sb) (mb := mb) hok (St.pre hw')) rfl fun _ _ => tk_R (H1 := [_]) rfl (show mapS mb (kvO s.obs) = mapS mb (kvO s.spend.1.obs) from mapS_cast (by rw [spend_obs.1])) <| tk_R (H1 := [_, _]) rfl (show bag (s.obs.map (obR 5)) = bag (s.spend.1.obs.map (obR 5)) from bag_cast (by rw [spend_obs.1])) <| q_a rfl rfl <| s_n <| s_r <| q_m rfl rfl <| s_q rfl (y_neq rfl rfl) <| s_n <| tk_condP rfl (fun ht26 => ?_) (fun ht26 => ?_)
      · refine s_r <| q_m rfl rfl <| q_a rfl rfl <| s_n <| tk_retc <| tk_then_ret ?_
        obtain rfl : s.spend = q := by rw [← hq]; exact Eq.symm (change_sp ht15 oM oM)
        exact tk_ret (()) (trivial) (.inl rfl) (r1 rfl rfl) (.cons_cons _ (.cons_cons _ (.cons_cons _ (List.nil_sublist _))))
      · refine tk_skip <| tk_then <| s_r <| q_m rfl rfl <| tk_act rfl <| a_callc [] _ rfl rfl kR rfl (fun w' hw' => put2_spec (s := s.spend.1) (by rw [spend_obs.1]; exact (putC_ok (s := s) (nm := nm) (b := b) oM).2.1) (St.pre hw')) rfl fun _ _ => s_n <| s_r <| q_a rfl rfl <| s_n <| tk_retc ?_
        obtain rfl : (s.spend.1.obsTo (s.spend.1.obs ++ [(⟨nm, vv, b, false⟩ : Ob)]), 0) = q := by rw [← hq]; exact Eq.symm (change_ok ht15 oM oM)
        exact tk_ret (()) (trivial) (.inl rfl) (r1 rfl rfl) (.cons_cons _ (.cons_cons _ (.cons_cons _ (List.nil_sublist _))))
end Go.Proofs.YtnhpghhibcdklaaGreatDoor
set_option linter.unusedSimpArgs false
set_option linter.unusedVariables false
namespace Go.Proofs.YtnhpghhibcdklaaGreatDoor
open Go Go.RowKit
set_option maxRecDepth 100000
theorem tk_bagW {c : Cx} {L : Sl} {H : List Res} {K : Act → World → Prop} {ps qs : List Res} (hpq : (∀ w, Hs w ps → Hs w qs) ∧ ∀ k, Fs qs k → Fs ps k) (h : TK c K L (bag qs :: H)) : TK c K L (bag ps :: H) := fun a w ha hw =>
  h a w ha ⟨hw.fr, ⟨hpq.1 w hw.hs.1, hw.hs.2⟩, ⟨fun k hk hf => hw.dj.1 k (hpq.2 k hk) hf, hw.dj.2⟩, fun k hk => hw.own k (hk.imp (hpq.2 k) id)⟩
theorem bagW_perm {ps qs : List Res} (h : ps.Perm qs) : (∀ w, Hs w ps → Hs w qs) ∧ ∀ k, Fs qs k → Fs ps k := ⟨fun _ hw => Hs_perm h hw, fun k hk => Fs_perm h.symm k hk⟩
theorem bagW_sub {ps qs : List Res} (h : qs.Sublist ps) : (∀ w, Hs w ps → Hs w qs) ∧ ∀ k, Fs qs k → Fs ps k := ⟨fun _ hw => Hs.sub h hw, fun _ hk => Fs.sub h hk⟩
theorem ren_bag {T : TypeId} {l : List Ob} {na nb : List UInt8} (hn : (l.map Ob.name).Nodup) (h : hasO l na) : (l.map (obR T)).Perm ((delO l na ++ [nameTo (lkO l na) nb]).map (obR T)) := by
  have := (del_perm hn h).map (obR T)
  rw [List.map_append] at this ⊢
  exact this
theorem ren1_spec {s : Sh} {sb mb c0 c1 c2 : Nat} {na nb : List UInt8} {w : World} (hok : ShOk s) (hnb : nb.length < 9223372036854775808) (hh : Pre w [cel sb ([Value.map (some mb), I (s.left), .bool s.off, I (s.made), I (s.room)]) 159, mapS mb (kvO s.obs), bag (s.obs.map (obR 5)), cel c0 ([PT sb]) 40, cel c1 ([Str na]) 9, cel c2 ([Str nb]) 9]) : Spec Tryz.prog 157 [PT c0, PT c1, PT c2] w [cel sb ([Value.map (some mb), I (s.left), .bool s.off, I (s.made), I (s.room)]) 159, mapS mb (kvO s.obs), bag (s.obs.map (obR 5)), cel c0 ([PT sb]) 40, cel c1 ([Str na]) 9, cel c2 ([Str nb]) 9] (fun _ : Unit => True) (fun _ => IN (renC s na nb)) (fun _ => [cel sb ([Value.map (some mb), I (s.left), .bool s.off, I (s.made), I (s.room)]) 159, mapS mb (kvO s.obs), bag (s.obs.map (obR 5)), cel c0 ([PT sb]) 40, cel c1 ([Str na]) 9, cel c2 ([Str nb]) 9]) := by
  refine spec_of (n := 42) Tryz.func157 rfl rfl hh.1 hh.2 rfl ?_
  have hsum := hok.sum
  have hrm := hok.room
  refine tk_bagO (mm 2 rfl) fun hbo => ?_
  have hlk := lk_one hbo
  
  refine s_r <| q_a rfl rfl <| s_n <| tk_seq <| tk_drawH [cel sb ([Value.map (some mb), I (s.left), .bool s.off, I (s.made), I (s.room)]) 159, mapS mb (kvO s.obs), bag (s.obs.map (obR 5)), cel c0 ([PT sb]) 40, cel c1 ([Str na]) 9, cel c2 ([Str nb]) 9] [] kR <| s_l 0 rfl (fun _ h => h) (y_load rfl rfl (hc (o := 0) (mm 3 rfl) (rfl))) <| s_x 1 rfl (y_nilCheck rfl) <| s_x 2 rfl (y_fld0 (o := 0) rfl kR) <| s_x 3 rfl (y_fld0 (o := 0) rfl kR) <| s_l 4 rfl (fun _ h => h) (y_load rfl rfl (hc (o := 0) (.head _) (rfl))) <| s_l 5 rfl (fun _ h => h) (y_load rfl rfl (hc (o := 0) (mm 4 rfl) (rfl))) <| s_l 6 rfl (fun _ h => h) ((y_getSok (b := mb) (kv := (kvO s.obs)) (k := na) (zv := .agg [Value.slice none 0 0, .bool false].toArray) rfl rfl Tryz.underlying153 Tryz.underlying9 (fun _ => kR) (fun w hw => hw.mem (mm 1 rfl))).cast (kvO_ok)) <| s_x 7 rfl (y_move rfl) <| s_x 8 rfl (y_extract rfl rfl) <| s_x 9 rfl (y_extract rfl rfl) <| tx_a 10 rfl kR rfl <| a_allocL (cs := [Value.slice none 0 0, .bool false]) kR rfl fun b4 => tk_S (fun _ h => kD 1 rfl h) <| tx_a 11 rfl kR rfl <| a_storeW (H1 := []) (vs := [(lkO s.obs na).v, .bool ((lkO s.obs na).sure)]) 2 rfl rfl kR rfl ⟨lenP, lenP⟩ (List.forall_mem_cons.2 ⟨(hlk _), (List.forall_mem_cons.2 ⟨rfl, (fun _ h => nomatch h)⟩)⟩) <| tk_S (fun _ h => kD 1 rfl h) <| s_x 12 rfl (y_assign rfl) <| tx_done kR <| tk_then ?_; refine tk_seq <| tk_drawH [cel b4 ([(lkO s.obs na).v, .bool ((lkO s.obs na).sure)]) 151, cel sb ([Value.map (some mb), I (s.left), .bool s.off, I (s.made), I (s.room)]) 159, mapS mb (kvO s.obs), bag (s.obs.map (obR 5)), cel c0 ([PT sb]) 40, cel c1 ([Str na]) 9, cel c2 ([Str nb]) 9] [] kR <| s_l 0 rfl (fun _ h => h) (y_load rfl rfl (hc (o := 0) (mm 4 rfl) (rfl))) <| s_x 1 rfl (y_nilCheck rfl) <| s_x 2 rfl (y_fld0 (o := 0) rfl kR) <| s_x 3 rfl (y_fld0 (o := 0) rfl kR) <| s_l 4 rfl (fun _ h => h) (y_load rfl rfl (hc (o := 0) (mm 1 rfl) (rfl))) <| s_l 5 rfl (fun _ h => h) (y_load rfl rfl (hc (o := 0) (mm 6 rfl) (rfl))) <| s_l 6 rfl (fun _ h => h) ((y_getSok (b := mb) (kv := (kvO s.obs)) (k := nb) (zv := .agg [Value.slice none 0 0, .bool false].toArray) rfl rfl Tryz.underlying153 Tryz.underlying9 (fun _ => kR) (fun w hw => hw.mem (mm 2 rfl))).cast (kvO_ok)) <| s_x 7 rfl (y_move rfl) <| s_x 8 rfl (y_extract rfl rfl) <| s_x 9 rfl (y_extract rfl rfl) <| tx_a 10 rfl kR rfl <| a_allocL (cs := [Value.slice none 0 0, .bool false]) kR rfl fun b6 => tk_S (fun _ h => kD 1 rfl h) <| tx_a 11 rfl kR rfl <| a_storeW (H1 := []) (vs := [(lkO s.obs nb).v, .bool ((lkO s.obs nb).sure)]) 2 rfl rfl kR rfl ⟨lenP, lenP⟩ (List.forall_mem_cons.2 ⟨(hlk _), (List.forall_mem_cons.2 ⟨rfl, (fun _ h => nomatch h)⟩)⟩) <| tk_S (fun _ h => kD 1 rfl h) <| s_x 12 rfl (y_assign rfl) <| tx_done kR <| tk_then <| tk_seq <| tk_block <| s_r ?_; refine s_q rfl (y_load rfl rfl (hc (o := 0) (mm 7 rfl) (rfl))) <| tk_act rfl <| a_callv [] _ rfl kR rfl (fun w' hw' => isname_spec (l := nb) lenP) rfl fun _ _ => s_q rfl ((y_not rfl).cast (notdec _)) <| q_a rfl rfl <| s_n <| tk_condP rfl (fun ht28 => ?_) (fun ht28 => ?_)
  · exact s_r <| q_a rfl rfl <| s_n <| tk_retc <| tk_in_ret <| tk_then_ret <| tk_re 3 (I 5) (IN (renC s na nb)) rfl (by rw [renC, if_pos ht28]; rfl) <| tk_ret (()) (trivial) (.inl rfl) (r1 rfl rfl) (.cons _ (.cons _ (List.Sublist.refl _)))
  · refine s_r <| q_m rfl rfl <| s_q rfl ((y_not rfl).cast (notdec _)) <| q_a rfl rfl <| s_n <| tk_condP rfl (fun ht32 => ?_) (fun ht32 => ?_)
    · exact s_r <| q_a rfl rfl <| s_n <| tk_retc <| tk_in_ret <| tk_then_ret <| tk_re 3 (I 6) (IN (renC s na nb)) rfl (by rw [renC, if_neg ht28, if_pos ht32]; rfl) <| tk_ret (()) (trivial) (.inl rfl) (r1 rfl rfl) (.cons _ (.cons _ (List.Sublist.refl _)))
    · refine s_r <| tk_qs rfl rfl rfl (y_move rfl) (fun hs7_0 => ?_) (fun hs7_0 => ?_)
      · refine q_m rfl rfl <| s_g rfl (y_load rfl rfl (hc (o := 0) (mm 6 rfl) (rfl))) <| s_g rfl (y_load rfl rfl (hc (o := 0) (mm 7 rfl) (rfl))) <| s_g rfl (y_strNe (l := na) (m := nb) rfl rfl) <| s_q rfl (y_pick1 rfl rfl) <| q_a rfl rfl <| s_n <| tk_condP rfl (fun ht35 => ?_) (fun ht35 => ?_)
        · exact s_r <| q_a rfl rfl <| s_n <| tk_retc <| tk_in_ret <| tk_then_ret <| tk_re 3 (I 7) (IN (renC s na nb)) rfl (by rw [renC, if_neg ht28, if_neg ht32, if_pos ⟨hs7_0, ht35⟩]; rfl) <| tk_ret (()) (trivial) (.inl rfl) (r1 rfl rfl) (.cons _ (.cons _ (List.Sublist.refl _)))
        · exact tk_skip <| tk_in_normal <| tk_then <| s_r <| q_a rfl rfl <| s_n <| tk_retc <| tk_re 3 (I 0) (IN (renC s na nb)) rfl (by rw [renC, if_neg ht28, if_neg ht32, if_neg (fun q => ht35 q.2)]; rfl) <| tk_ret (()) (trivial) (.inl rfl) (r1 rfl rfl) (.cons _ (.cons _ (List.Sublist.refl _)))
      · exact q_m rfl rfl <| tk_gno rfl rfl rfl <| tk_gno rfl rfl rfl <| tk_gno rfl rfl rfl <| s_q rfl (y_pick0 rfl rfl) <| q_a rfl rfl <| s_n <| tk_cond0 rfl <| tk_skip <| tk_in_normal <| tk_then <| s_r <| q_a rfl rfl <| s_n <| tk_retc <| tk_re 3 (I 0) (IN (renC s na nb)) rfl (by rw [renC, if_neg ht28, if_neg ht32, if_neg (fun q => hs7_0 q.1)]; rfl) <| tk_ret (()) (trivial) (.inl rfl) (r1 rfl rfl) (.cons _ (.cons _ (List.Sublist.refl _)))
theorem ren2_spec {s : Sh} {sb mb c0 c1 c2 : Nat} {na nb : List UInt8} {w : World} (hnd : (s.obs.map Ob.name).Nodup) (hha : hasO s.obs na) (hno : hasO s.obs nb → na = nb) (hh : Pre w [cel sb ([Value.map (some mb), I (s.left), .bool s.off, I (s.made), I (s.room)]) 159, mapS mb (kvO s.obs), bag (s.obs.map (obR 5)), cel c0 ([PT sb]) 40, cel c1 ([Str na]) 9, cel c2 ([Str nb]) 9]) : Spec Tryz.prog 158 [PT c0, PT c1, PT c2] w [cel sb ([Value.map (some mb), I (s.left), .bool s.off, I (s.made), I (s.room)]) 159, mapS mb (kvO s.obs), bag (s.obs.map (obR 5)), cel c0 ([PT sb]) 40, cel c1 ([Str na]) 9, cel c2 ([Str nb]) 9] (fun _ : Unit => True) (fun _ => .tuple #[]) (fun _ => [cel sb ([Value.map (some mb), I ((s.obsTo (delO s.obs na ++ [nameTo (lkO s.obs na) nb])).left), .bool ((s.obsTo (delO s.obs na ++ [nameTo (lkO s.obs na) nb])).off), I ((s.obsTo (delO s.obs na ++ [nameTo (lkO s.obs na) nb])).made), I ((s.obsTo (delO s.obs na ++ [nameTo (lkO s.obs na) nb])).room)]) 159, mapS mb (kvO ((s.obsTo (delO s.obs na ++ [nameTo (lkO s.obs na) nb])).obs)), bag (((s.obsTo (delO s.obs na ++ [nameTo (lkO s.obs na) nb])).obs).map (obR 5)), cel c0 ([PT sb]) 40, cel c1 ([Str na]) 9, cel c2 ([Str nb]) 9]) := by
  refine spec_of (n := 24) Tryz.func158 rfl rfl hh.1 hh.2 rfl <| tk_bagO (mm 2 rfl) fun hbo => ?_
  have hlk := lk_one hbo
  refine tk_seq <| tk_drawH [cel sb ([Value.map (some mb), I (s.left), .bool s.off, I (s.made), I (s.room)]) 159, mapS mb (kvO s.obs), bag (s.obs.map (obR 5)), cel c0 ([PT sb]) 40, cel c1 ([Str na]) 9, cel c2 ([Str nb]) 9] [] kR <| s_l 0 rfl (fun _ h => h) (y_load rfl rfl (hc (o := 0) (mm 3 rfl) (rfl))) <| s_x 1 rfl (y_nilCheck rfl) <| s_x 2 rfl (y_fld0 (o := 0) rfl kR) <| s_x 3 rfl (y_fld0 (o := 0) rfl kR) <| s_l 4 rfl (fun _ h => h) (y_load rfl rfl (hc (o := 0) (.head _) (rfl))) <| s_l 5 rfl (fun _ h => h) (y_load rfl rfl (hc (o := 0) (mm 4 rfl) (rfl))) <| s_l 6 rfl (fun _ h => h) ((y_getS (b := mb) (kv := (kvO s.obs)) (k := na) (zv := .agg [Value.slice none 0 0, .bool false].toArray) rfl rfl Tryz.underlying153 Tryz.underlying9 (fun _ => kR) (fun w hw => hw.mem (mm 1 rfl))).cast (kvO_get)) <| tx_a 7 rfl kR rfl <| a_allocL (cs := [Value.slice none 0 0, .bool false]) kR rfl fun b3 => tk_S (fun _ h => kD 1 rfl h) <| tx_a 8 rfl kR rfl <| a_storeW (H1 := []) (vs := [(lkO s.obs na).v, .bool ((lkO s.obs na).sure)]) 2 rfl rfl kR rfl ⟨lenP, lenP⟩ (List.forall_mem_cons.2 ⟨(hlk _), (List.forall_mem_cons.2 ⟨rfl, (fun _ h => nomatch h)⟩)⟩) <| tk_S (fun _ h => kD 1 rfl h) <| tx_done kR <| tk_then <| tk_seq <| tk_drawH [cel b3 ([(lkO s.obs na).v, .bool ((lkO s.obs na).sure)]) 151, cel sb ([Value.map (some mb), I (s.left), .bool s.off, I (s.made), I (s.room)]) 159, bag (s.obs.map (obR 5)), cel c0 ([PT sb]) 40, cel c1 ([Str na]) 9, cel c2 ([Str nb]) 9] [] kR <| s_l 0 rfl (fun _ h => kT [0, 0] 1 rfl h) (y_load rfl rfl (hc (o := 0) (mm 3 rfl) (rfl))) <| s_x 1 rfl (y_nilCheck rfl) <| s_x 2 rfl (y_fld0 (o := 0) rfl kR) <| s_x 3 rfl (y_fld0 (o := 0) rfl kR) <| s_l 4 rfl (fun _ h => kT [0, 0] 1 rfl h) (y_load rfl rfl (hc (o := 0) (mm 1 rfl) (rfl))) ?_; exact s_l 5 rfl (fun _ h => kT [0, 0] 1 rfl h) (y_load rfl rfl (hc (o := 0) (mm 4 rfl) (rfl))) <| tx_a 6 rfl kR rfl <| a_delS (H1 := [_, _]) (b := mb) (kv := (kvO s.obs)) (k := na) rfl rfl Tryz.underlying153 Tryz.underlying9 rfl <| tk_S (fun _ h => kT [0, 0] 1 rfl h) <| tx_done kR <| tk_then <| tk_R (H1 := [_, _]) rfl (show mapS mb (delS (kvO s.obs) na) = mapS mb (kvO (delO s.obs na)) from mapS_cast kvO_del) <| tk_drawH [cel b3 ([(lkO s.obs na).v, .bool ((lkO s.obs na).sure)]) 151, cel sb ([Value.map (some mb), I (s.left), .bool s.off, I (s.made), I (s.room)]) 159, bag (s.obs.map (obR 5)), cel c0 ([PT sb]) 40, cel c1 ([Str na]) 9, cel c2 ([Str nb]) 9] [] kR <| s_l 0 rfl (fun _ h => kT [0, 0] 1 rfl h) (y_load rfl rfl (hc (o := 0) (mm 3 rfl) (rfl))) <| s_x 1 rfl (y_nilCheck rfl) <| s_x 2 rfl (y_fld0 (o := 0) rfl kR) <| s_x 3 rfl (y_fld0 (o := 0) rfl kR) <| s_l 4 rfl (fun _ h => kT [0, 0] 1 rfl h) (y_load rfl rfl (hc (o := 0) (mm 1 rfl) (rfl))) <| s_l 5 rfl (fun _ h => kT [0, 0] 1 rfl h) (y_load rfl rfl (hc (o := 0) (mm 5 rfl) (rfl))) <| s_l 6 rfl (fun _ h => kT [0, 0] 1 rfl h) (y_loadA 2 rfl kR lenP (hcw (.head _))) <| tx_a 7 rfl kR rfl <| a_setS (H1 := [_, _]) (b := mb) (kv := (kvO (delO s.obs na))) (k := nb) (v := (Value.agg ([(lkO s.obs na).v, .bool ((lkO s.obs na).sure)]).toArray)) rfl rfl rfl Tryz.underlying153 Tryz.underlying9 rfl <| tk_S (fun _ h => kT [0, 0] 1 rfl h) <| tx_done kR <| tk_R (H1 := [_, _]) rfl (show mapS mb (setS ((kvO (delO s.obs na))) nb ((Value.agg ([(lkO s.obs na).v, .bool ((lkO s.obs na).sure)]).toArray))) = mapS mb (kvO (delO s.obs na ++ [nameTo (lkO s.obs na) nb])) from mapS_cast (kvO_new (o := nameTo (lkO s.obs na) nb) (fun h => (del_has.1 h).2 (hno (del_has.1 h).1).symm))) <| tk_ps [3] rfl <| tk_bagW (qs := (delO s.obs na ++ [nameTo (lkO s.obs na) nb]).map (obR 5)) (bagW_perm (ren_bag hnd hha)) <| tk_ps [6, 6, 6, 3, 6, 6] rfl <| tk_ret (()) (trivial) (.inr rfl) (r0 rfl) (.cons_cons _ (.cons_cons _ (.cons_cons _ (.cons_cons _ (.cons_cons _ (.cons_cons _ (List.nil_sublist _)))))))
theorem del1_spec {s : Sh} {sb mb c0 c1 : Nat} {na : List UInt8} {w : World} (hok : ShOk s) (hh : Pre w [cel sb ([Value.map (some mb), I (s.left), .bool s.off, I (s.made), I (s.room)]) 159, mapS mb (kvO s.obs), bag (s.obs.map (obR 5)), cel c0 ([PT sb]) 40, cel c1 ([Str na]) 9]) : Spec Tryz.prog 113 [PT c0, PT c1] w [cel sb ([Value.map (some mb), I (s.left), .bool s.off, I (s.made), I (s.room)]) 159, mapS mb (kvO s.obs), bag (s.obs.map (obR 5)), cel c0 ([PT sb]) 40, cel c1 ([Str na]) 9] (fun _ : Unit => True) (fun _ => IN (delC s na)) (fun _ => [cel sb ([Value.map (some mb), I (s.left), .bool s.off, I (s.made), I (s.room)]) 159, mapS mb (kvO s.obs), bag (s.obs.map (obR 5)), cel c0 ([PT sb]) 40, cel c1 ([Str na]) 9]) := by
  refine spec_of (n := 17) Tryz.func113 rfl rfl hh.1 hh.2 rfl ?_
  have hsum := hok.sum
  have hrm := hok.room
  refine tk_bagO (mm 2 rfl) fun hbo => ?_
  have hlk := lk_one hbo
  
  refine s_r <| q_a rfl rfl <| s_n <| tk_seq <| tk_seq <| tk_drawH [cel sb ([Value.map (some mb), I (s.left), .bool s.off, I (s.made), I (s.room)]) 159, mapS mb (kvO s.obs), bag (s.obs.map (obR 5)), cel c0 ([PT sb]) 40, cel c1 ([Str na]) 9] [] kR <| s_l 0 rfl (fun _ h => h) (y_load rfl rfl (hc (o := 0) (mm 3 rfl) (rfl))) <| s_x 1 rfl (y_nilCheck rfl) <| s_x 2 rfl (y_fld0 (o := 0) rfl kR) <| s_x 3 rfl (y_fld0 (o := 0) rfl kR) <| s_l 4 rfl (fun _ h => h) (y_load rfl rfl (hc (o := 0) (.head _) (rfl))) <| s_l 5 rfl (fun _ h => h) (y_load rfl rfl (hc (o := 0) (mm 4 rfl) (rfl))) <| s_l 6 rfl (fun _ h => h) ((y_getSok (b := mb) (kv := (kvO s.obs)) (k := na) (zv := .agg [Value.slice none 0 0, .bool false].toArray) rfl rfl Tryz.underlying153 Tryz.underlying9 (fun _ => kR) (fun w hw => hw.mem (mm 1 rfl))).cast (kvO_ok)) <| s_x 7 rfl (y_move rfl) <| s_x 8 rfl (y_extract rfl rfl) <| s_x 9 rfl (y_extract rfl rfl) <| tx_a 10 rfl kR rfl <| a_allocL (cs := [Value.slice none 0 0, .bool false]) kR rfl fun b3 => tk_S (fun _ h => kD 1 rfl h) <| tx_a 11 rfl kR rfl <| a_storeW (H1 := []) (vs := [(lkO s.obs na).v, .bool ((lkO s.obs na).sure)]) 2 rfl rfl kR rfl ⟨lenP, lenP⟩ (List.forall_mem_cons.2 ⟨(hlk _), (List.forall_mem_cons.2 ⟨rfl, (fun _ h => nomatch h)⟩)⟩) <| tk_S (fun _ h => kD 1 rfl h) <| s_x 12 rfl (y_assign rfl) <| tx_done kR ?_; refine tk_then <| s_r <| q_m rfl rfl <| s_q rfl ((y_not rfl).cast (notdec _)) <| s_n <| tk_condP rfl (fun ht16 => ?_) (fun ht16 => ?_)
  · exact s_r <| q_a rfl rfl <| s_n <| tk_retc <| tk_then_ret <| tk_re 2 (I 6) (IN (delC s na)) rfl (by rw [delC, if_pos ht16]; rfl) <| tk_ret (()) (trivial) (.inl rfl) (r1 rfl rfl) (.cons _ (List.Sublist.refl _))
  · exact tk_skip <| tk_then <| s_r <| q_a rfl rfl <| s_n <| tk_retc <| tk_re 2 (I 0) (IN (delC s na)) rfl (by rw [delC, if_neg ht16]; rfl) <| tk_ret (()) (trivial) (.inl rfl) (r1 rfl rfl) (.cons _ (List.Sublist.refl _))
theorem del2_spec {s : Sh} {sb mb c0 c1 : Nat} {na : List UInt8} {w : World} (hh : Pre w [cel sb ([Value.map (some mb), I (s.left), .bool s.off, I (s.made), I (s.room)]) 159, mapS mb (kvO s.obs), bag (s.obs.map (obR 5)), cel c0 ([PT sb]) 40, cel c1 ([Str na]) 9]) : Spec Tryz.prog 114 [PT c0, PT c1] w [cel sb ([Value.map (some mb), I (s.left), .bool s.off, I (s.made), I (s.room)]) 159, mapS mb (kvO s.obs), bag (s.obs.map (obR 5)), cel c0 ([PT sb]) 40, cel c1 ([Str na]) 9] (fun _ : Unit => True) (fun _ => .tuple #[]) (fun _ => [cel sb ([Value.map (some mb), I ((s.obsTo (delO s.obs na)).left), .bool ((s.obsTo (delO s.obs na)).off), I ((s.obsTo (delO s.obs na)).made), I ((s.obsTo (delO s.obs na)).room)]) 159, mapS mb (kvO ((s.obsTo (delO s.obs na)).obs)), bag (((s.obsTo (delO s.obs na)).obs).map (obR 5)), cel c0 ([PT sb]) 40, cel c1 ([Str na]) 9]) := by
  exact spec_of (n := 8) Tryz.func114 rfl rfl hh.1 hh.2 rfl <| tk_drawH [cel sb ([Value.map (some mb), I (s.left), .bool s.off, I (s.made), I (s.room)]) 159, bag (s.obs.map (obR 5)), cel c0 ([PT sb]) 40, cel c1 ([Str na]) 9] [] kR <| s_l 0 rfl (fun _ h => kT [0] 1 rfl h) (y_load rfl rfl (hc (o := 0) (mm 2 rfl) (rfl))) <| s_x 1 rfl (y_nilCheck rfl) <| s_x 2 rfl (y_fld0 (o := 0) rfl kR) <| s_x 3 rfl (y_fld0 (o := 0) rfl kR) <| s_l 4 rfl (fun _ h => kT [0] 1 rfl h) (y_load rfl rfl (hc (o := 0) (.head _) (rfl))) <| s_l 5 rfl (fun _ h => kT [0] 1 rfl h) (y_load rfl rfl (hc (o := 0) (mm 3 rfl) (rfl))) <| tx_a 6 rfl kR rfl <| a_delS (H1 := [_]) (b := mb) (kv := (kvO s.obs)) (k := na) rfl rfl Tryz.underlying153 Tryz.underlying9 rfl <| tk_S (fun _ h => kT [0] 1 rfl h) <| tx_done kR <| tk_R (H1 := [_]) rfl (show mapS mb (delS (kvO s.obs) na) = mapS mb (kvO (delO s.obs na)) from mapS_cast kvO_del) <| tk_ps [2] rfl <| tk_bagW (qs := (delO s.obs na).map (obR 5)) (bagW_sub (List.Sublist.map _ List.filter_sublist)) <| tk_ps [4, 4, 2, 4, 4] rfl <| tk_ret (()) (trivial) (.inr rfl) (r0 rfl) (List.Sublist.refl _)
theorem fine_spec {w : World} : Spec Tryz.prog 155 [] w [] (fun _ : Unit => True) (fun _ => I 0) (fun _ => []) := by
  exact spec_of (n := 1) Tryz.func155 rfl rfl trivial trivial rfl <| s_r <| q_a rfl rfl <| s_n <| s_r <| q_a rfl rfl <| s_n <| tk_retc <| tk_ret (()) (trivial) (.inl rfl) (r1 rfl rfl) (List.Sublist.refl _)
theorem nopS_spec {w : World} : Spec Tryz.prog 156 [] w [] (fun _ : Unit => True) (fun _ => .tuple #[]) (fun _ => []) := by
  exact spec_of (n := 0) Tryz.func156 rfl rfl trivial trivial rfl <| tk_skip <| tk_ret (()) (trivial) (.inr rfl) (r0 rfl) (List.Sublist.refl _)
theorem nopN_spec {w : World} : Spec Tryz.prog 197 [] w [] (fun _ : Unit => True) (fun _ => .tuple #[]) (fun _ => []) := by
  exact spec_of (n := 0) Tryz.func197 rfl rfl trivial trivial rfl <| tk_skip <| tk_ret (()) (trivial) (.inr rfl) (r0 rfl) (List.Sublist.refl _)
theorem chRen_spec {s : Sh} {q : Sh × Nat} {sb mb c0 c1 c2 : Nat} {na nb : List UInt8} {w : World} (hq : s.ren na nb = q) (hok : ShOk s) (hnb : nb.length < 9223372036854775808) (hh : Pre w [cel sb ([Value.map (some mb), I (s.left), .bool s.off, I (s.made), I (s.room)]) 159, mapS mb (kvO s.obs), bag (s.obs.map (obR 5)), cel c0 ([PT sb]) 40, cel c1 ([Str na]) 9, cel c2 ([Str nb]) 9]) : Spec Tryz.prog 112 [PT sb, .func (.func 157) #[] #[PT c0, PT c1, PT c2], .func (.func 158) #[] #[PT c0, PT c1, PT c2]] w [cel sb ([Value.map (some mb), I (s.left), .bool s.off, I (s.made), I (s.room)]) 159, mapS mb (kvO s.obs), bag (s.obs.map (obR 5)), cel c0 ([PT sb]) 40, cel c1 ([Str na]) 9, cel c2 ([Str nb]) 9] (fun _ : Unit => True) (fun _ => IN q.2) (fun _ => [cel sb ([Value.map (some mb), I (q.1.left), .bool q.1.off, I (q.1.made), I (q.1.room)]) 159, mapS mb (kvO q.1.obs), bag (q.1.obs.map (obR 5))]) := by
  refine spec_of (n := 30) Tryz.func112 rfl rfl hh.1 hh.2 rfl ?_
  have hoff : ∀ h : Bool, Value.bool h = Value.bool (decide (h = true)) := fun h => by simp
  refine s_r <| q_a rfl rfl <| s_n <| tk_seq <| s_r <| q_m rfl rfl <| s_q rfl (y_pnil rfl rfl rfl) <| s_n <| tk_cond0 rfl <| tk_skip <| tk_then <| tk_seq <| s_r <| q_m rfl rfl <| s_q rfl (y_nilCheck rfl) <| s_q rfl (y_fldN (o := 0) 1 rfl kR) <| s_q rfl (y_fldN (o := 1) 1 rfl kR) <| tk_qe (.bool (decide (s.off = true))) rfl rfl rfl (y_load rfl rfl (hc (o := 2) (.head _) (rfl))) sI <| s_n <| tk_condP rfl (fun ht15 => ?_) (fun ht15 => ?_)
  · refine s_r <| q_a rfl rfl <| s_n <| tk_retc <| tk_then_ret ?_
    obtain rfl : (s, 9) = q := by rw [← hq]; exact Eq.symm (change_off ht15)
    exact tk_ret (()) (trivial) (.inl rfl) (r1 rfl rfl) (.cons_cons _ (.cons_cons _ (.cons_cons _ (List.nil_sublist _))))
  · refine tk_skip <| tk_then <| tk_seq <| s_r <| q_m rfl rfl <| tk_act rfl <| a_callc [] _ rfl rfl kR rfl (fun w' hw' => ren1_spec (s := s) hok hnb (St.pre hw')) rfl fun _ _ => q_a rfl rfl <| s_n <| s_r <| q_m rfl rfl <| s_q rfl (y_neq rfl rfl) <| s_n <| tk_condP rfl (fun ht19 => ?_) (fun ht19 => ?_)
    · refine s_r <| q_m rfl rfl <| q_a rfl rfl <| s_n <| tk_retc <| tk_then_ret ?_
      obtain rfl : (s, renC s na nb) = q := by rw [← hq]; exact Eq.symm (change_no ht15 oM)
      exact tk_ret (()) (trivial) (.inl rfl) (r1 rfl rfl) (.cons_cons _ (.cons_cons _ (.cons_cons _ (List.nil_sublist _))))
    · refine tk_skip <| tk_then <| tk_seq <| s_r <| q_m rfl rfl <| s_q rfl (y_nilCheck rfl) <| s_q rfl (y_fldN (o := 0) 1 rfl kR) <| tk_act rfl <| a_callv [] _ rfl kR rfl (fun w' hw' => spend_spec (s := s) (sb := sb) (mb := mb) hok (St.pre hw')) rfl fun _ _ => tk_R (H1 := [_]) rfl (show mapS mb (kvO s.obs) = mapS mb (kvO s.spend.1.obs) from mapS_cast (by rw [spend_obs.1])) <| tk_R (H1 := [_, _]) rfl (show bag (s.obs.map (obR 5)) = bag (s.spend.1.obs.map (obR 5)) from bag_cast (by rw [spend_obs.1])) <| q_a rfl rfl <| s_n <| s_r <| q_m rfl rfl <| s_q rfl (y_neq rfl rfl) <| s_n <| tk_condP rfl (fun ht26 => ?_) (fun ht26 => ?_)
      · refine s_r <| q_m rfl rfl <| q_a rfl rfl <| s_n <| tk_retc <| tk_then_ret ?_
        obtain rfl : s.spend = q := by rw [← hq]; exact Eq.symm (change_sp ht15 oM oM)
        exact tk_ret (()) (trivial) (.inl rfl) (r1 rfl rfl) (.cons_cons _ (.cons_cons _ (.cons_cons _ (List.nil_sublist _))))
      · refine tk_skip <| tk_then <| s_r <| q_m rfl rfl <| tk_act rfl <| a_callc [] _ rfl rfl kR rfl (fun w' hw' => ren2_spec (s := s.spend.1) (by rw [spend_obs.1]; exact hok.nodup) (by rw [spend_obs.1]; exact (renC_ok (s := s) (a := na) (b := nb) oM).2.1) (by rw [spend_obs.1]; exact (renC_ok (s := s) (a := na) (b := nb) oM).2.2) (St.pre hw')) rfl fun _ _ => s_n <| s_r <| q_a rfl rfl <| s_n <| tk_retc ?_
        obtain rfl : (s.spend.1.obsTo (delO s.spend.1.obs na ++ [nameTo (lkO s.spend.1.obs na) nb]), 0) = q := by rw [← hq]; exact Eq.symm (change_ok ht15 oM oM)
        exact tk_ret (()) (trivial) (.inl rfl) (r1 rfl rfl) (.cons_cons _ (.cons_cons _ (.cons_cons _ (List.nil_sublist _))))
theorem chDel_spec {s : Sh} {q : Sh × Nat} {sb mb c0 c1 : Nat} {na : List UInt8} {w : World} (hq : s.del na = q) (hok : ShOk s) (hh : Pre w [cel sb ([Value.map (some mb), I (s.left), .bool s.off, I (s.made), I (s.room)]) 159, mapS mb (kvO s.obs), bag (s.obs.map (obR 5)), cel c0 ([PT sb]) 40, cel c1 ([Str na]) 9]) : Spec Tryz.prog 112 [PT sb, .func (.func 113) #[] #[PT c0, PT c1], .func (.func 114) #[] #[PT c0, PT c1]] w [cel sb ([Value.map (some mb), I (s.left), .bool s.off, I (s.made), I (s.room)]) 159, mapS mb (kvO s.obs), bag (s.obs.map (obR 5)), cel c0 ([PT sb]) 40, cel c1 ([Str na]) 9] (fun _ : Unit => True) (fun _ => IN q.2) (fun _ => [cel sb ([Value.map (some mb), I (q.1.left), .bool q.1.off, I (q.1.made), I (q.1.room)]) 159, mapS mb (kvO q.1.obs), bag (q.1.obs.map (obR 5))]) := by
  refine spec_of (n := 30) Tryz.func112 rfl rfl hh.1 hh.2 rfl ?_
  have hoff : ∀ h : Bool, Value.bool h = Value.bool (decide (h = true)) := fun h => by simp
  refine s_r <| q_a rfl rfl <| s_n <| tk_seq <| s_r <| q_m rfl rfl <| s_q rfl (y_pnil rfl rfl rfl) <| s_n <| tk_cond0 rfl <| tk_skip <| tk_then <| tk_seq <| s_r <| q_m rfl rfl <| s_q rfl (y_nilCheck rfl) <| s_q rfl (y_fldN (o := 0) 1 rfl kR) <| s_q rfl (y_fldN (o := 1) 1 rfl kR) <| tk_qe (.bool (decide (s.off = true))) rfl rfl rfl (y_load rfl rfl (hc (o := 2) (.head _) (rfl))) sI <| s_n <| tk_condP rfl (fun ht15 => ?_) (fun ht15 => ?_)
  · refine s_r <| q_a rfl rfl <| s_n <| tk_retc <| tk_then_ret ?_
    obtain rfl : (s, 9) = q := by rw [← hq]; exact Eq.symm (change_off ht15)
    exact tk_ret (()) (trivial) (.inl rfl) (r1 rfl rfl) (.cons_cons _ (.cons_cons _ (.cons_cons _ (List.nil_sublist _))))
  · refine tk_skip <| tk_then <| tk_seq <| s_r <| q_m rfl rfl <| tk_act rfl <| a_callc [] _ rfl rfl kR rfl (fun w' hw' => del1_spec (s := s) hok (St.pre hw')) rfl fun _ _ => q_a rfl rfl <| s_n <| s_r <| q_m rfl rfl <| s_q rfl (y_neq rfl rfl) <| s_n <| tk_condP rfl (fun ht19 => ?_) (fun ht19 => ?_)
    · refine s_r <| q_m rfl rfl <| q_a rfl rfl <| s_n <| tk_retc <| tk_then_ret ?_
      obtain rfl : (s, delC s na) = q := by rw [← hq]; exact Eq.symm (change_no ht15 oM)
      exact tk_ret (()) (trivial) (.inl rfl) (r1 rfl rfl) (.cons_cons _ (.cons_cons _ (.cons_cons _ (List.nil_sublist _))))
    · refine tk_skip <| tk_then <| tk_seq <| s_r <| q_m rfl rfl <| s_q rfl (y_nilCheck rfl) <| s_q rfl (y_fldN (o := 0) 1 rfl kR) <| tk_act rfl <| a_callv [] _ rfl kR rfl (fun w' hw' => spend_spec (s := s) (sb := sb) (mb := mb) hok (St.pre hw')) rfl fun _ _ => tk_R (H1 := [_]) rfl (show mapS mb (kvO s.obs) = mapS mb (kvO s.spend.1.obs) from mapS_cast (by rw [spend_obs.1])) <| tk_R (H1 := [_, _]) rfl (show bag (s.obs.map (obR 5)) = bag (s.spend.1.obs.map (obR 5)) from bag_cast (by rw [spend_obs.1])) <| q_a rfl rfl <| s_n <| s_r <| q_m rfl rfl <| s_q rfl (y_neq rfl rfl) <| s_n <| tk_condP rfl (fun ht26 => ?_) (fun ht26 => ?_)
      · refine s_r <| q_m rfl rfl <| q_a rfl rfl <| s_n <| tk_retc <| tk_then_ret ?_
        obtain rfl : s.spend = q := by rw [← hq]; exact Eq.symm (change_sp ht15 oM oM)
        exact tk_ret (()) (trivial) (.inl rfl) (r1 rfl rfl) (.cons_cons _ (.cons_cons _ (.cons_cons _ (List.nil_sublist _))))
      · refine tk_skip <| tk_then <| s_r <| q_m rfl rfl <| tk_act rfl <| a_callc [] _ rfl rfl kR rfl (fun w' hw' => del2_spec (s := s.spend.1)  (St.pre hw')) rfl fun _ _ => s_n <| s_r <| q_a rfl rfl <| s_n <| tk_retc ?_
        obtain rfl : (s.spend.1.obsTo (delO s.spend.1.obs na), 0) = q := by rw [← hq]; exact Eq.symm (change_ok ht15 oM oM)
        exact tk_ret (()) (trivial) (.inl rfl) (r1 rfl rfl) (.cons_cons _ (.cons_cons _ (.cons_cons _ (List.nil_sublist _))))
theorem chSyn_spec {s : Sh} {q : Sh × Nat} {sb mb : Nat} {w : World} (hq : s.nudge = q) (hok : ShOk s) (hh : Pre w [cel sb ([Value.map (some mb), I (s.left), .bool s.off, I (s.made), I (s.room)]) 159, mapS mb (kvO s.obs), bag (s.obs.map (obR 5))]) : Spec Tryz.prog 112 [PT sb, .func (.func 155) #[] #[], .func (.func 156) #[] #[]] w [cel sb ([Value.map (some mb), I (s.left), .bool s.off, I (s.made), I (s.room)]) 159, mapS mb (kvO s.obs), bag (s.obs.map (obR 5))] (fun _ : Unit => True) (fun _ => IN q.2) (fun _ => [cel sb ([Value.map (some mb), I (q.1.left), .bool q.1.off, I (q.1.made), I (q.1.room)]) 159, mapS mb (kvO q.1.obs), bag (q.1.obs.map (obR 5))]) := by
  refine spec_of (n := 30) Tryz.func112 rfl rfl hh.1 hh.2 rfl ?_
  have hoff : ∀ h : Bool, Value.bool h = Value.bool (decide (h = true)) := fun h => by simp
  refine s_r <| q_a rfl rfl <| s_n <| tk_seq <| s_r <| q_m rfl rfl <| s_q rfl (y_pnil rfl rfl rfl) <| s_n <| tk_cond0 rfl <| tk_skip <| tk_then <| tk_seq <| s_r <| q_m rfl rfl <| s_q rfl (y_nilCheck rfl) <| s_q rfl (y_fldN (o := 0) 1 rfl kR) <| s_q rfl (y_fldN (o := 1) 1 rfl kR) <| tk_qe (.bool (decide (s.off = true))) rfl rfl rfl (y_load rfl rfl (hc (o := 2) (.head _) (rfl))) sI <| s_n <| tk_condP rfl (fun ht15 => ?_) (fun ht15 => ?_)
  · refine s_r <| q_a rfl rfl <| s_n <| tk_retc <| tk_then_ret ?_
    obtain rfl : (s, 9) = q := by rw [← hq]; exact Eq.symm (change_off ht15)
    exact tk_ret (()) (trivial) (.inl rfl) (r1 rfl rfl) (List.Sublist.refl _)
  · refine tk_skip <| tk_then <| tk_seq <| s_r <| q_m rfl rfl <| tk_act rfl <| a_callc [] _ rfl rfl kR rfl (fun w' hw' => fine_spec) rfl fun _ _ => q_a rfl rfl <| s_n <| s_r <| q_m rfl rfl <| s_q rfl ((y_neq rfl rfl).cast (bool_f dC)) <| s_n <| tk_cond0 rfl <| tk_skip <| tk_then <| tk_seq <| s_r <| q_m rfl rfl <| s_q rfl (y_nilCheck rfl) <| s_q rfl (y_fldN (o := 0) 1 rfl kR) <| tk_act rfl <| a_callv [] _ rfl kR rfl (fun w' hw' => spend_spec (s := s) (sb := sb) (mb := mb) hok (St.pre hw')) rfl fun _ _ => tk_R (H1 := [_]) rfl (show mapS mb (kvO s.obs) = mapS mb (kvO s.spend.1.obs) from mapS_cast (by rw [spend_obs.1])) ?_; refine tk_R (H1 := [_, _]) rfl (show bag (s.obs.map (obR 5)) = bag (s.spend.1.obs.map (obR 5)) from bag_cast (by rw [spend_obs.1])) <| q_a rfl rfl <| s_n <| s_r <| q_m rfl rfl <| s_q rfl (y_neq rfl rfl) <| s_n <| tk_condP rfl (fun ht26 => ?_) (fun ht26 => ?_)
    · refine s_r <| q_m rfl rfl <| q_a rfl rfl <| s_n <| tk_retc <| tk_then_ret ?_
      obtain rfl : s.spend = q := by rw [← hq]; exact Eq.symm (change_sp ht15 oM oM)
      exact tk_ret (()) (trivial) (.inl rfl) (r1 rfl rfl) (List.Sublist.refl _)
    · refine tk_skip <| tk_then <| s_r <| q_m rfl rfl <| tk_act rfl <| a_callc [] _ rfl rfl kR rfl (fun w' hw' => nopS_spec) rfl fun _ _ => s_n <| s_r <| q_a rfl rfl <| s_n <| tk_retc ?_
      obtain rfl : (s.spend.1, 0) = q := by rw [← hq]; exact Eq.symm (change_ok ht15 oM oM)
      exact tk_ret (()) (trivial) (.inl rfl) (r1 rfl rfl) (List.Sublist.refl _)
theorem chNud_spec {s : Sh} {q : Sh × Nat} {sb mb : Nat} {w : World} (hq : s.nudge = q) (hok : ShOk s) (hh : Pre w [cel sb ([Value.map (some mb), I (s.left), .bool s.off, I (s.made), I (s.room)]) 159, mapS mb (kvO s.obs), bag (s.obs.map (obR 5))]) : Spec Tryz.prog 112 [PT sb, .func (.func 155) #[] #[], .func (.func 197) #[] #[]] w [cel sb ([Value.map (some mb), I (s.left), .bool s.off, I (s.made), I (s.room)]) 159, mapS mb (kvO s.obs), bag (s.obs.map (obR 5))] (fun _ : Unit => True) (fun _ => IN q.2) (fun _ => [cel sb ([Value.map (some mb), I (q.1.left), .bool q.1.off, I (q.1.made), I (q.1.room)]) 159, mapS mb (kvO q.1.obs), bag (q.1.obs.map (obR 5))]) := by
  refine spec_of (n := 30) Tryz.func112 rfl rfl hh.1 hh.2 rfl ?_
  have hoff : ∀ h : Bool, Value.bool h = Value.bool (decide (h = true)) := fun h => by simp
  refine s_r <| q_a rfl rfl <| s_n <| tk_seq <| s_r <| q_m rfl rfl <| s_q rfl (y_pnil rfl rfl rfl) <| s_n <| tk_cond0 rfl <| tk_skip <| tk_then <| tk_seq <| s_r <| q_m rfl rfl <| s_q rfl (y_nilCheck rfl) <| s_q rfl (y_fldN (o := 0) 1 rfl kR) <| s_q rfl (y_fldN (o := 1) 1 rfl kR) <| tk_qe (.bool (decide (s.off = true))) rfl rfl rfl (y_load rfl rfl (hc (o := 2) (.head _) (rfl))) sI <| s_n <| tk_condP rfl (fun ht15 => ?_) (fun ht15 => ?_)
  · refine s_r <| q_a rfl rfl <| s_n <| tk_retc <| tk_then_ret ?_
    obtain rfl : (s, 9) = q := by rw [← hq]; exact Eq.symm (change_off ht15)
    exact tk_ret (()) (trivial) (.inl rfl) (r1 rfl rfl) (List.Sublist.refl _)
  · refine tk_skip <| tk_then <| tk_seq <| s_r <| q_m rfl rfl <| tk_act rfl <| a_callc [] _ rfl rfl kR rfl (fun w' hw' => fine_spec) rfl fun _ _ => q_a rfl rfl <| s_n <| s_r <| q_m rfl rfl <| s_q rfl ((y_neq rfl rfl).cast (bool_f dC)) <| s_n <| tk_cond0 rfl <| tk_skip <| tk_then <| tk_seq <| s_r <| q_m rfl rfl <| s_q rfl (y_nilCheck rfl) <| s_q rfl (y_fldN (o := 0) 1 rfl kR) <| tk_act rfl <| a_callv [] _ rfl kR rfl (fun w' hw' => spend_spec (s := s) (sb := sb) (mb := mb) hok (St.pre hw')) rfl fun _ _ => tk_R (H1 := [_]) rfl (show mapS mb (kvO s.obs) = mapS mb (kvO s.spend.1.obs) from mapS_cast (by rw [spend_obs.1])) ?_; refine tk_R (H1 := [_, _]) rfl (show bag (s.obs.map (obR 5)) = bag (s.spend.1.obs.map (obR 5)) from bag_cast (by rw [spend_obs.1])) <| q_a rfl rfl <| s_n <| s_r <| q_m rfl rfl <| s_q rfl (y_neq rfl rfl) <| s_n <| tk_condP rfl (fun ht26 => ?_) (fun ht26 => ?_)
    · refine s_r <| q_m rfl rfl <| q_a rfl rfl <| s_n <| tk_retc <| tk_then_ret ?_
      obtain rfl : s.spend = q := by rw [← hq]; exact Eq.symm (change_sp ht15 oM oM)
      exact tk_ret (()) (trivial) (.inl rfl) (r1 rfl rfl) (List.Sublist.refl _)
    · refine tk_skip <| tk_then <| s_r <| q_m rfl rfl <| tk_act rfl <| a_callc [] _ rfl rfl kR rfl (fun w' hw' => nopN_spec) rfl fun _ _ => s_n <| s_r <| q_a rfl rfl <| s_n <| tk_retc ?_
      obtain rfl : (s.spend.1, 0) = q := by rw [← hq]; exact Eq.symm (change_ok ht15 oM oM)
      exact tk_ret (()) (trivial) (.inl rfl) (r1 rfl rfl) (List.Sublist.refl _)
theorem put_spec {s : Sh} {sb mb : Nat} {v : Value} {ps : List Sb} {nm b : List UInt8} {w : World} (hok : ShOk s) (hnm : nm.length < 9223372036854775808) (hbl : b.length < 4294967296 ∧ ps.length < 4294967296) (hv : Ro (Fs [cel sb ([Value.map (some mb), I (s.left), .bool s.off, I (s.made), I (s.room)]) 159, mapS mb (kvO s.obs), bag (s.obs.map (obR 5))]) w (rd v (ps.map Prod.fst))) (hp : ∀ p ∈ ps, Ro (Fs [cel sb ([Value.map (some mb), I (s.left), .bool s.off, I (s.made), I (s.room)]) 159, mapS mb (kvO s.obs), bag (s.obs.map (obR 5))]) w (rdB p.1 p.2)) (hL : ps.flatMap Prod.snd = b) (hh : Pre w [cel sb ([Value.map (some mb), I (s.left), .bool s.off, I (s.made), I (s.room)]) 159, mapS mb (kvO s.obs), bag (s.obs.map (obR 5))]) :
    Spec Tryz.prog 81 [PT sb, Str nm, v] w [cel sb ([Value.map (some mb), I (s.left), .bool s.off, I (s.made), I (s.room)]) 159, mapS mb (kvO s.obs), bag (s.obs.map (obR 5))] (fun _ : Value => True) (fun x => I (((s.put nm x b).2 : Nat) : Int)) (fun x => [cel sb ([Value.map (some mb), I ((s.put nm x b).1.left), .bool ((s.put nm x b).1.off), I ((s.put nm x b).1.made), I ((s.put nm x b).1.room)]) 159, mapS mb (kvO ((s.put nm x b).1.obs)), bag (((s.put nm x b).1.obs).map (obR 5))]) := by
  refine spec_of (n := 14) Tryz.func81 rfl rfl hh.1 hh.2 rfl ?_
  have hLl := congrArg List.length hL
  refine s_r <| tk_act rfl <| a_box1 rfl rfl rfl fun b3 => tk_act rfl <| a_box1 rfl rfl rfl fun b4 => q_a rfl rfl <| s_n <| s_r <| q_m rfl rfl <| tk_act rfl <| a_callv [] _ rfl kR rfl (fun w' hw' => concat_spec (ps := ps) (L := ps.flatMap Prod.snd) (Ro.call hv hw') (fun p hp0 => (hp p hp0).call hw') sI ⟨lenP, lenP⟩) rfl fun v9 _ => tk_R (H1 := []) rfl (show ownB v9 (ps.flatMap Prod.snd) 5 = ownB v9 b 5 from ownM_cast hL) <| tk_own1 (.head _) fun hfb => tk_act rfl <| a_alloc1 (v := .slice none 0 0) kR rfl rfl fun b7 => tk_act rfl <| a_storeE (H1 := []) (o := 0) (v := v9) (cs' := [v9]) rfl rfl kR (RdS.one hfb.choose_spec) rfl sW (rfl) <| s_n <| s_r <| s_q rfl (y_load rfl rfl (hc (o := 0) (mm 3 rfl) (rfl))) <| s_q rfl (y_makeFunc (cs := [PT b3, PT b4, PT b7]) rfl) <| s_q rfl (y_makeFunc (cs := [PT b7, PT b3, PT b4]) rfl) <| tk_act rfl <| tk_ps [1, 1, 2, 3, 6, 6, 6] rfl ?_; exact a_callv [] _ rfl kR rfl (fun w' hw' => chPut_spec (s := s) (q := (s.put nm v9 b)) (c0 := b3) (c1 := b4) (c2 := b7) (vv := v9) (nm := nm) (b := b) rfl hok lenP lenP (St.pre hw')) rfl fun _ _ => q_a rfl rfl <| s_n <| tk_retc <| tk_ret (v9) (trivial) (.inl rfl) (r1 rfl rfl) (List.Sublist.refl _)
theorem ren_spec {s : Sh} {sb mb : Nat} {na nb : List UInt8} {w : World} (hok : ShOk s) (hnb : nb.length < 9223372036854775808) (hh : Pre w [cel sb ([Value.map (some mb), I (s.left), .bool s.off, I (s.made), I (s.room)]) 159, mapS mb (kvO s.obs), bag (s.obs.map (obR 5))]) : Spec Tryz.prog 83 [PT sb, Str na, Str nb] w [cel sb ([Value.map (some mb), I (s.left), .bool s.off, I (s.made), I (s.room)]) 159, mapS mb (kvO s.obs), bag (s.obs.map (obR 5))] (fun _ : Unit => True) (fun _ => I (((s.ren na nb).2 : Nat) : Int)) (fun _ => [cel sb ([Value.map (some mb), I ((s.ren na nb).1.left), .bool ((s.ren na nb).1.off), I ((s.ren na nb).1.made), I ((s.ren na nb).1.room)]) 159, mapS mb (kvO ((s.ren na nb).1.obs)), bag (((s.ren na nb).1.obs).map (obR 5))]) := by
  exact spec_of (n := 11) Tryz.func83 rfl rfl hh.1 hh.2 rfl <| s_r <| tk_act rfl <| a_box1 rfl rfl rfl fun b3 => tk_act rfl <| a_box1 rfl rfl rfl fun b4 => tk_act rfl <| a_box1 rfl rfl rfl fun b5 => q_a rfl rfl <| s_n <| s_r <| s_q rfl (y_load rfl rfl (hc (o := 0) (mm 2 rfl) (rfl))) <| s_q rfl (y_makeFunc (cs := [PT b3, PT b4, PT b5]) rfl) <| s_q rfl (y_makeFunc (cs := [PT b3, PT b4, PT b5]) rfl) <| tk_act rfl <| tk_ps [1, 2, 5, 5, 5] rfl <| a_callv [] _ rfl kR rfl (fun w' hw' => chRen_spec (s := s) (q := (s.ren na nb)) (c0 := b3) (c1 := b4) (c2 := b5) (na := na) (nb := nb) rfl hok lenP (St.pre hw')) rfl fun _ _ => q_a rfl rfl <| s_n <| tk_retc <| tk_ret (()) (trivial) (.inl rfl) (r1 rfl rfl) (List.Sublist.refl _)
theorem del_spec {s : Sh} {sb mb : Nat} {na : List UInt8} {w : World} (hok : ShOk s) (hh : Pre w [cel sb ([Value.map (some mb), I (s.left), .bool s.off, I (s.made), I (s.room)]) 159, mapS mb (kvO s.obs), bag (s.obs.map (obR 5))]) : Spec Tryz.prog 60 [PT sb, Str na] w [cel sb ([Value.map (some mb), I (s.left), .bool s.off, I (s.made), I (s.room)]) 159, mapS mb (kvO s.obs), bag (s.obs.map (obR 5))] (fun _ : Unit => True) (fun _ => I (((s.del na).2 : Nat) : Int)) (fun _ => [cel sb ([Value.map (some mb), I ((s.del na).1.left), .bool ((s.del na).1.off), I ((s.del na).1.made), I ((s.del na).1.room)]) 159, mapS mb (kvO ((s.del na).1.obs)), bag (((s.del na).1.obs).map (obR 5))]) := by
  exact spec_of (n := 9) Tryz.func60 rfl rfl hh.1 hh.2 rfl <| s_r <| tk_act rfl <| a_box1 rfl rfl rfl fun b2 => tk_act rfl <| a_box1 rfl rfl rfl fun b3 => q_a rfl rfl <| s_n <| s_r <| s_q rfl (y_load rfl rfl (hc (o := 0) (mm 1 rfl) (rfl))) <| s_q rfl (y_makeFunc (cs := [PT b2, PT b3]) rfl) <| s_q rfl (y_makeFunc (cs := [PT b2, PT b3]) rfl) <| tk_act rfl <| tk_ps [1, 4, 4, 4] rfl <| a_callv [] _ rfl kR rfl (fun w' hw' => chDel_spec (s := s) (q := (s.del na)) (c0 := b2) (c1 := b3) (na := na) rfl hok (St.pre hw')) rfl fun _ _ => q_a rfl rfl <| s_n <| tk_retc <| tk_ret (()) (trivial) (.inl rfl) (r1 rfl rfl) (List.Sublist.refl _)
theorem nudge_spec {s : Sh} {sb mb : Nat} {w : World} (hok : ShOk s) (hh : Pre w [cel sb ([Value.map (some mb), I (s.left), .bool s.off, I (s.made), I (s.room)]) 159, mapS mb (kvO s.obs), bag (s.obs.map (obR 5))]) : Spec Tryz.prog 107 [PT sb] w [cel sb ([Value.map (some mb), I (s.left), .bool s.off, I (s.made), I (s.room)]) 159, mapS mb (kvO s.obs), bag (s.obs.map (obR 5))] (fun _ : Unit => True) (fun _ => IN s.nudge.2) (fun _ => [cel sb ([Value.map (some mb), I (s.nudge.1.left), .bool s.nudge.1.off, I (s.nudge.1.made), I (s.nudge.1.room)]) 159, mapS mb (kvO s.nudge.1.obs), bag (s.nudge.1.obs.map (obR 5))]) := by
  exact spec_of (n := 5) Tryz.func107 rfl rfl hh.1 hh.2 rfl <| s_r <| q_a rfl rfl <| s_n <| s_r <| q_m rfl rfl <| tk_act rfl <| a_callv [] _ rfl kR rfl (fun w' hw' => chNud_spec (s := s) (q := s.nudge) rfl hok (St.pre hw')) rfl fun _ _ => q_a rfl rfl <| s_n <| tk_retc <| tk_ret (()) (trivial) (.inl rfl) (r1 rfl rfl) (List.Sublist.refl _)
theorem sync_q {s : Sh} {q : Sh × Nat} {sb mb : Nat} {nv : Value} {na : List UInt8} {w : World} (hq : s.sync1 na = q) (hok : ShOk s) (hn : Ro (Fs [cel sb ([Value.map (some mb), I (s.left), .bool s.off, I (s.made), I (s.room)]) 159, mapS mb (kvO s.obs), bag (s.obs.map (obR 5))]) w (rd nv ([na].map Str))) (hh : Pre w [cel sb ([Value.map (some mb), I (s.left), .bool s.off, I (s.made), I (s.room)]) 159, mapS mb (kvO s.obs), bag (s.obs.map (obR 5))]) : Spec Tryz.prog 82 [PT sb, nv] w [cel sb ([Value.map (some mb), I (s.left), .bool s.off, I (s.made), I (s.room)]) 159, mapS mb (kvO s.obs), bag (s.obs.map (obR 5))] (fun _ : Unit => True) (fun _ => IN q.2) (fun _ => [cel sb ([Value.map (some mb), I (q.1.left), .bool q.1.off, I (q.1.made), I (q.1.room)]) 159, mapS mb (kvO q.1.obs), bag (q.1.obs.map (obR 5))]) := by
  refine spec_of (n := 42) Tryz.func82 rfl rfl hh.1 hh.2 rfl <| s_r <| q_a rfl rfl <| s_n <| s_r <| q_m rfl rfl <| tk_act rfl <| a_callv [] _ rfl kR rfl (fun w' hw' => chSyn_spec (s := s) (q := s.nudge) rfl hok (St.pre hw')) rfl fun _ _ => q_a rfl rfl <| s_n <| tk_seq <| s_r <| q_m rfl rfl <| s_q rfl (y_lenRN (n' := 1) rfl hn.1 rfl (by first | rfl | (rw [List.length_map]; omega) | simp)) <| q_m rfl rfl <| s_n <| tk_block <| tk_loop (X := Nat × Sh × Nat) (fun (i, t, e) => (i = 0 ∧ t = s.nudge.1 ∧ e = s.nudge.2) ∨ (i = 1 ∧ s.sync1 na = (t, e))) (fun (i, t, e) => [(0, PT sb), (4, I 0), (5, IN e), (12, nv), (13, I 1), (14, IN i)]) (fun (i, t, e) => [cel sb ([Value.map (some mb), I (t.left), .bool t.off, I (t.made), I (t.room)]) 159, mapS mb (kvO t.obs), bag (t.obs.map (obR 5))]) (fun (i, t, e) => 1 - i) ((0, s.nudge.1, s.nudge.2)) (.inl ⟨rfl, rfl, rfl⟩) sB ((List.Sublist.refl _)) ?_
  rintro ⟨i, t, e⟩ hI
  dsimp only at hI ⊢
  refine s_r <| s_q rfl (y_lss rfl rfl) <| s_n <| tk_seq <| tk_condP rfl (fun ht15 => ?_) (fun ht15 => ?_)
  · obtain ⟨hte, hee⟩ : t = s.nudge.1 ∧ e = s.nudge.2 := hI.elim (fun h => h.2) (fun h => absurd h.1 oM)
    refine tk_bagO (mm 2 rfl) fun hbo => ?_
    have hlk := lk_one hbo
    have hnt : (t.obs.map Ob.name).Nodup := by rw [hte, nudge_obs.1]; exact hok.nodup
    refine tk_skip <| tk_then <| tk_seq <| tk_block <| s_r <| s_q rfl (y_ixR (j := i) rfl rfl hn.1 lenP kR) <| tk_qe (Str na) rfl rfl rfl (y_load rfl rfl (fun w hw => ((fun w hw => Ro.rd hn hw) w hw).cell (gM (d := []) lenP))) (by rw [show i = 0 by omega]; rfl) <| q_a rfl rfl <| s_n <| tk_seq <| s_r <| q_m rfl rfl <| s_q rfl (y_neq rfl rfl) <| s_n <| tk_condP rfl (fun ht19 => ?_) (fun ht19 => ?_)
    · refine tk_exit <| tk_then_exit <| tk_in_miss rfl <| tk_then_exit <| tk_then_exit <| tk_in_hit <| tk_then <| s_r <| q_m rfl rfl <| q_a rfl rfl <| s_n <| tk_retc ?_
      obtain rfl : (t, e) = q := by rw [← hq]; exact Eq.symm (by rw [sync1_no (by rw [← hee]; omega), hte, hee])
      exact tk_ret (()) (trivial) (.inl rfl) (r1 rfl rfl) (List.Sublist.refl _)
    · have he0 : e = 0 := by omega
      have hn0 : s.nudge.2 = 0 := by rw [← hee]; exact he0
      refine tk_skip <| tk_then <| s_r <| q_m rfl rfl <| s_q rfl (y_nilCheck rfl) <| s_q rfl (y_fld0 (o := 0) rfl kR) <| s_q rfl (y_fld0 (o := 0) rfl kR) <| s_q rfl (y_load rfl rfl (hc (o := 0) (.head _) (rfl))) <| q_m rfl rfl <| s_q rfl ((y_getSok (b := mb) (kv := (kvO t.obs)) (k := na) (zv := .agg [Value.slice none 0 0, .bool false].toArray) rfl rfl Tryz.underlying153 Tryz.underlying9 (fun _ => kR) (fun w hw => hw.mem (mm 1 rfl))).cast (kvO_ok)) <| q_m rfl rfl <| s_q rfl (y_extract rfl rfl) <| s_q rfl (y_extract rfl rfl) <| tk_act rfl <| a_allocL (cs := [Value.slice none 0 0, .bool false]) kR rfl fun b8 => tk_act rfl <| a_storeW (H1 := []) (vs := [(lkO t.obs na).v, .bool ((lkO t.obs na).sure)]) 2 rfl rfl kR rfl ⟨lenP, lenP⟩ (List.forall_mem_cons.2 ⟨(hlk _), (List.forall_mem_cons.2 ⟨rfl, (fun _ h => nomatch h)⟩)⟩) <| q_a rfl rfl <| s_n <| tk_seq <| s_r <| q_m rfl rfl <| s_q rfl ((y_not rfl).cast (notdec _)) <| s_n ?_; refine tk_condP rfl (fun ht31 => ?_) (fun ht31 => ?_)
      · refine s_r <| q_a rfl rfl <| s_n <| tk_exit <| tk_then_exit <| tk_in_miss rfl <| tk_then_exit <| tk_then_exit <| tk_in_hit <| tk_then <| s_r <| q_m rfl rfl <| q_a rfl rfl <| s_n <| tk_retc ?_
        obtain rfl : (t, 6) = q := by rw [← hq]; exact Eq.symm (by rw [sync1_miss hn0 (by rw [← hte]; exact ht31), hte])
        exact tk_ret (()) (trivial) (.inl rfl) (r1 rfl rfl) (.cons _ (List.Sublist.refl _))
      · refine tk_skip <| tk_then <| s_r <| s_q rfl (y_fldN (o := 0) 1 rfl kR) <| tk_act rfl <| a_storeE (H1 := []) (o := 1) (v := .bool true) (cs' := [(lkO t.obs na).v, .bool true]) rfl rfl kR rfl rfl sW (rfl) <| s_n <| tk_drawH [cel b8 ([(lkO t.obs na).v, .bool true]) 151, cel sb ([Value.map (some mb), I (t.left), .bool t.off, I (t.made), I (t.room)]) 159, bag (t.obs.map (obR 5))] [] kR <| s_x 0 rfl (y_move rfl) <| s_x 1 rfl (y_nilCheck rfl) <| s_x 2 rfl (y_fld0 (o := 0) rfl kR) <| s_x 3 rfl (y_fld0 (o := 0) rfl kR) <| s_l 4 rfl (fun _ h => kT [0, 0] 1 rfl h) (y_load rfl rfl (hc (o := 0) (mm 1 rfl) (rfl))) <| s_x 5 rfl (y_move rfl) <| s_l 6 rfl (fun _ h => kT [0, 0] 1 rfl h) (y_loadA 2 rfl kR lenP (hcw (.head _))) <| tx_a 7 rfl kR rfl <| a_setS (H1 := [_, _]) (b := mb) (kv := (kvO t.obs)) (k := na) (v := (Value.agg ([(lkO t.obs na).v, .bool true]).toArray)) rfl rfl rfl Tryz.underlying153 Tryz.underlying9 rfl <| tk_S (fun _ h => kT [0, 0] 1 rfl h) <| tx_done kR <| tk_in_normal <| tk_then <| tk_region <| s_q rfl (y_addN (a := i) (b := 1) rfl rfl oM) <| q_m rfl rfl ?_; exact tk_nil <| tk_re 5 (IN e) (I 0) rfl (by rw [he0]; rfl) <| tk_R (H1 := [_, _]) rfl (show mapS mb (setS (kvO t.obs) na ((Value.agg ([(lkO t.obs na).v, .bool true]).toArray))) = mapS mb (kvO (syncO t.obs na)) from mapS_cast (kvO_sync hnt (Classical.not_not.1 ht31))) <| tk_R (H1 := [_, _, _]) rfl (show bag (t.obs.map (obR 5)) = bag ((syncO t.obs na).map (obR 5)) from bag_cast sync_bag.symm) <| tk_again ((i + 1, t.obsTo (syncO t.obs na), 0)) (.inr ⟨by dsimp only; omega, by dsimp only; rw [sync1_ok hn0 (by rw [← hte]; exact Classical.not_not.1 ht31), hte]⟩) (by dsimp only; omega) sB (.cons _ (List.Sublist.refl _))
  · refine tk_exit <| tk_then_exit <| tk_then_exit <| tk_in_hit <| tk_then <| s_r <| q_m rfl rfl <| q_a rfl rfl <| s_n <| tk_retc ?_
    obtain rfl : (t, e) = q := by rw [← hq]; exact Eq.symm (by exact hI.elim (fun h => absurd h.1 oM) (fun h => h.2))
    exact tk_ret (()) (trivial) (.inl rfl) (r1 rfl rfl) (List.Sublist.refl _)
theorem sync_spec {s : Sh} {sb mb : Nat} {nv : Value} {na : List UInt8} {w : World} (hok : ShOk s) (hn : Ro (Fs [cel sb ([Value.map (some mb), I (s.left), .bool s.off, I (s.made), I (s.room)]) 159, mapS mb (kvO s.obs), bag (s.obs.map (obR 5))]) w (rd nv ([na].map Str))) (hh : Pre w [cel sb ([Value.map (some mb), I (s.left), .bool s.off, I (s.made), I (s.room)]) 159, mapS mb (kvO s.obs), bag (s.obs.map (obR 5))]) : Spec Tryz.prog 82 [PT sb, nv] w [cel sb ([Value.map (some mb), I (s.left), .bool s.off, I (s.made), I (s.room)]) 159, mapS mb (kvO s.obs), bag (s.obs.map (obR 5))] (fun _ : Unit => True) (fun _ => I (((s.sync1 na).2 : Nat) : Int)) (fun _ => [cel sb ([Value.map (some mb), I ((s.sync1 na).1.left), .bool ((s.sync1 na).1.off), I ((s.sync1 na).1.made), I ((s.sync1 na).1.room)]) 159, mapS mb (kvO ((s.sync1 na).1.obs)), bag (((s.sync1 na).1.obs).map (obR 5))]) := sync_q rfl hok hn hh
theorem get_q {s : Sh} {q : Nat × List UInt8} {sb mb : Nat} {na : List UInt8} {w : World} (hq : s.get na = q) (hok : ShOk s) (hh : Pre w [cel sb ([Value.map (some mb), I (s.left), .bool s.off, I (s.made), I (s.room)]) 159, mapS mb (kvO s.obs), bag (s.obs.map (obR 5))]) : Spec Tryz.prog 23 [PT sb, Str na] w [cel sb ([Value.map (some mb), I (s.left), .bool s.off, I (s.made), I (s.room)]) 159, mapS mb (kvO s.obs), bag (s.obs.map (obR 5))] (fun _ : Value => True) (fun x => .tuple #[x, IN q.1]) (fun x => [ownB x q.2 5, cel sb ([Value.map (some mb), I (s.left), .bool s.off, I (s.made), I (s.room)]) 159, mapS mb (kvO s.obs), bag (s.obs.map (obR 5))]) := by
  refine spec_of (n := 29) Tryz.func23 rfl rfl hh.1 hh.2 rfl ?_
  have hsum := hok.sum
  have hrm := hok.room
  refine tk_bagO (mm 2 rfl) fun hbo => ?_
  have hlk := lk_one hbo
  
  refine s_r <| q_a rfl rfl <| q_a rfl rfl <| s_n <| tk_seq <| s_r <| q_m rfl rfl <| tk_act rfl <| a_callv [] _ rfl kR rfl (fun w' hw' => look_spec (s := s) (sb := sb) (mb := mb) (St.pre hw')) rfl fun _ _ => q_a rfl rfl <| s_n <| s_r <| q_m rfl rfl <| s_q rfl (y_neq rfl rfl) <| s_n <| tk_condP rfl (fun ht12 => ?_) (fun ht12 => ?_)
  · have hof : s.off = true := Classical.not_not.1 fun h => by rw [if_neg h] at ht12; omega
    refine s_r <| q_m rfl rfl <| q_a rfl rfl <| q_a rfl rfl <| s_n <| tk_retc <| tk_then_ret <| tk_ownM0 (f := B) 5 ?_
    obtain rfl : (9, []) = q := by rw [← hq]; exact Eq.symm (by rw [Sh.get, if_pos hof])
    exact tk_re 5 (I (((if s.off = true then 9 else 0) : Nat) : Int)) (I 9) rfl (by rw [if_pos hof]; rfl) <| tk_ret ((.slice none 0 0)) (trivial) (.inl rfl) (r2 rfl rfl rfl) (List.Sublist.refl _)
  · have hno : ¬ s.off = true := fun h => by rw [if_pos h] at ht12; omega
    refine tk_skip <| tk_then <| s_r <| q_m rfl rfl <| s_q rfl (y_nilCheck rfl) <| s_q rfl (y_fld0 (o := 0) rfl kR) <| s_q rfl (y_fld0 (o := 0) rfl kR) <| s_q rfl (y_load rfl rfl (hc (o := 0) (.head _) (rfl))) <| q_m rfl rfl <| s_q rfl ((y_getSok (b := mb) (kv := (kvO s.obs)) (k := na) (zv := .agg [Value.slice none 0 0, .bool false].toArray) rfl rfl Tryz.underlying153 Tryz.underlying9 (fun _ => kR) (fun w hw => hw.mem (mm 1 rfl))).cast (kvO_ok)) <| q_m rfl rfl <| s_q rfl (y_extract rfl rfl) <| s_q rfl (y_extract rfl rfl) <| tk_act rfl <| a_allocL (cs := [Value.slice none 0 0, .bool false]) kR rfl fun b7 => tk_act rfl <| a_storeW (H1 := []) (vs := [(lkO s.obs na).v, .bool ((lkO s.obs na).sure)]) 2 rfl rfl kR rfl ⟨lenP, lenP⟩ (List.forall_mem_cons.2 ⟨(hlk _), (List.forall_mem_cons.2 ⟨rfl, (fun _ h => nomatch h)⟩)⟩) <| q_a rfl rfl <| s_n <| tk_seq <| s_r <| q_m rfl rfl <| s_q rfl ((y_not rfl).cast (notdec _)) <| s_n ?_; refine tk_condP rfl (fun ht25 => ?_) (fun ht25 => ?_)
    · refine s_r <| q_a rfl rfl <| q_a rfl rfl <| s_n <| tk_retc <| tk_then_ret <| tk_ownM0 (f := B) 5 ?_
      obtain rfl : (6, []) = q := by rw [← hq]; exact Eq.symm (by rw [Sh.get, if_neg hno, if_pos ht25])
      exact tk_ret ((.slice none 0 0)) (trivial) (.inl rfl) (r2 rfl rfl rfl) (.cons_cons _ (.cons _ (List.Sublist.refl _)))
    · have hha : hasO s.obs na := Classical.not_not.1 ht25
      have hbl := hok.bytes _ (lkO_name hha).2
      refine tk_skip <| tk_then <| s_r <| s_q rfl (y_fld0 (o := 0) rfl kR) <| s_q rfl (y_load rfl rfl (hc (o := 0) (.head _) (rfl))) <| tk_act rfl <| a_callv [] _ rfl kR rfl (fun w' hw' => clone_spec (l := (lkO s.obs na).b) (ro_bagO (T := 5) hw' (mm 3 rfl) (lkO_name hha).2) lenP) rfl fun v28 _ => q_a rfl rfl <| q_a rfl rfl <| s_n <| tk_retc ?_
      obtain rfl : (0, (lkO s.obs na).b) = q := by rw [← hq]; exact Eq.symm (by rw [Sh.get, if_neg hno, if_neg ht25])
      exact tk_ret (v28) (trivial) (.inl rfl) (r2 rfl rfl rfl) (.cons_cons _ (.cons _ (List.Sublist.refl _)))
theorem get_spec {s : Sh} {sb mb : Nat} {na : List UInt8} {w : World} (hok : ShOk s) (hh : Pre w [cel sb ([Value.map (some mb), I (s.left), .bool s.off, I (s.made), I (s.room)]) 159, mapS mb (kvO s.obs), bag (s.obs.map (obR 5))]) : Spec Tryz.prog 23 [PT sb, Str na] w [cel sb ([Value.map (some mb), I (s.left), .bool s.off, I (s.made), I (s.room)]) 159, mapS mb (kvO s.obs), bag (s.obs.map (obR 5))] (fun _ : Value => True) (fun x => .tuple #[x, I (((s.get na).1 : Nat) : Int)]) (fun x => [ownB x (s.get na).2 5, cel sb ([Value.map (some mb), I (s.left), .bool s.off, I (s.made), I (s.room)]) 159, mapS mb (kvO s.obs), bag (s.obs.map (obR 5))]) := get_q rfl hok hh
end Go.Proofs.YtnhpghhibcdklaaGreatDoor
