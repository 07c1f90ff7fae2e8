/- pack: the walk over the law PackSizes. -/
import Derived.Test.YtfofkjajlfphjaaDoorPackH
set_option linter.unusedSimpArgs false
set_option linter.unusedVariables false
namespace Go.Proofs.YtfofkjajlfphjaaDoor
open Go Go.RowKit
set_option maxRecDepth 100000
attribute [local irreducible] sumL keyedL hexL hidL markL sealL sealF openF tapeL tapeN idF addQ closeQ rg packQ
theorem packSizes_spec {n : UInt8} {rv : Value} {rows : List Lum} {w : World} (hrows : Ro (Fs []) w (rdC rv rows.length (rows.flatMap lumC))) (hrv : ∀ u ∈ rows, Ro (Fs []) w (rdB u.v u.l)) (hrl : rows.length < 9223372036854775808) (hg : Ro (Fs []) w glob) :
    Spec Tryd.prog 13 [B n, rv] w [] (fun _ : Unit => True) (fun _ => .bool true) (fun _ => []) := by
  refine spec_of (n := 127) Tryd.func13 rfl rfl trivial trivial rfl ?_
  refine tk_seq ?_
  refine tk_region ?_
  refine tk_q rfl rfl rfl (y_assign rfl) ?_
  refine tk_nil ?_
  refine tk_then ?_
  refine tk_seq ?_
  refine tk_region ?_
  refine tk_q rfl rfl rfl (y_move rfl) ?_
  refine tk_q rfl rfl rfl (y_move rfl) ?_
  refine tk_act rfl ?_; refine a_callv [] _ rfl (by kernel_rfl) rfl (fun w' hw' => made_spec (n := n) (rows := rows) (Ro.call (H0 := []) hrows hw') (fun u hu => Ro.call (H0 := []) (hrv u hu) hw') hrl (hg.call hw')) rfl fun ⟨⟨s19, h19⟩, pv19, pe19, pu19, pf19⟩ hx19 => ?_
  dsimp only at hx19 ⊢
  obtain ⟨hme19, hok19⟩ := hx19
  have hnm19 := hok19.m
  have hne19 := hok19.l1
  have hnl19 := hok19.l
  have hnb19 := hok19.b
  dsimp only at hnm19 hne19 hnl19 hnb19
  refine tk_own1 (.head _) fun hpb19 => ?_
  refine tk_ownA (.tail _ (.head _)) fun hpl19 => ?_
  refine tk_ownA (.tail _ (.tail _ (.head _))) fun hph19 => ?_
  refine tk_form (fun w hw => (⟨w, cel_rd (o := 0) (hw.mem (.tail _ (.tail _ (.tail _ (.head _))))) rfl rfl (by decide)⟩ : ∃ w0, RdB w0 (FV pf19) firstL)) fun hff19 => ?_
  have hhv19 : ∀ u ∈ h19, ∃ w0, RdB w0 u.v u.l := fun u hu => by
    rcases madeN_mem (n := n) (rows := rows) (fv := FV pf19) (min rows.length 10) (by omega) u (by rw [← hme19]; exact hu) with rfl | ⟨r, hr, rfl⟩
    · exact hff19
    · exact ⟨w, RdS.cutBh (hrv r hr).1 (by omega)⟩
  refine tk_q rfl rfl rfl (y_move rfl) ?_
  refine tk_q rfl rfl rfl (y_extract rfl rfl) ?_
  refine tk_q rfl rfl rfl (y_extract rfl rfl) ?_
  refine tk_q rfl rfl rfl (y_extract rfl rfl) ?_
  refine tk_q rfl rfl rfl (y_extract rfl rfl) ?_
  refine tk_q rfl rfl rfl (y_assign rfl) ?_
  refine tk_q rfl rfl rfl (y_assign rfl) ?_
  refine tk_q rfl rfl rfl (y_assign rfl) ?_
  refine tk_q rfl rfl rfl (y_assign rfl) ?_
  refine tk_nil ?_
  refine tk_then ?_
  refine tk_seq ?_
  refine tk_region ?_
  refine tk_q rfl rfl rfl (y_move rfl) ?_
  refine tk_q rfl rfl rfl (y_move rfl) ?_
  refine tk_act rfl ?_; refine a_callv [] _ rfl (by kernel_rfl) rfl (fun w' hw' => made_spec (n := n) (rows := rows) (Ro.call (H0 := []) hrows hw') (fun u hu => Ro.call (H0 := []) (hrv u hu) hw') hrl (hg.call hw')) rfl fun ⟨⟨s27, h27⟩, pv27, pe27, pu27, pf27⟩ hx27 => ?_
  dsimp only at hx27 ⊢
  obtain ⟨hme27, hok27⟩ := hx27
  have hnm27 := hok27.m
  have hne27 := hok27.l1
  have hnl27 := hok27.l
  have hnb27 := hok27.b
  dsimp only at hnm27 hne27 hnl27 hnb27
  refine tk_own1 (.head _) fun hpb27 => ?_
  refine tk_ownA (.tail _ (.head _)) fun hpl27 => ?_
  refine tk_ownA (.tail _ (.tail _ (.head _))) fun hph27 => ?_
  refine tk_form (fun w hw => (⟨w, cel_rd (o := 0) (hw.mem (.tail _ (.tail _ (.tail _ (.head _))))) rfl rfl (by decide)⟩ : ∃ w0, RdB w0 (FV pf27) firstL)) fun hff27 => ?_
  have hhv27 : ∀ u ∈ h27, ∃ w0, RdB w0 u.v u.l := fun u hu => by
    rcases madeN_mem (n := n) (rows := rows) (fv := FV pf27) (min rows.length 10) (by omega) u (by rw [← hme27]; exact hu) with rfl | ⟨r, hr, rfl⟩
    · exact hff27
    · exact ⟨w, RdS.cutBh (hrv r hr).1 (by omega)⟩
  obtain rfl : s19 = s27 := by have h0 := congrArg Prod.fst hme19; have h1 := congrArg Prod.fst hme27; dsimp only at h0 h1; rw [h0, h1]; exact madeN_s _
  refine tk_q rfl rfl rfl (y_move rfl) ?_
  refine tk_q rfl rfl rfl (y_extract rfl rfl) ?_
  refine tk_q rfl rfl rfl (y_extract rfl rfl) ?_
  refine tk_q rfl rfl rfl (y_extract rfl rfl) ?_
  refine tk_q rfl rfl rfl (y_extract rfl rfl) ?_
  refine tk_q rfl rfl rfl (y_assign rfl) ?_
  refine tk_q rfl rfl rfl (y_assign rfl) ?_
  refine tk_q rfl rfl rfl (y_assign rfl) ?_
  refine tk_q rfl rfl rfl (y_assign rfl) ?_
  refine tk_nil ?_
  refine tk_then ?_
  refine tk_seq ?_
  refine tk_seq ?_
  refine tk_region ?_
  refine tk_act rfl ?_; refine a_callv [] _ rfl (by kernel_rfl) rfl (fun w' hw' => packs_spec (hg.call hw')) rfl fun _ _ => ?_
  refine tk_q rfl rfl rfl (y_not rfl) ?_
  refine tk_q rfl rfl rfl (y_move rfl) ?_
  refine tk_gq rfl rfl rfl (y_move rfl) ?_
  refine tk_gq rfl rfl rfl (y_not rfl) ?_
  refine tk_q rfl rfl rfl (y_pick0 rfl rfl) ?_
  refine tk_q rfl rfl rfl (y_move rfl) ?_
  refine tk_gq rfl rfl rfl (y_move rfl) ?_
  refine tk_gq rfl rfl rfl (y_not rfl) ?_
  refine tk_q rfl rfl rfl (y_pick0 rfl rfl) ?_
  refine tk_nil ?_
  refine tk_then ?_
  refine tk_cond0 rfl ?_
  refine tk_skip ?_
  refine tk_then ?_
  refine tk_seq ?_
  refine tk_region ?_
  have hml := hnm19.len
  have htot := hnm19.tot
  have hw9 := hok19.w.each
  have hpq := packQ_len (n := n) (s := s19)
  have hee : ∀ e ∈ s19.l, e.kind < 128 ∧ e.len < 16384 := fun e he => by
    obtain ⟨j, hj, rfl⟩ := List.getElem_of_mem he
    have h0 := hnm19.each j hj
    have e0 : s19.l.getD j dEnt = s19.l[j] := by rw [List.getD_eq_getElem?_getD, List.getElem?_eq_getElem hj]; rfl
    rw [e0] at h0
    have h1 := h0.len; have h2 := h0.small; have h3 := h0.k12
    omega
  have hhb := headL_bounds (l := s19.l) (by omega) hee
  refine tk_q rfl rfl rfl (y_assign rfl) ?_
  refine tk_nil ?_
  refine tk_then ?_
  refine tk_seq ?_
  refine tk_seq ?_
  refine tk_region ?_
  refine tk_q rfl rfl rfl (y_assign rfl) ?_
  refine tk_nil ?_
  refine tk_then ?_
  refine tk_block ?_
  refine tk_loop (X := Nat) (fun i => i ≤ s19.l.length) (fun i => [(5, pv19), (6, pe19), (7, pu19), (9, pv27), (10, pe27), (13, I ((offS s19.l i : Nat) : Int)), (14, I ((i : Nat) : Int))]) (fun i => [own pv27 ((packQ n s19).length) ((packQ n s19).map B) 5 1, own pe27 s19.l.length (s19.l.flatMap entC) 91 35, own pu27 h27.length (h27.flatMap lumC) 78 2, cel pf27 (firstL.map B) 5, own pv19 ((packQ n s19).length) ((packQ n s19).map B) 5 1, own pe19 s19.l.length (s19.l.flatMap entC) 91 35, own pu19 h19.length (h19.flatMap lumC) 78 2, cel pf19 (firstL.map B) 5]) (fun i => s19.l.length - i) (0) (Nat.zero_le _) (by repeat (first | exact trivial | refine ⟨rfl, ?_⟩)) ((List.Sublist.refl _)) ?_
  rintro i hI
  try dsimp only at hI ⊢
  refine tk_seq ?_
  refine tk_seq ?_
  refine tk_region ?_
  refine tk_q rfl rfl rfl (y_move rfl) ?_
  refine tk_q rfl rfl rfl (y_move rfl) ?_
  refine tk_q rfl rfl rfl (y_lenE rfl hpl19.choose_spec rfl) ?_
  refine tk_q rfl rfl rfl (y_lss rfl rfl) ?_
  refine tk_nil ?_
  refine tk_then ?_
  refine tk_condP rfl (fun ht45 => ?_) (fun ht45 => ?_)
  · skip
    have hoi := hnm19.off i (by omega)
    have hpi := (hnm19.each i (by omega)).len
    have hle := offS_le (l := s19.l) (i := i + 1) (j := s19.l.length) (by omega)
    have hsu := offS_succ (l := s19.l) (j := i) (by omega)
    refine tk_skip ?_
    refine tk_then ?_
    refine tk_seq ?_
    refine tk_block ?_
    refine tk_seq ?_
    refine tk_seq ?_
    refine tk_drawH [own pv27 ((packQ n s19).length) ((packQ n s19).map B) 5 1, own pe27 s19.l.length (s19.l.flatMap entC) 91 35, own pu27 h27.length (h27.flatMap lumC) 78 2, cel pf27 (firstL.map B) 5, own pv19 ((packQ n s19).length) ((packQ n s19).map B) 5 1, own pe19 s19.l.length (s19.l.flatMap entC) 91 35, own pu19 h19.length (h19.flatMap lumC) 78 2, cel pf19 (firstL.map B) 5] [] (by kernel_rfl) ?_
    refine tx_q 0 rfl (by kernel_rfl) rfl rfl rfl (fun _ _ _ h => h) (y_move rfl) ?_
    refine tx_q 1 rfl (by kernel_rfl) rfl rfl rfl (fun _ _ _ h => h) (y_move rfl) ?_
    refine tx_q 2 rfl (by kernel_rfl) rfl rfl rfl (fun _ _ _ h => h) (y_ixE (i := i) (k := 35) rfl rfl hpl19.choose_spec lenP (by kernel_rfl)) ?_
    refine tx_q 3 rfl (by kernel_rfl) rfl rfl rfl (fun _ _ _ h => h) (y_fldE (o := i * 35 + 0) (off := 33) rfl (by kernel_rfl)) ?_
    refine tx_l 4 rfl (by kernel_rfl) (by kernel_rfl) rfl rfl rfl (fun _ _ _ h => h) (fun _ h => h.sub (List.Sublist.refl _)) (y_loadE1 (i := i) (k := 35) (o := 33) (f := entC) (l := s19.l) (d0 := dEnt) (u := I (((s19.l.getD i dEnt).off : Nat) : Int)) rfl rfl entC_len lenP (ent_o _) (fun w hw => own_rdC (hw.mem (.tail _ (.tail _ (.tail _ (.tail _ (.tail _ (.head _))))))))) ?_
    refine tx_q 5 rfl (by kernel_rfl) rfl rfl rfl (fun _ _ _ h => h) (y_move rfl) ?_
    refine tx_q 6 rfl (by kernel_rfl) rfl rfl rfl (fun _ _ _ h => h) ((y_neq rfl rfl).cast (v := _) (u := .bool false) (bool_f (by omega))) ?_
    refine tx_q 7 rfl (by kernel_rfl) rfl rfl rfl (fun _ _ _ h => h) (y_move rfl) ?_
    refine tx_q 8 rfl (by kernel_rfl) rfl rfl rfl (fun _ _ _ h => h) (y_move rfl) ?_
    refine tx_q 9 rfl (by kernel_rfl) rfl rfl rfl (fun _ _ _ h => h) (y_move rfl) ?_
    refine tx_q 10 rfl (by kernel_rfl) rfl rfl rfl (fun _ _ _ h => h) (y_ixE (i := i) (k := 35) rfl rfl hpl19.choose_spec lenP (by kernel_rfl)) ?_
    refine tx_q 11 rfl (by kernel_rfl) rfl rfl rfl (fun _ _ _ h => h) (y_fldE (o := i * 35 + 0) (off := 34) rfl (by kernel_rfl)) ?_
    refine tx_l 12 rfl (by kernel_rfl) (by kernel_rfl) rfl rfl rfl (fun _ _ _ h => h) (fun _ h => h.sub (List.Sublist.refl _)) (y_loadE1 (i := i) (k := 35) (o := 34) (f := entC) (l := s19.l) (d0 := dEnt) (u := I (((s19.l.getD i dEnt).len : Nat) : Int)) rfl rfl entC_len lenP (ent_l _) (fun w hw => own_rdC (hw.mem (.tail _ (.tail _ (.tail _ (.tail _ (.tail _ (.head _))))))))) ?_
    refine tx_q 13 rfl (by kernel_rfl) rfl rfl rfl (fun _ _ _ h => h) (y_move rfl) ?_
    refine tx_q 14 rfl (by kernel_rfl) rfl rfl rfl (fun _ _ _ h => h) (y_move rfl) ?_
    refine tx_q 15 rfl (by kernel_rfl) rfl rfl rfl (fun _ _ _ h => h) (y_ixE (i := i) (k := 2) rfl rfl hph19.choose_spec lenP (by kernel_rfl)) ?_
    refine tx_q 16 rfl (by kernel_rfl) rfl rfl rfl (fun _ _ _ h => h) (y_fldE (o := i * 2 + 0) (off := 1) rfl (by kernel_rfl)) ?_
    refine tx_l 17 rfl (by kernel_rfl) (by kernel_rfl) rfl rfl rfl (fun _ _ _ h => h) (fun _ h => h.sub (List.Sublist.refl _)) (y_loadE1 (i := i) (k := 2) (o := 1) (f := lumC) (l := h19) (d0 := dLum) (u := (h19.getD i dLum).v) rfl rfl lumC_len lenP rfl (fun w hw => own_rdC (hw.mem (.tail _ (.tail _ (.tail _ (.tail _ (.tail _ (.tail _ (.head _)))))))))) ?_
    refine tx_q 18 rfl (by kernel_rfl) rfl rfl rfl (fun _ _ _ h => h) (y_lenRN (n' := ((h19.getD i dLum).l).length) rfl (hhv19 _ (getD_mem lenP)).choose_spec rfl (by first | rfl | (rw [List.length_map]; omega) | simp)) ?_
    refine tx_q 19 rfl (by kernel_rfl) rfl rfl rfl (fun _ _ _ h => h) (y_addN (a := ((h19.getD i dLum).l).length) (b := 48) rfl rfl (by omega)) ?_
    refine tx_q 20 rfl (by kernel_rfl) rfl rfl rfl (fun _ _ _ h => h) ((y_neq rfl rfl).cast (v := _) (u := .bool false) (bool_f (by omega))) ?_
    refine tx_q 21 rfl (by kernel_rfl) rfl rfl rfl (fun _ _ _ h => h) (y_pick0 rfl rfl) ?_
    refine tx_q 22 rfl (by kernel_rfl) rfl rfl rfl (fun _ _ _ h => h) (y_move rfl) ?_
    refine tx_q 23 rfl (by kernel_rfl) rfl rfl rfl (fun _ _ _ h => h) (y_move rfl) ?_
    refine tx_q 24 rfl (by kernel_rfl) rfl rfl rfl (fun _ _ _ h => h) (y_move rfl) ?_
    refine tx_q 25 rfl (by kernel_rfl) rfl rfl rfl (fun _ _ _ h => h) (y_ixE (i := i) (k := 35) rfl rfl hpl27.choose_spec lenP (by kernel_rfl)) ?_
    refine tx_l 26 rfl (by kernel_rfl) (by kernel_rfl) rfl rfl rfl (fun _ _ _ h => h) (fun _ h => h.sub (List.Sublist.refl _)) (y_loadE (i := i) (k := 35) (o := 0) (f := entC) (l := s19.l) (d0 := dEnt) (vs := ((s19.l.getD i dEnt).id).map B ++ ([I (((s19.l.getD i dEnt).kind : Nat) : Int), I (((s19.l.getD i dEnt).off : Nat) : Int), I (((s19.l.getD i dEnt).len : Nat) : Int)])) 35 rfl (by kernel_rfl) (by rw [List.length_append, List.length_map, (s19.l.getD i dEnt).h]; rfl) entC_len lenP (ent_all _) (fun w hw => own_rdC (hw.mem (.tail _ (.head _))))) ?_
    refine tx_q 27 rfl (by kernel_rfl) rfl rfl rfl (fun _ _ _ h => h) (y_move rfl) ?_
    refine tx_q 28 rfl (by kernel_rfl) rfl rfl rfl (fun _ _ _ h => h) (y_move rfl) ?_
    refine tx_q 29 rfl (by kernel_rfl) rfl rfl rfl (fun _ _ _ h => h) (y_ixE (i := i) (k := 35) rfl rfl hpl19.choose_spec lenP (by kernel_rfl)) ?_
    refine tx_l 30 rfl (by kernel_rfl) (by kernel_rfl) rfl rfl rfl (fun _ _ _ h => h) (fun _ h => h.sub (List.Sublist.refl _)) (y_loadE (i := i) (k := 35) (o := 0) (f := entC) (l := s19.l) (d0 := dEnt) (vs := ((s19.l.getD i dEnt).id).map B ++ ([I (((s19.l.getD i dEnt).kind : Nat) : Int), I (((s19.l.getD i dEnt).off : Nat) : Int), I (((s19.l.getD i dEnt).len : Nat) : Int)])) 35 rfl (by kernel_rfl) (by rw [List.length_append, List.length_map, (s19.l.getD i dEnt).h]; rfl) entC_len lenP (ent_all _) (fun w hw => own_rdC (hw.mem (.tail _ (.tail _ (.tail _ (.tail _ (.tail _ (.head _))))))))) ?_
    refine tx_q 31 rfl (by kernel_rfl) rfl rfl rfl (fun _ _ _ h => h) (((y_stNe (p := True) rfl rfl (by kernel_rfl) eqc_ent ⟨⟨_, rfl⟩, ⟨_, rfl⟩, entC_len _, entC_len _⟩ (by kernel_rfl) (iff_true_intro rfl))).cast (v := _) (u := .bool false) (bool_f (fun h => h trivial))) ?_
    refine tx_q 32 rfl (by kernel_rfl) rfl rfl rfl (fun _ _ _ h => h) (y_pick0 rfl rfl) ?_
    refine tx_done (by kernel_rfl) ?_
    refine tk_then ?_
    refine tk_cond0 rfl ?_
    refine tk_skip ?_
    refine tk_then ?_
    refine tk_region ?_
    refine tk_q rfl rfl rfl (y_move rfl) ?_
    refine tk_q rfl rfl rfl (y_move rfl) ?_
    refine tk_q rfl rfl rfl (y_move rfl) ?_
    refine tk_q rfl rfl rfl (y_ixE (i := i) (k := 35) rfl rfl hpl19.choose_spec lenP (by kernel_rfl)) ?_
    refine tk_q rfl rfl rfl (y_fldE (o := i * 35 + 0) (off := 34) rfl (by kernel_rfl)) ?_
    refine tk_q rfl rfl rfl (y_loadE1 (i := i) (k := 35) (o := 34) (f := entC) (l := s19.l) (d0 := dEnt) (u := I (((s19.l.getD i dEnt).len : Nat) : Int)) rfl rfl entC_len lenP (ent_l _) (fun w hw => own_rdC (hw.mem (.tail _ (.tail _ (.tail _ (.tail _ (.tail _ (.head _))))))))) ?_
    refine tk_q rfl rfl rfl (y_addN (a := offS s19.l i) (b := (s19.l.getD i dEnt).len) rfl rfl (by omega)) ?_
    refine tk_re 87 (I (((offS s19.l i) + ((s19.l.getD i dEnt).len) : Nat) : Int)) (I ((offS s19.l (i + 1) : Nat) : Int)) rfl (by rw [hsu]) ?_
    refine tk_q rfl rfl rfl (y_assign rfl) ?_
    refine tk_nil ?_
    refine tk_in_normal ?_
    refine tk_then ?_
    refine tk_region ?_
    refine tk_q rfl rfl rfl (y_move rfl) ?_
    refine tk_q rfl rfl rfl (y_addN (a := i) (b := 1) rfl rfl (by omega)) ?_
    refine tk_q rfl rfl rfl (y_assign rfl) ?_
    refine tk_nil ?_
    exact tk_again (i + 1) (by first | exact trivial | omega | (dsimp only; omega)) (by first | omega | (dsimp only; omega)) (by repeat (first | exact trivial | refine ⟨rfl, ?_⟩)) (List.Sublist.refl _)
  · skip
    have hie : i = s19.l.length := by omega
    refine tk_re 13 (I ((offS s19.l i : Nat) : Int)) (I ((offS s19.l s19.l.length : Nat) : Int)) rfl (by rw [hie]) ?_
    refine tk_exit ?_
    refine tk_then_exit ?_
    refine tk_then_exit ?_
    refine tk_in_hit ?_
    refine tk_then ?_
    refine tk_seq ?_
    refine tk_region ?_
    refine tk_q rfl rfl rfl (y_move rfl) ?_
    refine tk_q rfl rfl rfl (y_lenRN (n' := (packQ n s19).length) rfl hpb19.choose_spec rfl (by first | rfl | (rw [List.length_map]; omega) | simp)) ?_
    refine tk_q rfl rfl rfl (y_move rfl) ?_
    refine tk_q rfl rfl rfl (y_subN (a := (packQ n s19).length) (b := offS s19.l s19.l.length) rfl rfl (by omega)) ?_
    refine tk_q rfl rfl rfl (y_subN (a := ((packQ n s19).length) - (offS s19.l s19.l.length)) (b := 4) rfl rfl (by omega)) ?_
    refine tk_q rfl rfl rfl (y_assign rfl) ?_
    refine tk_nil ?_
    refine tk_then ?_
    refine tk_seq ?_
    refine tk_region ?_
    refine tk_q rfl rfl rfl (y_move rfl) ?_
    refine tk_q rfl rfl rfl (y_str (l := packQ n s19) rfl rfl rfl rfl (fun w hw => own_rdS (hw.mem (.tail _ (.tail _ (.tail _ (.tail _ (.head _)))))))) ?_
    refine tk_q rfl rfl rfl (y_move rfl) ?_
    refine tk_q rfl rfl rfl (y_str (l := packQ n s19) rfl rfl rfl rfl (fun w hw => own_rdS (hw.mem (.head _)))) ?_
    refine tk_q rfl rfl rfl ((y_strEq (l := packQ n s19) (m := packQ n s19) rfl rfl).cast (bool_t rfl)) ?_
    refine tk_q rfl rfl rfl (y_move rfl) ?_
    refine tk_gq rfl rfl rfl (y_move rfl) ?_
    refine tk_gact rfl ?_; refine a_callv [] _ rfl (by kernel_rfl) rfl (fun w' hw' => name_spec (l := packQ n s19) (Ro.own (H0 := []) hw' (.tail _ (.tail _ (.tail _ (.tail _ (.head _)))))) lenP (hg.call hw')) rfl fun _ _ => ?_
    refine tk_gq rfl rfl rfl (y_move rfl) ?_
    refine tk_gact rfl ?_; refine a_callv [] _ rfl (by kernel_rfl) rfl (fun w' hw' => name_spec (l := packQ n s19) (Ro.own (H0 := []) hw' (.head _)) lenP (hg.call hw')) rfl fun _ _ => ?_
    refine tk_gq rfl rfl rfl ((y_strEq (l := nameL (packQ n s19)) (m := nameL (packQ n s19)) rfl rfl).cast (bool_t rfl)) ?_
    refine tk_q rfl rfl rfl (y_pick1 rfl rfl) ?_
    refine tk_q rfl rfl rfl (y_move rfl) ?_
    refine tk_gq rfl rfl rfl (y_move rfl) ?_
    refine tk_gact rfl ?_; refine a_callv [] _ rfl (by kernel_rfl) rfl (fun w' hw' => name_spec (l := packQ n s19) (Ro.own (H0 := []) hw' (.tail _ (.tail _ (.tail _ (.tail _ (.head _)))))) lenP (hg.call hw')) rfl fun _ _ => ?_
    refine tk_gq rfl rfl rfl (y_lenStr (l := nameL (packQ n s19)) rfl rfl) ?_
    refine tk_gqe (.bool true) rfl rfl rfl (y_eql rfl rfl) (bool_t (by rw [nameL_len]; rfl)) ?_
    refine tk_q rfl rfl rfl (y_pick1 rfl rfl) ?_
    refine tk_q rfl rfl rfl (y_move rfl) ?_
    refine tk_gq rfl rfl rfl (y_move rfl) ?_
    refine tk_gq rfl rfl rfl (y_move rfl) ?_
    refine tk_gq rfl rfl rfl (y_lenE rfl hpl19.choose_spec rfl) ?_
    refine tk_gq rfl rfl rfl (y_mulN (a := 34) (b := s19.l.length) rfl rfl (by omega)) ?_
    refine tk_gq rfl rfl rfl (y_addN (a := 52) (b := 34 * s19.l.length) rfl rfl (by omega)) ?_
    refine tk_gqe (.bool true) rfl rfl rfl (y_geq rfl rfl) (bool_t (by omega)) ?_
    refine tk_q rfl rfl rfl (y_pick1 rfl rfl) ?_
    refine tk_q rfl rfl rfl (y_move rfl) ?_
    refine tk_gq rfl rfl rfl (y_move rfl) ?_
    refine tk_gq rfl rfl rfl (y_move rfl) ?_
    refine tk_gq rfl rfl rfl (y_lenE rfl hpl19.choose_spec rfl) ?_
    refine tk_gq rfl rfl rfl (y_mulN (a := 36) (b := s19.l.length) rfl rfl (by omega)) ?_
    refine tk_gq rfl rfl rfl (y_addN (a := 53) (b := 36 * s19.l.length) rfl rfl (by omega)) ?_
    refine tk_gqe (.bool true) rfl rfl rfl (y_leq rfl rfl) (bool_t (by omega)) ?_
    refine tk_q rfl rfl rfl (y_pick1 rfl rfl) ?_
    refine tk_q rfl rfl rfl (y_assign rfl) ?_
    refine tk_nil ?_
    refine tk_then ?_
    refine tk_retc ?_
    exact tk_ret (()) (trivial) (.inl rfl) (r1 rfl rfl) (List.nil_sublist _)
end Go.Proofs.YtfofkjajlfphjaaDoor
