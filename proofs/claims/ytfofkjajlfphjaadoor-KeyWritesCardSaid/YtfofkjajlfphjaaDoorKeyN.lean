/- key: the walk over the law KeyWrites. -/
import Derived.Test.YtfofkjajlfphjaaDoorKeyL
import Derived.Test.YtfofkjajlfphjaaDoorEngTwo
set_option linter.unusedSimpArgs false
set_option linter.unusedVariables false
namespace Go.Proofs.YtfofkjajlfphjaaDoor
open Go Go.RowKit
set_option maxRecDepth 100000
attribute [local irreducible] hidL markL sealL sealF openF keyedL strL kyL tapeL tapeN
theorem keyWrites_spec {wv bv pv : Value} {wl bl nm : List UInt8} {ps : List Sb} {z : Int} {kind : UInt8} {w : World} (hw0 : Ro (Fs []) w (rdB wv wl)) (hb0 : Ro (Fs []) w (rdB bv bl)) (hv : Ro (Fs []) w (rd pv (ps.map Prod.fst))) (hp : ∀ p ∈ ps, Ro (Fs []) w (rdB p.1 p.2)) (hpv : pv.oneCell' = true) (hnm : nm.length < 9223372036854775808) (hps : ps.length < 9223372036854775808) (hg : Ro (Fs []) w glob) : Spec Tryd.prog 9 [.agg [wv, I z, bv, pv, B kind, Str nm].toArray] w [] (fun _ : Unit => True) (fun _ => .bool true) (fun _ => []) := by
  refine spec_of (n := 127) Tryd.func9 rfl rfl trivial trivial rfl ?_
  obtain ⟨m, hm5, hm0⟩ := cntM z 5 (by decide)
  have hm : (IntKind.u64.wrap z).tmod 5 = (m : Int) := hm0
  obtain ⟨hk, hkE⟩ : ∃ l, kyL [104, 105, 100, 101] wl m = l := ⟨_, rfl⟩
  obtain ⟨mk, mkE⟩ : ∃ l, kyL [109, 97, 114, 107] wl m = l := ⟨_, rfl⟩
  obtain ⟨nk, nkE⟩ : ∃ l, kyL [110, 97, 109, 101] wl m = l := ⟨_, rfl⟩
  obtain ⟨b, hbE⟩ : ∃ l, bl.take (min bl.length 100) = l := ⟨_, rfl⟩
  have hk32 : hk.length = 32 := by rw [← hkE]; exact kyL_len
  have mk32 : mk.length = 32 := by rw [← mkE]; exact kyL_len
  have nk32 : nk.length = 32 := by rw [← nkE]; exact kyL_len
  have hb100 : b.length ≤ 100 := by rw [← hbE]; simp; omega
  refine tk_seq ?_
  refine tk_region ?_
  refine tk_act rfl ?_; refine a_boxL (cs := [wv, I (z), bv, pv, B kind, Str nm]) rfl rfl fun b1 => ?_
  refine tk_q rfl rfl rfl (y_assign rfl) ?_
  refine tk_nil ?_
  refine tk_then ?_
  refine tk_seq ?_
  refine tk_region ?_
  refine tk_q rfl rfl rfl (y_loadA 6 rfl (by kernel_rfl) lenP (hcw (.head _))) ?_
  refine tk_act rfl ?_; refine a_callv [] _ rfl (by kernel_rfl) rfl (fun w' hw' => pen2_spec (m := m) hkE mkE nkE hbE hm5 hm (Ro.call (H0 := []) hw0 hw') (Ro.call (H0 := []) hb0 hw') hpv (hg.call hw')) rfl fun ⟨tb19, vb19⟩ _ => ?_
  refine tk_q rfl rfl rfl (y_move rfl) ?_
  refine tk_q rfl rfl rfl (y_extract rfl rfl) ?_
  refine tk_q rfl rfl rfl (y_extract rfl rfl) ?_
  refine tk_q rfl rfl rfl (y_extract rfl rfl) ?_
  refine tk_act rfl ?_; refine a_allocL (cs := (List.replicate 32 0).map B ++ ((List.replicate 32 0).map B ++ ((List.replicate 32 0).map B ++ ([Value.pointer none])))) (by kernel_rfl) rfl fun b3 => ?_
  refine tk_act rfl ?_; refine a_allocL (cs := (List.replicate 32 0).map B ++ ((List.replicate 32 0).map B ++ ((List.replicate 32 0).map B))) (by kernel_rfl) rfl fun b4 => ?_
  refine tk_act rfl ?_; refine a_storeW (H1 := [_]) (vs := hk.map B ++ (mk.map B ++ (nk.map B ++ ([Value.pointer (some ⟨tb19, 0, none⟩)])))) 97 rfl rfl (by kernel_rfl) rfl ⟨lenP, lenP⟩ (List.forall_mem_append.2 ⟨oneB, (List.forall_mem_append.2 ⟨oneB, (List.forall_mem_append.2 ⟨oneB, (List.forall_mem_cons.2 ⟨rfl, (fun _ h => nomatch h)⟩)⟩)⟩)⟩) ?_
  refine tk_act rfl ?_; refine a_storeW (H1 := []) (vs := hk.map B ++ (mk.map B ++ (nk.map B))) 96 rfl rfl (by kernel_rfl) rfl ⟨lenP, lenP⟩ (List.forall_mem_append.2 ⟨oneB, (List.forall_mem_append.2 ⟨oneB, oneB⟩)⟩) ?_
  refine tk_q rfl rfl rfl (y_assign rfl) ?_
  refine tk_nil ?_
  refine tk_then ?_
  refine tk_seq ?_
  refine tk_seq ?_
  refine tk_region ?_
  refine tk_act rfl ?_; refine a_callv [] _ rfl (by kernel_rfl) rfl (fun w' hw' => rings_spec (hg.call hw')) rfl fun _ _ => ?_
  refine tk_q rfl rfl rfl (y_not rfl) ?_
  refine tk_q rfl rfl rfl (y_move rfl) ?_
  refine tk_gq rfl rfl rfl (y_move rfl) ?_
  refine tk_gq rfl rfl rfl (y_not rfl) ?_
  refine tk_q rfl rfl rfl (y_pick0 rfl rfl) ?_
  refine tk_nil ?_
  refine tk_then ?_
  refine tk_cond0 rfl ?_
  refine tk_skip ?_
  refine tk_then ?_
  refine tk_seq ?_
  refine tk_region ?_
  refine tk_q rfl rfl rfl (y_fldN (o := 0) 2 rfl (by kernel_rfl)) ?_
  refine tk_q rfl rfl rfl (y_load rfl rfl (hc (o := 2) (.tail _ (.tail _ (.tail _ (.tail _ (.head _))))) (rfl))) ?_
  refine tk_q rfl rfl rfl (y_fldN (o := 0) 2 rfl (by kernel_rfl)) ?_
  refine tk_q rfl rfl rfl (y_load rfl rfl (hc (o := 2) (.tail _ (.tail _ (.tail _ (.tail _ (.head _))))) (rfl))) ?_
  refine tk_q rfl rfl rfl (y_lenRN (n' := bl.length) rfl hb0.1 rfl (by first | rfl | (rw [List.length_map]; omega) | simp)) ?_
  refine tk_q rfl rfl rfl (y_minN (a := bl.length) (b := 100) rfl rfl) ?_
  refine tk_q rfl rfl rfl (y_cutRBh (l := bl) (min bl.length 100) rfl rfl hb0.1 (by kernel_rfl) lenP rfl) ?_
  refine tk_q rfl rfl rfl (y_str (l := bl.take (min bl.length 100)) rfl rfl rfl rfl (fun w hw => RdS.cutBh ((fun w hw => Ro.rd hb0 hw) w hw) (hi := min bl.length 100) lenP)) ?_
  refine tk_re 36 (Str (bl.take (min bl.length 100))) (Str b) rfl (by rw [hbE]) ?_
  refine tk_q rfl rfl rfl (y_assign rfl) ?_
  refine tk_nil ?_
  refine tk_then ?_
  refine tk_seq ?_
  refine tk_region ?_
  refine tk_q rfl rfl rfl (y_fldN (o := 0) 5 rfl (by kernel_rfl)) ?_
  refine tk_q rfl rfl rfl (y_load rfl rfl (hc (o := 5) (.tail _ (.tail _ (.tail _ (.tail _ (.head _))))) (rfl))) ?_
  refine tk_q rfl rfl rfl (y_fldN (o := 0) 5 rfl (by kernel_rfl)) ?_
  refine tk_q rfl rfl rfl (y_load rfl rfl (hc (o := 5) (.tail _ (.tail _ (.tail _ (.tail _ (.head _))))) (rfl))) ?_
  refine tk_q rfl rfl rfl (y_lenStr (l := nm) rfl rfl) ?_
  refine tk_q rfl rfl rfl (y_minN (a := nm.length) (b := 300) rfl rfl) ?_
  refine tk_q rfl rfl rfl (y_cutTh (l := nm) (hi := min nm.length 300) rfl rfl rfl (by omega)) ?_
  obtain ⟨nn, hnn⟩ : ∃ l, l = nm.take (min nm.length 300) := ⟨_, rfl⟩
  have hnn2 : nn.length ≤ 300 := by rw [hnn]; simp; omega
  refine tk_re 43 (Str (nm.take (min nm.length 300))) (Str nn) rfl (by rw [hnn]) ?_
  refine tk_q rfl rfl rfl (y_assign rfl) ?_
  refine tk_nil ?_
  refine tk_then ?_
  refine tk_seq ?_
  refine tk_seq ?_
  refine tk_region ?_
  refine tk_ownM0 (f := B) 5 ?_
  refine tk_H [own (.slice none 0 0) (((tapeL b 0).drop (16 * 0)).length) (((tapeL b 0).drop (16 * 0)).map B) 5 1, cel b4 (hk.map B ++ (mk.map B ++ (nk.map B))) 54, cel b3 (hk.map B ++ (mk.map B ++ (nk.map B ++ ([Value.pointer (some ⟨tb19, 0, none⟩)])))) 52, cel tb19 ([vb19, .int .u64 (((0 : Nat) : Nat) : Int), .slice none 0 0]) 160, own vb19 b.length (b.map B) 5 1, cel b1 ([wv, I (z), bv, pv, B kind, Str nm]) 47] (congrArg (fun z_ => [z_, cel b4 (hk.map B ++ (mk.map B ++ (nk.map B))) 54, cel b3 (hk.map B ++ (mk.map B ++ (nk.map B ++ ([Value.pointer (some ⟨tb19, 0, none⟩)])))) 52, cel tb19 ([vb19, .int .u64 (((0 : Nat) : Nat) : Int), .slice none 0 0]) 160, own vb19 b.length (b.map B) 5 1, cel b1 ([wv, I (z), bv, pv, B kind, Str nm]) 47]) (show own (.slice none 0 0) (([] : List UInt8).length) (([] : List UInt8).map B) 5 1 = own (.slice none 0 0) (((tapeL b 0).drop (16 * 0)).length) (((tapeL b 0).drop (16 * 0)).map B) 5 1 from ownM_cast (by simp [tapeL_0]))) ?_
  skip
  refine tk_q rfl rfl rfl (y_assign rfl) ?_
  refine tk_nil ?_
  refine tk_then ?_
  refine tk_block ?_
  refine tk_loop (X := Nat × Nat × Value) (fun (i, cA, vA) => i ≤ 8 ∧ i ≤ ps.length ∧ (16 * i ≤ 32 * cA ∧ 32 * cA < 16 * i + 32)) (fun (i, cA, vA) => [(1, .pointer (some ⟨b1, 0, none⟩)), (3, .pointer (some ⟨b3, 0, none⟩)), (4, .pointer (some ⟨b4, 0, none⟩)), (6, Str b), (7, Str nn), (8, I ((i : Nat) : Int))]) (fun (i, cA, vA) => [own vA (((tapeL b cA).drop (16 * i)).length) (((tapeL b cA).drop (16 * i)).map B) 5 1, cel b4 (hk.map B ++ (mk.map B ++ (nk.map B))) 54, cel b3 (hk.map B ++ (mk.map B ++ (nk.map B ++ ([Value.pointer (some ⟨tb19, 0, none⟩)])))) 52, cel tb19 ([vb19, .int .u64 ((cA : Nat) : Int), vA]) 160, own vb19 b.length (b.map B) 5 1, cel b1 ([wv, I (z), bv, pv, B kind, Str nm]) 47]) (fun (i, cA, vA) => 8 - i) ((0, 0, (.slice none 0 0))) (⟨by omega, by omega, by omega⟩) (by repeat (first | exact trivial | refine ⟨rfl, ?_⟩)) ((List.Sublist.refl _)) ?_
  rintro ⟨i, cA, vA⟩ hI
  try dsimp only at hI ⊢
  refine tk_seq ?_
  refine tk_seq ?_
  refine tk_region ?_
  refine tk_q rfl rfl rfl (y_move rfl) ?_
  refine tk_q rfl rfl rfl (y_fldN (o := 0) 3 rfl (by kernel_rfl)) ?_
  refine tk_q rfl rfl rfl (y_load rfl rfl (hc (o := 3) (.tail _ (.tail _ (.tail _ (.tail _ (.tail _ (.head _)))))) (rfl))) ?_
  refine tk_q rfl rfl rfl (y_lenRN (n' := ps.length) rfl hv.1 rfl (by first | rfl | (rw [List.length_map]; omega) | simp)) ?_
  refine tk_qs rfl rfl rfl (y_lss rfl rfl) (fun hs7_4 => ?_) (fun hs7_4 => ?_)
  · skip
    refine tk_q rfl rfl rfl (y_move rfl) ?_
    refine tk_gq rfl rfl rfl (y_move rfl) ?_
    refine tk_gq rfl rfl rfl (y_lss rfl rfl) ?_
    refine tk_q rfl rfl rfl (y_pick1 rfl rfl) ?_
    refine tk_nil ?_
    refine tk_then ?_
    refine tk_condP rfl (fun ht52 => ?_) (fun ht52 => ?_)
    · skip
      refine tk_skip ?_
      refine tk_then ?_
      refine tk_seq ?_
      refine tk_block ?_
      refine tk_seq ?_
      refine tk_drawH [own vA (((tapeL b cA).drop (16 * i)).length) (((tapeL b cA).drop (16 * i)).map B) 5 1, cel b4 (hk.map B ++ (mk.map B ++ (nk.map B))) 54, cel b3 (hk.map B ++ (mk.map B ++ (nk.map B ++ ([Value.pointer (some ⟨tb19, 0, none⟩)])))) 52, cel tb19 ([vb19, .int .u64 ((cA : Nat) : Int), vA]) 160, own vb19 b.length (b.map B) 5 1, cel b1 ([wv, I (z), bv, pv, B kind, Str nm]) 47] [] (by kernel_rfl) ?_
      refine tx_q 0 rfl (by kernel_rfl) rfl rfl rfl (fun _ _ _ h => h) (y_fldN (o := 0) 3 rfl (by kernel_rfl)) ?_
      refine tx_l 1 rfl (by kernel_rfl) (by kernel_rfl) rfl rfl rfl (fun _ _ _ h => h) (fun _ h => h.sub (List.Sublist.refl _)) (y_load rfl rfl (hc (o := 3) (.tail _ (.tail _ (.tail _ (.tail _ (.tail _ (.head _)))))) (rfl))) ?_
      refine tx_q 2 rfl (by kernel_rfl) rfl rfl rfl (fun _ _ _ h => h) (y_move rfl) ?_
      refine tx_q 3 rfl (by kernel_rfl) rfl rfl rfl (fun _ _ _ h => h) (y_ixR (j := i) rfl rfl hv.1 lenP (by kernel_rfl)) ?_
      refine tx_l 4 rfl (by kernel_rfl) (by kernel_rfl) rfl rfl rfl (fun _ _ _ h => h) (fun _ h => h.sub (List.Sublist.refl _)) (y_load rfl rfl (fun w hw => ((fun w hw => Ro.rd hv hw) w hw).cell (gM (f := Prod.fst) (d := dP) lenP))) ?_
      refine tx_q 5 rfl (by kernel_rfl) rfl rfl rfl (fun _ _ _ h => h) (y_fldN (o := 0) 3 rfl (by kernel_rfl)) ?_
      refine tx_l 6 rfl (by kernel_rfl) (by kernel_rfl) rfl rfl rfl (fun _ _ _ h => h) (fun _ h => h.sub (List.Sublist.refl _)) (y_load rfl rfl (hc (o := 3) (.tail _ (.tail _ (.tail _ (.tail _ (.tail _ (.head _)))))) (rfl))) ?_
      refine tx_q 7 rfl (by kernel_rfl) rfl rfl rfl (fun _ _ _ h => h) (y_move rfl) ?_
      refine tx_q 8 rfl (by kernel_rfl) rfl rfl rfl (fun _ _ _ h => h) (y_ixR (j := i) rfl rfl hv.1 lenP (by kernel_rfl)) ?_
      refine tx_l 9 rfl (by kernel_rfl) (by kernel_rfl) rfl rfl rfl (fun _ _ _ h => h) (fun _ h => h.sub (List.Sublist.refl _)) (y_load rfl rfl (fun w hw => ((fun w hw => Ro.rd hv hw) w hw).cell (gM (f := Prod.fst) (d := dP) lenP))) ?_
      refine tx_q 10 rfl (by kernel_rfl) rfl rfl rfl (fun _ _ _ h => h) (y_lenRN (n' := ((ps.getD i dP).2).length) rfl (hp _ (getD_mem lenP)).1 rfl (by first | rfl | (rw [List.length_map]; omega) | simp)) ?_
      refine tx_q 11 rfl (by kernel_rfl) rfl rfl rfl (fun _ _ _ h => h) (y_minN (a := ((ps.getD i dP).2).length) (b := 100) rfl rfl) ?_
      refine tx_q 12 rfl (by kernel_rfl) rfl rfl rfl (fun _ _ _ h => h) (y_cutRBh (l := (ps.getD i dP).2) (min (((ps.getD i dP).2).length) 100) rfl rfl (hp _ (getD_mem lenP)).1 (by kernel_rfl) lenP rfl) ?_
      refine tx_q 13 rfl (by kernel_rfl) rfl rfl rfl (fun _ _ _ h => h) (y_assign rfl) ?_
      refine tx_done (by kernel_rfl) ?_
      refine tk_then ?_
      refine tk_seq ?_
      refine tk_region ?_
      have hro : Ro (Fs []) w (rdB (cutR ((ps.getD i dP).1) 0 (min (((ps.getD i dP).2).length) 100)) (((ps.getD i dP).2).take (min (((ps.getD i dP).2).length) 100))) := (Ro.cutBh (hp _ (getD_mem lenP)) (hi := min (((ps.getD i dP).2).length) 100) lenP)
      obtain ⟨x, hx0⟩ : ∃ x, x = ((ps.getD i dP).2).take (min (((ps.getD i dP).2).length) 100) := ⟨_, rfl⟩
      have hxl : x.length ≤ 100 := by rw [hx0]; simp; omega
      rw [← hx0] at hro
      refine tk_act rfl ?_; refine a_allocL (cs := (List.replicate 16 0).map B) (by kernel_rfl) rfl fun b10 => ?_
      refine tk_nil ?_
      refine tk_then ?_
      refine tk_seq ?_
      refine tk_drawH [own vA (((tapeL b cA).drop (16 * i)).length) (((tapeL b cA).drop (16 * i)).map B) 5 1, cel b4 (hk.map B ++ (mk.map B ++ (nk.map B))) 54, cel b3 (hk.map B ++ (mk.map B ++ (nk.map B ++ ([Value.pointer (some ⟨tb19, 0, none⟩)])))) 52, cel tb19 ([vb19, .int .u64 ((cA : Nat) : Int), vA]) 160, own vb19 b.length (b.map B) 5 1, cel b1 ([wv, I (z), bv, pv, B kind, Str nm]) 47] [] (by kernel_rfl) ?_
      refine tx_q 0 rfl (by kernel_rfl) rfl rfl rfl (fun _ _ _ h => h) (y_cutA (m := 16) (sz := 1) rfl (by kernel_rfl)) ?_
      refine tx_q 1 rfl (by kernel_rfl) rfl rfl rfl (fun _ _ _ h => h) (y_move rfl) ?_
      refine tx_q 2 rfl (by kernel_rfl) rfl rfl rfl (fun _ _ _ h => h) (y_move rfl) ?_
      refine tx_q 3 rfl (by kernel_rfl) rfl rfl rfl (fun _ _ _ h => h) (y_mulN (a := 16) (b := i) rfl rfl (by omega)) ?_
      refine tx_a 4 rfl (by kernel_rfl) rfl ?_; refine a_callv [] _ rfl (by kernel_rfl) rfl (fun w' hw' => rtape_spec (b := b) (p := 16 * i) (n := 16) lenP ⟨lenP, lenP⟩) rfl fun _ _ => ?_
      refine tk_S (fun _ h => h.sub (.cons _ (List.Sublist.refl _))) ?_
      refine tx_a 5 rfl (by kernel_rfl) rfl ?_; refine a_copyS (H1 := []) (n := 16) (l := tapeN b (16 * i) 16) rfl rfl rfl (by kernel_rfl) rfl rfl lenP (by simp) ?_
      refine tk_S (fun _ h => h.sub (.cons _ (List.Sublist.refl _))) ?_
      refine tx_done (by kernel_rfl) ?_
      refine tk_then ?_
      refine tk_seq ?_
      refine tk_region ?_
      refine tk_q rfl rfl rfl (y_fld0 (o := 0) rfl (by kernel_rfl)) ?_
      refine tk_q rfl rfl rfl (y_loadA (vs := hk.map B ++ (mk.map B)) 64 rfl (by kernel_rfl) lenP (hseg (pre := ([] : List Value)) (post := nk.map B) (.tail _ (.tail _ (.head _))) lenP (by simp))) ?_
      refine tk_q rfl rfl rfl (y_fldN (o := 0) 4 rfl (by kernel_rfl)) ?_
      refine tk_q rfl rfl rfl (y_load rfl rfl (hc (o := 4) (.tail _ (.tail _ (.tail _ (.tail _ (.tail _ (.tail _ (.head _))))))) (rfl))) ?_
      refine tk_q rfl rfl rfl (y_move rfl) ?_
      refine tk_q rfl rfl rfl (y_loadA 16 rfl (by kernel_rfl) lenP (hcw (.head _))) ?_
      refine tk_q rfl rfl rfl (y_move rfl) ?_
      refine tk_q rfl rfl rfl (y_str (l := x) rfl rfl rfl rfl (fun w hw => Ro.rd hro hw)) ?_
      refine tk_act rfl ?_; refine a_callv [] _ rfl (by kernel_rfl) rfl (fun w' hw' => dseal_spec (hk := hk) (mk := mk) (kind := kind) (name := nn) (N := tapeN b (16 * i) 16) (l := x) ⟨lenP, lenP, lenP⟩ ⟨lenP, lenP⟩) rfl fun _ _ => ?_
      refine tk_q rfl rfl rfl (y_move rfl) ?_
      refine tk_q rfl rfl rfl (y_extract rfl rfl) ?_
      refine tk_q rfl rfl rfl (y_extract rfl rfl) ?_
      refine tk_q rfl rfl rfl (y_assign rfl) ?_
      refine tk_q rfl rfl rfl (y_assign rfl) ?_
      refine tk_nil ?_
      refine tk_then ?_
      refine tk_seq ?_
      refine tk_region ?_
      refine tk_q rfl rfl rfl (y_loadA 97 rfl (by kernel_rfl) lenP (hcw (.tail _ (.tail _ (.tail _ (.head _)))))) ?_
      refine tk_q rfl rfl rfl (y_fldN (o := 0) 4 rfl (by kernel_rfl)) ?_
      refine tk_q rfl rfl rfl (y_load rfl rfl (hc (o := 4) (.tail _ (.tail _ (.tail _ (.tail _ (.tail _ (.tail _ (.head _))))))) (rfl))) ?_
      refine tk_q rfl rfl rfl (y_move rfl) ?_
      refine tk_q rfl rfl rfl (y_move rfl) ?_
      refine tk_act rfl ?_; refine a_slitN (vs := [cutR ((ps.getD i dP).1) 0 (min (((ps.getD i dP).2).length) 100)]) rfl (List.forall_mem_cons.2 ⟨(RdS.one hro.1), (fun _ h => nomatch h)⟩) (EL45) rfl rfl (by decide) fun b92 => ?_
      refine tk_act rfl ?_
      refine tk_perm _ (.trans (.cons _ (.trans (.cons _ (List.Perm.refl _)) (.swap _ _ _))) (.swap _ _ _)) ?_
      refine tk_perm _ (.trans (.cons _ (.trans (.cons _ (.trans (.cons _ (.trans (.cons _ (.trans (.cons _ (.trans (.cons _ (List.Perm.refl _)) (.swap _ _ _))) (.swap _ _ _))) (.swap _ _ _))) (.swap _ _ _))) (.swap _ _ _))) (.swap _ _ _)) ?_
      refine tk_perm _ (.trans (.cons _ (.trans (.cons _ (.trans (.cons _ (.trans (.cons _ (.trans (.cons _ (.trans (.cons _ (List.Perm.refl _)) (.swap _ _ _))) (.swap _ _ _))) (.swap _ _ _))) (.swap _ _ _))) (.swap _ _ _))) (.swap _ _ _)) ?_
      refine a_callv [] _ rfl (by kernel_rfl) rfl (fun w' hw' => write_spec (hk := hk) (mk := mk) (nk := nk) (name := nn) (L := x) (kind := kind) (ps := [(cutR ((ps.getD i dP).1) 0 (min (((ps.getD i dP).2).length) 100), x)]) (tb := tb19) (c := cA) (p := (16 * i)) (vb := vb19) (vl := vA) (b := b) ⟨lenP, lenP, lenP⟩ ⟨lenP, lenP⟩ lenP lenP (Ro.cel (vs := [cutR ((ps.getD i dP).1) 0 (min (((ps.getD i dP).2).length) 100)]) hw' (.head _) (by first | rfl | simp) rfl (by decide)) (List.forall_mem_cons.2 ⟨(Ro.call hro hw'), (fun _ h => nomatch h)⟩) (by simp) ⟨lenP, lenP, lenP⟩ (hg.call hw') (St.pre hw')) rfl fun ⟨c93, vl93, v93⟩ hx93 => ?_
      refine tk_q rfl rfl rfl (y_move rfl) ?_
      refine tk_q rfl rfl rfl (y_extract rfl rfl) ?_
      refine tk_q rfl rfl rfl (y_extract rfl rfl) ?_
      refine tk_q rfl rfl rfl (y_assign rfl) ?_
      refine tk_q rfl rfl rfl (y_assign rfl) ?_
      refine tk_nil ?_
      refine tk_then ?_
      refine tk_seq ?_
      refine tk_seq ?_
      refine tk_region ?_
      refine tk_q rfl rfl rfl (y_move rfl) ?_
      refine tk_q rfl rfl rfl (y_str (l := (sealF hk mk kind nn (tapeN b (16 * i) 16) x).1) rfl rfl rfl rfl (fun w hw => own_rdS (hw.mem (.head _)))) ?_
      refine tk_q rfl rfl rfl (y_move rfl) ?_
      refine tk_q rfl rfl rfl ((y_strNe (l := (sealF hk mk kind nn (tapeN b (16 * i) 16) x).1) (m := (sealF hk mk kind nn (tapeN b (16 * i) 16) x).1) rfl rfl).cast (bool_f (fun h => h rfl))) ?_
      refine tk_q rfl rfl rfl (y_move rfl) ?_
      refine tk_gq rfl rfl rfl (y_move rfl) ?_
      refine tk_gq rfl rfl rfl (y_move rfl) ?_
      refine tk_gq rfl rfl rfl ((y_neq rfl rfl).cast (bool_f (fun h => h rfl))) ?_
      refine tk_q rfl rfl rfl (y_pick0 rfl rfl) ?_
      refine tk_nil ?_
      refine tk_then ?_
      refine tk_cond0 rfl ?_
      refine tk_skip ?_
      refine tk_then ?_
      refine tk_seq ?_
      refine tk_region ?_
      refine tk_q rfl rfl rfl (y_move rfl) ?_
      refine tk_q rfl rfl rfl (y_eql rfl rfl) ?_
      refine tk_nil ?_
      refine tk_then ?_
      refine tk_condP rfl (fun ht106 => ?_) (fun ht106 => ?_)
      · skip
        have hn5 : ¬ 255 < nn.length := fun h => by rw [sealF_name h] at ht106; exact absurd ht106 (by decide)
        refine tk_H [own v93 ((sealL hk mk kind nn (tapeN b (16 * i) 16) x).length) ((sealL hk mk kind nn (tapeN b (16 * i) 16) x).map B) 5 1, cel tb19 ([vb19, .int .u64 ((c93 : Nat) : Int), vl93]) 160, own vb19 b.length (b.map B) 5 1, own vl93 (((tapeL b c93).drop ((16 * i) + 16)).length) (((tapeL b c93).drop ((16 * i) + 16)).map B) 5 1, cel b92 ([cutR ((ps.getD i dP).1) 0 (min (((ps.getD i dP).2).length) 100)]) 26, cel b10 ((tapeN b (16 * i) 16).map B) 25, cel b4 (hk.map B ++ (mk.map B ++ (nk.map B))) 54, cel b3 (hk.map B ++ (mk.map B ++ (nk.map B ++ ([Value.pointer (some ⟨tb19, 0, none⟩)])))) 52, cel b1 ([wv, I (z), bv, pv, B kind, Str nm]) 47] (congrArg (fun z_ => [z_, cel tb19 ([vb19, .int .u64 ((c93 : Nat) : Int), vl93]) 160, own vb19 b.length (b.map B) 5 1, own vl93 (((tapeL b c93).drop ((16 * i) + 16)).length) (((tapeL b c93).drop ((16 * i) + 16)).map B) 5 1, cel b92 ([cutR ((ps.getD i dP).1) 0 (min (((ps.getD i dP).2).length) 100)]) 26, cel b10 ((tapeN b (16 * i) 16).map B) 25, cel b4 (hk.map B ++ (mk.map B ++ (nk.map B))) 54, cel b3 (hk.map B ++ (mk.map B ++ (nk.map B ++ ([Value.pointer (some ⟨tb19, 0, none⟩)])))) 52, cel b1 ([wv, I (z), bv, pv, B kind, Str nm]) 47]) (show own v93 (((sealF hk mk kind nn (tapeN b (16 * i) 16) x).1).length) (((sealF hk mk kind nn (tapeN b (16 * i) 16) x).1).map B) 5 1 = own v93 ((sealL hk mk kind nn (tapeN b (16 * i) 16) x).length) ((sealL hk mk kind nn (tapeN b (16 * i) 16) x).map B) 5 1 from ownM_cast (by rw [sealF_ok lenP lenP]))) ?_
        have hslv : (sealL hk mk kind nn (tapeN b (16 * i) 16) x).length = x.length + 48 := sealL_len tapeN_len
        refine tk_own1 (.head _) fun hfv93 => ?_
        refine tk_seq ?_
        refine tk_region ?_
        refine tk_q rfl rfl rfl (y_fld0 (o := 0) rfl (by kernel_rfl)) ?_
        refine tk_q rfl rfl rfl (y_fld0 (o := 0) rfl (by kernel_rfl)) ?_
        refine tk_q rfl rfl rfl (y_loadA (vs := hk.map B ++ (mk.map B)) 64 rfl (by kernel_rfl) lenP (hseg (pre := ([] : List Value)) (post := nk.map B ++ ([Value.pointer (some ⟨tb19, 0, none⟩)])) (.tail _ (.tail _ (.tail _ (.tail _ (.tail _ (.tail _ (.tail _ (.head _)))))))) lenP (by simp))) ?_
        refine tk_q rfl rfl rfl (y_fldN (o := 0) 4 rfl (by kernel_rfl)) ?_
        refine tk_q rfl rfl rfl (y_load rfl rfl (hc (o := 4) (.tail _ (.tail _ (.tail _ (.tail _ (.tail _ (.tail _ (.tail _ (.tail _ (.head _))))))))) (rfl))) ?_
        refine tk_q rfl rfl rfl (y_move rfl) ?_
        refine tk_q rfl rfl rfl (y_move rfl) ?_
        refine tk_act rfl ?_; refine a_callv [] _ rfl (by kernel_rfl) rfl (fun w' hw' => open_spec (hk := hk) (mk := mk) (kind := kind) (name := nn) (b := sealL hk mk kind nn (tapeN b (16 * i) 16) x) ⟨lenP, lenP⟩ (Ro.own (H0 := []) hw' (.head _)) ⟨lenP, lenP⟩ (hg.call hw')) rfl fun v115 _ => ?_
        refine tk_H [own v115 x.length (x.map B) 5 1, own v93 ((sealL hk mk kind nn (tapeN b (16 * i) 16) x).length) ((sealL hk mk kind nn (tapeN b (16 * i) 16) x).map B) 5 1, cel tb19 ([vb19, .int .u64 ((c93 : Nat) : Int), vl93]) 160, own vb19 b.length (b.map B) 5 1, own vl93 (((tapeL b c93).drop ((16 * i) + 16)).length) (((tapeL b c93).drop ((16 * i) + 16)).map B) 5 1, cel b92 ([cutR ((ps.getD i dP).1) 0 (min (((ps.getD i dP).2).length) 100)]) 26, cel b10 ((tapeN b (16 * i) 16).map B) 25, cel b4 (hk.map B ++ (mk.map B ++ (nk.map B))) 54, cel b3 (hk.map B ++ (mk.map B ++ (nk.map B ++ ([Value.pointer (some ⟨tb19, 0, none⟩)])))) 52, cel b1 ([wv, I (z), bv, pv, B kind, Str nm]) 47] (congrArg (fun z_ => [z_, own v93 ((sealL hk mk kind nn (tapeN b (16 * i) 16) x).length) ((sealL hk mk kind nn (tapeN b (16 * i) 16) x).map B) 5 1, cel tb19 ([vb19, .int .u64 ((c93 : Nat) : Int), vl93]) 160, own vb19 b.length (b.map B) 5 1, own vl93 (((tapeL b c93).drop ((16 * i) + 16)).length) (((tapeL b c93).drop ((16 * i) + 16)).map B) 5 1, cel b92 ([cutR ((ps.getD i dP).1) 0 (min (((ps.getD i dP).2).length) 100)]) 26, cel b10 ((tapeN b (16 * i) 16).map B) 25, cel b4 (hk.map B ++ (mk.map B ++ (nk.map B))) 54, cel b3 (hk.map B ++ (mk.map B ++ (nk.map B ++ ([Value.pointer (some ⟨tb19, 0, none⟩)])))) 52, cel b1 ([wv, I (z), bv, pv, B kind, Str nm]) 47]) (show own v115 (((openF hk mk kind nn (sealL hk mk kind nn (tapeN b (16 * i) 16) x)).1).length) (((openF hk mk kind nn (sealL hk mk kind nn (tapeN b (16 * i) 16) x)).1).map B) 5 1 = own v115 x.length (x.map B) 5 1 from ownM_cast (by rw [open_seal tapeN_len lenP lenP]))) ?_
        refine tk_re 115 (.tuple #[v115, I (((openF hk mk kind nn (sealL hk mk kind nn (tapeN b (16 * i) 16) x)).2 : Nat) : Int)]) (.tuple #[v115, I 0]) rfl (by rw [open_seal tapeN_len lenP lenP]; rfl) ?_
        refine tk_own1 (.head _) fun hfo => ?_
        refine tk_q rfl rfl rfl (y_move rfl) ?_
        refine tk_q rfl rfl rfl (y_extract rfl rfl) ?_
        refine tk_q rfl rfl rfl (y_extract rfl rfl) ?_
        refine tk_q rfl rfl rfl (y_assign rfl) ?_
        refine tk_q rfl rfl rfl (y_assign rfl) ?_
        refine tk_nil ?_
        refine tk_then ?_
        refine tk_seq ?_
        refine tk_region ?_
        refine tk_q rfl rfl rfl (y_move rfl) ?_
        refine tk_q rfl rfl rfl ((y_neq rfl rfl).cast (bool_f (by decide))) ?_
        refine tk_q rfl rfl rfl (y_move rfl) ?_
        refine tk_gq rfl rfl rfl (y_move rfl) ?_
        refine tk_gq rfl rfl rfl (y_str (l := x) rfl rfl rfl rfl (fun w hw => own_rdS (hw.mem (.head _)))) ?_
        refine tk_gq rfl rfl rfl (y_move rfl) ?_
        refine tk_gq rfl rfl rfl (y_str (l := x) rfl rfl rfl rfl (fun w hw => Ro.rd hro hw)) ?_
        refine tk_gq rfl rfl rfl ((y_strNe (l := x) (m := x) rfl rfl).cast (bool_f (fun h => h rfl))) ?_
        refine tk_q rfl rfl rfl (y_pick0 rfl rfl) ?_
        refine tk_nil ?_
        refine tk_then ?_
        refine tk_cond0 rfl ?_
        refine tk_skip ?_
        refine tk_in_normal ?_
        refine tk_then ?_
        refine tk_region ?_
        refine tk_q rfl rfl rfl (y_move rfl) ?_
        refine tk_q rfl rfl rfl (y_addN (a := i) (b := 1) rfl rfl (by omega)) ?_
        refine tk_q rfl rfl rfl (y_assign rfl) ?_
        refine tk_nil ?_
        refine tk_H [own v115 x.length (x.map B) 5 1, own v93 ((sealL hk mk kind nn (tapeN b (16 * i) 16) x).length) ((sealL hk mk kind nn (tapeN b (16 * i) 16) x).map B) 5 1, cel tb19 ([vb19, .int .u64 ((c93 : Nat) : Int), vl93]) 160, own vb19 b.length (b.map B) 5 1, own vl93 (((tapeL b c93).drop (16 * (i + 1))).length) (((tapeL b c93).drop (16 * (i + 1))).map B) 5 1, cel b92 ([cutR ((ps.getD i dP).1) 0 (min (((ps.getD i dP).2).length) 100)]) 26, cel b10 ((tapeN b (16 * i) 16).map B) 25, cel b4 (hk.map B ++ (mk.map B ++ (nk.map B))) 54, cel b3 (hk.map B ++ (mk.map B ++ (nk.map B ++ ([Value.pointer (some ⟨tb19, 0, none⟩)])))) 52, cel b1 ([wv, I (z), bv, pv, B kind, Str nm]) 47] (congrArg (fun z_ => [own v115 x.length (x.map B) 5 1, own v93 ((sealL hk mk kind nn (tapeN b (16 * i) 16) x).length) ((sealL hk mk kind nn (tapeN b (16 * i) 16) x).map B) 5 1, cel tb19 ([vb19, .int .u64 ((c93 : Nat) : Int), vl93]) 160, own vb19 b.length (b.map B) 5 1, z_, cel b92 ([cutR ((ps.getD i dP).1) 0 (min (((ps.getD i dP).2).length) 100)]) 26, cel b10 ((tapeN b (16 * i) 16).map B) 25, cel b4 (hk.map B ++ (mk.map B ++ (nk.map B))) 54, cel b3 (hk.map B ++ (mk.map B ++ (nk.map B ++ ([Value.pointer (some ⟨tb19, 0, none⟩)])))) 52, cel b1 ([wv, I (z), bv, pv, B kind, Str nm]) 47]) (show own vl93 (((tapeL b c93).drop ((16 * i) + 16)).length) (((tapeL b c93).drop ((16 * i) + 16)).map B) 5 1 = own vl93 (((tapeL b c93).drop (16 * (i + 1))).length) (((tapeL b c93).drop (16 * (i + 1))).map B) 5 1 from ownM_cast (congrArg (fun k => List.drop k _) (by omega)))) ?_
        refine tk_perm _ (.trans (.cons _ (.trans (.cons _ (.trans (.cons _ (.trans (.cons _ (.trans (.cons _ (.trans (.cons _ (.trans (.cons _ (.trans (.cons _ (.trans (.cons _ (List.Perm.refl _)) (.swap _ _ _))) (.swap _ _ _))) (.swap _ _ _))) (.swap _ _ _))) (.swap _ _ _))) (.swap _ _ _))) (.swap _ _ _))) (.swap _ _ _))) (.swap _ _ _)) ?_
        refine tk_perm _ (.trans (.cons _ (.trans (.cons _ (.trans (.cons _ (.trans (.cons _ (List.Perm.refl _)) (.swap _ _ _))) (.swap _ _ _))) (.swap _ _ _))) (.swap _ _ _)) ?_
        refine tk_perm _ (.trans (.cons _ (.trans (.cons _ (.trans (.cons _ (.trans (.cons _ (List.Perm.refl _)) (.swap _ _ _))) (.swap _ _ _))) (.swap _ _ _))) (.swap _ _ _)) ?_
        refine tk_perm _ (.trans (.cons _ (.trans (.cons _ (.trans (.cons _ (.trans (.cons _ (.trans (.cons _ (.trans (.cons _ (.trans (.cons _ (.trans (.cons _ (.trans (.cons _ (List.Perm.refl _)) (.swap _ _ _))) (.swap _ _ _))) (.swap _ _ _))) (.swap _ _ _))) (.swap _ _ _))) (.swap _ _ _))) (.swap _ _ _))) (.swap _ _ _))) (.swap _ _ _)) ?_
        refine tk_perm _ (.trans (.cons _ (.trans (.cons _ (.trans (.cons _ (.trans (.cons _ (.trans (.cons _ (.trans (.cons _ (.trans (.cons _ (.trans (.cons _ (.trans (.cons _ (List.Perm.refl _)) (.swap _ _ _))) (.swap _ _ _))) (.swap _ _ _))) (.swap _ _ _))) (.swap _ _ _))) (.swap _ _ _))) (.swap _ _ _))) (.swap _ _ _))) (.swap _ _ _)) ?_
        refine tk_perm _ (.trans (.cons _ (.trans (.cons _ (.trans (.cons _ (.trans (.cons _ (.trans (.cons _ (.trans (.cons _ (.trans (.cons _ (List.Perm.refl _)) (.swap _ _ _))) (.swap _ _ _))) (.swap _ _ _))) (.swap _ _ _))) (.swap _ _ _))) (.swap _ _ _))) (.swap _ _ _)) ?_
        exact tk_again ((i + 1, c93, vl93)) (⟨by dsimp only; omega, by dsimp only; omega, by dsimp only; omega⟩) (by dsimp only; omega) (by repeat (first | exact trivial | refine ⟨rfl, ?_⟩)) (.cons_cons _ (.cons_cons _ (.cons_cons _ (.cons_cons _ (.cons_cons _ (.cons_cons _ (List.nil_sublist _)))))))
      · skip
        refine tk_skip ?_
        refine tk_in_normal ?_
        refine tk_then ?_
        refine tk_region ?_
        refine tk_q rfl rfl rfl (y_move rfl) ?_
        refine tk_q rfl rfl rfl (y_addN (a := i) (b := 1) rfl rfl (by omega)) ?_
        refine tk_q rfl rfl rfl (y_assign rfl) ?_
        refine tk_nil ?_
        refine tk_H [own v93 (((sealF hk mk kind nn (tapeN b (16 * i) 16) x).1).length) (((sealF hk mk kind nn (tapeN b (16 * i) 16) x).1).map B) 5 1, cel tb19 ([vb19, .int .u64 ((c93 : Nat) : Int), vl93]) 160, own vb19 b.length (b.map B) 5 1, own vl93 (((tapeL b c93).drop (16 * (i + 1))).length) (((tapeL b c93).drop (16 * (i + 1))).map B) 5 1, cel b92 ([cutR ((ps.getD i dP).1) 0 (min (((ps.getD i dP).2).length) 100)]) 26, cel b10 ((tapeN b (16 * i) 16).map B) 25, cel b4 (hk.map B ++ (mk.map B ++ (nk.map B))) 54, cel b3 (hk.map B ++ (mk.map B ++ (nk.map B ++ ([Value.pointer (some ⟨tb19, 0, none⟩)])))) 52, cel b1 ([wv, I (z), bv, pv, B kind, Str nm]) 47] (congrArg (fun z_ => [own v93 (((sealF hk mk kind nn (tapeN b (16 * i) 16) x).1).length) (((sealF hk mk kind nn (tapeN b (16 * i) 16) x).1).map B) 5 1, cel tb19 ([vb19, .int .u64 ((c93 : Nat) : Int), vl93]) 160, own vb19 b.length (b.map B) 5 1, z_, cel b92 ([cutR ((ps.getD i dP).1) 0 (min (((ps.getD i dP).2).length) 100)]) 26, cel b10 ((tapeN b (16 * i) 16).map B) 25, cel b4 (hk.map B ++ (mk.map B ++ (nk.map B))) 54, cel b3 (hk.map B ++ (mk.map B ++ (nk.map B ++ ([Value.pointer (some ⟨tb19, 0, none⟩)])))) 52, cel b1 ([wv, I (z), bv, pv, B kind, Str nm]) 47]) (show own vl93 (((tapeL b c93).drop ((16 * i) + 16)).length) (((tapeL b c93).drop ((16 * i) + 16)).map B) 5 1 = own vl93 (((tapeL b c93).drop (16 * (i + 1))).length) (((tapeL b c93).drop (16 * (i + 1))).map B) 5 1 from ownM_cast (congrArg (fun k => List.drop k _) (by omega)))) ?_
        refine tk_perm _ (.trans (.cons _ (.trans (.cons _ (.trans (.cons _ (.trans (.cons _ (.trans (.cons _ (.trans (.cons _ (.trans (.cons _ (.trans (.cons _ (List.Perm.refl _)) (.swap _ _ _))) (.swap _ _ _))) (.swap _ _ _))) (.swap _ _ _))) (.swap _ _ _))) (.swap _ _ _))) (.swap _ _ _))) (.swap _ _ _)) ?_
        refine tk_perm _ (.trans (.cons _ (.trans (.cons _ (.trans (.cons _ (List.Perm.refl _)) (.swap _ _ _))) (.swap _ _ _))) (.swap _ _ _)) ?_
        refine tk_perm _ (.trans (.cons _ (.trans (.cons _ (.trans (.cons _ (List.Perm.refl _)) (.swap _ _ _))) (.swap _ _ _))) (.swap _ _ _)) ?_
        refine tk_perm _ (.trans (.cons _ (.trans (.cons _ (.trans (.cons _ (.trans (.cons _ (.trans (.cons _ (.trans (.cons _ (.trans (.cons _ (.trans (.cons _ (List.Perm.refl _)) (.swap _ _ _))) (.swap _ _ _))) (.swap _ _ _))) (.swap _ _ _))) (.swap _ _ _))) (.swap _ _ _))) (.swap _ _ _))) (.swap _ _ _)) ?_
        refine tk_perm _ (.trans (.cons _ (.trans (.cons _ (.trans (.cons _ (.trans (.cons _ (.trans (.cons _ (.trans (.cons _ (.trans (.cons _ (.trans (.cons _ (List.Perm.refl _)) (.swap _ _ _))) (.swap _ _ _))) (.swap _ _ _))) (.swap _ _ _))) (.swap _ _ _))) (.swap _ _ _))) (.swap _ _ _))) (.swap _ _ _)) ?_
        refine tk_perm _ (.trans (.cons _ (.trans (.cons _ (.trans (.cons _ (.trans (.cons _ (.trans (.cons _ (.trans (.cons _ (List.Perm.refl _)) (.swap _ _ _))) (.swap _ _ _))) (.swap _ _ _))) (.swap _ _ _))) (.swap _ _ _))) (.swap _ _ _)) ?_
        exact tk_again ((i + 1, c93, vl93)) (⟨by dsimp only; omega, by dsimp only; omega, by dsimp only; omega⟩) (by dsimp only; omega) (by repeat (first | exact trivial | refine ⟨rfl, ?_⟩)) (.cons_cons _ (.cons_cons _ (.cons_cons _ (.cons_cons _ (.cons_cons _ (.cons_cons _ (List.nil_sublist _)))))))
    · skip
      refine tk_exit ?_
      refine tk_then_exit ?_
      refine tk_then_exit ?_
      refine tk_in_hit ?_
      refine tk_then ?_
      refine tk_seq ?_
      refine tk_region ?_
      refine tk_q rfl rfl rfl (y_assign rfl) ?_
      refine tk_nil ?_
      refine tk_then ?_
      refine tk_retc ?_
      exact tk_ret (()) (trivial) (.inl rfl) (r1 rfl rfl) (List.nil_sublist _)
  · skip
    refine tk_q rfl rfl rfl (y_move rfl) ?_
    refine tk_gno rfl rfl rfl ?_
    refine tk_gno rfl rfl rfl ?_
    refine tk_q rfl rfl rfl (y_pick0 rfl rfl) ?_
    refine tk_nil ?_
    refine tk_then ?_
    refine tk_cond0 rfl ?_
    refine tk_exit ?_
    refine tk_then_exit ?_
    refine tk_then_exit ?_
    refine tk_in_hit ?_
    refine tk_then ?_
    refine tk_seq ?_
    refine tk_region ?_
    refine tk_q rfl rfl rfl (y_assign rfl) ?_
    refine tk_nil ?_
    refine tk_then ?_
    refine tk_retc ?_
    exact tk_ret (()) (trivial) (.inl rfl) (r1 rfl rfl) (List.nil_sublist _)
end Go.Proofs.YtfofkjajlfphjaaDoor
