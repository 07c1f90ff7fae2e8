/- wax: the walk over the law WaxBounds. -/
import Derived.Test.YtfofkjajlfphjaaDoorWaxC
set_option linter.unusedSimpArgs false
set_option linter.unusedVariables false
namespace Go.Proofs.YtfofkjajlfphjaaDoor
open Go Go.RowKit
set_option maxRecDepth 100000
attribute [local irreducible] hidL markL sealL sealF openF keyedL Cip.keyW Cip.hideL
theorem waxBounds_spec {w : World} (hg : Ro (Fs []) w glob) (n_ size_ : Int) : Spec Tryd.prog 6 [I n_, I size_] w [] (fun _ : Unit => True) (fun _ => .bool true) (fun _ => []) := by
  refine spec_of (n := 111) Tryd.func6 rfl rfl trivial trivial rfl ?_
  obtain ⟨m, hm5, hm⟩ := cntM n_ 300 (by decide)
  obtain ⟨s, hs5, hs⟩ := cntM size_ 5 (by decide)
  refine tk_seq ?_
  refine tk_region ?_
  refine tk_q rfl rfl rfl (y_assign rfl) ?_
  refine tk_nil ?_
  refine tk_then ?_
  refine tk_seq ?_
  refine tk_region ?_
  refine tk_q rfl rfl rfl (y_move rfl) ?_
  refine tk_q rfl rfl rfl (y_conv rfl rfl rfl) ?_
  refine tk_q rfl rfl rfl ((y_rem (k := .u64) rfl rfl (by decide)).cast (congrArg (Value.int .u64) hm)) ?_
  refine tk_q rfl rfl rfl (y_convi64 (m := m) rfl rfl rfl (wrap_in (by omega) (by omega))) ?_
  refine tk_q rfl rfl rfl (y_move rfl) ?_
  refine tk_q rfl rfl rfl (y_conv rfl rfl rfl) ?_
  refine tk_q rfl rfl rfl ((y_rem (k := .u64) rfl rfl (by decide)).cast (congrArg (Value.int .u64) hs)) ?_
  refine tk_q rfl rfl rfl (y_convi64 (m := s) rfl rfl rfl (wrap_in (by omega) (by omega))) ?_
  refine tk_q rfl rfl rfl (y_addN (a := 1048574) (b := s) rfl rfl (by omega)) ?_
  refine tk_q rfl rfl rfl (y_assign rfl) ?_
  refine tk_q rfl rfl rfl (y_assign rfl) ?_
  refine tk_nil ?_
  refine tk_then ?_
  refine tk_seq ?_
  refine tk_region ?_
  refine tk_q rfl rfl rfl (y_move rfl) ?_
  refine tk_act rfl ?_; refine a_makeM (f := B) (z := 0) (m := m) rfl rfl MK26 rfl rfl ⟨(by first | omega | (simp only [List.length_map, List.length_append, List.length_take, List.length_drop, List.length_set, List.length_cons, List.length_nil, List.length_replicate]; omega) | (simp; done) | (simp; omega)), (by first | omega | (simp only [List.length_map, List.length_append, List.length_take, List.length_drop, List.length_set, List.length_cons, List.length_nil, List.length_replicate]; omega) | (simp; done) | (simp; omega))⟩ fun b25 => ?_
  refine tk_q rfl rfl rfl (y_str (l := List.replicate m 0) rfl rfl rfl rfl (fun w hw => cel_rdE (o := 0) (m := m) (cp := m) (vs := (List.replicate m 0).map B) (hw.mem (.head _)) (dsW) (by first | rfl | (simp; done) | (simp; omega)) (by first | omega | (simp; done) | (simp; omega)))) ?_
  obtain ⟨nm, hnm⟩ : ∃ nm : List UInt8, nm = List.replicate m 0 := ⟨_, rfl⟩
  have hnml : nm.length = m := by rw [hnm, List.length_replicate]
  refine tk_re 26 (Str (List.replicate m 0)) (Str nm) rfl (by rw [hnm]) ?_
  refine tk_q rfl rfl rfl (y_assign rfl) ?_
  refine tk_nil ?_
  refine tk_then ?_
  refine tk_seq ?_
  refine tk_region ?_
  refine tk_q rfl rfl rfl (y_build (v := .agg ((List.replicate 32 0).map B ++ ((List.replicate 32 0).map B)).toArray) (vs := []) rfl (fun _ => by kernel_rfl)) ?_
  refine tk_act rfl ?_; refine a_allocL (cs := (List.replicate 32 0).map B ++ ((List.replicate 32 0).map B)) (by kernel_rfl) rfl fun b6 => ?_
  refine tk_act rfl ?_; refine a_storeW (H1 := []) (vs := (List.replicate 32 0).map B ++ ((List.replicate 32 0).map B)) 64 rfl rfl (by kernel_rfl) rfl ⟨(by first | omega | (simp only [List.length_map, List.length_append, List.length_take, List.length_drop, List.length_set, List.length_cons, List.length_nil, List.length_replicate]; omega) | (simp; done) | (simp; omega)), (by first | omega | (simp only [List.length_map, List.length_append, List.length_take, List.length_drop, List.length_set, List.length_cons, List.length_nil, List.length_replicate]; omega) | (simp; done) | (simp; omega))⟩ (List.forall_mem_append.2 ⟨oneB, oneB⟩) ?_
  refine tk_nil ?_
  refine tk_then ?_
  refine tk_seq ?_
  refine tk_region ?_
  refine tk_q rfl rfl rfl (y_loadA 64 rfl (by kernel_rfl) (by first | omega | (simp only [List.length_map, List.length_append, List.length_take, List.length_drop, List.length_set, List.length_cons, List.length_nil, List.length_replicate]; omega) | (simp; done) | (simp; omega)) (hcw (.head _))) ?_
  refine tk_q rfl rfl rfl (y_move rfl) ?_
  refine tk_q rfl rfl rfl (y_build (v := .agg ((List.replicate 16 0 : List UInt8).map B).toArray) (vs := []) rfl (fun _ => by kernel_rfl)) ?_
  refine tk_act rfl ?_; refine a_slitN (vs := [.slice none 0 0]) rfl (List.forall_mem_cons.2 ⟨(RdS.one (RdS.nil (w := default))), (fun _ h => nomatch h)⟩) (EL45) rfl rfl (by decide) fun b32 => ?_
  refine tk_act rfl ?_; refine a_callv [] _ rfl (by kernel_rfl) rfl (fun w' hw' => seal_spec (hk := List.replicate 32 0) (mk := List.replicate 32 0) (kind := 1) (name := nm) (N := (List.replicate 16 0 : List UInt8)) (ps := [(.slice none 0 0, [])]) (L := []) ⟨(by first | omega | (simp only [List.length_map, List.length_append, List.length_take, List.length_drop, List.length_set, List.length_cons, List.length_nil, List.length_replicate]; omega) | (simp; done) | (simp; omega)), (by first | omega | (simp only [List.length_map, List.length_append, List.length_take, List.length_drop, List.length_set, List.length_cons, List.length_nil, List.length_replicate]; omega) | (simp; done) | (simp; omega)), (by first | omega | (simp only [List.length_map, List.length_append, List.length_take, List.length_drop, List.length_set, List.length_cons, List.length_nil, List.length_replicate]; omega) | (simp; done) | (simp; omega))⟩ (Ro.cel (vs := [.slice none 0 0]) hw' (.head _) (by first | rfl | simp) rfl (by decide)) (List.forall_mem_cons.2 ⟨Ro.rnil, (fun _ h => nomatch h)⟩) (by simp) ⟨(by first | omega | (simp only [List.length_map, List.length_append, List.length_take, List.length_drop, List.length_set, List.length_cons, List.length_nil, List.length_replicate]; omega) | (simp; done) | (simp; omega)), (by first | omega | (simp only [List.length_map, List.length_append, List.length_take, List.length_drop, List.length_set, List.length_cons, List.length_nil, List.length_replicate]; omega) | (simp; done) | (simp; omega)), (by first | omega | (simp only [List.length_map, List.length_append, List.length_take, List.length_drop, List.length_set, List.length_cons, List.length_nil, List.length_replicate]; omega) | (simp; done) | (simp; omega))⟩ (hg.call hw')) rfl fun v33 _ => ?_
  obtain ⟨e1, he1⟩ : ∃ e : Nat, e = (sealF (List.replicate 32 0) (List.replicate 32 0) 1 nm (List.replicate 16 0) []).2 := ⟨_, rfl⟩
  have he1c : (255 < m ∧ e1 = 5) ∨ (m ≤ 255 ∧ e1 = 0) := by rw [he1]; exact (Nat.lt_or_ge 255 nm.length).elim (fun h => .inl ⟨by omega, by rw [sealF_name h]⟩) (fun h => .inr ⟨by omega, by rw [sealF_ok (by omega) (by decide)]⟩)
  refine tk_re 33 (.tuple #[v33, I (((sealF (List.replicate 32 0) (List.replicate 32 0) 1 nm (List.replicate 16 0 : List UInt8) []).2 : Nat) : Int)]) (.tuple #[v33, I ((e1 : Nat) : Int)]) rfl (by rw [he1]) ?_
  refine tk_q rfl rfl rfl (y_move rfl) ?_
  refine tk_q rfl rfl rfl (y_extract rfl rfl) ?_
  refine tk_q rfl rfl rfl (y_extract rfl rfl) ?_
  refine tk_q rfl rfl rfl (y_assign rfl) ?_
  refine tk_q rfl rfl rfl (y_assign rfl) ?_
  refine tk_nil ?_
  refine tk_then ?_
  refine tk_seq ?_
  refine tk_region ?_
  refine tk_q rfl rfl rfl (y_loadA 64 rfl (by kernel_rfl) (by first | omega | (simp only [List.length_map, List.length_append, List.length_take, List.length_drop, List.length_set, List.length_cons, List.length_nil, List.length_replicate]; omega) | (simp; done) | (simp; omega)) (hcw (.tail _ (.tail _ (.head _))))) ?_
  refine tk_q rfl rfl rfl (y_move rfl) ?_
  refine tk_act rfl ?_; refine a_callv [] _ rfl (by kernel_rfl) rfl (fun w' hw' => open_spec (hk := List.replicate 32 0) (mk := List.replicate 32 0) (kind := 1) (name := nm) (b := []) ⟨(by first | omega | (simp only [List.length_map, List.length_append, List.length_take, List.length_drop, List.length_set, List.length_cons, List.length_nil, List.length_replicate]; omega) | (simp; done) | (simp; omega)), (by first | omega | (simp only [List.length_map, List.length_append, List.length_take, List.length_drop, List.length_set, List.length_cons, List.length_nil, List.length_replicate]; omega) | (simp; done) | (simp; omega))⟩ Ro.rnil ⟨(by first | omega | (simp only [List.length_map, List.length_append, List.length_take, List.length_drop, List.length_set, List.length_cons, List.length_nil, List.length_replicate]; omega) | (simp; done) | (simp; omega)), (by first | omega | (simp only [List.length_map, List.length_append, List.length_take, List.length_drop, List.length_set, List.length_cons, List.length_nil, List.length_replicate]; omega) | (simp; done) | (simp; omega))⟩ (hg.call hw')) rfl fun v39 _ => ?_
  obtain ⟨e2, he2⟩ : ∃ e : Nat, e = (openF (List.replicate 32 0) (List.replicate 32 0) 1 nm []).2 := ⟨_, rfl⟩
  have he2c : (255 < m ∧ e2 = 5) ∨ (m ≤ 255 ∧ e2 = 10) := by rw [he2]; exact (Nat.lt_or_ge 255 nm.length).elim (fun h => .inl ⟨by omega, by rw [openF_name h]⟩) (fun h => .inr ⟨by omega, by rw [openF_len (by omega) (.inl (by decide))]⟩)
  refine tk_re 39 (.tuple #[v39, I (((openF (List.replicate 32 0) (List.replicate 32 0) 1 nm []).2 : Nat) : Int)]) (.tuple #[v39, I ((e2 : Nat) : Int)]) rfl (by rw [he2]) ?_
  refine tk_q rfl rfl rfl (y_move rfl) ?_
  refine tk_q rfl rfl rfl (y_extract rfl rfl) ?_
  refine tk_q rfl rfl rfl (y_extract rfl rfl) ?_
  refine tk_q rfl rfl rfl (y_assign rfl) ?_
  refine tk_q rfl rfl rfl (y_assign rfl) ?_
  refine tk_nil ?_
  refine tk_then ?_
  refine tk_seq ?_
  refine tk_seq ?_
  refine tk_region ?_
  refine tk_act rfl ?_; refine a_callv [] _ rfl (by kernel_rfl) rfl (fun w' hw' => waxes_spec (hg.call hw')) rfl fun _ _ => ?_
  refine tk_q rfl rfl rfl (y_not rfl) ?_
  refine tk_q rfl rfl rfl (y_move rfl) ?_
  refine tk_gq rfl rfl rfl (y_move rfl) ?_
  refine tk_gq rfl rfl rfl (y_eql rfl rfl) ?_
  refine tk_gq rfl rfl rfl (y_move rfl) ?_
  refine tk_gq rfl rfl rfl (y_leq rfl rfl) ?_
  refine tk_gqe (.bool false) rfl rfl rfl (y_neB (a := decide (((e1 : Nat) : Int) = (0 : Int))) (b := decide (((m : Nat) : Int) ≤ (255 : Int))) rfl rfl rfl) (congrArg Value.bool (bne_iff (by omega))) ?_
  refine tk_q rfl rfl rfl (y_pick0 rfl rfl) ?_
  refine tk_q rfl rfl rfl (y_move rfl) ?_
  refine tk_gq rfl rfl rfl (y_move rfl) ?_
  refine tk_gq rfl rfl rfl (y_eql rfl rfl) ?_
  refine tk_gq rfl rfl rfl (y_move rfl) ?_
  refine tk_gq rfl rfl rfl (y_gtr rfl rfl) ?_
  refine tk_gqe (.bool false) rfl rfl rfl (y_neB (a := decide (((e1 : Nat) : Int) = (5 : Int))) (b := decide ((255 : Int) < ((m : Nat) : Int))) rfl rfl rfl) (congrArg Value.bool (bne_iff (by omega))) ?_
  refine tk_q rfl rfl rfl (y_pick0 rfl rfl) ?_
  refine tk_q rfl rfl rfl (y_move rfl) ?_
  refine tk_gq rfl rfl rfl (y_move rfl) ?_
  refine tk_gq rfl rfl rfl (y_eql rfl rfl) ?_
  refine tk_gq rfl rfl rfl (y_move rfl) ?_
  refine tk_gq rfl rfl rfl (y_gtr rfl rfl) ?_
  refine tk_gqe (.bool false) rfl rfl rfl (y_neB (a := decide (((e2 : Nat) : Int) = (5 : Int))) (b := decide ((255 : Int) < ((m : Nat) : Int))) rfl rfl rfl) (congrArg Value.bool (bne_iff (by omega))) ?_
  refine tk_q rfl rfl rfl (y_pick0 rfl rfl) ?_
  refine tk_q rfl rfl rfl (y_move rfl) ?_
  refine tk_gq rfl rfl rfl (y_move rfl) ?_
  refine tk_gq rfl rfl rfl (y_eql rfl rfl) ?_
  refine tk_gq rfl rfl rfl (y_move rfl) ?_
  refine tk_gq rfl rfl rfl (y_leq rfl rfl) ?_
  refine tk_gqe (.bool false) rfl rfl rfl (y_neB (a := decide (((e2 : Nat) : Int) = (10 : Int))) (b := decide (((m : Nat) : Int) ≤ (255 : Int))) rfl rfl rfl) (congrArg Value.bool (bne_iff (by omega))) ?_
  refine tk_q rfl rfl rfl (y_pick0 rfl rfl) ?_
  refine tk_nil ?_
  refine tk_then ?_
  refine tk_cond0 rfl ?_
  refine tk_skip ?_
  refine tk_then ?_
  refine tk_seq ?_
  refine tk_seq ?_
  refine tk_region ?_
  refine tk_q rfl rfl rfl (y_move rfl) ?_
  refine tk_q rfl rfl rfl (y_leq rfl rfl) ?_
  refine tk_nil ?_
  refine tk_then ?_
  refine tk_condP rfl (fun ht73 => ?_) (fun ht73 => ?_)
  · skip
    refine tk_seq ?_
    refine tk_region ?_
    refine tk_q rfl rfl rfl (y_assign rfl) ?_
    refine tk_nil ?_
    refine tk_then ?_
    refine tk_retc ?_
    refine tk_then_ret ?_
    exact tk_ret (()) (trivial) (.inl rfl) (r1 rfl rfl) (List.nil_sublist _)
  · skip
    refine tk_skip ?_
    refine tk_then ?_
    refine tk_seq ?_
    refine tk_drawH [own v39 (((openF (List.replicate 32 0) (List.replicate 32 0) 1 nm []).1).length) (((openF (List.replicate 32 0) (List.replicate 32 0) 1 nm []).1).map B) 5 1, own v33 (((sealF (List.replicate 32 0) (List.replicate 32 0) 1 nm (List.replicate 16 0 : List UInt8) []).1).length) (((sealF (List.replicate 32 0) (List.replicate 32 0) 1 nm (List.replicate 16 0 : List UInt8) []).1).map B) 5 1, cel b32 ([.slice none 0 0]) 26, cel b6 ((List.replicate 32 0).map B ++ ((List.replicate 32 0).map B)) 36, cel b25 ((List.replicate m 0).map B) 5] [] (by kernel_rfl) ?_
    refine tx_l 0 rfl (by kernel_rfl) (by kernel_rfl) rfl rfl rfl (fun _ _ _ h => h) (fun _ h => h.sub (List.Sublist.refl _)) (y_loadA 64 rfl (by kernel_rfl) (by first | omega | (simp only [List.length_map, List.length_append, List.length_take, List.length_drop, List.length_set, List.length_cons, List.length_nil, List.length_replicate]; omega) | (simp; done) | (simp; omega)) (hcw (.tail _ (.tail _ (.tail _ (.head _)))))) ?_
    refine tx_q 1 rfl (by kernel_rfl) rfl rfl rfl (fun _ _ _ h => h) (y_build (v := .agg ((List.replicate 16 0 : List UInt8).map B).toArray) (vs := []) rfl (fun _ => by kernel_rfl)) ?_
    refine tx_q 2 rfl (by kernel_rfl) rfl rfl rfl (fun _ _ _ h => h) (y_move rfl) ?_
    refine tx_q 3 rfl (by kernel_rfl) rfl rfl rfl (fun _ _ _ h => h) (y_subN (a := 1048574 + s) (b := 7) rfl rfl (by omega)) ?_
    refine tx_all (is := [4, 5]) (by kernel_rfl) rfl ⟨⟨_, rfl, rfl, ?_⟩, ⟨_, rfl, rfl, ?_⟩, trivial⟩
    · skip
      skip; refine a_makeM (f := B) (z := 0) (m := (1048574 + s) - 7) rfl rfl MK26 rfl rfl ⟨(by first | omega | (simp only [List.length_map, List.length_append, List.length_take, List.length_drop, List.length_set, List.length_cons, List.length_nil, List.length_replicate]; omega) | (simp; done) | (simp; omega)), (by first | omega | (simp only [List.length_map, List.length_append, List.length_take, List.length_drop, List.length_set, List.length_cons, List.length_nil, List.length_replicate]; omega) | (simp; done) | (simp; omega))⟩ fun b79 => ?_
      refine tk_S (fun _ h => h.sub (.cons _ (List.Sublist.refl _))) ?_
      refine tx_more [cel b79 ((List.replicate ((1048574 + s) - 7) 0).map B) 5, own v39 (((openF (List.replicate 32 0) (List.replicate 32 0) 1 nm []).1).length) (((openF (List.replicate 32 0) (List.replicate 32 0) 1 nm []).1).map B) 5 1, own v33 (((sealF (List.replicate 32 0) (List.replicate 32 0) 1 nm (List.replicate 16 0 : List UInt8) []).1).length) (((sealF (List.replicate 32 0) (List.replicate 32 0) 1 nm (List.replicate 16 0 : List UInt8) []).1).map B) 5 1, cel b32 ([.slice none 0 0]) 26, cel b6 ((List.replicate 32 0).map B ++ ((List.replicate 32 0).map B)) 36, cel b25 ((List.replicate m 0).map B) 5] (fun _ h => h.sub (.cons _ (List.Sublist.refl _))) (fun _ h => h.sub (List.Sublist.refl _)) ?_
      refine tx_a 5 rfl (by kernel_rfl) rfl ?_; refine a_makeM (f := B) (z := 0) (m := 7) rfl rfl MK26 rfl rfl ⟨(by first | omega | (simp only [List.length_map, List.length_append, List.length_take, List.length_drop, List.length_set, List.length_cons, List.length_nil, List.length_replicate]; omega) | (simp; done) | (simp; omega)), (by first | omega | (simp only [List.length_map, List.length_append, List.length_take, List.length_drop, List.length_set, List.length_cons, List.length_nil, List.length_replicate]; omega) | (simp; done) | (simp; omega))⟩ fun b80 => ?_
      refine tk_S (fun _ h => h.sub (.cons _ (List.Sublist.refl _))) ?_
      refine tx_more [cel b80 ((List.replicate 7 0).map B) 5, cel b79 ((List.replicate ((1048574 + s) - 7) 0).map B) 5, own v39 (((openF (List.replicate 32 0) (List.replicate 32 0) 1 nm []).1).length) (((openF (List.replicate 32 0) (List.replicate 32 0) 1 nm []).1).map B) 5 1, own v33 (((sealF (List.replicate 32 0) (List.replicate 32 0) 1 nm (List.replicate 16 0 : List UInt8) []).1).length) (((sealF (List.replicate 32 0) (List.replicate 32 0) 1 nm (List.replicate 16 0 : List UInt8) []).1).map B) 5 1, cel b32 ([.slice none 0 0]) 26, cel b6 ((List.replicate 32 0).map B ++ ((List.replicate 32 0).map B)) 36, cel b25 ((List.replicate m 0).map B) 5] (fun _ h => h.sub (.cons _ (List.Sublist.refl _))) (fun _ h => h.sub (List.Sublist.refl _)) ?_
      refine tx_a 6 rfl (by kernel_rfl) rfl ?_; refine a_slitN (vs := [.slice (some ⟨b79, 0, none⟩) ((1048574 + s) - 7) ((1048574 + s) - 7), .slice (some ⟨b80, 0, none⟩) 7 7]) rfl (List.forall_mem_cons.2 ⟨rfl, (List.forall_mem_cons.2 ⟨rfl, (fun _ h => nomatch h)⟩)⟩) (EL45) rfl rfl (by decide) fun b81 => ?_
      refine tk_S (fun _ h => h.sub (.cons _ (List.Sublist.refl _))) ?_
      refine tx_more [cel b81 ([.slice (some ⟨b79, 0, none⟩) ((1048574 + s) - 7) ((1048574 + s) - 7), .slice (some ⟨b80, 0, none⟩) 7 7]) 26, cel b80 ((List.replicate 7 0).map B) 5, cel b79 ((List.replicate ((1048574 + s) - 7) 0).map B) 5, own v39 (((openF (List.replicate 32 0) (List.replicate 32 0) 1 nm []).1).length) (((openF (List.replicate 32 0) (List.replicate 32 0) 1 nm []).1).map B) 5 1, own v33 (((sealF (List.replicate 32 0) (List.replicate 32 0) 1 nm (List.replicate 16 0 : List UInt8) []).1).length) (((sealF (List.replicate 32 0) (List.replicate 32 0) 1 nm (List.replicate 16 0 : List UInt8) []).1).map B) 5 1, cel b32 ([.slice none 0 0]) 26, cel b6 ((List.replicate 32 0).map B ++ ((List.replicate 32 0).map B)) 36, cel b25 ((List.replicate m 0).map B) 5] (fun _ h => h.sub (.cons _ (List.Sublist.refl _))) (fun _ h => h.sub (List.Sublist.refl _)) ?_
      refine tx_a 7 rfl (by kernel_rfl) rfl ?_; refine a_callv [] _ rfl (by kernel_rfl) rfl (fun w' hw' => seal_spec (hk := List.replicate 32 0) (mk := List.replicate 32 0) (kind := 1) (name := [97]) (N := (List.replicate 16 0 : List UInt8)) (ps := [(.slice (some ⟨b79, 0, none⟩) ((1048574 + s) - 7) ((1048574 + s) - 7), List.replicate ((1048574 + s) - 7) 0), (.slice (some ⟨b80, 0, none⟩) 7 7, List.replicate 7 0)]) (L := (List.replicate ((1048574 + s) - 7) 0) ++ (List.replicate 7 0)) ⟨(by first | omega | (simp only [List.length_map, List.length_append, List.length_take, List.length_drop, List.length_set, List.length_cons, List.length_nil, List.length_replicate]; omega) | (simp; done) | (simp; omega)), (by first | omega | (simp only [List.length_map, List.length_append, List.length_take, List.length_drop, List.length_set, List.length_cons, List.length_nil, List.length_replicate]; omega) | (simp; done) | (simp; omega)), (by first | omega | (simp only [List.length_map, List.length_append, List.length_take, List.length_drop, List.length_set, List.length_cons, List.length_nil, List.length_replicate]; omega) | (simp; done) | (simp; omega))⟩ (Ro.cel (vs := [.slice (some ⟨b79, 0, none⟩) ((1048574 + s) - 7) ((1048574 + s) - 7), .slice (some ⟨b80, 0, none⟩) 7 7]) hw' (.head _) (by first | rfl | simp) rfl (by decide)) (List.forall_mem_cons.2 ⟨(Ro.cel (H0 := []) (b := b79) (o := 0) (m := (1048574 + s) - 7) (cp := (1048574 + s) - 7) (vs := (List.replicate ((1048574 + s) - 7) 0).map B) hw' (.tail _ (.tail _ (.head _))) (dsW) (by first | rfl | (simp; done) | (simp; omega)) (by first | omega | (simp; done) | (simp; omega))), (List.forall_mem_cons.2 ⟨(Ro.cel (H0 := []) (b := b80) (o := 0) (m := 7) (cp := 7) (vs := (List.replicate 7 0).map B) hw' (.tail _ (.head _)) (dsW) (by first | rfl | (simp; done) | (simp; omega)) (by first | omega | (simp; done) | (simp; omega))), (fun _ h => nomatch h)⟩)⟩) (by simp) ⟨(by first | omega | (simp only [List.length_map, List.length_append, List.length_take, List.length_drop, List.length_set, List.length_cons, List.length_nil, List.length_replicate]; omega) | (simp; done) | (simp; omega)), (by first | omega | (simp only [List.length_map, List.length_append, List.length_take, List.length_drop, List.length_set, List.length_cons, List.length_nil, List.length_replicate]; omega) | (simp; done) | (simp; omega)), (by first | omega | (simp only [List.length_map, List.length_append, List.length_take, List.length_drop, List.length_set, List.length_cons, List.length_nil, List.length_replicate]; omega) | (simp; done) | (simp; omega))⟩ (hg.call hw')) rfl fun v82 _ => ?_
      refine tk_S (fun _ h => h.sub (.cons _ (List.Sublist.refl _))) ?_
      refine tk_re 82 (.tuple #[v82, I (((sealF (List.replicate 32 0) (List.replicate 32 0) 1 [97] (List.replicate 16 0) ((List.replicate (1048574 + s - 7) 0) ++ (List.replicate 7 0))).2 : Nat) : Int)]) (.tuple #[v82, I 4]) rfl (by rw [sealF_big (by decide) (by simp; omega)]; rfl) ?_
      refine tx_q 8 rfl (by kernel_rfl) rfl rfl rfl (fun _ _ _ h => h) (y_move rfl) ?_
      refine tx_q 9 rfl (by kernel_rfl) rfl rfl rfl (fun _ _ _ h => h) (y_extract rfl rfl) ?_
      refine tx_q 10 rfl (by kernel_rfl) rfl rfl rfl (fun _ _ _ h => h) (y_extract rfl rfl) ?_
      refine tx_q 11 rfl (by kernel_rfl) rfl rfl rfl (fun _ _ _ h => h) (y_assign rfl) ?_
      refine tx_q 12 rfl (by kernel_rfl) rfl rfl rfl (fun _ _ _ h => h) (y_assign rfl) ?_
      refine tx_done (by kernel_rfl) ?_
      refine tk_then ?_
      refine tk_seq ?_
      refine tk_drawH [own v82 (((sealF (List.replicate 32 0) (List.replicate 32 0) 1 [97] (List.replicate 16 0 : List UInt8) ((List.replicate ((1048574 + s) - 7) 0) ++ (List.replicate 7 0))).1).length) (((sealF (List.replicate 32 0) (List.replicate 32 0) 1 [97] (List.replicate 16 0 : List UInt8) ((List.replicate ((1048574 + s) - 7) 0) ++ (List.replicate 7 0))).1).map B) 5 1, cel b81 ([.slice (some ⟨b79, 0, none⟩) ((1048574 + s) - 7) ((1048574 + s) - 7), .slice (some ⟨b80, 0, none⟩) 7 7]) 26, cel b80 ((List.replicate 7 0).map B) 5, cel b79 ((List.replicate ((1048574 + s) - 7) 0).map B) 5, own v39 (((openF (List.replicate 32 0) (List.replicate 32 0) 1 nm []).1).length) (((openF (List.replicate 32 0) (List.replicate 32 0) 1 nm []).1).map B) 5 1, own v33 (((sealF (List.replicate 32 0) (List.replicate 32 0) 1 nm (List.replicate 16 0 : List UInt8) []).1).length) (((sealF (List.replicate 32 0) (List.replicate 32 0) 1 nm (List.replicate 16 0 : List UInt8) []).1).map B) 5 1, cel b32 ([.slice none 0 0]) 26, cel b6 ((List.replicate 32 0).map B ++ ((List.replicate 32 0).map B)) 36, cel b25 ((List.replicate m 0).map B) 5] [] (by kernel_rfl) ?_
      refine tx_l 0 rfl (by kernel_rfl) (by kernel_rfl) rfl rfl rfl (fun _ _ _ h => h) (fun _ h => h.sub (List.Sublist.refl _)) (y_loadA 64 rfl (by kernel_rfl) (by first | omega | (simp only [List.length_map, List.length_append, List.length_take, List.length_drop, List.length_set, List.length_cons, List.length_nil, List.length_replicate]; omega) | (simp; done) | (simp; omega)) (hcw (.tail _ (.tail _ (.tail _ (.tail _ (.tail _ (.tail _ (.tail _ (.head _)))))))))) ?_
      refine tx_q 1 rfl (by kernel_rfl) rfl rfl rfl (fun _ _ _ h => h) (y_move rfl) ?_
      refine tx_q 2 rfl (by kernel_rfl) rfl rfl rfl (fun _ _ _ h => h) (y_build (v := .agg ((List.replicate 16 0 : List UInt8).map B).toArray) (vs := []) rfl (fun _ => by kernel_rfl)) ?_
      refine tx_q 3 rfl (by kernel_rfl) rfl rfl rfl (fun _ _ _ h => h) (y_move rfl) ?_
      refine tx_a 4 rfl (by kernel_rfl) rfl ?_; refine a_makeM (f := B) (z := 0) (m := 1048574 + s) rfl rfl MK26 rfl rfl ⟨(by first | omega | (simp only [List.length_map, List.length_append, List.length_take, List.length_drop, List.length_set, List.length_cons, List.length_nil, List.length_replicate]; omega) | (simp; done) | (simp; omega)), (by first | omega | (simp only [List.length_map, List.length_append, List.length_take, List.length_drop, List.length_set, List.length_cons, List.length_nil, List.length_replicate]; omega) | (simp; done) | (simp; omega))⟩ fun b90 => ?_
      refine tk_S (fun _ h => h.sub (.cons _ (List.Sublist.refl _))) ?_
      refine tx_more [cel b90 ((List.replicate (1048574 + s) 0).map B) 5, own v82 (((sealF (List.replicate 32 0) (List.replicate 32 0) 1 [97] (List.replicate 16 0 : List UInt8) ((List.replicate ((1048574 + s) - 7) 0) ++ (List.replicate 7 0))).1).length) (((sealF (List.replicate 32 0) (List.replicate 32 0) 1 [97] (List.replicate 16 0 : List UInt8) ((List.replicate ((1048574 + s) - 7) 0) ++ (List.replicate 7 0))).1).map B) 5 1, cel b81 ([.slice (some ⟨b79, 0, none⟩) ((1048574 + s) - 7) ((1048574 + s) - 7), .slice (some ⟨b80, 0, none⟩) 7 7]) 26, cel b80 ((List.replicate 7 0).map B) 5, cel b79 ((List.replicate ((1048574 + s) - 7) 0).map B) 5, own v39 (((openF (List.replicate 32 0) (List.replicate 32 0) 1 nm []).1).length) (((openF (List.replicate 32 0) (List.replicate 32 0) 1 nm []).1).map B) 5 1, own v33 (((sealF (List.replicate 32 0) (List.replicate 32 0) 1 nm (List.replicate 16 0 : List UInt8) []).1).length) (((sealF (List.replicate 32 0) (List.replicate 32 0) 1 nm (List.replicate 16 0 : List UInt8) []).1).map B) 5 1, cel b32 ([.slice none 0 0]) 26, cel b6 ((List.replicate 32 0).map B ++ ((List.replicate 32 0).map B)) 36, cel b25 ((List.replicate m 0).map B) 5] (fun _ h => h.sub (.cons _ (List.Sublist.refl _))) (fun _ h => h.sub (List.Sublist.refl _)) ?_
      refine tx_a 5 rfl (by kernel_rfl) rfl ?_; refine a_slitN (vs := [.slice (some ⟨b90, 0, none⟩) (1048574 + s) (1048574 + s)]) rfl (List.forall_mem_cons.2 ⟨rfl, (fun _ h => nomatch h)⟩) (EL45) rfl rfl (by decide) fun b91 => ?_
      refine tk_S (fun _ h => h.sub (.cons _ (List.Sublist.refl _))) ?_
      refine tx_more [cel b91 ([.slice (some ⟨b90, 0, none⟩) (1048574 + s) (1048574 + s)]) 26, cel b90 ((List.replicate (1048574 + s) 0).map B) 5, own v82 (((sealF (List.replicate 32 0) (List.replicate 32 0) 1 [97] (List.replicate 16 0 : List UInt8) ((List.replicate ((1048574 + s) - 7) 0) ++ (List.replicate 7 0))).1).length) (((sealF (List.replicate 32 0) (List.replicate 32 0) 1 [97] (List.replicate 16 0 : List UInt8) ((List.replicate ((1048574 + s) - 7) 0) ++ (List.replicate 7 0))).1).map B) 5 1, cel b81 ([.slice (some ⟨b79, 0, none⟩) ((1048574 + s) - 7) ((1048574 + s) - 7), .slice (some ⟨b80, 0, none⟩) 7 7]) 26, cel b80 ((List.replicate 7 0).map B) 5, cel b79 ((List.replicate ((1048574 + s) - 7) 0).map B) 5, own v39 (((openF (List.replicate 32 0) (List.replicate 32 0) 1 nm []).1).length) (((openF (List.replicate 32 0) (List.replicate 32 0) 1 nm []).1).map B) 5 1, own v33 (((sealF (List.replicate 32 0) (List.replicate 32 0) 1 nm (List.replicate 16 0 : List UInt8) []).1).length) (((sealF (List.replicate 32 0) (List.replicate 32 0) 1 nm (List.replicate 16 0 : List UInt8) []).1).map B) 5 1, cel b32 ([.slice none 0 0]) 26, cel b6 ((List.replicate 32 0).map B ++ ((List.replicate 32 0).map B)) 36, cel b25 ((List.replicate m 0).map B) 5] (fun _ h => h.sub (.cons _ (List.Sublist.refl _))) (fun _ h => h.sub (List.Sublist.refl _)) ?_
      refine tx_a 6 rfl (by kernel_rfl) rfl ?_; refine a_callv [] _ rfl (by kernel_rfl) rfl (fun w' hw' => seal_spec (hk := List.replicate 32 0) (mk := List.replicate 32 0) (kind := 1) (name := nm) (N := (List.replicate 16 0 : List UInt8)) (ps := [(.slice (some ⟨b90, 0, none⟩) (1048574 + s) (1048574 + s), List.replicate (1048574 + s) 0)]) (L := List.replicate (1048574 + s) 0) ⟨(by first | omega | (simp only [List.length_map, List.length_append, List.length_take, List.length_drop, List.length_set, List.length_cons, List.length_nil, List.length_replicate]; omega) | (simp; done) | (simp; omega)), (by first | omega | (simp only [List.length_map, List.length_append, List.length_take, List.length_drop, List.length_set, List.length_cons, List.length_nil, List.length_replicate]; omega) | (simp; done) | (simp; omega)), (by first | omega | (simp only [List.length_map, List.length_append, List.length_take, List.length_drop, List.length_set, List.length_cons, List.length_nil, List.length_replicate]; omega) | (simp; done) | (simp; omega))⟩ (Ro.cel (vs := [.slice (some ⟨b90, 0, none⟩) (1048574 + s) (1048574 + s)]) hw' (.head _) (by first | rfl | simp) rfl (by decide)) (List.forall_mem_cons.2 ⟨(Ro.cel (H0 := []) (b := b90) (o := 0) (m := 1048574 + s) (cp := 1048574 + s) (vs := (List.replicate (1048574 + s) 0).map B) hw' (.tail _ (.head _)) (dsW) (by first | rfl | (simp; done) | (simp; omega)) (by first | omega | (simp; done) | (simp; omega))), (fun _ h => nomatch h)⟩) (by simp) ⟨(by first | omega | (simp only [List.length_map, List.length_append, List.length_take, List.length_drop, List.length_set, List.length_cons, List.length_nil, List.length_replicate]; omega) | (simp; done) | (simp; omega)), (by first | omega | (simp only [List.length_map, List.length_append, List.length_take, List.length_drop, List.length_set, List.length_cons, List.length_nil, List.length_replicate]; omega) | (simp; done) | (simp; omega)), (by first | omega | (simp only [List.length_map, List.length_append, List.length_take, List.length_drop, List.length_set, List.length_cons, List.length_nil, List.length_replicate]; omega) | (simp; done) | (simp; omega))⟩ (hg.call hw')) rfl fun v92 _ => ?_
      refine tk_S (fun _ h => h.sub (.cons _ (List.Sublist.refl _))) ?_
      obtain ⟨e4, he4⟩ : ∃ e : Nat, e = (sealF (List.replicate 32 0) (List.replicate 32 0) 1 nm (List.replicate 16 0) (List.replicate (1048574 + s) 0)).2 := ⟨_, rfl⟩
      have he4c : (255 < m ∧ e4 = 5) ∨ (m ≤ 255 ∧ e4 = 4) := by rw [he4]; exact (Nat.lt_or_ge 255 nm.length).elim (fun h => .inl ⟨by omega, by rw [sealF_name h]⟩) (fun h => .inr ⟨by omega, by rw [sealF_big (by omega) (by simp; omega)]⟩)
      refine tk_re 92 (.tuple #[v92, I (((sealF (List.replicate 32 0) (List.replicate 32 0) 1 nm (List.replicate 16 0 : List UInt8) (List.replicate (1048574 + s) 0)).2 : Nat) : Int)]) (.tuple #[v92, I ((e4 : Nat) : Int)]) rfl (by rw [he4]) ?_
      refine tx_q 7 rfl (by kernel_rfl) rfl rfl rfl (fun _ _ _ h => h) (y_move rfl) ?_
      refine tx_q 8 rfl (by kernel_rfl) rfl rfl rfl (fun _ _ _ h => h) (y_extract rfl rfl) ?_
      refine tx_q 9 rfl (by kernel_rfl) rfl rfl rfl (fun _ _ _ h => h) (y_extract rfl rfl) ?_
      refine tx_q 10 rfl (by kernel_rfl) rfl rfl rfl (fun _ _ _ h => h) (y_assign rfl) ?_
      refine tx_q 11 rfl (by kernel_rfl) rfl rfl rfl (fun _ _ _ h => h) (y_assign rfl) ?_
      refine tx_done (by kernel_rfl) ?_
      refine tk_then ?_
      refine tk_seq ?_
      refine tk_region ?_
      refine tk_q rfl rfl rfl (y_move rfl) ?_
      refine tk_q rfl rfl rfl ((y_eql rfl rfl).cast (bool_t (by decide))) ?_
      refine tk_q rfl rfl rfl (y_move rfl) ?_
      refine tk_gq rfl rfl rfl (y_move rfl) ?_
      refine tk_gq rfl rfl rfl (y_eql rfl rfl) ?_
      refine tk_gq rfl rfl rfl (y_move rfl) ?_
      refine tk_gq rfl rfl rfl (y_leq rfl rfl) ?_
      refine tk_gqe (.bool true) rfl rfl rfl (y_eqB (a := decide (((e4 : Nat) : Int) = (4 : Int))) (b := decide (((m : Nat) : Int) ≤ (255 : Int))) rfl rfl rfl) (congrArg Value.bool (beq_iff (by omega))) ?_
      refine tk_q rfl rfl rfl (y_pick1 rfl rfl) ?_
      refine tk_q rfl rfl rfl (y_move rfl) ?_
      refine tk_gq rfl rfl rfl (y_move rfl) ?_
      refine tk_gq rfl rfl rfl (y_eql rfl rfl) ?_
      refine tk_gq rfl rfl rfl (y_move rfl) ?_
      refine tk_gq rfl rfl rfl (y_gtr rfl rfl) ?_
      refine tk_gqe (.bool true) rfl rfl rfl (y_eqB (a := decide (((e4 : Nat) : Int) = (5 : Int))) (b := decide ((255 : Int) < ((m : Nat) : Int))) rfl rfl rfl) (congrArg Value.bool (beq_iff (by omega))) ?_
      refine tk_q rfl rfl rfl (y_pick1 rfl rfl) ?_
      refine tk_q rfl rfl rfl (y_assign rfl) ?_
      refine tk_nil ?_
      refine tk_then ?_
      refine tk_retc ?_
      exact tk_ret (()) (trivial) (.inl rfl) (r1 rfl rfl) (List.nil_sublist _)
    · skip
      skip; refine a_makeM (f := B) (z := 0) (m := 7) rfl rfl MK26 rfl rfl ⟨(by first | omega | (simp only [List.length_map, List.length_append, List.length_take, List.length_drop, List.length_set, List.length_cons, List.length_nil, List.length_replicate]; omega) | (simp; done) | (simp; omega)), (by first | omega | (simp only [List.length_map, List.length_append, List.length_take, List.length_drop, List.length_set, List.length_cons, List.length_nil, List.length_replicate]; omega) | (simp; done) | (simp; omega))⟩ fun b80 => ?_
      refine tk_S (fun _ h => h.sub (.cons _ (List.Sublist.refl _))) ?_
      refine tx_more [cel b80 ((List.replicate 7 0).map B) 5, own v39 (((openF (List.replicate 32 0) (List.replicate 32 0) 1 nm []).1).length) (((openF (List.replicate 32 0) (List.replicate 32 0) 1 nm []).1).map B) 5 1, own v33 (((sealF (List.replicate 32 0) (List.replicate 32 0) 1 nm (List.replicate 16 0 : List UInt8) []).1).length) (((sealF (List.replicate 32 0) (List.replicate 32 0) 1 nm (List.replicate 16 0 : List UInt8) []).1).map B) 5 1, cel b32 ([.slice none 0 0]) 26, cel b6 ((List.replicate 32 0).map B ++ ((List.replicate 32 0).map B)) 36, cel b25 ((List.replicate m 0).map B) 5] (fun _ h => h.sub (.cons _ (List.Sublist.refl _))) (fun _ h => h.sub (List.Sublist.refl _)) ?_
      refine tx_a 4 rfl (by kernel_rfl) rfl ?_; refine a_makeM (f := B) (z := 0) (m := (1048574 + s) - 7) rfl rfl MK26 rfl rfl ⟨(by first | omega | (simp only [List.length_map, List.length_append, List.length_take, List.length_drop, List.length_set, List.length_cons, List.length_nil, List.length_replicate]; omega) | (simp; done) | (simp; omega)), (by first | omega | (simp only [List.length_map, List.length_append, List.length_take, List.length_drop, List.length_set, List.length_cons, List.length_nil, List.length_replicate]; omega) | (simp; done) | (simp; omega))⟩ fun b79 => ?_
      refine tk_S (fun _ h => h.sub (.cons _ (List.Sublist.refl _))) ?_
      refine tx_more [cel b79 ((List.replicate ((1048574 + s) - 7) 0).map B) 5, cel b80 ((List.replicate 7 0).map B) 5, own v39 (((openF (List.replicate 32 0) (List.replicate 32 0) 1 nm []).1).length) (((openF (List.replicate 32 0) (List.replicate 32 0) 1 nm []).1).map B) 5 1, own v33 (((sealF (List.replicate 32 0) (List.replicate 32 0) 1 nm (List.replicate 16 0 : List UInt8) []).1).length) (((sealF (List.replicate 32 0) (List.replicate 32 0) 1 nm (List.replicate 16 0 : List UInt8) []).1).map B) 5 1, cel b32 ([.slice none 0 0]) 26, cel b6 ((List.replicate 32 0).map B ++ ((List.replicate 32 0).map B)) 36, cel b25 ((List.replicate m 0).map B) 5] (fun _ h => h.sub (.cons _ (List.Sublist.refl _))) (fun _ h => h.sub (List.Sublist.refl _)) ?_
      refine tx_a 6 rfl (by kernel_rfl) rfl ?_; refine a_slitN (vs := [.slice (some ⟨b79, 0, none⟩) ((1048574 + s) - 7) ((1048574 + s) - 7), .slice (some ⟨b80, 0, none⟩) 7 7]) rfl (List.forall_mem_cons.2 ⟨rfl, (List.forall_mem_cons.2 ⟨rfl, (fun _ h => nomatch h)⟩)⟩) (EL45) rfl rfl (by decide) fun b81 => ?_
      refine tk_S (fun _ h => h.sub (.cons _ (List.Sublist.refl _))) ?_
      refine tx_more [cel b81 ([.slice (some ⟨b79, 0, none⟩) ((1048574 + s) - 7) ((1048574 + s) - 7), .slice (some ⟨b80, 0, none⟩) 7 7]) 26, cel b79 ((List.replicate ((1048574 + s) - 7) 0).map B) 5, cel b80 ((List.replicate 7 0).map B) 5, own v39 (((openF (List.replicate 32 0) (List.replicate 32 0) 1 nm []).1).length) (((openF (List.replicate 32 0) (List.replicate 32 0) 1 nm []).1).map B) 5 1, own v33 (((sealF (List.replicate 32 0) (List.replicate 32 0) 1 nm (List.replicate 16 0 : List UInt8) []).1).length) (((sealF (List.replicate 32 0) (List.replicate 32 0) 1 nm (List.replicate 16 0 : List UInt8) []).1).map B) 5 1, cel b32 ([.slice none 0 0]) 26, cel b6 ((List.replicate 32 0).map B ++ ((List.replicate 32 0).map B)) 36, cel b25 ((List.replicate m 0).map B) 5] (fun _ h => h.sub (.cons _ (List.Sublist.refl _))) (fun _ h => h.sub (List.Sublist.refl _)) ?_
      refine tx_a 7 rfl (by kernel_rfl) rfl ?_; refine a_callv [] _ rfl (by kernel_rfl) rfl (fun w' hw' => seal_spec (hk := List.replicate 32 0) (mk := List.replicate 32 0) (kind := 1) (name := [97]) (N := (List.replicate 16 0 : List UInt8)) (ps := [(.slice (some ⟨b79, 0, none⟩) ((1048574 + s) - 7) ((1048574 + s) - 7), List.replicate ((1048574 + s) - 7) 0), (.slice (some ⟨b80, 0, none⟩) 7 7, List.replicate 7 0)]) (L := (List.replicate ((1048574 + s) - 7) 0) ++ (List.replicate 7 0)) ⟨(by first | omega | (simp only [List.length_map, List.length_append, List.length_take, List.length_drop, List.length_set, List.length_cons, List.length_nil, List.length_replicate]; omega) | (simp; done) | (simp; omega)), (by first | omega | (simp only [List.length_map, List.length_append, List.length_take, List.length_drop, List.length_set, List.length_cons, List.length_nil, List.length_replicate]; omega) | (simp; done) | (simp; omega)), (by first | omega | (simp only [List.length_map, List.length_append, List.length_take, List.length_drop, List.length_set, List.length_cons, List.length_nil, List.length_replicate]; omega) | (simp; done) | (simp; omega))⟩ (Ro.cel (vs := [.slice (some ⟨b79, 0, none⟩) ((1048574 + s) - 7) ((1048574 + s) - 7), .slice (some ⟨b80, 0, none⟩) 7 7]) hw' (.head _) (by first | rfl | simp) rfl (by decide)) (List.forall_mem_cons.2 ⟨(Ro.cel (H0 := []) (b := b79) (o := 0) (m := (1048574 + s) - 7) (cp := (1048574 + s) - 7) (vs := (List.replicate ((1048574 + s) - 7) 0).map B) hw' (.tail _ (.head _)) (dsW) (by first | rfl | (simp; done) | (simp; omega)) (by first | omega | (simp; done) | (simp; omega))), (List.forall_mem_cons.2 ⟨(Ro.cel (H0 := []) (b := b80) (o := 0) (m := 7) (cp := 7) (vs := (List.replicate 7 0).map B) hw' (.tail _ (.tail _ (.head _))) (dsW) (by first | rfl | (simp; done) | (simp; omega)) (by first | omega | (simp; done) | (simp; omega))), (fun _ h => nomatch h)⟩)⟩) (by simp) ⟨(by first | omega | (simp only [List.length_map, List.length_append, List.length_take, List.length_drop, List.length_set, List.length_cons, List.length_nil, List.length_replicate]; omega) | (simp; done) | (simp; omega)), (by first | omega | (simp only [List.length_map, List.length_append, List.length_take, List.length_drop, List.length_set, List.length_cons, List.length_nil, List.length_replicate]; omega) | (simp; done) | (simp; omega)), (by first | omega | (simp only [List.length_map, List.length_append, List.length_take, List.length_drop, List.length_set, List.length_cons, List.length_nil, List.length_replicate]; omega) | (simp; done) | (simp; omega))⟩ (hg.call hw')) rfl fun v82 _ => ?_
      refine tk_S (fun _ h => h.sub (.cons _ (List.Sublist.refl _))) ?_
      refine tk_re 82 (.tuple #[v82, I (((sealF (List.replicate 32 0) (List.replicate 32 0) 1 [97] (List.replicate 16 0) ((List.replicate (1048574 + s - 7) 0) ++ (List.replicate 7 0))).2 : Nat) : Int)]) (.tuple #[v82, I 4]) rfl (by rw [sealF_big (by decide) (by simp; omega)]; rfl) ?_
      refine tx_q 8 rfl (by kernel_rfl) rfl rfl rfl (fun _ _ _ h => h) (y_move rfl) ?_
      refine tx_q 9 rfl (by kernel_rfl) rfl rfl rfl (fun _ _ _ h => h) (y_extract rfl rfl) ?_
      refine tx_q 10 rfl (by kernel_rfl) rfl rfl rfl (fun _ _ _ h => h) (y_extract rfl rfl) ?_
      refine tx_q 11 rfl (by kernel_rfl) rfl rfl rfl (fun _ _ _ h => h) (y_assign rfl) ?_
      refine tx_q 12 rfl (by kernel_rfl) rfl rfl rfl (fun _ _ _ h => h) (y_assign rfl) ?_
      refine tx_done (by kernel_rfl) ?_
      refine tk_then ?_
      refine tk_seq ?_
      refine tk_drawH [own v82 (((sealF (List.replicate 32 0) (List.replicate 32 0) 1 [97] (List.replicate 16 0 : List UInt8) ((List.replicate ((1048574 + s) - 7) 0) ++ (List.replicate 7 0))).1).length) (((sealF (List.replicate 32 0) (List.replicate 32 0) 1 [97] (List.replicate 16 0 : List UInt8) ((List.replicate ((1048574 + s) - 7) 0) ++ (List.replicate 7 0))).1).map B) 5 1, cel b81 ([.slice (some ⟨b79, 0, none⟩) ((1048574 + s) - 7) ((1048574 + s) - 7), .slice (some ⟨b80, 0, none⟩) 7 7]) 26, cel b79 ((List.replicate ((1048574 + s) - 7) 0).map B) 5, cel b80 ((List.replicate 7 0).map B) 5, own v39 (((openF (List.replicate 32 0) (List.replicate 32 0) 1 nm []).1).length) (((openF (List.replicate 32 0) (List.replicate 32 0) 1 nm []).1).map B) 5 1, own v33 (((sealF (List.replicate 32 0) (List.replicate 32 0) 1 nm (List.replicate 16 0 : List UInt8) []).1).length) (((sealF (List.replicate 32 0) (List.replicate 32 0) 1 nm (List.replicate 16 0 : List UInt8) []).1).map B) 5 1, cel b32 ([.slice none 0 0]) 26, cel b6 ((List.replicate 32 0).map B ++ ((List.replicate 32 0).map B)) 36, cel b25 ((List.replicate m 0).map B) 5] [] (by kernel_rfl) ?_
      refine tx_l 0 rfl (by kernel_rfl) (by kernel_rfl) rfl rfl rfl (fun _ _ _ h => h) (fun _ h => h.sub (List.Sublist.refl _)) (y_loadA 64 rfl (by kernel_rfl) (by first | omega | (simp only [List.length_map, List.length_append, List.length_take, List.length_drop, List.length_set, List.length_cons, List.length_nil, List.length_replicate]; omega) | (simp; done) | (simp; omega)) (hcw (.tail _ (.tail _ (.tail _ (.tail _ (.tail _ (.tail _ (.tail _ (.head _)))))))))) ?_
      refine tx_q 1 rfl (by kernel_rfl) rfl rfl rfl (fun _ _ _ h => h) (y_move rfl) ?_
      refine tx_q 2 rfl (by kernel_rfl) rfl rfl rfl (fun _ _ _ h => h) (y_build (v := .agg ((List.replicate 16 0 : List UInt8).map B).toArray) (vs := []) rfl (fun _ => by kernel_rfl)) ?_
      refine tx_q 3 rfl (by kernel_rfl) rfl rfl rfl (fun _ _ _ h => h) (y_move rfl) ?_
      refine tx_a 4 rfl (by kernel_rfl) rfl ?_; refine a_makeM (f := B) (z := 0) (m := 1048574 + s) rfl rfl MK26 rfl rfl ⟨(by first | omega | (simp only [List.length_map, List.length_append, List.length_take, List.length_drop, List.length_set, List.length_cons, List.length_nil, List.length_replicate]; omega) | (simp; done) | (simp; omega)), (by first | omega | (simp only [List.length_map, List.length_append, List.length_take, List.length_drop, List.length_set, List.length_cons, List.length_nil, List.length_replicate]; omega) | (simp; done) | (simp; omega))⟩ fun b90 => ?_
      refine tk_S (fun _ h => h.sub (.cons _ (List.Sublist.refl _))) ?_
      refine tx_more [cel b90 ((List.replicate (1048574 + s) 0).map B) 5, own v82 (((sealF (List.replicate 32 0) (List.replicate 32 0) 1 [97] (List.replicate 16 0 : List UInt8) ((List.replicate ((1048574 + s) - 7) 0) ++ (List.replicate 7 0))).1).length) (((sealF (List.replicate 32 0) (List.replicate 32 0) 1 [97] (List.replicate 16 0 : List UInt8) ((List.replicate ((1048574 + s) - 7) 0) ++ (List.replicate 7 0))).1).map B) 5 1, cel b81 ([.slice (some ⟨b79, 0, none⟩) ((1048574 + s) - 7) ((1048574 + s) - 7), .slice (some ⟨b80, 0, none⟩) 7 7]) 26, cel b79 ((List.replicate ((1048574 + s) - 7) 0).map B) 5, cel b80 ((List.replicate 7 0).map B) 5, own v39 (((openF (List.replicate 32 0) (List.replicate 32 0) 1 nm []).1).length) (((openF (List.replicate 32 0) (List.replicate 32 0) 1 nm []).1).map B) 5 1, own v33 (((sealF (List.replicate 32 0) (List.replicate 32 0) 1 nm (List.replicate 16 0 : List UInt8) []).1).length) (((sealF (List.replicate 32 0) (List.replicate 32 0) 1 nm (List.replicate 16 0 : List UInt8) []).1).map B) 5 1, cel b32 ([.slice none 0 0]) 26, cel b6 ((List.replicate 32 0).map B ++ ((List.replicate 32 0).map B)) 36, cel b25 ((List.replicate m 0).map B) 5] (fun _ h => h.sub (.cons _ (List.Sublist.refl _))) (fun _ h => h.sub (List.Sublist.refl _)) ?_
      refine tx_a 5 rfl (by kernel_rfl) rfl ?_; refine a_slitN (vs := [.slice (some ⟨b90, 0, none⟩) (1048574 + s) (1048574 + s)]) rfl (List.forall_mem_cons.2 ⟨rfl, (fun _ h => nomatch h)⟩) (EL45) rfl rfl (by decide) fun b91 => ?_
      refine tk_S (fun _ h => h.sub (.cons _ (List.Sublist.refl _))) ?_
      refine tx_more [cel b91 ([.slice (some ⟨b90, 0, none⟩) (1048574 + s) (1048574 + s)]) 26, cel b90 ((List.replicate (1048574 + s) 0).map B) 5, own v82 (((sealF (List.replicate 32 0) (List.replicate 32 0) 1 [97] (List.replicate 16 0 : List UInt8) ((List.replicate ((1048574 + s) - 7) 0) ++ (List.replicate 7 0))).1).length) (((sealF (List.replicate 32 0) (List.replicate 32 0) 1 [97] (List.replicate 16 0 : List UInt8) ((List.replicate ((1048574 + s) - 7) 0) ++ (List.replicate 7 0))).1).map B) 5 1, cel b81 ([.slice (some ⟨b79, 0, none⟩) ((1048574 + s) - 7) ((1048574 + s) - 7), .slice (some ⟨b80, 0, none⟩) 7 7]) 26, cel b79 ((List.replicate ((1048574 + s) - 7) 0).map B) 5, cel b80 ((List.replicate 7 0).map B) 5, own v39 (((openF (List.replicate 32 0) (List.replicate 32 0) 1 nm []).1).length) (((openF (List.replicate 32 0) (List.replicate 32 0) 1 nm []).1).map B) 5 1, own v33 (((sealF (List.replicate 32 0) (List.replicate 32 0) 1 nm (List.replicate 16 0 : List UInt8) []).1).length) (((sealF (List.replicate 32 0) (List.replicate 32 0) 1 nm (List.replicate 16 0 : List UInt8) []).1).map B) 5 1, cel b32 ([.slice none 0 0]) 26, cel b6 ((List.replicate 32 0).map B ++ ((List.replicate 32 0).map B)) 36, cel b25 ((List.replicate m 0).map B) 5] (fun _ h => h.sub (.cons _ (List.Sublist.refl _))) (fun _ h => h.sub (List.Sublist.refl _)) ?_
      refine tx_a 6 rfl (by kernel_rfl) rfl ?_; refine a_callv [] _ rfl (by kernel_rfl) rfl (fun w' hw' => seal_spec (hk := List.replicate 32 0) (mk := List.replicate 32 0) (kind := 1) (name := nm) (N := (List.replicate 16 0 : List UInt8)) (ps := [(.slice (some ⟨b90, 0, none⟩) (1048574 + s) (1048574 + s), List.replicate (1048574 + s) 0)]) (L := List.replicate (1048574 + s) 0) ⟨(by first | omega | (simp only [List.length_map, List.length_append, List.length_take, List.length_drop, List.length_set, List.length_cons, List.length_nil, List.length_replicate]; omega) | (simp; done) | (simp; omega)), (by first | omega | (simp only [List.length_map, List.length_append, List.length_take, List.length_drop, List.length_set, List.length_cons, List.length_nil, List.length_replicate]; omega) | (simp; done) | (simp; omega)), (by first | omega | (simp only [List.length_map, List.length_append, List.length_take, List.length_drop, List.length_set, List.length_cons, List.length_nil, List.length_replicate]; omega) | (simp; done) | (simp; omega))⟩ (Ro.cel (vs := [.slice (some ⟨b90, 0, none⟩) (1048574 + s) (1048574 + s)]) hw' (.head _) (by first | rfl | simp) rfl (by decide)) (List.forall_mem_cons.2 ⟨(Ro.cel (H0 := []) (b := b90) (o := 0) (m := 1048574 + s) (cp := 1048574 + s) (vs := (List.replicate (1048574 + s) 0).map B) hw' (.tail _ (.head _)) (dsW) (by first | rfl | (simp; done) | (simp; omega)) (by first | omega | (simp; done) | (simp; omega))), (fun _ h => nomatch h)⟩) (by simp) ⟨(by first | omega | (simp only [List.length_map, List.length_append, List.length_take, List.length_drop, List.length_set, List.length_cons, List.length_nil, List.length_replicate]; omega) | (simp; done) | (simp; omega)), (by first | omega | (simp only [List.length_map, List.length_append, List.length_take, List.length_drop, List.length_set, List.length_cons, List.length_nil, List.length_replicate]; omega) | (simp; done) | (simp; omega)), (by first | omega | (simp only [List.length_map, List.length_append, List.length_take, List.length_drop, List.length_set, List.length_cons, List.length_nil, List.length_replicate]; omega) | (simp; done) | (simp; omega))⟩ (hg.call hw')) rfl fun v92 _ => ?_
      refine tk_S (fun _ h => h.sub (.cons _ (List.Sublist.refl _))) ?_
      obtain ⟨e4, he4⟩ : ∃ e : Nat, e = (sealF (List.replicate 32 0) (List.replicate 32 0) 1 nm (List.replicate 16 0) (List.replicate (1048574 + s) 0)).2 := ⟨_, rfl⟩
      have he4c : (255 < m ∧ e4 = 5) ∨ (m ≤ 255 ∧ e4 = 4) := by rw [he4]; exact (Nat.lt_or_ge 255 nm.length).elim (fun h => .inl ⟨by omega, by rw [sealF_name h]⟩) (fun h => .inr ⟨by omega, by rw [sealF_big (by omega) (by simp; omega)]⟩)
      refine tk_re 92 (.tuple #[v92, I (((sealF (List.replicate 32 0) (List.replicate 32 0) 1 nm (List.replicate 16 0 : List UInt8) (List.replicate (1048574 + s) 0)).2 : Nat) : Int)]) (.tuple #[v92, I ((e4 : Nat) : Int)]) rfl (by rw [he4]) ?_
      refine tx_q 7 rfl (by kernel_rfl) rfl rfl rfl (fun _ _ _ h => h) (y_move rfl) ?_
      refine tx_q 8 rfl (by kernel_rfl) rfl rfl rfl (fun _ _ _ h => h) (y_extract rfl rfl) ?_
      refine tx_q 9 rfl (by kernel_rfl) rfl rfl rfl (fun _ _ _ h => h) (y_extract rfl rfl) ?_
      refine tx_q 10 rfl (by kernel_rfl) rfl rfl rfl (fun _ _ _ h => h) (y_assign rfl) ?_
      refine tx_q 11 rfl (by kernel_rfl) rfl rfl rfl (fun _ _ _ h => h) (y_assign rfl) ?_
      refine tx_done (by kernel_rfl) ?_
      refine tk_then ?_
      refine tk_seq ?_
      refine tk_region ?_
      refine tk_q rfl rfl rfl (y_move rfl) ?_
      refine tk_q rfl rfl rfl ((y_eql rfl rfl).cast (bool_t (by decide))) ?_
      refine tk_q rfl rfl rfl (y_move rfl) ?_
      refine tk_gq rfl rfl rfl (y_move rfl) ?_
      refine tk_gq rfl rfl rfl (y_eql rfl rfl) ?_
      refine tk_gq rfl rfl rfl (y_move rfl) ?_
      refine tk_gq rfl rfl rfl (y_leq rfl rfl) ?_
      refine tk_gqe (.bool true) rfl rfl rfl (y_eqB (a := decide (((e4 : Nat) : Int) = (4 : Int))) (b := decide (((m : Nat) : Int) ≤ (255 : Int))) rfl rfl rfl) (congrArg Value.bool (beq_iff (by omega))) ?_
      refine tk_q rfl rfl rfl (y_pick1 rfl rfl) ?_
      refine tk_q rfl rfl rfl (y_move rfl) ?_
      refine tk_gq rfl rfl rfl (y_move rfl) ?_
      refine tk_gq rfl rfl rfl (y_eql rfl rfl) ?_
      refine tk_gq rfl rfl rfl (y_move rfl) ?_
      refine tk_gq rfl rfl rfl (y_gtr rfl rfl) ?_
      refine tk_gqe (.bool true) rfl rfl rfl (y_eqB (a := decide (((e4 : Nat) : Int) = (5 : Int))) (b := decide ((255 : Int) < ((m : Nat) : Int))) rfl rfl rfl) (congrArg Value.bool (beq_iff (by omega))) ?_
      refine tk_q rfl rfl rfl (y_pick1 rfl rfl) ?_
      refine tk_q rfl rfl rfl (y_assign rfl) ?_
      refine tk_nil ?_
      refine tk_then ?_
      refine tk_retc ?_
      exact tk_ret (()) (trivial) (.inl rfl) (r1 rfl rfl) (List.nil_sublist _)
end Go.Proofs.YtfofkjajlfphjaaDoor
