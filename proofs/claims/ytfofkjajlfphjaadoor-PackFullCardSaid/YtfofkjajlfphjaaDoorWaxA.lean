/- wax: the walks over flow, mark and Seal. -/
import Derived.Test.YtfofkjajlfphjaaDoorSumD
import Derived.Test.YtfofkjajlfphjaaDoorWaxPure
import Derived.Test.YtfofkjajlfphjaaDoorCipE
set_option linter.unusedSimpArgs false
set_option linter.unusedVariables false
namespace Go.Proofs.YtfofkjajlfphjaaDoor
open Go Go.RowKit
set_option maxRecDepth 100000
attribute [local irreducible] hidL markL sealL sealF openF keyedL Cip.keyW Cip.hideL
theorem hide_ro {fb kb : Nat} {hk N : List UInt8} {v : Value} {ps : List Sb} {L : List UInt8} {w : World} (hk32 : hk.length = 32) (hN : N.length = 16) (hv : Ro (Fs [cel fb (Cip.flowCs kb N (0 : Int)) 157, cel kb ((Cip.keyW hk).map B) 182]) w (rd v (ps.map Prod.fst)))
    (hp : ∀ p ∈ ps, Ro (Fs [cel fb (Cip.flowCs kb N (0 : Int)) 157, cel kb ((Cip.keyW hk).map B) 182]) w (rdB p.1 p.2)) (hL : ps.flatMap Prod.snd = L) (hb : L.length < 70368744177664) (hn : ps.length < 70368744177664)
    (hh : Pre w [cel fb (Cip.flowCs kb N (0 : Int)) 157, cel kb ((Cip.keyW hk).map B) 182]) :
    Spec Tryd.prog 50 [.pointer (some ⟨fb, 0, none⟩), v] w [cel fb (Cip.flowCs kb N (0 : Int)) 157, cel kb ((Cip.keyW hk).map B) 182] (fun _ : Value => True) (fun vo => vo) (fun vo => [ownB vo (hidL hk N L) 5]) := by
  subst hL
  have hne : kb ≠ fb := fun e => hh.2.1 fb rfl (.inl e.symm)
  have hs := Cip.hide_spec fb kb 0 (Cip.keyW hk) N v ps w hN hh.1.1 hne (fun j hj => cel_cell hh.1.2.1 (getB (by rw [Cip.keyW_len hk32]; exact hj))) hv.1 (by
    cases ps with
    | nil => exact .inl rfl
    | cons p ps => exact .inr fun e => hv.2 fb ⟨by simp, e⟩ (.inl rfl)) (fun p hp0 => ⟨(hp p hp0).1, by
      cases hl : p.2 with
      | nil => exact .inl rfl
      | cons a l => exact .inr fun e => (hp p hp0).2 fb ⟨by rw [hl]; simp, e⟩ (.inl rfl)⟩) (by decide) (by omega) (by omega)
  rw [hidL_def] at hs
  exact (Spec.frame (F := [cel kb ((Cip.keyW hk).map B) 182]) hs hh).less (fun vo => .cons_cons _ (List.nil_sublist _))
theorem flow_spec {hk mk N : List UInt8} {nv : Value} {w : World} (hn : Ro (Fs []) w (rdB nv N)) (hk32 : hk.length = 32) (hN : N.length = 16) :
    Spec Tryd.prog 49 [.agg (hk.map B ++ (mk.map B)).toArray, nv] w [] (fun _ : Nat × Nat => True) (fun x => .tuple #[.pointer (some ⟨x.1, 0, none⟩), I 0])
      (fun x => [cel x.1 (Cip.flowCs x.2 N (0 : Int)) 157, cel x.2 ((Cip.keyW hk).map B) 182]) := by
  refine spec_of (n := 24) Tryd.func49 rfl rfl trivial trivial rfl ?_
  refine tk_seq ?_
  refine tk_region ?_
  refine tk_act rfl ?_; refine a_boxL (cs := hk.map B ++ (mk.map B)) rfl rfl fun b2 => ?_
  refine tk_q rfl rfl rfl (y_assign rfl) ?_
  refine tk_q rfl rfl rfl (y_assign rfl) ?_
  refine tk_nil ?_
  refine tk_then ?_
  refine tk_seq ?_
  refine tk_region ?_
  refine tk_q rfl rfl rfl (y_fld0 (o := 0) rfl (by kernel_rfl)) ?_
  refine tk_q rfl rfl rfl (y_cutA (m := 32) (sz := 1) rfl (by kernel_rfl)) ?_
  refine tk_act rfl ?_; refine a_callv [] _ rfl (by kernel_rfl) rfl (fun w' hw' => Cip.makeR_spec _ hk w' lenP ((Ro.cel (H0 := []) (b := b2) (o := 0) (m := 32) (cp := 32) (vs := hk.map B) hw' (.head _) (dsW1) (by first | rfl | (simp; done) | (simp; omega)) (by first | omega | (simp; done) | (simp; omega)))).1) rfl fun k11 _ => ?_
  refine tk_q rfl rfl rfl (y_move rfl) ?_
  refine tk_q rfl rfl rfl (y_extract rfl rfl) ?_
  refine tk_q rfl rfl rfl (y_extract rfl rfl) ?_
  refine tk_q rfl rfl rfl (y_assign rfl) ?_
  refine tk_q rfl rfl rfl (y_assign rfl) ?_
  refine tk_nil ?_
  refine tk_then ?_
  refine tk_seq ?_
  refine tk_seq ?_
  refine tk_region ?_
  refine tk_q rfl rfl rfl (y_move rfl) ?_
  refine tk_q rfl rfl rfl ((y_neq rfl rfl).cast (bool_f (by decide))) ?_
  refine tk_nil ?_
  refine tk_then ?_
  refine tk_cond0 rfl ?_
  refine tk_skip ?_
  refine tk_then ?_
  refine tk_seq ?_
  refine tk_region ?_
  refine tk_q rfl rfl rfl (y_move rfl) ?_
  refine tk_q rfl rfl rfl (y_move rfl) ?_
  refine tk_q rfl rfl rfl (y_s2aR (l := N) rfl rfl hn.1 lenP) ?_
  refine tk_q rfl rfl rfl (y_loadA 16 rfl (by kernel_rfl) lenP (fun w hw => rd_take (l := N) (m := 16) ((fun w hw => Ro.rd hn hw) w hw) lenP)) ?_
  refine tk_re 20 (.agg ((N.take 16).map B).toArray) (.agg (N.map B).toArray) rfl (by rw [List.take_of_length_le (by omega)]) ?_
  refine tk_act rfl ?_; refine a_callv [] _ rfl (by kernel_rfl) rfl (fun w' hw' => Cip.begin_spec k11 N w' lenP) rfl fun f21 _ => ?_
  refine tk_q rfl rfl rfl (y_extract rfl rfl) ?_
  refine tk_q rfl rfl rfl (y_extract rfl rfl) ?_
  refine tk_q rfl rfl rfl (y_assign rfl) ?_
  refine tk_q rfl rfl rfl (y_assign rfl) ?_
  refine tk_nil ?_
  refine tk_then ?_
  refine tk_retc ?_
  exact tk_ret ((f21, k11)) (trivial) (.inl rfl) (r2 rfl rfl rfl) (.cons_cons _ (.cons_cons _ (List.nil_sublist _)))
theorem mark_spec {hk mk name N h : List UInt8} {kind : UInt8} {nv hv : Value} {w : World} (hn : Ro (Fs []) w (rdB nv N)) (hh : Ro (Fs []) w (rdB hv h)) (h2 : hk.length = 32 ∧ mk.length = 32) (hg : Ro (Fs []) w glob) (hb : name.length < 4294967296 ∧ N.length < 4294967296 ∧ h.length < 4294967296) :
    Spec Tryd.prog 51 [.agg (hk.map B ++ (mk.map B)).toArray, B kind, Str name, nv, hv] w [] (fun _ : Unit => True) (fun _ => Ag (markL mk kind name N h)) (fun _ => []) := by
  obtain ⟨hk32, mk32⟩ := h2
  refine spec_of (n := 24) Tryd.func51 rfl rfl trivial trivial rfl ?_
  refine tk_seq ?_
  refine tk_region ?_
  refine tk_act rfl ?_; refine a_boxL (cs := hk.map B ++ (mk.map B)) rfl rfl fun b5 => ?_
  refine tk_act rfl ?_; refine a_allocL (cs := (List.replicate 32 0).map B) (by kernel_rfl) rfl fun b10 => ?_
  refine tk_nil ?_
  refine tk_then ?_
  refine tk_seq ?_
  refine tk_region ?_
  refine tk_q rfl rfl rfl (y_fldN (o := 0) 32 rfl (by kernel_rfl)) ?_
  refine tk_q rfl rfl rfl (y_cutA (m := 32) (sz := 1) rfl (by kernel_rfl)) ?_
  refine tk_q rfl rfl rfl (y_move rfl) ?_
  refine tk_q rfl rfl rfl (y_move rfl) ?_
  refine tk_q rfl rfl rfl (y_lenStr (l := name) rfl rfl) ?_
  refine tk_q rfl rfl rfl (y_convi8 (m := name.length) rfl rfl rfl) ?_
  refine tk_act rfl ?_; refine a_slitN (vs := [B kind, B (UInt8.ofNat name.length)]) rfl (List.forall_mem_cons.2 ⟨rfl, (List.forall_mem_cons.2 ⟨rfl, (fun _ h => nomatch h)⟩)⟩) (EL26) rfl rfl (by decide) fun b17 => ?_
  refine tk_q rfl rfl rfl (y_move rfl) ?_
  refine tk_act rfl ?_; refine a_s2bO (l := name) rfl rfl rfl rfl rfl (by simp only [maxLen]; first | omega | (simp; done) | (simp; omega)) fun v19 => ?_
  refine tk_own1 (.head _) fun hfv19 => ?_
  refine tk_q rfl rfl rfl (y_move rfl) ?_
  refine tk_q rfl rfl rfl (y_move rfl) ?_
  refine tk_act rfl ?_; refine a_slitN (vs := [.slice (some ⟨b17, 0, none⟩) 2 2, v19, nv, hv]) rfl (List.forall_mem_cons.2 ⟨rfl, (List.forall_mem_cons.2 ⟨(RdS.one hfv19.choose_spec), (List.forall_mem_cons.2 ⟨(RdS.one hn.1), (List.forall_mem_cons.2 ⟨(RdS.one hh.1), (fun _ h => nomatch h)⟩)⟩)⟩)⟩) (EL45) rfl rfl (by decide) fun b22 => ?_
  refine tk_act rfl ?_; refine a_callv [] _ rfl (by kernel_rfl) rfl (fun w' hw' => keyed_spec (k := mk) (ps := [(.slice (some ⟨b17, 0, none⟩) 2 2, [kind, UInt8.ofNat name.length]), (v19, name), (nv, N), (hv, h)]) (L := [kind, UInt8.ofNat name.length] ++ name ++ N ++ h) (Ro.cel (H0 := []) (b := b5) (o := 32) (m := 32) (cp := 32) (vs := mk.map B) hw' (.tail _ (.tail _ (.tail _ (.tail _ (.head _))))) (dsA (k := 32) (i := 0) (by rw [List.length_map]; exact hk32) (by omega) (dsW)) (by first | rfl | (simp; done) | (simp; omega)) (by first | omega | (simp; done) | (simp; omega))) (Ro.cel (vs := [.slice (some ⟨b17, 0, none⟩) 2 2, v19, nv, hv]) hw' (.head _) (by first | rfl | simp) rfl (by decide)) (List.forall_mem_cons.2 ⟨(Ro.cel (H0 := []) (b := b17) (o := 0) (m := 2) (cp := 2) (vs := [kind, UInt8.ofNat name.length].map B) hw' (.tail _ (.tail _ (.head _))) (rfl) (by first | rfl | (simp; done) | (simp; omega)) (by first | omega | (simp; done) | (simp; omega))), (List.forall_mem_cons.2 ⟨(Ro.own (H0 := []) hw' (.tail _ (.head _))), (List.forall_mem_cons.2 ⟨(Ro.call (H0 := []) hn hw'), (List.forall_mem_cons.2 ⟨(Ro.call (H0 := []) hh hw'), (fun _ h => nomatch h)⟩)⟩)⟩)⟩) (by simp) ⟨lenP, lenP, lenP⟩ (hg.call hw')) rfl fun _ _ => ?_
  refine tk_re 23 (.agg ((keyedL mk ([kind, UInt8.ofNat name.length] ++ name ++ N ++ h)).map B).toArray) (.agg ((markL mk kind name N h).map B).toArray) rfl (by rw [markL_def]) ?_
  refine tk_act rfl ?_; refine a_storeW (H1 := [_, _, _]) (vs := (markL mk kind name N h).map B) 32 rfl rfl (by kernel_rfl) rfl ⟨lenP, lenP⟩ oneB ?_
  refine tk_nil ?_
  refine tk_then ?_
  refine tk_retc ?_
  exact tk_ret (()) (trivial) (.inl rfl) (rc (vs := (markL mk kind name N h).map B) rfl rfl (by simp; kernel_rfl) (hcw (.tail _ (.tail _ (.tail _ (.head _)))))) (List.nil_sublist _)
theorem seal_spec {hk mk name N L : List UInt8} {kind : UInt8} {v : Value} {ps : List Sb} {w : World} (h3 : hk.length = 32 ∧ mk.length = 32 ∧ N.length = 16) (hv : Ro (Fs []) w (rd v (ps.map Prod.fst))) (hp : ∀ p ∈ ps, Ro (Fs []) w (rdB p.1 p.2)) (hL : ps.flatMap Prod.snd = L)
    (hb : name.length < 4294967296 ∧ L.length < 4294967296 ∧ ps.length < 4294967296) (hg : Ro (Fs []) w glob) :
    Spec Tryd.prog 19 [.agg (hk.map B ++ (mk.map B)).toArray, B kind, Str name, Ag N, v] w [] (fun _ : Value => True) (fun vo => .tuple #[vo, I (((sealF hk mk kind name N L).2 : Nat) : Int)]) (fun vo => [ownB vo (sealF hk mk kind name N L).1 5]) := by
  refine spec_of (n := 60) Tryd.func19 rfl rfl trivial trivial rfl ?_
  obtain ⟨hk32, mk32, hN⟩ := h3
  have hLl : (ps.flatMap Prod.snd).length = L.length := by rw [hL]
  refine tk_seq ?_
  refine tk_region ?_
  refine tk_act rfl ?_; refine a_boxL (cs := hk.map B ++ (mk.map B)) rfl rfl fun b5 => ?_
  refine tk_act rfl ?_; refine a_boxL (cs := N.map B) rfl rfl fun b8 => ?_
  refine tk_q rfl rfl rfl (y_assign rfl) ?_
  refine tk_q rfl rfl rfl (y_assign rfl) ?_
  refine tk_nil ?_
  refine tk_then ?_
  refine tk_seq ?_
  refine tk_seq ?_
  refine tk_region ?_
  refine tk_q rfl rfl rfl (y_move rfl) ?_
  refine tk_q rfl rfl rfl (y_lenStr (l := name) rfl rfl) ?_
  refine tk_q rfl rfl rfl (y_gtr rfl rfl) ?_
  refine tk_nil ?_
  refine tk_then ?_
  refine tk_condP rfl (fun ht21 => ?_) (fun ht21 => ?_)
  · skip
    refine tk_seq ?_
    refine tk_region ?_
    refine tk_q rfl rfl rfl (y_assign rfl) ?_
    refine tk_q rfl rfl rfl (y_assign rfl) ?_
    refine tk_nil ?_
    refine tk_then ?_
    refine tk_retc ?_
    refine tk_then_ret ?_
    refine tk_ownM0 (f := B) 5 ?_
    refine tk_H [own (.slice none 0 0) (((sealF hk mk kind name N L).1).length) (((sealF hk mk kind name N L).1).map B) 5 1, cel b8 (N.map B) 25, cel b5 (hk.map B ++ (mk.map B)) 36] (congrArg (fun z_ => [z_, cel b8 (N.map B) 25, cel b5 (hk.map B ++ (mk.map B)) 36]) (show own (.slice none 0 0) ([].length) ([].map B) 5 1 = own (.slice none 0 0) (((sealF hk mk kind name N L).1).length) (((sealF hk mk kind name N L).1).map B) 5 1 from ownM_cast (by rw [sealF_name (by omega)]))) ?_
    refine tk_re 11 (I 5) (I (((sealF hk mk kind name N L).2 : Nat) : Int)) rfl (by rw [sealF_name (by omega)]; rfl) ?_
    exact tk_ret (.slice none 0 0) (trivial) (.inl rfl) (r2 rfl rfl rfl) (.cons_cons _ (List.nil_sublist _))
  · skip
    refine tk_skip ?_
    refine tk_then ?_
    refine tk_seq ?_
    refine tk_region ?_
    refine tk_q rfl rfl rfl (y_assign rfl) ?_
    refine tk_nil ?_
    refine tk_then ?_
    refine tk_seq ?_
    refine tk_seq ?_
    refine tk_region ?_
    refine tk_q rfl rfl rfl (y_move rfl) ?_
    refine tk_q rfl rfl rfl (y_lenRN (n' := ps.length) rfl hv.1 rfl (by first | rfl | (rw [List.length_map]; omega) | simp)) ?_
    refine tk_q rfl rfl rfl (y_move rfl) ?_
    refine tk_nil ?_
    refine tk_then ?_
    refine tk_block ?_
    refine tk_loop (X := Nat) (fun j => j ≤ ps.length ∧ ((ps.take j).flatMap Prod.snd).length ≤ 1048576) (fun j => [(1, B kind), (2, Str name), (4, v), (5, .pointer (some ⟨b5, 0, none⟩)), (8, .pointer (some ⟨b8, 0, none⟩)), (12, I ((1048576 - ((ps.take j).flatMap Prod.snd).length : Nat) : Int)), (22, v), (23, I ((ps.length : Nat) : Int)), (24, I ((j : Nat) : Int))]) (fun j => [cel b8 (N.map B) 25, cel b5 (hk.map B ++ (mk.map B)) 36]) (fun j => ps.length - j) (0) (⟨Nat.zero_le _, by simp⟩) (by repeat (first | exact trivial | refine ⟨rfl, ?_⟩)) ((List.Sublist.refl _)) ?_
    rintro j hI
    try dsimp only at hI ⊢
    refine tk_seq ?_
    refine tk_region ?_
    refine tk_q rfl rfl rfl (y_lss rfl rfl) ?_
    refine tk_nil ?_
    refine tk_then ?_
    refine tk_seq ?_
    refine tk_condP rfl (fun ht25 => ?_) (fun ht25 => ?_)
    · skip
      refine tk_skip ?_
      refine tk_then ?_
      refine tk_seq ?_
      refine tk_block ?_
      refine tk_seq ?_
      refine tk_region ?_
      refine tk_q rfl rfl rfl (y_ixR (j := j) rfl rfl hv.1 lenP (by kernel_rfl)) ?_
      refine tk_q rfl rfl rfl (y_load rfl rfl (fun w hw => ((fun w hw => Ro.rd hv hw) w hw).cell (gM (f := Prod.fst) (d := dP) lenP))) ?_
      refine tk_q rfl rfl rfl (y_assign rfl) ?_
      refine tk_nil ?_
      refine tk_then ?_
      refine tk_seq ?_
      refine tk_seq ?_
      refine tk_region ?_
      have hfl := flat_le (ps := ps) (i := j) (by omega)
      refine tk_q rfl rfl rfl (y_move rfl) ?_
      refine tk_q rfl rfl rfl (y_lenRN (n' := ((ps.getD j dP).2).length) rfl (hp _ (getD_mem lenP)).1 rfl (by first | rfl | (rw [List.length_map]; omega) | simp)) ?_
      refine tk_q rfl rfl rfl (y_move rfl) ?_
      refine tk_q rfl rfl rfl (y_gtr rfl rfl) ?_
      refine tk_nil ?_
      refine tk_then ?_
      refine tk_condP rfl (fun ht31 => ?_) (fun ht31 => ?_)
      · skip
        refine tk_seq ?_
        refine tk_region ?_
        refine tk_q rfl rfl rfl (y_assign rfl) ?_
        refine tk_q rfl rfl rfl (y_assign rfl) ?_
        refine tk_nil ?_
        refine tk_then ?_
        refine tk_retc ?_
        refine tk_then_ret ?_
        refine tk_in_ret ?_
        refine tk_then_ret ?_
        refine tk_then_ret ?_
        refine tk_in_ret ?_
        refine tk_then_ret ?_
        refine tk_ownM0 (f := B) 5 ?_
        refine tk_H [own (.slice none 0 0) (((sealF hk mk kind name N L).1).length) (((sealF hk mk kind name N L).1).map B) 5 1, cel b8 (N.map B) 25, cel b5 (hk.map B ++ (mk.map B)) 36] (congrArg (fun z_ => [z_, cel b8 (N.map B) 25, cel b5 (hk.map B ++ (mk.map B)) 36]) (show own (.slice none 0 0) ([].length) ([].map B) 5 1 = own (.slice none 0 0) (((sealF hk mk kind name N L).1).length) (((sealF hk mk kind name N L).1).map B) 5 1 from ownM_cast (by rw [sealF_big (by omega) (by omega)]))) ?_
        refine tk_re 11 (I 4) (I (((sealF hk mk kind name N L).2 : Nat) : Int)) rfl (by rw [sealF_big (by omega) (by omega)]; rfl) ?_
        exact tk_ret (.slice none 0 0) (trivial) (.inl rfl) (r2 rfl rfl rfl) (.cons_cons _ (List.nil_sublist _))
      · skip
        refine tk_skip ?_
        refine tk_then ?_
        refine tk_region ?_
        refine tk_q rfl rfl rfl (y_move rfl) ?_
        refine tk_q rfl rfl rfl (y_move rfl) ?_
        refine tk_q rfl rfl rfl (y_lenRN (n' := ((ps.getD j dP).2).length) rfl (hp _ (getD_mem lenP)).1 rfl (by first | rfl | (rw [List.length_map]; omega) | simp)) ?_
        refine tk_q rfl rfl rfl (y_subN (a := 1048576 - ((ps.take j).flatMap Prod.snd).length) (b := ((ps.getD j dP).2).length) rfl rfl (by omega)) ?_
        refine tk_q rfl rfl rfl (y_assign rfl) ?_
        refine tk_nil ?_
        refine tk_in_normal ?_
        refine tk_then ?_
        refine tk_region ?_
        refine tk_q rfl rfl rfl (y_addN (a := j) (b := 1) rfl rfl (by omega)) ?_
        refine tk_q rfl rfl rfl (y_move rfl) ?_
        refine tk_nil ?_
        refine tk_re 12 (I (((1048576 - ((ps.take j).flatMap Prod.snd).length) - (((ps.getD j dP).2).length) : Nat) : Int)) (I ((1048576 - ((ps.take (j + 1)).flatMap Prod.snd).length : Nat) : Int)) rfl (by rw [flat_snoc (d := dP) (by omega), List.length_append]; congr 2; omega) ?_
        exact tk_again (j + 1) (⟨by omega, by rw [flat_snoc (d := dP) (by omega), List.length_append]; omega⟩) (by omega) (by repeat (first | exact trivial | refine ⟨rfl, ?_⟩)) (List.Sublist.refl _)
    · skip
      have hok : ¬ 1048576 < L.length := by have h := hI.2; rw [List.take_of_length_le (by omega)] at h; omega
      refine tk_exit ?_
      refine tk_then_exit ?_
      refine tk_then_exit ?_
      refine tk_in_hit ?_
      refine tk_then ?_
      refine tk_seq ?_
      refine tk_drawH [cel b8 (N.map B) 25, cel b5 (hk.map B ++ (mk.map B)) 36] [] (by kernel_rfl) ?_
      refine tx_l 0 rfl (by kernel_rfl) (by kernel_rfl) rfl rfl rfl (fun _ _ _ h => h) (fun _ h => h.sub (List.Sublist.refl _)) (y_loadA 64 rfl (by kernel_rfl) lenP (hcw (.tail _ (.head _)))) ?_
      refine tx_q 1 rfl (by kernel_rfl) rfl rfl rfl (fun _ _ _ h => h) (y_cutA (m := 16) (sz := 1) rfl (by kernel_rfl)) ?_
      refine tx_a 2 rfl (by kernel_rfl) rfl ?_; refine a_callv [] _ rfl (by kernel_rfl) rfl (fun w' hw' => flow_spec (hk := hk) (mk := mk) (N := N) (Ro.cel (H0 := []) (b := b8) (o := 0) (m := 16) (cp := 16) (vs := N.map B) hw' (.head _) (dsW) (by first | rfl | (simp; done) | (simp; omega)) (by first | omega | (simp; done) | (simp; omega))) lenP lenP) rfl fun ⟨f40, k40⟩ _ => ?_
      refine tk_S (fun _ h => h.sub (.cons _ (.cons _ (List.Sublist.refl _)))) ?_
      refine tx_q 3 rfl (by kernel_rfl) rfl rfl rfl (fun _ _ _ h => h) (y_move rfl) ?_
      refine tx_q 4 rfl (by kernel_rfl) rfl rfl rfl (fun _ _ _ h => h) (y_extract rfl rfl) ?_
      refine tx_q 5 rfl (by kernel_rfl) rfl rfl rfl (fun _ _ _ h => h) (y_extract rfl rfl) ?_
      refine tx_q 6 rfl (by kernel_rfl) rfl rfl rfl (fun _ _ _ h => h) (y_assign rfl) ?_
      refine tx_q 7 rfl (by kernel_rfl) rfl rfl rfl (fun _ _ _ h => h) (y_assign rfl) ?_
      refine tx_done (by kernel_rfl) ?_
      refine tk_then ?_
      refine tk_seq ?_
      refine tk_seq ?_
      refine tk_region ?_
      refine tk_q rfl rfl rfl (y_move rfl) ?_
      refine tk_q rfl rfl rfl ((y_neq rfl rfl).cast (bool_f (by decide))) ?_
      refine tk_nil ?_
      refine tk_then ?_
      refine tk_cond0 rfl ?_
      refine tk_skip ?_
      refine tk_then ?_
      refine tk_seq ?_
      refine tk_region ?_
      refine tk_q rfl rfl rfl (y_move rfl) ?_
      refine tk_q rfl rfl rfl (y_move rfl) ?_
      refine tk_act rfl ?_; refine a_callv [] _ rfl (by kernel_rfl) rfl (fun w' hw' => hide_ro (hk := hk) (N := N) (ps := ps) (L := L) hk32 hN (Ro.call hv hw') (fun p hp0 => (hp p hp0).call hw') hL lenP lenP (St.pre hw')) rfl fun v48 _ => ?_
      refine tk_q rfl rfl rfl (y_assign rfl) ?_
      refine tk_nil ?_
      refine tk_then ?_
      refine tk_seq ?_
      refine tk_drawH [own v48 ((hidL hk N L).length) ((hidL hk N L).map B) 5 1, cel b8 (N.map B) 25, cel b5 (hk.map B ++ (mk.map B)) 36] [] (by kernel_rfl) ?_
      refine tx_l 0 rfl (by kernel_rfl) (by kernel_rfl) rfl rfl rfl (fun _ _ _ h => h) (fun _ h => h.sub (List.Sublist.refl _)) (y_loadA 64 rfl (by kernel_rfl) lenP (hcw (.tail _ (.tail _ (.head _))))) ?_
      refine tx_q 1 rfl (by kernel_rfl) rfl rfl rfl (fun _ _ _ h => h) (y_move rfl) ?_
      refine tx_q 2 rfl (by kernel_rfl) rfl rfl rfl (fun _ _ _ h => h) (y_move rfl) ?_
      refine tx_q 3 rfl (by kernel_rfl) rfl rfl rfl (fun _ _ _ h => h) (y_cutA (m := 16) (sz := 1) rfl (by kernel_rfl)) ?_
      refine tx_q 4 rfl (by kernel_rfl) rfl rfl rfl (fun _ _ _ h => h) (y_move rfl) ?_
      refine tx_all (is := [5, 6]) (by kernel_rfl) rfl ⟨⟨_, rfl, rfl, ?_⟩, ⟨_, rfl, rfl, ?_⟩, trivial⟩
      · skip
        skip; refine a_callv [] _ rfl (by kernel_rfl) rfl (fun w' hw' => mark_spec (hk := hk) (mk := mk) (kind := kind) (name := name) (N := N) (h := hidL hk N L) (Ro.cel (H0 := []) (b := b8) (o := 0) (m := 16) (cp := 16) (vs := N.map B) hw' (.tail _ (.head _)) (dsW) (by first | rfl | (simp; done) | (simp; omega)) (by first | omega | (simp; done) | (simp; omega))) (Ro.own (H0 := []) hw' (.head _)) ⟨lenP, lenP⟩ (hg.call hw') ⟨lenP, lenP, lenP⟩) rfl fun _ _ => ?_
        refine tk_S (fun _ h => h.sub (List.Sublist.refl _)) ?_
        refine tx_a 6 rfl (by kernel_rfl) rfl ?_; refine a_allocL (cs := (List.replicate 32 0).map B) (by kernel_rfl) rfl fun b18 => ?_
        refine tk_S (fun _ h => h.sub (.cons _ (List.Sublist.refl _))) ?_
        refine tx_a 7 rfl (by kernel_rfl) rfl ?_; refine a_storeW (H1 := []) (vs := (markL mk kind name N (hidL hk N L)).map B) 32 rfl rfl (by kernel_rfl) rfl ⟨lenP, lenP⟩ oneB ?_
        refine tk_S (fun _ h => h.sub (.cons _ (List.Sublist.refl _))) ?_
        refine tx_done (by kernel_rfl) ?_
        refine tk_then ?_
        refine tk_seq ?_
        refine tk_drawH [cel b18 ((markL mk kind name N (hidL hk N L)).map B) 22, own v48 ((hidL hk N L).length) ((hidL hk N L).map B) 5 1, cel b5 (hk.map B ++ (mk.map B)) 36] [] (by kernel_rfl) ?_
        refine tx_q 0 rfl (by kernel_rfl) rfl rfl rfl (fun _ _ _ h => h) (y_cutA (m := 16) (sz := 1) rfl (by kernel_rfl)) ?_
        refine tx_q 1 rfl (by kernel_rfl) rfl rfl rfl (fun _ _ _ h => h) (y_move rfl) ?_
        refine tx_q 3 rfl (by kernel_rfl) rfl rfl rfl (fun _ _ _ h => h) (y_cutA (m := 32) (sz := 1) rfl (by kernel_rfl)) ?_
        refine tk_celM (H1 := [_, _]) (f := B) (l := N) (T := 5) rfl hN (by decide) ?_
        refine tx_a 2 rfl (by kernel_rfl) rfl ?_; refine a_appM (H1 := [_, _]) (f := B) (l := N) (m := hidL hk N L) rfl rfl EL26 rfl rfl (fun w hw => own_rdS (hw.mem (.tail _ (.head _)))) (fun _ => rfl) ⟨lenP, lenP⟩ fun v57 => ?_
        refine tk_own1 (.tail _ (.tail _ (.head _))) fun hfv57 => ?_
        refine tk_S (fun _ h => h.sub (.cons_cons _ (.cons_cons _ (.cons _ (List.Sublist.refl _))))) ?_
        refine tx_a 4 rfl (by kernel_rfl) rfl ?_; refine a_appM (H1 := [_, _]) (f := B) (l := N ++ (hidL hk N L)) (m := markL mk kind name N (hidL hk N L)) rfl rfl EL26 rfl rfl (fun w hw => cel_rdE (o := 0) (m := 32) (cp := 32) (vs := (markL mk kind name N (hidL hk N L)).map B) (hw.mem (.head _)) (dsW) (by first | rfl | (simp; done) | (simp; omega)) (by first | omega | (simp; done) | (simp; omega))) (fun _ => rfl) ⟨lenP, lenP⟩ fun v59 => ?_
        refine tk_own1 (.tail _ (.tail _ (.head _))) fun hfv59 => ?_
        refine tk_S (fun _ h => h.sub (.cons_cons _ (.cons_cons _ (.cons _ (List.Sublist.refl _))))) ?_
        refine tx_q 5 rfl (by kernel_rfl) rfl rfl rfl (fun _ _ _ h => h) (y_assign rfl) ?_
        refine tx_q 6 rfl (by kernel_rfl) rfl rfl rfl (fun _ _ _ h => h) (y_assign rfl) ?_
        refine tx_done (by kernel_rfl) ?_
        refine tk_then ?_
        refine tk_retc ?_
        refine tk_H [cel b18 ((markL mk kind name N (hidL hk N L)).map B) 22, own v48 ((hidL hk N L).length) ((hidL hk N L).map B) 5 1, own v59 (((sealF hk mk kind name N L).1).length) (((sealF hk mk kind name N L).1).map B) 5 1, cel b5 (hk.map B ++ (mk.map B)) 36] (congrArg (fun z_ => [cel b18 ((markL mk kind name N (hidL hk N L)).map B) 22, own v48 ((hidL hk N L).length) ((hidL hk N L).map B) 5 1, z_, cel b5 (hk.map B ++ (mk.map B)) 36]) (show own v59 (((N ++ (hidL hk N L)) ++ (markL mk kind name N (hidL hk N L))).length) (((N ++ (hidL hk N L)) ++ (markL mk kind name N (hidL hk N L))).map B) 5 1 = own v59 (((sealF hk mk kind name N L).1).length) (((sealF hk mk kind name N L).1).map B) 5 1 from ownM_cast (by rw [sealF_ok (by omega) hok]; exact sealL_def))) ?_
        refine tk_re 11 (I 0) (I (((sealF hk mk kind name N L).2 : Nat) : Int)) rfl (by rw [sealF_ok (by omega) hok]; rfl) ?_
        exact tk_ret (v59) (trivial) (.inl rfl) (r2 rfl rfl rfl) (.cons _ (.cons _ (.cons_cons _ (List.nil_sublist _))))
      · skip
        skip; refine a_allocL (cs := (List.replicate 32 0).map B) (by kernel_rfl) rfl fun b18 => ?_
        refine tk_S (fun _ h => h.sub (.cons _ (List.Sublist.refl _))) ?_
        refine tx_a 5 rfl (by kernel_rfl) rfl ?_; refine a_callv [] _ rfl (by kernel_rfl) rfl (fun w' hw' => mark_spec (hk := hk) (mk := mk) (kind := kind) (name := name) (N := N) (h := hidL hk N L) (Ro.cel (H0 := []) (b := b8) (o := 0) (m := 16) (cp := 16) (vs := N.map B) hw' (.tail _ (.tail _ (.head _))) (dsW) (by first | rfl | (simp; done) | (simp; omega)) (by first | omega | (simp; done) | (simp; omega))) (Ro.own (H0 := []) hw' (.tail _ (.head _))) ⟨lenP, lenP⟩ (hg.call hw') ⟨lenP, lenP, lenP⟩) rfl fun _ _ => ?_
        refine tk_S (fun _ h => h.sub (.cons _ (List.Sublist.refl _))) ?_
        refine tx_a 7 rfl (by kernel_rfl) rfl ?_; refine a_storeW (H1 := []) (vs := (markL mk kind name N (hidL hk N L)).map B) 32 rfl rfl (by kernel_rfl) rfl ⟨lenP, lenP⟩ oneB ?_
        refine tk_S (fun _ h => h.sub (.cons _ (List.Sublist.refl _))) ?_
        refine tx_done (by kernel_rfl) ?_
        refine tk_then ?_
        refine tk_seq ?_
        refine tk_drawH [cel b18 ((markL mk kind name N (hidL hk N L)).map B) 22, own v48 ((hidL hk N L).length) ((hidL hk N L).map B) 5 1, cel b5 (hk.map B ++ (mk.map B)) 36] [] (by kernel_rfl) ?_
        refine tx_q 0 rfl (by kernel_rfl) rfl rfl rfl (fun _ _ _ h => h) (y_cutA (m := 16) (sz := 1) rfl (by kernel_rfl)) ?_
        refine tx_q 1 rfl (by kernel_rfl) rfl rfl rfl (fun _ _ _ h => h) (y_move rfl) ?_
        refine tx_q 3 rfl (by kernel_rfl) rfl rfl rfl (fun _ _ _ h => h) (y_cutA (m := 32) (sz := 1) rfl (by kernel_rfl)) ?_
        refine tk_celM (H1 := [_, _]) (f := B) (l := N) (T := 5) rfl hN (by decide) ?_
        refine tx_a 2 rfl (by kernel_rfl) rfl ?_; refine a_appM (H1 := [_, _]) (f := B) (l := N) (m := hidL hk N L) rfl rfl EL26 rfl rfl (fun w hw => own_rdS (hw.mem (.tail _ (.head _)))) (fun _ => rfl) ⟨lenP, lenP⟩ fun v57 => ?_
        refine tk_own1 (.tail _ (.tail _ (.head _))) fun hfv57 => ?_
        refine tk_S (fun _ h => h.sub (.cons_cons _ (.cons_cons _ (.cons _ (List.Sublist.refl _))))) ?_
        refine tx_a 4 rfl (by kernel_rfl) rfl ?_; refine a_appM (H1 := [_, _]) (f := B) (l := N ++ (hidL hk N L)) (m := markL mk kind name N (hidL hk N L)) rfl rfl EL26 rfl rfl (fun w hw => cel_rdE (o := 0) (m := 32) (cp := 32) (vs := (markL mk kind name N (hidL hk N L)).map B) (hw.mem (.head _)) (dsW) (by first | rfl | (simp; done) | (simp; omega)) (by first | omega | (simp; done) | (simp; omega))) (fun _ => rfl) ⟨lenP, lenP⟩ fun v59 => ?_
        refine tk_own1 (.tail _ (.tail _ (.head _))) fun hfv59 => ?_
        refine tk_S (fun _ h => h.sub (.cons_cons _ (.cons_cons _ (.cons _ (List.Sublist.refl _))))) ?_
        refine tx_q 5 rfl (by kernel_rfl) rfl rfl rfl (fun _ _ _ h => h) (y_assign rfl) ?_
        refine tx_q 6 rfl (by kernel_rfl) rfl rfl rfl (fun _ _ _ h => h) (y_assign rfl) ?_
        refine tx_done (by kernel_rfl) ?_
        refine tk_then ?_
        refine tk_retc ?_
        refine tk_H [cel b18 ((markL mk kind name N (hidL hk N L)).map B) 22, own v48 ((hidL hk N L).length) ((hidL hk N L).map B) 5 1, own v59 (((sealF hk mk kind name N L).1).length) (((sealF hk mk kind name N L).1).map B) 5 1, cel b5 (hk.map B ++ (mk.map B)) 36] (congrArg (fun z_ => [cel b18 ((markL mk kind name N (hidL hk N L)).map B) 22, own v48 ((hidL hk N L).length) ((hidL hk N L).map B) 5 1, z_, cel b5 (hk.map B ++ (mk.map B)) 36]) (show own v59 (((N ++ (hidL hk N L)) ++ (markL mk kind name N (hidL hk N L))).length) (((N ++ (hidL hk N L)) ++ (markL mk kind name N (hidL hk N L))).map B) 5 1 = own v59 (((sealF hk mk kind name N L).1).length) (((sealF hk mk kind name N L).1).map B) 5 1 from ownM_cast (by rw [sealF_ok (by omega) hok]; exact sealL_def))) ?_
        refine tk_re 11 (I 0) (I (((sealF hk mk kind name N L).2 : Nat) : Int)) rfl (by rw [sealF_ok (by omega) hok]; rfl) ?_
        exact tk_ret (v59) (trivial) (.inl rfl) (r2 rfl rfl rfl) (.cons _ (.cons _ (.cons_cons _ (List.nil_sublist _))))
theorem open_spec {hk mk name b : List UInt8} {kind : UInt8} {bv : Value} {w : World} (h2 : hk.length = 32 ∧ mk.length = 32) (hb : Ro (Fs []) w (rdB bv b)) (h3 : name.length < 4294967296 ∧ b.length < 4611686018427387904) (hg : Ro (Fs []) w glob) :
    Spec Tryd.prog 21 [.agg (hk.map B ++ (mk.map B)).toArray, B kind, Str name, bv] w [] (fun _ : Value => True) (fun vo => .tuple #[vo, I (((openF hk mk kind name b).2 : Nat) : Int)]) (fun vo => [ownB vo (openF hk mk kind name b).1 5]) := by
  refine spec_of (n := 64) Tryd.func21 rfl rfl trivial trivial rfl ?_
  obtain ⟨hk32, mk32⟩ := h2
  refine tk_seq ?_
  refine tk_region ?_
  refine tk_act rfl ?_; refine a_boxL (cs := hk.map B ++ (mk.map B)) rfl rfl fun b4 => ?_
  refine tk_q rfl rfl rfl (y_assign rfl) ?_
  refine tk_q rfl rfl rfl (y_assign rfl) ?_
  refine tk_nil ?_
  refine tk_then ?_
  refine tk_seq ?_
  refine tk_block ?_
  refine tk_seq ?_
  refine tk_region ?_
  refine tk_q rfl rfl rfl (y_move rfl) ?_
  refine tk_q rfl rfl rfl (y_lenStr (l := name) rfl rfl) ?_
  refine tk_q rfl rfl rfl (y_gtr rfl rfl) ?_
  refine tk_q rfl rfl rfl (y_assign rfl) ?_
  refine tk_nil ?_
  refine tk_then ?_
  refine tk_condP rfl (fun ht16 => ?_) (fun ht16 => ?_)
  · skip
    refine tk_seq ?_
    refine tk_region ?_
    refine tk_q rfl rfl rfl (y_assign rfl) ?_
    refine tk_q rfl rfl rfl (y_assign rfl) ?_
    refine tk_nil ?_
    refine tk_then ?_
    refine tk_retc ?_
    refine tk_in_ret ?_
    refine tk_then_ret ?_
    refine tk_ownM0 (f := B) 5 ?_
    refine tk_H [own (.slice none 0 0) (((openF hk mk kind name b).1).length) (((openF hk mk kind name b).1).map B) 5 1, cel b4 (hk.map B ++ (mk.map B)) 36] (congrArg (fun z_ => [z_, cel b4 (hk.map B ++ (mk.map B)) 36]) (show own (.slice none 0 0) ([].length) ([].map B) 5 1 = own (.slice none 0 0) (((openF hk mk kind name b).1).length) (((openF hk mk kind name b).1).map B) 5 1 from ownM_cast (by rw [openF_name (by omega)]))) ?_
    refine tk_re 9 (I 5) (I (((openF hk mk kind name b).2 : Nat) : Int)) rfl (by rw [openF_name (by omega)]; rfl) ?_
    exact tk_ret (.slice none 0 0) (trivial) (.inl rfl) (r2 rfl rfl rfl) (.cons_cons _ (List.nil_sublist _))
  · skip
    refine tk_seq ?_
    refine tk_region ?_
    refine tk_q rfl rfl rfl (y_move rfl) ?_
    refine tk_q rfl rfl rfl (y_lenRN (n' := b.length) rfl hb.1 rfl (by first | rfl | (rw [List.length_map]; omega) | simp)) ?_
    refine tk_qs rfl rfl rfl (y_lss rfl rfl) (fun hs3_2 => ?_) (fun hs3_2 => ?_)
    · skip
      refine tk_q rfl rfl rfl (y_move rfl) ?_
      refine tk_gno rfl rfl rfl ?_
      refine tk_gno rfl rfl rfl ?_
      refine tk_gno rfl rfl rfl ?_
      refine tk_gno rfl rfl rfl ?_
      refine tk_q rfl rfl rfl (y_pick1 rfl rfl) ?_
      refine tk_q rfl rfl rfl (y_assign rfl) ?_
      refine tk_nil ?_
      refine tk_then ?_
      refine tk_cond1 rfl ?_
      refine tk_seq ?_
      refine tk_region ?_
      refine tk_q rfl rfl rfl (y_assign rfl) ?_
      refine tk_q rfl rfl rfl (y_assign rfl) ?_
      refine tk_nil ?_
      refine tk_then ?_
      refine tk_retc ?_
      refine tk_in_ret ?_
      refine tk_then_ret ?_
      refine tk_ownM0 (f := B) 5 ?_
      refine tk_H [own (.slice none 0 0) (((openF hk mk kind name b).1).length) (((openF hk mk kind name b).1).map B) 5 1, cel b4 (hk.map B ++ (mk.map B)) 36] (congrArg (fun z_ => [z_, cel b4 (hk.map B ++ (mk.map B)) 36]) (show own (.slice none 0 0) ([].length) ([].map B) 5 1 = own (.slice none 0 0) (((openF hk mk kind name b).1).length) (((openF hk mk kind name b).1).map B) 5 1 from ownM_cast (by rw [openF_len (by omega) (by omega)]))) ?_
      refine tk_re 9 (I 10) (I (((openF hk mk kind name b).2 : Nat) : Int)) rfl (by rw [openF_len (by omega) (by omega)]; rfl) ?_
      exact tk_ret (.slice none 0 0) (trivial) (.inl rfl) (r2 rfl rfl rfl) (.cons_cons _ (List.nil_sublist _))
    · skip
      refine tk_q rfl rfl rfl (y_move rfl) ?_
      refine tk_gq rfl rfl rfl (y_move rfl) ?_
      refine tk_gq rfl rfl rfl (y_lenRN (n' := b.length) rfl hb.1 rfl (by first | rfl | (rw [List.length_map]; omega) | simp)) ?_
      refine tk_gq rfl rfl rfl (y_subN (a := b.length) (b := 48) rfl rfl (by omega)) ?_
      refine tk_gq rfl rfl rfl (y_gtr rfl rfl) ?_
      refine tk_q rfl rfl rfl (y_pick0 rfl rfl) ?_
      refine tk_q rfl rfl rfl (y_assign rfl) ?_
      refine tk_nil ?_
      refine tk_then ?_
      refine tk_condP rfl (fun ht20 => ?_) (fun ht20 => ?_)
      · skip
        refine tk_seq ?_
        refine tk_region ?_
        refine tk_q rfl rfl rfl (y_assign rfl) ?_
        refine tk_q rfl rfl rfl (y_assign rfl) ?_
        refine tk_nil ?_
        refine tk_then ?_
        refine tk_retc ?_
        refine tk_in_ret ?_
        refine tk_then_ret ?_
        refine tk_ownM0 (f := B) 5 ?_
        refine tk_H [own (.slice none 0 0) (((openF hk mk kind name b).1).length) (((openF hk mk kind name b).1).map B) 5 1, cel b4 (hk.map B ++ (mk.map B)) 36] (congrArg (fun z_ => [z_, cel b4 (hk.map B ++ (mk.map B)) 36]) (show own (.slice none 0 0) ([].length) ([].map B) 5 1 = own (.slice none 0 0) (((openF hk mk kind name b).1).length) (((openF hk mk kind name b).1).map B) 5 1 from ownM_cast (by rw [openF_len (by omega) (by omega)]))) ?_
        refine tk_re 9 (I 10) (I (((openF hk mk kind name b).2 : Nat) : Int)) rfl (by rw [openF_len (by omega) (by omega)]; rfl) ?_
        exact tk_ret (.slice none 0 0) (trivial) (.inl rfl) (r2 rfl rfl rfl) (.cons_cons _ (List.nil_sublist _))
      · skip
        refine tk_skip ?_
        refine tk_in_normal ?_
        refine tk_then ?_
        refine tk_seq ?_
        refine tk_region ?_
        refine tk_q rfl rfl rfl (y_move rfl) ?_
        refine tk_q rfl rfl rfl (y_lenRN (n' := b.length) rfl hb.1 rfl (by first | rfl | (rw [List.length_map]; omega) | simp)) ?_
        refine tk_q rfl rfl rfl (y_subN (a := b.length) (b := 32) rfl rfl (by omega)) ?_
        refine tk_q rfl rfl rfl (y_assign rfl) ?_
        refine tk_nil ?_
        refine tk_then ?_
        refine tk_seq ?_
        refine tk_drawH [cel b4 (hk.map B ++ (mk.map B)) 36] [] (by kernel_rfl) ?_
        refine tx_q 0 rfl (by kernel_rfl) rfl rfl rfl (fun _ _ _ h => h) (y_move rfl) ?_
        refine tx_q 1 rfl (by kernel_rfl) rfl rfl rfl (fun _ _ _ h => h) (y_cutRBh (l := b) 16 rfl rfl hb.1 (by kernel_rfl) lenP rfl) ?_
        refine tx_q 2 rfl (by kernel_rfl) rfl rfl rfl (fun _ _ _ h => h) (y_move rfl) ?_
        refine tx_q 3 rfl (by kernel_rfl) rfl rfl rfl (fun _ _ _ h => h) (y_move rfl) ?_
        refine tx_q 4 rfl (by kernel_rfl) rfl rfl rfl (fun _ _ _ h => h) (y_cutRBlh (l := b) 16 (b.length - 32) rfl rfl rfl hb.1 (by kernel_rfl) ⟨lenP, lenP⟩ rfl rfl) ?_
        refine tx_q 5 rfl (by kernel_rfl) rfl rfl rfl (fun _ _ _ h => h) (y_assign rfl) ?_
        refine tx_q 6 rfl (by kernel_rfl) rfl rfl rfl (fun _ _ _ h => h) (y_assign rfl) ?_
        refine tx_done (by kernel_rfl) ?_
        refine tk_then ?_
        refine tk_seq ?_
        refine tk_seq ?_
        refine tk_region ?_
        refine tk_q rfl rfl rfl (y_loadA 64 rfl (by kernel_rfl) lenP (hcw (.head _))) ?_
        refine tk_q rfl rfl rfl (y_move rfl) ?_
        refine tk_q rfl rfl rfl (y_move rfl) ?_
        refine tk_q rfl rfl rfl (y_move rfl) ?_
        refine tk_q rfl rfl rfl (y_move rfl) ?_
        refine tk_act rfl ?_; refine a_callv [] _ rfl (by kernel_rfl) rfl (fun w' hw' => mark_spec (hk := hk) (mk := mk) (kind := kind) (name := name) (N := b.take 16) (h := (b.drop 16).take ((b.length - 32) - 16)) (Ro.cutBh (Ro.call (H0 := []) hb hw') (hi := 16) lenP) (Ro.cutB (Ro.call (H0 := []) hb hw') (lo := 16) (hi := b.length - 32) ⟨lenP, lenP⟩) ⟨lenP, lenP⟩ (hg.call hw') ⟨lenP, lenP, lenP⟩) rfl fun _ _ => ?_
        refine tk_act rfl ?_; refine a_allocL (cs := (List.replicate 32 0).map B) (by kernel_rfl) rfl fun b13 => ?_
        refine tk_act rfl ?_; refine a_storeW (H1 := []) (vs := (markL mk kind name (b.take 16) ((b.drop 16).take ((b.length - 32) - 16))).map B) 32 rfl rfl (by kernel_rfl) rfl ⟨lenP, lenP⟩ oneB ?_
        refine tk_nil ?_
        refine tk_then ?_
        refine tk_seq ?_
        refine tk_drawH [cel b13 ((markL mk kind name (b.take 16) ((b.drop 16).take ((b.length - 32) - 16))).map B) 22, cel b4 (hk.map B ++ (mk.map B)) 36] [] (by kernel_rfl) ?_
        refine tx_q 0 rfl (by kernel_rfl) rfl rfl rfl (fun _ _ _ h => h) (y_cutA (m := 32) (sz := 1) rfl (by kernel_rfl)) ?_
        refine tx_q 1 rfl (by kernel_rfl) rfl rfl rfl (fun _ _ _ h => h) (y_move rfl) ?_
        refine tx_q 2 rfl (by kernel_rfl) rfl rfl rfl (fun _ _ _ h => h) (y_move rfl) ?_
        refine tx_q 3 rfl (by kernel_rfl) rfl rfl rfl (fun _ _ _ h => h) (y_cutRBl (l := b) (b.length - 32) rfl rfl hb.1 (by kernel_rfl) lenP rfl) ?_
        refine tx_a 4 rfl (by kernel_rfl) rfl ?_; refine a_slitN (vs := [cutR bv (b.length - 32) b.length]) rfl (List.forall_mem_cons.2 ⟨(RdS.one (RdS.cutBl hb.1 (lo := b.length - 32) lenP)), (fun _ h => nomatch h)⟩) (EL45) rfl rfl (by decide) fun b48 => ?_
        refine tk_S (fun _ h => h.sub (.cons _ (List.Sublist.refl _))) ?_
        refine tx_more [cel b48 ([cutR bv (b.length - 32) b.length]) 26, cel b13 ((markL mk kind name (b.take 16) ((b.drop 16).take ((b.length - 32) - 16))).map B) 22, cel b4 (hk.map B ++ (mk.map B)) 36] (fun _ h => h.sub (.cons _ (List.Sublist.refl _))) (fun _ h => h.sub (List.Sublist.refl _)) ?_
        refine tx_a 5 rfl (by kernel_rfl) rfl ?_; refine a_callv [] _ rfl (by kernel_rfl) rfl (fun w' hw' => same1_spec (l := markL mk kind name (b.take 16) ((b.drop 16).take ((b.length - 32) - 16))) (m := b.drop (b.length - 32)) (u2 := cutR bv (b.length - 32) b.length) (Ro.cel (H0 := []) (b := b13) (o := 0) (m := 32) (cp := 32) (vs := (markL mk kind name (b.take 16) ((b.drop 16).take ((b.length - 32) - 16))).map B) hw' (.tail _ (.head _)) (dsW) (by first | rfl | (simp; done) | (simp; omega)) (by first | omega | (simp; done) | (simp; omega))) (Ro.cel (vs := [cutR bv (b.length - 32) b.length]) hw' (.head _) (by first | rfl | simp) rfl (by decide)) (List.forall_mem_cons.2 ⟨(Ro.cutBl (Ro.call (H0 := []) hb hw') (lo := b.length - 32) lenP), (fun _ h => nomatch h)⟩) ⟨lenP, lenP⟩) rfl fun _ _ => ?_
        refine tk_S (fun _ h => h.sub (List.Sublist.refl _)) ?_
        refine tk_re 49 (.bool (decide (b.drop (b.length - 32) = markL mk kind name (b.take 16) ((b.drop 16).take ((b.length - 32) - 16))))) (.bool (decide (markL mk kind name (b.take 16) ((b.drop 16).take (b.length - 32 - 16)) = b.drop (b.length - 32)))) rfl (congrArg Value.bool (decide_eq_decide.2 eq_comm)) ?_
        refine tx_q 6 rfl (by kernel_rfl) rfl rfl rfl (fun _ _ _ h => h) (y_not rfl) ?_
        refine tx_done (by kernel_rfl) ?_
        refine tk_then ?_
        refine tk_cond rfl (fun ht50 => ?_) (fun ht50 => ?_)
        · skip
          have hno : ¬ markL mk kind name (b.take 16) ((b.drop 16).take (b.length - 32 - 16)) = b.drop (b.length - 32) := by simpa using ht50
          refine tk_seq ?_
          refine tk_region ?_
          refine tk_q rfl rfl rfl (y_assign rfl) ?_
          refine tk_q rfl rfl rfl (y_assign rfl) ?_
          refine tk_nil ?_
          refine tk_then ?_
          refine tk_retc ?_
          refine tk_then_ret ?_
          refine tk_ownM0 (f := B) 5 ?_
          refine tk_H [own (.slice none 0 0) (((openF hk mk kind name b).1).length) (((openF hk mk kind name b).1).map B) 5 1, cel b48 ([cutR bv (b.length - 32) b.length]) 26, cel b13 ((markL mk kind name (b.take 16) ((b.drop 16).take ((b.length - 32) - 16))).map B) 22, cel b4 (hk.map B ++ (mk.map B)) 36] (congrArg (fun z_ => [z_, cel b48 ([cutR bv (b.length - 32) b.length]) 26, cel b13 ((markL mk kind name (b.take 16) ((b.drop 16).take ((b.length - 32) - 16))).map B) 22, cel b4 (hk.map B ++ (mk.map B)) 36]) (show own (.slice none 0 0) ([].length) ([].map B) 5 1 = own (.slice none 0 0) (((openF hk mk kind name b).1).length) (((openF hk mk kind name b).1).map B) 5 1 from ownM_cast (by rw [openF_no (by omega) (by omega) hno]))) ?_
          refine tk_re 9 (I 10) (I (((openF hk mk kind name b).2 : Nat) : Int)) rfl (by rw [openF_no (by omega) (by omega) hno]; rfl) ?_
          exact tk_ret (.slice none 0 0) (trivial) (.inl rfl) (r2 rfl rfl rfl) (.cons_cons _ (List.nil_sublist _))
        · skip
          have hyes : markL mk kind name (b.take 16) ((b.drop 16).take (b.length - 32 - 16)) = b.drop (b.length - 32) := by simpa using ht50
          refine tk_skip ?_
          refine tk_then ?_
          refine tk_seq ?_
          refine tk_region ?_
          refine tk_q rfl rfl rfl (y_loadA 64 rfl (by kernel_rfl) lenP (hcw (.tail _ (.tail _ (.head _))))) ?_
          refine tk_q rfl rfl rfl (y_move rfl) ?_
          refine tk_act rfl ?_; refine a_callv [] _ rfl (by kernel_rfl) rfl (fun w' hw' => flow_spec (hk := hk) (mk := mk) (N := b.take 16) (Ro.cutBh (Ro.call (H0 := []) hb hw') (hi := 16) lenP) lenP lenP) rfl fun ⟨f54, k54⟩ _ => ?_
          refine tk_q rfl rfl rfl (y_move rfl) ?_
          refine tk_q rfl rfl rfl (y_extract rfl rfl) ?_
          refine tk_q rfl rfl rfl (y_extract rfl rfl) ?_
          refine tk_q rfl rfl rfl (y_assign rfl) ?_
          refine tk_q rfl rfl rfl (y_assign rfl) ?_
          refine tk_nil ?_
          refine tk_then ?_
          refine tk_seq ?_
          refine tk_seq ?_
          refine tk_region ?_
          refine tk_q rfl rfl rfl (y_move rfl) ?_
          refine tk_q rfl rfl rfl ((y_neq rfl rfl).cast (bool_f (by decide))) ?_
          refine tk_nil ?_
          refine tk_then ?_
          refine tk_cond0 rfl ?_
          refine tk_skip ?_
          refine tk_then ?_
          refine tk_seq ?_
          refine tk_region ?_
          refine tk_q rfl rfl rfl (y_move rfl) ?_
          refine tk_q rfl rfl rfl (y_move rfl) ?_
          refine tk_act rfl ?_; refine a_slitN (vs := [cutR bv 16 (b.length - 32)]) rfl (List.forall_mem_cons.2 ⟨(RdS.one (RdS.cutB hb.1 (lo := 16) (hi := b.length - 32) ⟨lenP, lenP⟩)), (fun _ h => nomatch h)⟩) (EL45) rfl rfl (by decide) fun b62 => ?_
          refine tk_act rfl ?_
          refine tk_perm _ (.trans (.cons _ (.trans (.cons _ (List.Perm.refl _)) (.swap _ _ _))) (.swap _ _ _)) ?_
          refine tk_perm _ (.trans (.cons _ (.trans (.cons _ (List.Perm.refl _)) (.swap _ _ _))) (.swap _ _ _)) ?_
          refine a_callv [] _ rfl (by kernel_rfl) rfl (fun w' hw' => hide_ro (hk := hk) (N := (b.take 16)) (ps := [(cutR bv 16 (b.length - 32), (b.drop 16).take ((b.length - 32) - 16))]) (L := (b.drop 16).take ((b.length - 32) - 16)) lenP lenP (Ro.cel (vs := [cutR bv 16 (b.length - 32)]) hw' (.head _) (by first | rfl | simp) rfl (by decide)) (List.forall_mem_cons.2 ⟨(Ro.cutB (Ro.call hb hw') (lo := 16) (hi := b.length - 32) ⟨lenP, lenP⟩), (fun _ h => nomatch h)⟩) (by simp) lenP lenP (St.pre hw')) rfl fun v63 _ => ?_
          refine tk_q rfl rfl rfl (y_assign rfl) ?_
          refine tk_q rfl rfl rfl (y_assign rfl) ?_
          refine tk_nil ?_
          refine tk_then ?_
          refine tk_retc ?_
          refine tk_H [own v63 (((openF hk mk kind name b).1).length) (((openF hk mk kind name b).1).map B) 5 1, cel b62 ([cutR bv 16 (b.length - 32)]) 26, cel b48 ([cutR bv (b.length - 32) b.length]) 26, cel b13 ((markL mk kind name (b.take 16) ((b.drop 16).take ((b.length - 32) - 16))).map B) 22, cel b4 (hk.map B ++ (mk.map B)) 36] (congrArg (fun z_ => [z_, cel b62 ([cutR bv 16 (b.length - 32)]) 26, cel b48 ([cutR bv (b.length - 32) b.length]) 26, cel b13 ((markL mk kind name (b.take 16) ((b.drop 16).take ((b.length - 32) - 16))).map B) 22, cel b4 (hk.map B ++ (mk.map B)) 36]) (show own v63 ((hidL hk (b.take 16) ((b.drop 16).take ((b.length - 32) - 16))).length) ((hidL hk (b.take 16) ((b.drop 16).take ((b.length - 32) - 16))).map B) 5 1 = own v63 (((openF hk mk kind name b).1).length) (((openF hk mk kind name b).1).map B) 5 1 from ownM_cast (by rw [openF_ok (by omega) (by omega) hyes]))) ?_
          refine tk_re 9 (I 0) (I (((openF hk mk kind name b).2 : Nat) : Int)) rfl (by rw [openF_ok (by omega) (by omega) hyes]; rfl) ?_
          exact tk_ret (v63) (trivial) (.inl rfl) (r2 rfl rfl rfl) (.cons_cons _ (List.nil_sublist _))
end Go.Proofs.YtfofkjajlfphjaaDoor
