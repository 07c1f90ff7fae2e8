/- pack: the walk over the law PackFull. -/
import Derived.Test.YtfofkjajlfphjaaDoorPackF
import Derived.Test.YtfofkjajlfphjaaDoorPackFullP
set_option linter.unusedSimpArgs false
set_option linter.unusedVariables false
namespace Go.Proofs.YtfofkjajlfphjaaDoor
open Go Go.RowKit
set_option maxRecDepth 100000
attribute [local irreducible] sumL keyedL hexL hidL markL sealL sealF openF tapeL tapeN idF addQ closeQ rg bl1 bl2
theorem packFull_spec {w : World} (hg : Ro (Fs []) w glob) (size_ count_ : Int) : Spec Tryd.prog 12 [I size_, I count_] w [] (fun _ : Unit => True) (fun _ => .bool true) (fun _ => []) := by
  refine spec_of (n := 124) Tryd.func12 rfl rfl trivial trivial rfl ?_
  obtain ⟨s, hs4, hs⟩ := cntP size_ 4 (by decide)
  obtain ⟨k, hk9, hk⟩ := cntP count_ 9 (by decide)
  obtain ⟨hf1, hf2, hf3, hf0⟩ := full0 hs4
  have hb1 : (bl1 s).length = 131070 + s := bl1_len
  refine tk_seq ?_
  refine tk_region ?_
  refine tk_q rfl rfl rfl (y_assign rfl) ?_
  refine tk_nil ?_
  refine tk_then ?_
  refine tk_seq ?_
  refine tk_region ?_
  refine tk_q rfl rfl rfl (y_move rfl) ?_
  refine tk_q rfl rfl rfl (y_conv rfl rfl rfl) ?_
  refine tk_q rfl rfl rfl ((y_rem (k := .u64) rfl rfl (by decide)).cast (congrArg (Value.int .u64) hs)) ?_
  refine tk_q rfl rfl rfl (y_convi64 (m := s) rfl rfl rfl (wrap_in (by omega) (by omega))) ?_
  refine tk_q rfl rfl rfl (y_addN (a := 131070) (b := s) rfl rfl (by omega)) ?_
  refine tk_q rfl rfl rfl (y_assign rfl) ?_
  refine tk_nil ?_
  refine tk_then ?_
  refine tk_seq ?_
  refine tk_region ?_
  refine tk_act rfl ?_; refine a_callv [] _ rfl (by kernel_rfl) rfl (fun w' hw' => writers_spec (n := 3)) rfl fun ⟨wb, tb, tvv, mb⟩ _ => ?_
  refine tk_q rfl rfl rfl (y_move rfl) ?_
  refine tk_q rfl rfl rfl (y_extract rfl rfl) ?_
  refine tk_q rfl rfl rfl (y_extract rfl rfl) ?_
  refine tk_q rfl rfl rfl (y_assign rfl) ?_
  refine tk_q rfl rfl rfl (y_assign rfl) ?_
  refine tk_nil ?_
  refine tk_then ?_
  refine tk_seq ?_
  refine tk_region ?_
  refine tk_ownM0 (f := B) 5 ?_
  refine tk_ownM0 (f := B) 5 ?_
  refine tk_ownA0 (f := entC) 35 91 ?_
  refine tk_ownA0 (f := entC) 35 130 ?_
  refine tk_H [own (.slice none 0 0) (([] : List Ent).length) (([] : List Ent).flatMap entC) 130 35, own (.slice none 0 0) (([] : List Ent).length) (([] : List Ent).flatMap entC) 91 35, own (.slice none 0 0) (((tapeL [3] 0).drop 0).length) (((tapeL [3] 0).drop 0).map B) 5 1, own (.slice none 0 0) (([] : List UInt8).length) (([] : List UInt8).map B) 5 1, cel wb ((rg 3 1).map B ++ ((rg 3 2).map B ++ ((rg 3 3).map B ++ ([Value.pointer (some ⟨tb, 0, none⟩), .slice none 0 0, .slice none 0 0])))) 117, cel tb ([tvv, .int .u64 (((0 : Nat) : Nat) : Int), .slice none 0 0]) 160, own tvv ([3].length) ([3].map B) 5 1, cel mb ((rg 3 1).map B ++ ((rg 3 2).map B ++ ((rg 3 3).map B ++ ([Str [3], I 0, Str [], .slice none 0 0])))) 86] (congrArg (fun z_ => [own (.slice none 0 0) (([] : List Ent).length) (([] : List Ent).flatMap entC) 130 35, own (.slice none 0 0) (([] : List Ent).length) (([] : List Ent).flatMap entC) 91 35, z_, own (.slice none 0 0) (([] : List UInt8).length) (([] : List UInt8).map B) 5 1, cel wb ((rg 3 1).map B ++ ((rg 3 2).map B ++ ((rg 3 3).map B ++ ([Value.pointer (some ⟨tb, 0, none⟩), .slice none 0 0, .slice none 0 0])))) 117, cel tb ([tvv, .int .u64 (((0 : Nat) : Nat) : Int), .slice none 0 0]) 160, own tvv ([3].length) ([3].map B) 5 1, cel mb ((rg 3 1).map B ++ ((rg 3 2).map B ++ ((rg 3 3).map B ++ ([Str [3], I 0, Str [], .slice none 0 0])))) 86]) (show own (.slice none 0 0) (([] : List UInt8).length) (([] : List UInt8).map B) 5 1 = own (.slice none 0 0) (((tapeL [3] 0).drop 0).length) (((tapeL [3] 0).drop 0).map B) 5 1 from ownM_cast (by simp [tapeL_0]))) ?_
  skip
  refine tk_drop (.cons_cons _ (.cons_cons _ (.cons_cons _ (.cons_cons _ (.cons_cons _ (.cons_cons _ (.cons_cons _ (List.nil_sublist _)))))))) ?_
  refine tk_q rfl rfl rfl (y_move rfl) ?_
  refine tk_q rfl rfl rfl (y_move rfl) ?_
  refine tk_act rfl ?_; refine a_makeM (f := B) (z := 0) (m := 131070 + s) rfl rfl MK26 rfl rfl ⟨lenP, lenP⟩ fun b32 => ?_
  refine tk_act rfl ?_; refine a_slitN (vs := [.slice (some ⟨b32, 0, none⟩) (131070 + s) (131070 + s)]) rfl (List.forall_mem_cons.2 ⟨rfl, (fun _ h => nomatch h)⟩) (EL45) rfl rfl (by decide) fun b33 => ?_
  refine tk_act rfl ?_
  refine tk_perm _ (.trans (.cons _ (.trans (.cons _ (.trans (.cons _ (.trans (.cons _ (List.Perm.refl _)) (.swap _ _ _))) (.swap _ _ _))) (.swap _ _ _))) (.swap _ _ _)) ?_
  refine tk_perm _ (.trans (.cons _ (.trans (.cons _ (.trans (.cons _ (.trans (.cons _ (.trans (.cons _ (.trans (.cons _ (.trans (.cons _ (.trans (.cons _ (List.Perm.refl _)) (.swap _ _ _))) (.swap _ _ _))) (.swap _ _ _))) (.swap _ _ _))) (.swap _ _ _))) (.swap _ _ _))) (.swap _ _ _))) (.swap _ _ _)) ?_
  refine tk_perm _ (.trans (.cons _ (.trans (.cons _ (.trans (.cons _ (.trans (.cons _ (.trans (.cons _ (.trans (.cons _ (.trans (.cons _ (.trans (.cons _ (List.Perm.refl _)) (.swap _ _ _))) (.swap _ _ _))) (.swap _ _ _))) (.swap _ _ _))) (.swap _ _ _))) (.swap _ _ _))) (.swap _ _ _))) (.swap _ _ _)) ?_
  refine tk_perm _ (.trans (.cons _ (.trans (.cons _ (.trans (.cons _ (.trans (.cons _ (.trans (.cons _ (.trans (.cons _ (List.Perm.refl _)) (.swap _ _ _))) (.swap _ _ _))) (.swap _ _ _))) (.swap _ _ _))) (.swap _ _ _))) (.swap _ _ _)) ?_
  refine tk_perm _ (.trans (.cons _ (.trans (.cons _ (.trans (.cons _ (.trans (.cons _ (.trans (.cons _ (.trans (.cons _ (.trans (.cons _ (List.Perm.refl _)) (.swap _ _ _))) (.swap _ _ _))) (.swap _ _ _))) (.swap _ _ _))) (.swap _ _ _))) (.swap _ _ _))) (.swap _ _ _)) ?_
  refine tk_perm _ (.trans (.cons _ (.trans (.cons _ (.trans (.cons _ (.trans (.cons _ (.trans (.cons _ (.trans (.cons _ (.trans (.cons _ (.trans (.cons _ (List.Perm.refl _)) (.swap _ _ _))) (.swap _ _ _))) (.swap _ _ _))) (.swap _ _ _))) (.swap _ _ _))) (.swap _ _ _))) (.swap _ _ _))) (.swap _ _ _)) ?_
  refine a_callv [] _ rfl (by kernel_rfl) rfl (fun w' hw' => add_spec (hk := rg 3 1) (mk := rg 3 2) (nk := rg 3 3) (bg := [3]) (sb := []) (sl := []) (wb := wb) (tb := tb) (c := (0 : Nat)) (p := 0) (wbv := (.slice none 0 0)) (wlv := (.slice none 0 0)) (tvv := tvv) (tlv := (.slice none 0 0)) (kind := 1) (b := (bl1 s)) (ps := [(.slice (some ⟨b32, 0, none⟩) (131070 + s) (131070 + s), List.replicate (131070 + s) 0)]) (q := (addQ 3 ⟨[], [], 0⟩ 1 (bl1 s))) addQ_def ⟨lenP, lenP, lenP⟩ ⟨lenP, lenP⟩ lenP lenP lenP lenP (Ro.cel (vs := [.slice (some ⟨b32, 0, none⟩) (131070 + s) (131070 + s)]) hw' (.head _) (by first | rfl | simp) rfl (by decide)) (List.forall_mem_cons.2 ⟨(Ro.cel (b := b32) (o := 0) (m := 131070 + s) (cp := 131070 + s) (vs := (List.replicate (131070 + s) 0).map B) hw' (.tail _ (.head _)) (dsW) (by first | rfl | exact lenP | (simp; omega)) lenP), (fun _ h => nomatch h)⟩) (by simp [bl1]) ⟨lenP, lenP⟩ (hg.call hw') (St.pre hw')) rfl fun ⟨c34, tl34, wv34, wl34⟩ hx34 => ?_
  try dsimp only at hx34 ⊢
  have hqn34 : ((addQ 3 ⟨[], [], 0⟩ 1 (bl1 s)).1.1).length = 32 := addQ_len
  refine tk_own1 (.tail _ (.head _)) fun hfb34 => ?_
  refine tk_ownA (.tail _ (.tail _ (.head _))) fun hfl34 => ?_
  have hnn := hf0.n
  have hpp := hf0.p
  have hqb := hf0.w.b
  obtain ⟨e0, he0⟩ : ∃ e, e = (addQ 3 ⟨[], [], 0⟩ 1 (bl1 s)).1.2.2 := ⟨_, rfl⟩
  rw [← he0] at hf2 hf3
  refine tk_re 34 (.tuple #[.agg (((addQ 3 ⟨[], [], 0⟩ 1 (bl1 s)).1.1).map B).toArray, .bool ((addQ 3 ⟨[], [], 0⟩ 1 (bl1 s)).1.2.1), I (((addQ 3 ⟨[], [], 0⟩ 1 (bl1 s)).1.2.2 : Nat) : Int)]) (.tuple #[.agg (((addQ 3 ⟨[], [], 0⟩ 1 (bl1 s)).1.1).map B).toArray, .bool (decide (s < 3)), I ((e0 : Nat) : Int)]) rfl (by rw [hf1, he0]) ?_
  refine tk_q rfl rfl rfl (y_move rfl) ?_
  refine tk_q rfl rfl rfl (y_extract rfl rfl) ?_
  refine tk_q rfl rfl rfl (y_extract rfl rfl) ?_
  refine tk_q rfl rfl rfl (y_extract rfl rfl) ?_
  refine tk_act rfl ?_; refine a_allocL (cs := (List.replicate 32 0).map B) (by kernel_rfl) rfl fun b7 => ?_
  refine tk_act rfl ?_; refine a_storeW (H1 := []) (vs := ((addQ 3 ⟨[], [], 0⟩ 1 (bl1 s)).1.1).map B) 32 rfl rfl (by kernel_rfl) rfl ⟨lenP, lenP⟩ oneB ?_
  refine tk_q rfl rfl rfl (y_assign rfl) ?_
  refine tk_q rfl rfl rfl (y_assign rfl) ?_
  refine tk_nil ?_
  refine tk_then ?_
  refine tk_seq ?_
  refine tk_seq ?_
  refine tk_region ?_
  refine tk_act rfl ?_; refine a_callv [] _ rfl (by kernel_rfl) rfl (fun w' hw' => packs_spec (hg.call hw')) rfl fun _ _ => ?_
  refine tk_q rfl rfl rfl (y_not rfl) ?_
  refine tk_q rfl rfl rfl (y_move rfl) ?_
  refine tk_gq rfl rfl rfl (y_move rfl) ?_
  refine tk_gq rfl rfl rfl (y_move rfl) ?_
  refine tk_gq rfl rfl rfl (y_leq rfl rfl) ?_
  refine tk_gqe (.bool false) rfl rfl rfl (y_neB (a := decide (s < 3)) (b := decide (((131070 + s : Nat) : Int) ≤ (131072 : Int))) rfl rfl rfl) (congrArg Value.bool (bne_iff (by omega))) ?_
  refine tk_q rfl rfl rfl (y_pick0 rfl rfl) ?_
  refine tk_q rfl rfl rfl (y_move rfl) ?_
  refine tk_gq rfl rfl rfl (y_move rfl) ?_
  refine tk_gq rfl rfl rfl (y_eql rfl rfl) ?_
  refine tk_gq rfl rfl rfl (y_move rfl) ?_
  refine tk_gq rfl rfl rfl (y_gtr rfl rfl) ?_
  refine tk_gqe (.bool false) rfl rfl rfl (y_neB (a := decide (((e0 : Nat) : Int) = (4 : Int))) (b := decide ((131072 : Int) < ((131070 + s : Nat) : Int))) rfl rfl rfl) (congrArg Value.bool (bne_iff (by omega))) ?_
  refine tk_q rfl rfl rfl (y_pick0 rfl rfl) ?_
  refine tk_nil ?_
  refine tk_then ?_
  refine tk_cond0 rfl ?_
  refine tk_skip ?_
  refine tk_then ?_
  refine tk_seq ?_
  refine tk_region ?_
  refine tk_q rfl rfl rfl (y_move rfl) ?_
  refine tk_q rfl rfl rfl (y_conv rfl rfl rfl) ?_
  refine tk_q rfl rfl rfl ((y_rem (k := .u64) rfl rfl (by decide)).cast (congrArg (Value.int .u64) hk)) ?_
  refine tk_q rfl rfl rfl (y_convi64 (m := k) rfl rfl rfl (wrap_in (by omega) (by omega))) ?_
  refine tk_q rfl rfl rfl (y_assign rfl) ?_
  refine tk_nil ?_
  refine tk_then ?_
  refine tk_seq ?_
  refine tk_region ?_
  refine tk_q rfl rfl rfl (y_move rfl) ?_
  refine tk_act rfl ?_
  refine tk_perm _ (.trans (.cons _ (.trans (.cons _ (.trans (.cons _ (List.Perm.refl _)) (.swap _ _ _))) (.swap _ _ _))) (.swap _ _ _)) ?_
  refine tk_perm _ (.trans (.cons _ (.trans (.cons _ (.trans (.cons _ (List.Perm.refl _)) (.swap _ _ _))) (.swap _ _ _))) (.swap _ _ _)) ?_
  refine tk_perm _ (.trans (.cons _ (.trans (.cons _ (.trans (.cons _ (List.Perm.refl _)) (.swap _ _ _))) (.swap _ _ _))) (.swap _ _ _)) ?_
  refine a_callv [] _ rfl (by kernel_rfl) rfl (fun w' hw' => count_spec (hk := rg 3 1) (mk := rg 3 2) (nk := rg 3 3) (sb := (addQ 3 ⟨[], [], 0⟩ 1 (bl1 s)).2.b) (sl := (addQ 3 ⟨[], [], 0⟩ 1 (bl1 s)).2.l) (wb := wb) (tb := tb) (wbv := wv34) (wlv := wl34) ⟨lenP, lenP, lenP⟩ (St.pre hw')) rfl fun _ _ => ?_
  refine tk_q rfl rfl rfl (y_move rfl) ?_
  refine tk_act rfl ?_; refine a_callv [] _ rfl (by kernel_rfl) rfl (fun w' hw' => size_spec (hk := rg 3 1) (mk := rg 3 2) (nk := rg 3 3) (sb := (addQ 3 ⟨[], [], 0⟩ 1 (bl1 s)).2.b) (sl := (addQ 3 ⟨[], [], 0⟩ 1 (bl1 s)).2.l) (wb := wb) (tb := tb) (wbv := wv34) (wlv := wl34) ⟨lenP, lenP, lenP⟩ (St.pre hw')) rfl fun _ _ => ?_
  refine tk_q rfl rfl rfl (y_assign rfl) ?_
  refine tk_q rfl rfl rfl (y_assign rfl) ?_
  refine tk_nil ?_
  refine tk_then ?_
  refine tk_seq ?_
  refine tk_seq ?_
  refine tk_region ?_
  refine tk_q rfl rfl rfl (y_assign rfl) ?_
  refine tk_nil ?_
  refine tk_then ?_
  refine tk_block ?_
  refine tk_loop (X := Nat × WSt × Nat × Value × Value × Value) (fun (i, q, c, tlv, wbv, wlv) => i ≤ k ∧ FInv s i q ∧ (q.p ≤ 32 * c ∧ 32 * c < q.p + 32)) (fun (i, q, c, tlv, wbv, wlv) => [(0, I ((131070 + s : Nat) : Int)), (1, I ((k : Nat) : Int)), (5, .pointer (some ⟨wb, 0, none⟩)), (10, I ((q.l.length : Nat) : Int)), (11, I ((q.b.length : Nat) : Int)), (12, I ((i : Nat) : Int))]) (fun (i, q, c, tlv, wbv, wlv) => [cel wb ((rg 3 1).map B ++ ((rg 3 2).map B ++ ((rg 3 3).map B ++ ([Value.pointer (some ⟨tb, 0, none⟩), wbv, wlv])))) 117, own wbv q.b.length (q.b.map B) 5 1, own wlv q.l.length (q.l.flatMap entC) 91 35, cel tb ([tvv, .int .u64 ((c : Nat) : Int), tlv]) 160, own tvv ([3].length) ([3].map B) 5 1, own tlv (((tapeL [3] c).drop q.p).length) (((tapeL [3] c).drop q.p).map B) 5 1]) (fun (i, q, c, tlv, wbv, wlv) => k - i) ((0, (addQ 3 ⟨[], [], 0⟩ 1 (bl1 s)).2, c34, tl34, wv34, wl34)) (⟨Nat.zero_le _, hf0, hx34⟩) (by repeat (first | exact trivial | refine ⟨rfl, ?_⟩)) ((.cons_cons _ (.cons_cons _ (.cons_cons _ (.cons _ (.cons_cons _ (.cons_cons _ (.cons_cons _ (List.nil_sublist _))))))))) ?_
  rintro ⟨i, q, c, tlv, wbv, wlv⟩ hI
  try dsimp only at hI ⊢
  obtain ⟨hi1, hq, hcc⟩ := hI
  have hnn := hq.n
  have hpp := hq.p
  have hqb := hq.w.b
  refine tk_own1 (.tail _ (.head _)) fun hfb => ?_
  refine tk_ownA (.tail _ (.tail _ (.head _))) fun hfl => ?_
  refine tk_seq ?_
  refine tk_seq ?_
  refine tk_region ?_
  refine tk_q rfl rfl rfl (y_move rfl) ?_
  refine tk_q rfl rfl rfl (y_move rfl) ?_
  refine tk_q rfl rfl rfl (y_lss rfl rfl) ?_
  refine tk_nil ?_
  refine tk_then ?_
  refine tk_condP rfl (fun ht63 => ?_) (fun ht63 => ?_)
  · skip
    refine tk_skip ?_
    refine tk_then ?_
    refine tk_seq ?_
    refine tk_block ?_
    refine tk_seq ?_
    refine tk_region ?_
    have hb2 : (bl2 i).length = 131072 := bl2_len
    obtain ⟨hg1, hg2, hg3, hg4⟩ := full_step hs4 (by omega) hq
    refine tk_q rfl rfl rfl (y_move rfl) ?_
    refine tk_act rfl ?_; refine a_makeM (f := B) (z := 0) (m := 131071) rfl rfl MK26 rfl rfl ⟨lenP, lenP⟩ fun b68 => ?_
    obtain ⟨zz, hzz⟩ : ∃ l : List UInt8, l = List.replicate 131071 0 := ⟨_, rfl⟩
    have hzl : zz.length = 131071 := by rw [hzz]; exact List.length_replicate
    refine tk_H [cel b68 (zz.map B) 5, cel wb ((rg 3 1).map B ++ ((rg 3 2).map B ++ ((rg 3 3).map B ++ ([Value.pointer (some ⟨tb, 0, none⟩), wbv, wlv])))) 117, own wbv q.b.length (q.b.map B) 5 1, own wlv q.l.length (q.l.flatMap entC) 91 35, cel tb ([tvv, .int .u64 ((c : Nat) : Int), tlv]) 160, own tvv ([3].length) ([3].map B) 5 1, own tlv (((tapeL [3] c).drop q.p).length) (((tapeL [3] c).drop q.p).map B) 5 1] (congrArg (fun z_ => [cel b68 z_ 5, cel wb ((rg 3 1).map B ++ ((rg 3 2).map B ++ ((rg 3 3).map B ++ ([Value.pointer (some ⟨tb, 0, none⟩), wbv, wlv])))) 117, own wbv q.b.length (q.b.map B) 5 1, own wlv q.l.length (q.l.flatMap entC) 91 35, cel tb ([tvv, .int .u64 ((c : Nat) : Int), tlv]) 160, own tvv ([3].length) ([3].map B) 5 1, own tlv (((tapeL [3] c).drop q.p).length) (((tapeL [3] c).drop q.p).map B) 5 1]) (show (List.replicate 131071 0).map B = zz.map B from by rw [hzz])) ?_
    refine tk_q rfl rfl rfl (y_move rfl) ?_
    refine tk_q rfl rfl rfl (y_addN (a := i) (b := 1) rfl rfl (by omega)) ?_
    refine tk_q rfl rfl rfl (y_convi8 (m := i + 1) rfl rfl rfl) ?_
    refine tk_act rfl ?_; refine a_slitN (vs := [B (UInt8.ofNat (i + 1))]) rfl (List.forall_mem_cons.2 ⟨rfl, (fun _ h => nomatch h)⟩) (EL26) rfl rfl (by decide) fun b72 => ?_
    refine tk_act rfl ?_; refine a_slitN (vs := [.slice (some ⟨b68, 0, none⟩) 131071 131071, .slice (some ⟨b72, 0, none⟩) 1 1]) rfl (List.forall_mem_cons.2 ⟨rfl, (List.forall_mem_cons.2 ⟨rfl, (fun _ h => nomatch h)⟩)⟩) (EL45) rfl rfl (by decide) fun b73 => ?_
    refine tk_act rfl ?_
    refine tk_perm _ (.trans (.cons _ (.trans (.cons _ (.trans (.cons _ (.trans (.cons _ (.trans (.cons _ (.trans (.cons _ (.trans (.cons _ (.trans (.cons _ (List.Perm.refl _)) (.swap _ _ _))) (.swap _ _ _))) (.swap _ _ _))) (.swap _ _ _))) (.swap _ _ _))) (.swap _ _ _))) (.swap _ _ _))) (.swap _ _ _)) ?_
    refine tk_perm _ (.trans (.cons _ (.trans (.cons _ (.trans (.cons _ (.trans (.cons _ (.trans (.cons _ (.trans (.cons _ (.trans (.cons _ (.trans (.cons _ (List.Perm.refl _)) (.swap _ _ _))) (.swap _ _ _))) (.swap _ _ _))) (.swap _ _ _))) (.swap _ _ _))) (.swap _ _ _))) (.swap _ _ _))) (.swap _ _ _)) ?_
    refine tk_perm _ (.trans (.cons _ (.trans (.cons _ (.trans (.cons _ (.trans (.cons _ (.trans (.cons _ (.trans (.cons _ (.trans (.cons _ (.trans (.cons _ (List.Perm.refl _)) (.swap _ _ _))) (.swap _ _ _))) (.swap _ _ _))) (.swap _ _ _))) (.swap _ _ _))) (.swap _ _ _))) (.swap _ _ _))) (.swap _ _ _)) ?_
    refine tk_perm _ (.trans (.cons _ (.trans (.cons _ (.trans (.cons _ (.trans (.cons _ (.trans (.cons _ (.trans (.cons _ (.trans (.cons _ (.trans (.cons _ (List.Perm.refl _)) (.swap _ _ _))) (.swap _ _ _))) (.swap _ _ _))) (.swap _ _ _))) (.swap _ _ _))) (.swap _ _ _))) (.swap _ _ _))) (.swap _ _ _)) ?_
    refine tk_perm _ (.trans (.cons _ (.trans (.cons _ (.trans (.cons _ (.trans (.cons _ (.trans (.cons _ (.trans (.cons _ (.trans (.cons _ (.trans (.cons _ (List.Perm.refl _)) (.swap _ _ _))) (.swap _ _ _))) (.swap _ _ _))) (.swap _ _ _))) (.swap _ _ _))) (.swap _ _ _))) (.swap _ _ _))) (.swap _ _ _)) ?_
    refine tk_perm _ (.trans (.cons _ (.trans (.cons _ (.trans (.cons _ (.trans (.cons _ (.trans (.cons _ (.trans (.cons _ (.trans (.cons _ (.trans (.cons _ (List.Perm.refl _)) (.swap _ _ _))) (.swap _ _ _))) (.swap _ _ _))) (.swap _ _ _))) (.swap _ _ _))) (.swap _ _ _))) (.swap _ _ _))) (.swap _ _ _)) ?_
    refine a_callv [] _ rfl (by kernel_rfl) rfl (fun w' hw' => add_spec (hk := rg 3 1) (mk := rg 3 2) (nk := rg 3 3) (bg := [3]) (sb := q.b) (sl := q.l) (wb := wb) (tb := tb) (c := c) (p := q.p) (wbv := wbv) (wlv := wlv) (tvv := tvv) (tlv := tlv) (kind := 2) (b := (bl2 i)) (ps := [(.slice (some ⟨b68, 0, none⟩) 131071 131071, zz), (.slice (some ⟨b72, 0, none⟩) 1 1, [UInt8.ofNat (i + 1)])]) (q := (addQ 3 q 2 (bl2 i))) addQ_def ⟨lenP, lenP, lenP⟩ ⟨lenP, lenP⟩ lenP lenP lenP lenP (Ro.cel (vs := [.slice (some ⟨b68, 0, none⟩) 131071 131071, .slice (some ⟨b72, 0, none⟩) 1 1]) hw' (.head _) (by first | rfl | simp) rfl (by decide)) (List.forall_mem_cons.2 ⟨(Ro.cel (b := b68) (o := 0) (m := 131071) (cp := 131071) (vs := zz.map B) hw' (.tail _ (.tail _ (.head _))) (dsW) (by first | rfl | exact lenP | (simp; omega)) lenP), (List.forall_mem_cons.2 ⟨(Ro.cel (b := b72) (o := 0) (m := 1) (cp := 1) (vs := [UInt8.ofNat (i + 1)].map B) hw' (.tail _ (.head _)) (rfl) (by first | rfl | exact lenP | (simp; omega)) lenP), (fun _ h => nomatch h)⟩)⟩) (by rw [bl2, ← hzz]; simp) ⟨lenP, lenP⟩ (hg.call hw') (St.pre hw')) rfl fun ⟨c74, tl74, wv74, wl74⟩ hx74 => ?_
    try dsimp only at hx74 ⊢
    have hqn74 : ((addQ 3 q 2 (bl2 i)).1.1).length = 32 := addQ_len
    refine tk_own1 (.tail _ (.head _)) fun hfb74 => ?_
    refine tk_ownA (.tail _ (.tail _ (.head _))) fun hfl74 => ?_
    obtain ⟨e1, he1⟩ : ∃ e, e = (addQ 3 q 2 (bl2 i)).1.2.2 := ⟨_, rfl⟩
    rw [← he1] at hg3 hg4
    refine tk_re 74 (.tuple #[.agg (((addQ 3 q 2 (bl2 i)).1.1).map B).toArray, .bool ((addQ 3 q 2 (bl2 i)).1.2.1), I (((addQ 3 q 2 (bl2 i)).1.2.2 : Nat) : Int)]) (.tuple #[.agg (((addQ 3 q 2 (bl2 i)).1.1).map B).toArray, .bool (decide (q.b.length ≤ 768880)), I ((e1 : Nat) : Int)]) rfl (by rw [hg1, he1]) ?_
    refine tk_q rfl rfl rfl (y_move rfl) ?_
    refine tk_q rfl rfl rfl (y_extract rfl rfl) ?_
    refine tk_q rfl rfl rfl (y_extract rfl rfl) ?_
    refine tk_q rfl rfl rfl (y_extract rfl rfl) ?_
    refine tk_act rfl ?_; refine a_allocL (cs := (List.replicate 32 0).map B) (by kernel_rfl) rfl fun b13 => ?_
    refine tk_act rfl ?_; refine a_storeW (H1 := []) (vs := ((addQ 3 q 2 (bl2 i)).1.1).map B) 32 rfl rfl (by kernel_rfl) rfl ⟨lenP, lenP⟩ oneB ?_
    refine tk_q rfl rfl rfl (y_assign rfl) ?_
    refine tk_q rfl rfl rfl (y_assign rfl) ?_
    refine tk_nil ?_
    refine tk_then ?_
    refine tk_seq ?_
    refine tk_region ?_
    refine tk_q rfl rfl rfl (y_move rfl) ?_
    refine tk_q rfl rfl rfl (y_subN (a := 900000) (b := q.b.length) rfl rfl (by omega)) ?_
    refine tk_q rfl rfl rfl (y_leq rfl rfl) ?_
    refine tk_q rfl rfl rfl (y_assign rfl) ?_
    refine tk_nil ?_
    refine tk_then ?_
    refine tk_seq ?_
    refine tk_seq ?_
    refine tk_region ?_
    refine tk_q rfl rfl rfl (y_move rfl) ?_
    refine tk_q rfl rfl rfl (y_move rfl) ?_
    refine tk_qe (.bool false) rfl rfl rfl (y_neB (a := decide (q.b.length ≤ 768880)) (b := decide ((131120 : Int) ≤ ((900000 - q.b.length : Nat) : Int))) rfl rfl rfl) (congrArg Value.bool (bne_iff (by omega))) ?_
    refine tk_q rfl rfl rfl (y_move rfl) ?_
    refine tk_gq rfl rfl rfl (y_move rfl) ?_
    refine tk_gq rfl rfl rfl (y_eql rfl rfl) ?_
    refine tk_gq rfl rfl rfl (y_move rfl) ?_
    refine tk_gq rfl rfl rfl (y_not rfl) ?_
    refine tk_gqe (.bool false) rfl rfl rfl (y_neB (a := decide (((e1 : Nat) : Int) = (8 : Int))) (b := (!decide ((131120 : Int) ≤ ((900000 - q.b.length : Nat) : Int)))) rfl rfl rfl) (congrArg Value.bool (bnen_iff (by omega))) ?_
    refine tk_q rfl rfl rfl (y_pick0 rfl rfl) ?_
    refine tk_nil ?_
    refine tk_then ?_
    refine tk_cond0 rfl ?_
    refine tk_skip ?_
    refine tk_then ?_
    refine tk_seq ?_
    refine tk_seq ?_
    refine tk_region ?_
    refine tk_q rfl rfl rfl (y_move rfl) ?_
    refine tk_nil ?_
    refine tk_then ?_
    refine tk_condP rfl (fun ht91 => ?_) (fun ht91 => ?_)
    · skip
      obtain ⟨hh1, hh2, hh3⟩ := hg3 (by omega)
      refine tk_region ?_
      refine tk_q rfl rfl rfl (y_move rfl) ?_
      refine tk_q rfl rfl rfl (y_addN (a := q.l.length) (b := 1) rfl rfl (by omega)) ?_
      refine tk_q rfl rfl rfl (y_move rfl) ?_
      refine tk_q rfl rfl rfl (y_addN (a := q.b.length) (b := 131072) rfl rfl (by omega)) ?_
      refine tk_q rfl rfl rfl (y_addN (a := q.b.length + 131072) (b := 48) rfl rfl (by omega)) ?_
      refine tk_q rfl rfl rfl (y_assign rfl) ?_
      refine tk_q rfl rfl rfl (y_assign rfl) ?_
      refine tk_nil ?_
      refine tk_then ?_
      refine tk_seq ?_
      refine tk_region ?_
      refine tk_q rfl rfl rfl (y_move rfl) ?_
      refine tk_act rfl ?_
      refine tk_perm _ (.trans (.cons _ (.trans (.cons _ (.trans (.cons _ (List.Perm.refl _)) (.swap _ _ _))) (.swap _ _ _))) (.swap _ _ _)) ?_
      refine tk_perm _ (.trans (.cons _ (.trans (.cons _ (.trans (.cons _ (List.Perm.refl _)) (.swap _ _ _))) (.swap _ _ _))) (.swap _ _ _)) ?_
      refine tk_perm _ (.trans (.cons _ (.trans (.cons _ (.trans (.cons _ (List.Perm.refl _)) (.swap _ _ _))) (.swap _ _ _))) (.swap _ _ _)) ?_
      refine a_callv [] _ rfl (by kernel_rfl) rfl (fun w' hw' => count_spec (hk := rg 3 1) (mk := rg 3 2) (nk := rg 3 3) (sb := (addQ 3 q 2 (bl2 i)).2.b) (sl := (addQ 3 q 2 (bl2 i)).2.l) (wb := wb) (tb := tb) (wbv := wv74) (wlv := wl74) ⟨lenP, lenP, lenP⟩ (St.pre hw')) rfl fun _ _ => ?_
      refine tk_q rfl rfl rfl (y_move rfl) ?_
      refine tk_qe (.bool false) rfl rfl rfl (y_neq rfl rfl) (bool_f (by omega)) ?_
      refine tk_q rfl rfl rfl (y_move rfl) ?_
      refine tk_gq rfl rfl rfl (y_move rfl) ?_
      refine tk_gact rfl ?_; refine a_callv [] _ rfl (by kernel_rfl) rfl (fun w' hw' => size_spec (hk := rg 3 1) (mk := rg 3 2) (nk := rg 3 3) (sb := (addQ 3 q 2 (bl2 i)).2.b) (sl := (addQ 3 q 2 (bl2 i)).2.l) (wb := wb) (tb := tb) (wbv := wv74) (wlv := wl74) ⟨lenP, lenP, lenP⟩ (St.pre hw')) rfl fun _ _ => ?_
      refine tk_gq rfl rfl rfl (y_move rfl) ?_
      refine tk_gqe (.bool false) rfl rfl rfl (y_neq rfl rfl) (bool_f (by omega)) ?_
      refine tk_q rfl rfl rfl (y_pick0 rfl rfl) ?_
      refine tk_nil ?_
      refine tk_then ?_
      refine tk_cond0 rfl ?_
      refine tk_skip ?_
      refine tk_in_normal ?_
      refine tk_then ?_
      refine tk_region ?_
      refine tk_q rfl rfl rfl (y_move rfl) ?_
      refine tk_q rfl rfl rfl (y_addN (a := i) (b := 1) rfl rfl (by omega)) ?_
      refine tk_q rfl rfl rfl (y_assign rfl) ?_
      refine tk_nil ?_
      refine tk_re 10 (I ((q.l.length + 1 : Nat) : Int)) (I (((addQ 3 q 2 (bl2 i)).2.l.length : Nat) : Int)) rfl (congrArg I (by omega)) ?_
      refine tk_re 11 (I (((q.b.length + 131072) + 48 : Nat) : Int)) (I (((addQ 3 q 2 (bl2 i)).2.b.length : Nat) : Int)) rfl (congrArg I (by omega)) ?_
      exact tk_again ((i + 1, (addQ 3 q 2 (bl2 i)).2, c74, tl74, wv74, wl74)) (⟨by dsimp only; omega, hg2, hx74⟩) (by dsimp only; omega) (by repeat (first | exact trivial | refine ⟨rfl, ?_⟩)) (.cons_cons _ (.cons_cons _ (.cons_cons _ (.cons _ (.cons_cons _ (.cons_cons _ (.cons_cons _ (List.nil_sublist _))))))))
    · skip
      obtain ⟨hh1, hh2, hh3⟩ := hg4 (by omega)
      refine tk_skip ?_
      refine tk_then ?_
      refine tk_seq ?_
      refine tk_region ?_
      refine tk_q rfl rfl rfl (y_move rfl) ?_
      refine tk_act rfl ?_
      refine tk_perm _ (.trans (.cons _ (.trans (.cons _ (.trans (.cons _ (List.Perm.refl _)) (.swap _ _ _))) (.swap _ _ _))) (.swap _ _ _)) ?_
      refine tk_perm _ (.trans (.cons _ (.trans (.cons _ (.trans (.cons _ (List.Perm.refl _)) (.swap _ _ _))) (.swap _ _ _))) (.swap _ _ _)) ?_
      refine tk_perm _ (.trans (.cons _ (.trans (.cons _ (.trans (.cons _ (List.Perm.refl _)) (.swap _ _ _))) (.swap _ _ _))) (.swap _ _ _)) ?_
      refine a_callv [] _ rfl (by kernel_rfl) rfl (fun w' hw' => count_spec (hk := rg 3 1) (mk := rg 3 2) (nk := rg 3 3) (sb := (addQ 3 q 2 (bl2 i)).2.b) (sl := (addQ 3 q 2 (bl2 i)).2.l) (wb := wb) (tb := tb) (wbv := wv74) (wlv := wl74) ⟨lenP, lenP, lenP⟩ (St.pre hw')) rfl fun _ _ => ?_
      refine tk_q rfl rfl rfl (y_move rfl) ?_
      refine tk_qe (.bool false) rfl rfl rfl (y_neq rfl rfl) (bool_f (by omega)) ?_
      refine tk_q rfl rfl rfl (y_move rfl) ?_
      refine tk_gq rfl rfl rfl (y_move rfl) ?_
      refine tk_gact rfl ?_; refine a_callv [] _ rfl (by kernel_rfl) rfl (fun w' hw' => size_spec (hk := rg 3 1) (mk := rg 3 2) (nk := rg 3 3) (sb := (addQ 3 q 2 (bl2 i)).2.b) (sl := (addQ 3 q 2 (bl2 i)).2.l) (wb := wb) (tb := tb) (wbv := wv74) (wlv := wl74) ⟨lenP, lenP, lenP⟩ (St.pre hw')) rfl fun _ _ => ?_
      refine tk_gq rfl rfl rfl (y_move rfl) ?_
      refine tk_gqe (.bool false) rfl rfl rfl (y_neq rfl rfl) (bool_f (by omega)) ?_
      refine tk_q rfl rfl rfl (y_pick0 rfl rfl) ?_
      refine tk_nil ?_
      refine tk_then ?_
      refine tk_cond0 rfl ?_
      refine tk_skip ?_
      refine tk_in_normal ?_
      refine tk_then ?_
      refine tk_region ?_
      refine tk_q rfl rfl rfl (y_move rfl) ?_
      refine tk_q rfl rfl rfl (y_addN (a := i) (b := 1) rfl rfl (by omega)) ?_
      refine tk_q rfl rfl rfl (y_assign rfl) ?_
      refine tk_nil ?_
      refine tk_re 10 (I ((q.l.length : Nat) : Int)) (I (((addQ 3 q 2 (bl2 i)).2.l.length : Nat) : Int)) rfl (congrArg I (by omega)) ?_
      refine tk_re 11 (I ((q.b.length : Nat) : Int)) (I (((addQ 3 q 2 (bl2 i)).2.b.length : Nat) : Int)) rfl (congrArg I (by omega)) ?_
      exact tk_again ((i + 1, (addQ 3 q 2 (bl2 i)).2, c74, tl74, wv74, wl74)) (⟨by dsimp only; omega, hg2, hx74⟩) (by dsimp only; omega) (by repeat (first | exact trivial | refine ⟨rfl, ?_⟩)) (.cons_cons _ (.cons_cons _ (.cons_cons _ (.cons _ (.cons_cons _ (.cons_cons _ (.cons_cons _ (List.nil_sublist _))))))))
  · skip
    refine tk_exit ?_
    refine tk_then_exit ?_
    refine tk_then_exit ?_
    refine tk_in_hit ?_
    refine tk_then ?_
    refine tk_seq ?_
    refine tk_seq ?_
    refine tk_region ?_
    refine tk_q rfl rfl rfl (y_move rfl) ?_
    refine tk_q rfl rfl rfl (y_leq rfl rfl) ?_
    refine tk_nil ?_
    refine tk_then ?_
    refine tk_condP rfl (fun ht108 => ?_) (fun ht108 => ?_)
    · skip
      refine tk_seq ?_
      refine tk_region ?_
      obtain ⟨he1, he2⟩ := full_end (by omega) hq
      refine tk_q rfl rfl rfl (y_move rfl) ?_
      refine tk_q rfl rfl rfl (y_move rfl) ?_
      refine tk_act rfl ?_; refine a_makeM (f := B) (z := 0) (m := 131070 + s) rfl rfl MK26 rfl rfl ⟨lenP, lenP⟩ fun b112 => ?_
      refine tk_act rfl ?_; refine a_slitN (vs := [.slice (some ⟨b112, 0, none⟩) (131070 + s) (131070 + s)]) rfl (List.forall_mem_cons.2 ⟨rfl, (fun _ h => nomatch h)⟩) (EL45) rfl rfl (by decide) fun b113 => ?_
      refine tk_act rfl ?_
      refine tk_perm _ (.trans (.cons _ (.trans (.cons _ (.trans (.cons _ (.trans (.cons _ (.trans (.cons _ (.trans (.cons _ (.trans (.cons _ (List.Perm.refl _)) (.swap _ _ _))) (.swap _ _ _))) (.swap _ _ _))) (.swap _ _ _))) (.swap _ _ _))) (.swap _ _ _))) (.swap _ _ _)) ?_
      refine tk_perm _ (.trans (.cons _ (.trans (.cons _ (.trans (.cons _ (.trans (.cons _ (.trans (.cons _ (.trans (.cons _ (.trans (.cons _ (List.Perm.refl _)) (.swap _ _ _))) (.swap _ _ _))) (.swap _ _ _))) (.swap _ _ _))) (.swap _ _ _))) (.swap _ _ _))) (.swap _ _ _)) ?_
      refine tk_perm _ (.trans (.cons _ (.trans (.cons _ (.trans (.cons _ (.trans (.cons _ (.trans (.cons _ (.trans (.cons _ (.trans (.cons _ (List.Perm.refl _)) (.swap _ _ _))) (.swap _ _ _))) (.swap _ _ _))) (.swap _ _ _))) (.swap _ _ _))) (.swap _ _ _))) (.swap _ _ _)) ?_
      refine tk_perm _ (.trans (.cons _ (.trans (.cons _ (.trans (.cons _ (.trans (.cons _ (.trans (.cons _ (.trans (.cons _ (.trans (.cons _ (List.Perm.refl _)) (.swap _ _ _))) (.swap _ _ _))) (.swap _ _ _))) (.swap _ _ _))) (.swap _ _ _))) (.swap _ _ _))) (.swap _ _ _)) ?_
      refine tk_perm _ (.trans (.cons _ (.trans (.cons _ (.trans (.cons _ (.trans (.cons _ (.trans (.cons _ (.trans (.cons _ (.trans (.cons _ (List.Perm.refl _)) (.swap _ _ _))) (.swap _ _ _))) (.swap _ _ _))) (.swap _ _ _))) (.swap _ _ _))) (.swap _ _ _))) (.swap _ _ _)) ?_
      refine tk_perm _ (.trans (.cons _ (.trans (.cons _ (.trans (.cons _ (.trans (.cons _ (.trans (.cons _ (.trans (.cons _ (.trans (.cons _ (List.Perm.refl _)) (.swap _ _ _))) (.swap _ _ _))) (.swap _ _ _))) (.swap _ _ _))) (.swap _ _ _))) (.swap _ _ _))) (.swap _ _ _)) ?_
      refine a_callv [] _ rfl (by kernel_rfl) rfl (fun w' hw' => add_spec (hk := rg 3 1) (mk := rg 3 2) (nk := rg 3 3) (bg := [3]) (sb := q.b) (sl := q.l) (wb := wb) (tb := tb) (c := c) (p := q.p) (wbv := wbv) (wlv := wlv) (tvv := tvv) (tlv := tlv) (kind := 1) (b := (bl1 s)) (ps := [(.slice (some ⟨b112, 0, none⟩) (131070 + s) (131070 + s), List.replicate (131070 + s) 0)]) (q := (addQ 3 q 1 (bl1 s))) addQ_def ⟨lenP, lenP, lenP⟩ ⟨lenP, lenP⟩ lenP lenP lenP lenP (Ro.cel (vs := [.slice (some ⟨b112, 0, none⟩) (131070 + s) (131070 + s)]) hw' (.head _) (by first | rfl | simp) rfl (by decide)) (List.forall_mem_cons.2 ⟨(Ro.cel (b := b112) (o := 0) (m := 131070 + s) (cp := 131070 + s) (vs := (List.replicate (131070 + s) 0).map B) hw' (.tail _ (.head _)) (dsW) (by first | rfl | exact lenP | (simp; omega)) lenP), (fun _ h => nomatch h)⟩) (by simp [bl1]) ⟨lenP, lenP⟩ (hg.call hw') (St.pre hw')) rfl fun ⟨c114, tl114, wv114, wl114⟩ hx114 => ?_
      try dsimp only at hx114 ⊢
      have hqn114 : ((addQ 3 q 1 (bl1 s)).1.1).length = 32 := addQ_len
      refine tk_own1 (.tail _ (.head _)) fun hfb114 => ?_
      refine tk_ownA (.tail _ (.tail _ (.head _))) fun hfl114 => ?_
      refine tk_re 114 (.tuple #[.agg (((addQ 3 q 1 (bl1 s)).1.1).map B).toArray, .bool ((addQ 3 q 1 (bl1 s)).1.2.1), I (((addQ 3 q 1 (bl1 s)).1.2.2 : Nat) : Int)]) (.tuple #[.agg (((addQ 3 q 1 (bl1 s)).1.1).map B).toArray, .bool false, I 0]) rfl (by rw [he1, he2]; first | done | rfl) ?_
      refine tk_q rfl rfl rfl (y_move rfl) ?_
      refine tk_q rfl rfl rfl (y_extract rfl rfl) ?_
      refine tk_q rfl rfl rfl (y_extract rfl rfl) ?_
      refine tk_q rfl rfl rfl (y_extract rfl rfl) ?_
      refine tk_act rfl ?_; refine a_allocL (cs := (List.replicate 32 0).map B) (by kernel_rfl) rfl fun b17 => ?_
      refine tk_act rfl ?_; refine a_storeW (H1 := []) (vs := ((addQ 3 q 1 (bl1 s)).1.1).map B) 32 rfl rfl (by kernel_rfl) rfl ⟨lenP, lenP⟩ oneB ?_
      refine tk_q rfl rfl rfl (y_assign rfl) ?_
      refine tk_q rfl rfl rfl (y_assign rfl) ?_
      refine tk_nil ?_
      refine tk_then ?_
      refine tk_seq ?_
      refine tk_region ?_
      refine tk_q rfl rfl rfl (y_move rfl) ?_
      refine tk_q rfl rfl rfl (y_not rfl) ?_
      refine tk_q rfl rfl rfl (y_move rfl) ?_
      refine tk_gq rfl rfl rfl (y_move rfl) ?_
      refine tk_gq rfl rfl rfl ((y_eql rfl rfl).cast (bool_t (by decide))) ?_
      refine tk_q rfl rfl rfl (y_pick1 rfl rfl) ?_
      refine tk_q rfl rfl rfl (y_assign rfl) ?_
      refine tk_nil ?_
      refine tk_then ?_
      refine tk_retc ?_
      refine tk_then_ret ?_
      exact tk_ret (()) (trivial) (.inl rfl) (r1 rfl rfl) (List.nil_sublist _)
    · skip
      refine tk_skip ?_
      refine tk_then ?_
      refine tk_seq ?_
      refine tk_region ?_
      refine tk_q rfl rfl rfl (y_assign rfl) ?_
      refine tk_nil ?_
      refine tk_then ?_
      refine tk_retc ?_
      exact tk_ret (()) (trivial) (.inl rfl) (r1 rfl rfl) (List.nil_sublist _)
end Go.Proofs.YtfofkjajlfphjaaDoor
