/- pack: the walk over packs; calls on no writer. -/
import Derived.Test.YtfofkjajlfphjaaDoorPackInv
set_option linter.unusedSimpArgs false
set_option linter.unusedVariables false
namespace Go.Proofs.YtfofkjajlfphjaaDoor
open Go Go.RowKit
set_option maxRecDepth 100000
theorem q0_is : closeQ 1 ⟨[], [], 0⟩ = (([], [], [], 15), ⟨[], [], 0⟩) := closeF_nil rfl
theorem q1_is : addQ 1 ⟨[], [], 0⟩ 1 [97] = ((idF (rg 1 3) 1 [97], true, 0), ⟨[] ++ sealL (rg 1 1) (rg 1 2) 1 (hexL (idF (rg 1 3) 1 [97])) (tapeN [1] 0 16) [97], [] ++ [⟨idF (rg 1 3) 1 [97], 1, 0, 49, idF_len⟩], 16⟩) := addF_ok (.inl rfl) (by decide) rfl (by decide)
theorem q2_is : addQ 1 (addQ 1 ⟨[], [], 0⟩ 1 [97]).2 1 [97] = ((idF (rg 1 3) 1 [97], false, 0), (addQ 1 ⟨[], [], 0⟩ 1 [97]).2) := addF_has (.inl rfl) (by decide) (by
  rw [q1_is]
  exact List.any_eq_true.2 ⟨_, List.mem_append_right _ (List.mem_singleton.2 rfl), decide_eq_true rfl⟩)
attribute [local irreducible] sumL keyedL hexL hidL markL sealL sealF openF tapeL tapeN idF addQ closeQ
theorem add0_spec {w : World} : Spec Tryd.prog 30 [.pointer none, I 1, .slice none 0 0] w [] (fun _ : Unit => True) (fun _ => .tuple #[Ag (List.replicate 32 0), .bool false, I 1]) (fun _ => []) := by
  refine spec_of (n := 110) Tryd.func30 rfl rfl trivial trivial rfl ?_
  refine tk_seq ?_
  refine tk_region ?_
  refine tk_act rfl ?_; refine a_allocL (cs := (List.replicate 32 0).map B) (by kernel_rfl) rfl fun b6 => ?_
  refine tk_q rfl rfl rfl (y_assign rfl) ?_
  refine tk_q rfl rfl rfl (y_assign rfl) ?_
  refine tk_nil ?_
  refine tk_then ?_
  refine tk_seq ?_
  refine tk_seq ?_
  refine tk_region ?_
  refine tk_q rfl rfl rfl (y_move rfl) ?_
  refine tk_q rfl rfl rfl (y_pnil rfl rfl rfl) ?_
  refine tk_q rfl rfl rfl (y_move rfl) ?_
  refine tk_gno rfl rfl rfl ?_
  refine tk_gno rfl rfl rfl ?_
  refine tk_gno rfl rfl rfl ?_
  refine tk_q rfl rfl rfl (y_pick1 rfl rfl) ?_
  refine tk_nil ?_
  refine tk_then ?_
  refine tk_cond1 rfl ?_
  refine tk_seq ?_
  refine tk_region ?_
  refine tk_q rfl rfl rfl (y_build (v := .agg ((List.replicate 32 0 : List UInt8).map B).toArray) (vs := []) rfl (fun _ => by kernel_rfl)) ?_
  refine tk_act rfl ?_; refine a_storeW (H1 := []) (vs := (List.replicate 32 0 : List UInt8).map B) 32 rfl rfl (by kernel_rfl) rfl ⟨lenP, lenP⟩ oneB ?_
  refine tk_q rfl rfl rfl (y_assign rfl) ?_
  refine tk_q rfl rfl rfl (y_assign rfl) ?_
  refine tk_nil ?_
  refine tk_then ?_
  refine tk_retc ?_
  refine tk_then_ret ?_
  exact tk_ret (()) (trivial) (.inl rfl) (rctt (vs := (List.replicate 32 0 : List UInt8).map B) rfl rfl (by simp; kernel_rfl) (hcw (.head _)) rfl rfl) (List.nil_sublist _)
theorem close0_spec {w : World} : Spec Tryd.prog 31 [.pointer none] w [] (fun _ : Unit => True) (fun _ => .tuple #[Str [], .slice none 0 0, .slice none 0 0, I 1]) (fun _ => []) := by
  refine spec_of (n := 110) Tryd.func31 rfl rfl trivial trivial rfl ?_
  refine tk_seq ?_
  refine tk_region ?_
  refine tk_q rfl rfl rfl (y_assign rfl) ?_
  refine tk_q rfl rfl rfl (y_assign rfl) ?_
  refine tk_q rfl rfl rfl (y_assign rfl) ?_
  refine tk_q rfl rfl rfl (y_assign rfl) ?_
  refine tk_nil ?_
  refine tk_then ?_
  refine tk_seq ?_
  refine tk_block ?_
  refine tk_seq ?_
  refine tk_region ?_
  refine tk_q rfl rfl rfl (y_move rfl) ?_
  refine tk_q rfl rfl rfl (y_pnil rfl rfl rfl) ?_
  refine tk_q rfl rfl rfl (y_assign rfl) ?_
  refine tk_nil ?_
  refine tk_then ?_
  refine tk_cond1 rfl ?_
  refine tk_seq ?_
  refine tk_region ?_
  refine tk_q rfl rfl rfl (y_assign rfl) ?_
  refine tk_q rfl rfl rfl (y_assign rfl) ?_
  refine tk_q rfl rfl rfl (y_assign rfl) ?_
  refine tk_q rfl rfl rfl (y_assign rfl) ?_
  refine tk_nil ?_
  refine tk_then ?_
  refine tk_retc ?_
  refine tk_in_ret ?_
  refine tk_then_ret ?_
  exact tk_ret (()) (trivial) (.inl rfl) (r4 rfl rfl rfl rfl rfl) (List.Sublist.refl _)
theorem none_spec {w : World} : Spec Tryd.prog 29 [] w [] (fun _ : Unit => True) (fun _ => .pointer none) (fun _ => []) := by
  refine spec_of (n := 1) Tryd.func29 rfl rfl trivial trivial rfl ?_
  refine tk_seq ?_
  refine tk_region ?_
  refine tk_q rfl rfl rfl (y_assign rfl) ?_
  refine tk_nil ?_
  refine tk_then ?_
  refine tk_seq ?_
  refine tk_region ?_
  refine tk_q rfl rfl rfl (y_assign rfl) ?_
  refine tk_nil ?_
  refine tk_then ?_
  refine tk_retc ?_
  exact tk_ret (()) (trivial) (.inl rfl) (r1 rfl rfl) (List.Sublist.refl _)
theorem packs_spec {w : World} (hg : Ro (Fs []) w glob) : Spec Tryd.prog 32 [] w [] (fun _ : Unit => True) (fun _ => .bool true) (fun _ => []) := by
  refine spec_of (n := 74) Tryd.func32 rfl rfl trivial trivial rfl ?_
  refine tk_seq ?_
  refine tk_region ?_
  refine tk_q rfl rfl rfl (y_assign rfl) ?_
  refine tk_nil ?_
  refine tk_then ?_
  refine tk_seq ?_
  refine tk_region ?_
  refine tk_act rfl ?_; refine a_callv [] _ rfl (by kernel_rfl) rfl (fun w' hw' => writers_spec (n := 1)) rfl fun ⟨wb, tb, tvv, mb⟩ _ => ?_
  refine tk_q rfl rfl rfl (y_move rfl) ?_
  refine tk_q rfl rfl rfl (y_extract rfl rfl) ?_
  refine tk_q rfl rfl rfl (y_extract rfl rfl) ?_
  refine tk_q rfl rfl rfl (y_assign rfl) ?_
  refine tk_q rfl rfl rfl (y_assign rfl) ?_
  refine tk_nil ?_
  refine tk_then ?_
  refine tk_seq ?_
  refine tk_region ?_
  refine tk_ownM0 (f := B) 5 ?_
  refine tk_ownM0 (f := B) 5 ?_
  refine tk_ownA0 (f := entC) 35 91 ?_
  refine tk_ownA0 (f := entC) 35 130 ?_
  refine tk_H [own (.slice none 0 0) (([] : List Ent).length) (([] : List Ent).flatMap entC) 130 35, own (.slice none 0 0) (([] : List Ent).length) (([] : List Ent).flatMap entC) 91 35, own (.slice none 0 0) (((tapeL [1] 0).drop 0).length) (((tapeL [1] 0).drop 0).map B) 5 1, own (.slice none 0 0) (([] : List UInt8).length) (([] : List UInt8).map B) 5 1, cel wb ((rg 1 1).map B ++ ((rg 1 2).map B ++ ((rg 1 3).map B ++ ([Value.pointer (some ⟨tb, 0, none⟩), .slice none 0 0, .slice none 0 0])))) 117, cel tb ([tvv, .int .u64 (((0 : Nat) : Nat) : Int), .slice none 0 0]) 160, own tvv ([1].length) ([1].map B) 5 1, cel mb ((rg 1 1).map B ++ ((rg 1 2).map B ++ ((rg 1 3).map B ++ ([Str [1], I 0, Str [], .slice none 0 0])))) 86] (congrArg (fun z_ => [own (.slice none 0 0) (([] : List Ent).length) (([] : List Ent).flatMap entC) 130 35, own (.slice none 0 0) (([] : List Ent).length) (([] : List Ent).flatMap entC) 91 35, z_, own (.slice none 0 0) (([] : List UInt8).length) (([] : List UInt8).map B) 5 1, cel wb ((rg 1 1).map B ++ ((rg 1 2).map B ++ ((rg 1 3).map B ++ ([Value.pointer (some ⟨tb, 0, none⟩), .slice none 0 0, .slice none 0 0])))) 117, cel tb ([tvv, .int .u64 (((0 : Nat) : Nat) : Int), .slice none 0 0]) 160, own tvv ([1].length) ([1].map B) 5 1, cel mb ((rg 1 1).map B ++ ((rg 1 2).map B ++ ((rg 1 3).map B ++ ([Str [1], I 0, Str [], .slice none 0 0])))) 86]) (show own (.slice none 0 0) (([] : List UInt8).length) (([] : List UInt8).map B) 5 1 = own (.slice none 0 0) (((tapeL [1] 0).drop 0).length) (((tapeL [1] 0).drop 0).map B) 5 1 from ownM_cast (by simp [tapeL_0]))) ?_
  skip
  refine tk_q rfl rfl rfl (y_move rfl) ?_
  refine tk_act rfl ?_
  refine tk_perm _ (.trans (.cons _ (.trans (.cons _ (List.Perm.refl _)) (.swap _ _ _))) (.swap _ _ _)) ?_
  refine tk_perm _ (.trans (.cons _ (.trans (.cons _ (.trans (.cons _ (.trans (.cons _ (.trans (.cons _ (.trans (.cons _ (List.Perm.refl _)) (.swap _ _ _))) (.swap _ _ _))) (.swap _ _ _))) (.swap _ _ _))) (.swap _ _ _))) (.swap _ _ _)) ?_
  refine tk_perm _ (.trans (.cons _ (.trans (.cons _ (.trans (.cons _ (.trans (.cons _ (.trans (.cons _ (.trans (.cons _ (List.Perm.refl _)) (.swap _ _ _))) (.swap _ _ _))) (.swap _ _ _))) (.swap _ _ _))) (.swap _ _ _))) (.swap _ _ _)) ?_
  refine tk_perm _ (.trans (.cons _ (.trans (.cons _ (.trans (.cons _ (.trans (.cons _ (List.Perm.refl _)) (.swap _ _ _))) (.swap _ _ _))) (.swap _ _ _))) (.swap _ _ _)) ?_
  refine tk_perm _ (.trans (.cons _ (.trans (.cons _ (.trans (.cons _ (.trans (.cons _ (.trans (.cons _ (List.Perm.refl _)) (.swap _ _ _))) (.swap _ _ _))) (.swap _ _ _))) (.swap _ _ _))) (.swap _ _ _)) ?_
  refine tk_perm _ (.trans (.cons _ (.trans (.cons _ (.trans (.cons _ (.trans (.cons _ (.trans (.cons _ (.trans (.cons _ (List.Perm.refl _)) (.swap _ _ _))) (.swap _ _ _))) (.swap _ _ _))) (.swap _ _ _))) (.swap _ _ _))) (.swap _ _ _)) ?_
  refine a_callv [] _ rfl (by kernel_rfl) rfl (fun w' hw' => close_spec (hk := rg 1 1) (mk := rg 1 2) (nk := rg 1 3) (bg := [1]) (sb := []) (sl := []) (wb := wb) (tb := tb) (c := (0 : Nat)) (p := 0) (wbv := (.slice none 0 0)) (wlv := (.slice none 0 0)) (tvv := tvv) (tlv := (.slice none 0 0)) (q := (closeQ 1 ⟨[], [], 0⟩)) closeQ_def ⟨lenP, lenP, lenP⟩ ⟨lenP, lenP⟩ lenP lenP lenP lenP (fun e he => by cases he) (hg.call hw') (St.pre hw')) rfl fun ⟨c19, tl19, wv19, wl19, cv19, ce19⟩ hx19 => ?_
  try dsimp only at hx19 ⊢
  refine tk_own1 (.tail _ (.head _)) fun hfb19 => ?_
  refine tk_ownA (.tail _ (.tail _ (.head _))) fun hfl19 => ?_
  refine tk_own1 (.tail _ (.tail _ (.tail _ (.tail _ (.tail _ (.tail _ (.head _))))))) fun hfcb19 => ?_
  refine tk_ownA (.tail _ (.tail _ (.tail _ (.tail _ (.tail _ (.tail _ (.tail _ (.head _)))))))) fun hfcl19 => ?_
  rw [q0_is] at hx19
  dsimp only at hx19
  refine tk_H [cel wb ((rg 1 1).map B ++ ((rg 1 2).map B ++ ((rg 1 3).map B ++ ([Value.pointer (some ⟨tb, 0, none⟩), wv19, wl19])))) 117, own wv19 ([].length) ([].map B) 5 1, own wl19 (((closeQ 1 ⟨[], [], 0⟩).2.l).length) (((closeQ 1 ⟨[], [], 0⟩).2.l).flatMap entC) 91 35, cel tb ([tvv, .int .u64 ((c19 : Nat) : Int), tl19]) 160, own tvv ([1].length) ([1].map B) 5 1, own tl19 (((tapeL [1] c19).drop ((closeQ 1 ⟨[], [], 0⟩).2.p)).length) (((tapeL [1] c19).drop ((closeQ 1 ⟨[], [], 0⟩).2.p)).map B) 5 1, own cv19 (((closeQ 1 ⟨[], [], 0⟩).1.2.1).length) (((closeQ 1 ⟨[], [], 0⟩).1.2.1).map B) 5 1, own ce19 (((closeQ 1 ⟨[], [], 0⟩).1.2.2.1).length) (((closeQ 1 ⟨[], [], 0⟩).1.2.2.1).flatMap entC) 91 35, own (.slice none 0 0) (([] : List Ent).length) (([] : List Ent).flatMap entC) 130 35, cel mb ((rg 1 1).map B ++ ((rg 1 2).map B ++ ((rg 1 3).map B ++ ([Str [1], I 0, Str [], (.slice none 0 0)])))) 86] (congrArg (fun z_ => [cel wb ((rg 1 1).map B ++ ((rg 1 2).map B ++ ((rg 1 3).map B ++ ([Value.pointer (some ⟨tb, 0, none⟩), wv19, wl19])))) 117, z_, own wl19 (((closeQ 1 ⟨[], [], 0⟩).2.l).length) (((closeQ 1 ⟨[], [], 0⟩).2.l).flatMap entC) 91 35, cel tb ([tvv, .int .u64 ((c19 : Nat) : Int), tl19]) 160, own tvv ([1].length) ([1].map B) 5 1, own tl19 (((tapeL [1] c19).drop ((closeQ 1 ⟨[], [], 0⟩).2.p)).length) (((tapeL [1] c19).drop ((closeQ 1 ⟨[], [], 0⟩).2.p)).map B) 5 1, own cv19 (((closeQ 1 ⟨[], [], 0⟩).1.2.1).length) (((closeQ 1 ⟨[], [], 0⟩).1.2.1).map B) 5 1, own ce19 (((closeQ 1 ⟨[], [], 0⟩).1.2.2.1).length) (((closeQ 1 ⟨[], [], 0⟩).1.2.2.1).flatMap entC) 91 35, own (.slice none 0 0) (([] : List Ent).length) (([] : List Ent).flatMap entC) 130 35, cel mb ((rg 1 1).map B ++ ((rg 1 2).map B ++ ((rg 1 3).map B ++ ([Str [1], I 0, Str [], (.slice none 0 0)])))) 86]) (show own wv19 (((closeQ 1 ⟨[], [], 0⟩).2.b).length) (((closeQ 1 ⟨[], [], 0⟩).2.b).map B) 5 1 = own wv19 ([].length) ([].map B) 5 1 from ownM_cast (by rw [q0_is]))) ?_
  refine tk_H [cel wb ((rg 1 1).map B ++ ((rg 1 2).map B ++ ((rg 1 3).map B ++ ([Value.pointer (some ⟨tb, 0, none⟩), wv19, wl19])))) 117, own wv19 ([].length) ([].map B) 5 1, own wl19 ([].length) ([].flatMap entC) 91 35, cel tb ([tvv, .int .u64 ((c19 : Nat) : Int), tl19]) 160, own tvv ([1].length) ([1].map B) 5 1, own tl19 (((tapeL [1] c19).drop ((closeQ 1 ⟨[], [], 0⟩).2.p)).length) (((tapeL [1] c19).drop ((closeQ 1 ⟨[], [], 0⟩).2.p)).map B) 5 1, own cv19 (((closeQ 1 ⟨[], [], 0⟩).1.2.1).length) (((closeQ 1 ⟨[], [], 0⟩).1.2.1).map B) 5 1, own ce19 (((closeQ 1 ⟨[], [], 0⟩).1.2.2.1).length) (((closeQ 1 ⟨[], [], 0⟩).1.2.2.1).flatMap entC) 91 35, own (.slice none 0 0) (([] : List Ent).length) (([] : List Ent).flatMap entC) 130 35, cel mb ((rg 1 1).map B ++ ((rg 1 2).map B ++ ((rg 1 3).map B ++ ([Str [1], I 0, Str [], (.slice none 0 0)])))) 86] (congrArg (fun z_ => [cel wb ((rg 1 1).map B ++ ((rg 1 2).map B ++ ((rg 1 3).map B ++ ([Value.pointer (some ⟨tb, 0, none⟩), wv19, wl19])))) 117, own wv19 ([].length) ([].map B) 5 1, z_, cel tb ([tvv, .int .u64 ((c19 : Nat) : Int), tl19]) 160, own tvv ([1].length) ([1].map B) 5 1, own tl19 (((tapeL [1] c19).drop ((closeQ 1 ⟨[], [], 0⟩).2.p)).length) (((tapeL [1] c19).drop ((closeQ 1 ⟨[], [], 0⟩).2.p)).map B) 5 1, own cv19 (((closeQ 1 ⟨[], [], 0⟩).1.2.1).length) (((closeQ 1 ⟨[], [], 0⟩).1.2.1).map B) 5 1, own ce19 (((closeQ 1 ⟨[], [], 0⟩).1.2.2.1).length) (((closeQ 1 ⟨[], [], 0⟩).1.2.2.1).flatMap entC) 91 35, own (.slice none 0 0) (([] : List Ent).length) (([] : List Ent).flatMap entC) 130 35, cel mb ((rg 1 1).map B ++ ((rg 1 2).map B ++ ((rg 1 3).map B ++ ([Str [1], I 0, Str [], (.slice none 0 0)])))) 86]) (show own wl19 (((closeQ 1 ⟨[], [], 0⟩).2.l).length) (((closeQ 1 ⟨[], [], 0⟩).2.l).flatMap entC) 91 35 = own wl19 ([].length) ([].flatMap entC) 91 35 from ownA_cast (by rw [q0_is]))) ?_
  refine tk_H [cel wb ((rg 1 1).map B ++ ((rg 1 2).map B ++ ((rg 1 3).map B ++ ([Value.pointer (some ⟨tb, 0, none⟩), wv19, wl19])))) 117, own wv19 ([].length) ([].map B) 5 1, own wl19 ([].length) ([].flatMap entC) 91 35, cel tb ([tvv, .int .u64 ((c19 : Nat) : Int), tl19]) 160, own tvv ([1].length) ([1].map B) 5 1, own tl19 (((tapeL [1] c19).drop 0).length) (((tapeL [1] c19).drop 0).map B) 5 1, own cv19 (((closeQ 1 ⟨[], [], 0⟩).1.2.1).length) (((closeQ 1 ⟨[], [], 0⟩).1.2.1).map B) 5 1, own ce19 (((closeQ 1 ⟨[], [], 0⟩).1.2.2.1).length) (((closeQ 1 ⟨[], [], 0⟩).1.2.2.1).flatMap entC) 91 35, own (.slice none 0 0) (([] : List Ent).length) (([] : List Ent).flatMap entC) 130 35, cel mb ((rg 1 1).map B ++ ((rg 1 2).map B ++ ((rg 1 3).map B ++ ([Str [1], I 0, Str [], (.slice none 0 0)])))) 86] (congrArg (fun z_ => [cel wb ((rg 1 1).map B ++ ((rg 1 2).map B ++ ((rg 1 3).map B ++ ([Value.pointer (some ⟨tb, 0, none⟩), wv19, wl19])))) 117, own wv19 ([].length) ([].map B) 5 1, own wl19 ([].length) ([].flatMap entC) 91 35, cel tb ([tvv, .int .u64 ((c19 : Nat) : Int), tl19]) 160, own tvv ([1].length) ([1].map B) 5 1, z_, own cv19 (((closeQ 1 ⟨[], [], 0⟩).1.2.1).length) (((closeQ 1 ⟨[], [], 0⟩).1.2.1).map B) 5 1, own ce19 (((closeQ 1 ⟨[], [], 0⟩).1.2.2.1).length) (((closeQ 1 ⟨[], [], 0⟩).1.2.2.1).flatMap entC) 91 35, own (.slice none 0 0) (([] : List Ent).length) (([] : List Ent).flatMap entC) 130 35, cel mb ((rg 1 1).map B ++ ((rg 1 2).map B ++ ((rg 1 3).map B ++ ([Str [1], I 0, Str [], (.slice none 0 0)])))) 86]) (show own tl19 (((tapeL [1] c19).drop ((closeQ 1 ⟨[], [], 0⟩).2.p)).length) (((tapeL [1] c19).drop ((closeQ 1 ⟨[], [], 0⟩).2.p)).map B) 5 1 = own tl19 (((tapeL [1] c19).drop 0).length) (((tapeL [1] c19).drop 0).map B) 5 1 from ownM_cast (by rw [q0_is]))) ?_
  skip
  refine tk_re 19 (.tuple #[Str ((closeQ 1 ⟨[], [], 0⟩).1.1), cv19, ce19, I (((closeQ 1 ⟨[], [], 0⟩).1.2.2.2 : Nat) : Int)]) (.tuple #[Str [], cv19, ce19, I 15]) rfl (by rw [q0_is]; first | done | rfl) ?_
  refine tk_q rfl rfl rfl (y_move rfl) ?_
  refine tk_q rfl rfl rfl (y_extract rfl rfl) ?_
  refine tk_q rfl rfl rfl (y_extract rfl rfl) ?_
  refine tk_q rfl rfl rfl (y_extract rfl rfl) ?_
  refine tk_q rfl rfl rfl (y_extract rfl rfl) ?_
  refine tk_q rfl rfl rfl (y_assign rfl) ?_
  refine tk_q rfl rfl rfl (y_assign rfl) ?_
  refine tk_q rfl rfl rfl (y_assign rfl) ?_
  refine tk_q rfl rfl rfl (y_assign rfl) ?_
  refine tk_nil ?_
  refine tk_then ?_
  refine tk_seq ?_
  refine tk_region ?_
  refine tk_q rfl rfl rfl (y_move rfl) ?_
  refine tk_act rfl ?_; refine a_slitN (vs := [B 97]) rfl (List.forall_mem_cons.2 ⟨rfl, (fun _ h => nomatch h)⟩) (EL26) rfl rfl (by decide) fun b26 => ?_
  refine tk_act rfl ?_; refine a_convX (H1 := []) rfl Tryd.underlying26 Tryd.underlying5 rfl rfl ?_
  refine tk_act rfl ?_; refine a_slitN (vs := [.slice (some ⟨b26, 0, none⟩) 1 1]) rfl (List.forall_mem_cons.2 ⟨rfl, (fun _ h => nomatch h)⟩) (EL45) rfl rfl (by decide) fun b28 => ?_
  refine tk_act rfl ?_
  refine tk_perm _ (.trans (.cons _ (.trans (.cons _ (.trans (.cons _ (.trans (.cons _ (.trans (.cons _ (.trans (.cons _ (.trans (.cons _ (List.Perm.refl _)) (.swap _ _ _))) (.swap _ _ _))) (.swap _ _ _))) (.swap _ _ _))) (.swap _ _ _))) (.swap _ _ _))) (.swap _ _ _)) ?_
  refine tk_perm _ (.trans (.cons _ (.trans (.cons _ (.trans (.cons _ (.trans (.cons _ (.trans (.cons _ (.trans (.cons _ (.trans (.cons _ (List.Perm.refl _)) (.swap _ _ _))) (.swap _ _ _))) (.swap _ _ _))) (.swap _ _ _))) (.swap _ _ _))) (.swap _ _ _))) (.swap _ _ _)) ?_
  refine tk_perm _ (.trans (.cons _ (.trans (.cons _ (.trans (.cons _ (.trans (.cons _ (.trans (.cons _ (.trans (.cons _ (.trans (.cons _ (List.Perm.refl _)) (.swap _ _ _))) (.swap _ _ _))) (.swap _ _ _))) (.swap _ _ _))) (.swap _ _ _))) (.swap _ _ _))) (.swap _ _ _)) ?_
  refine tk_perm _ (.trans (.cons _ (.trans (.cons _ (.trans (.cons _ (.trans (.cons _ (.trans (.cons _ (.trans (.cons _ (.trans (.cons _ (List.Perm.refl _)) (.swap _ _ _))) (.swap _ _ _))) (.swap _ _ _))) (.swap _ _ _))) (.swap _ _ _))) (.swap _ _ _))) (.swap _ _ _)) ?_
  refine tk_perm _ (.trans (.cons _ (.trans (.cons _ (.trans (.cons _ (.trans (.cons _ (.trans (.cons _ (.trans (.cons _ (.trans (.cons _ (List.Perm.refl _)) (.swap _ _ _))) (.swap _ _ _))) (.swap _ _ _))) (.swap _ _ _))) (.swap _ _ _))) (.swap _ _ _))) (.swap _ _ _)) ?_
  refine tk_perm _ (.trans (.cons _ (.trans (.cons _ (.trans (.cons _ (.trans (.cons _ (.trans (.cons _ (.trans (.cons _ (.trans (.cons _ (List.Perm.refl _)) (.swap _ _ _))) (.swap _ _ _))) (.swap _ _ _))) (.swap _ _ _))) (.swap _ _ _))) (.swap _ _ _))) (.swap _ _ _)) ?_
  refine a_callv [] _ rfl (by kernel_rfl) rfl (fun w' hw' => add_spec (hk := rg 1 1) (mk := rg 1 2) (nk := rg 1 3) (bg := [1]) (sb := []) (sl := []) (wb := wb) (tb := tb) (c := c19) (p := 0) (wbv := wv19) (wlv := wl19) (tvv := tvv) (tlv := tl19) (kind := 1) (b := [97]) (ps := [(.slice (some ⟨b26, 0, none⟩) 1 1, [97])]) (q := (addQ 1 ⟨[], [], 0⟩ 1 [97])) addQ_def ⟨lenP, lenP, lenP⟩ ⟨lenP, lenP⟩ lenP lenP lenP lenP (Ro.cel (vs := [.slice (some ⟨b26, 0, none⟩) 1 1]) hw' (.head _) (by first | rfl | simp) rfl (by decide)) (List.forall_mem_cons.2 ⟨(Ro.cel (b := b26) (o := 0) (m := 1) (cp := 1) (vs := [97].map B) hw' (.tail _ (.head _)) (rfl) (by first | rfl | exact lenP | (simp; omega)) lenP), (fun _ h => nomatch h)⟩) (by simp) ⟨lenP, lenP⟩ (hg.call hw') (St.pre hw')) rfl fun ⟨c29, tl29, wv29, wl29⟩ hx29 => ?_
  try dsimp only at hx29 ⊢
  have hqn29 : ((addQ 1 ⟨[], [], 0⟩ 1 [97]).1.1).length = 32 := addQ_len
  refine tk_own1 (.tail _ (.head _)) fun hfb29 => ?_
  refine tk_ownA (.tail _ (.tail _ (.head _))) fun hfl29 => ?_
  have hk1 := addQ_ok (n := 1) (k := 1) (x := [97]) wok0
  obtain ⟨hk2, hk3⟩ := hk1
  have hk4 := hk2.n
  have hk5 := hk2.b
  simp only [] at hk3
  refine tk_re 29 (.tuple #[.agg (((addQ 1 ⟨[], [], 0⟩ 1 [97]).1.1).map B).toArray, .bool ((addQ 1 ⟨[], [], 0⟩ 1 [97]).1.2.1), I (((addQ 1 ⟨[], [], 0⟩ 1 [97]).1.2.2 : Nat) : Int)]) (.tuple #[.agg (((addQ 1 ⟨[], [], 0⟩ 1 [97]).1.1).map B).toArray, .bool true, I 0]) rfl (by rw [q1_is]; first | done | rfl) ?_
  refine tk_q rfl rfl rfl (y_move rfl) ?_
  refine tk_q rfl rfl rfl (y_extract rfl rfl) ?_
  refine tk_q rfl rfl rfl (y_extract rfl rfl) ?_
  refine tk_q rfl rfl rfl (y_extract rfl rfl) ?_
  refine tk_act rfl ?_; refine a_allocL (cs := (List.replicate 32 0).map B) (by kernel_rfl) rfl fun b7 => ?_
  refine tk_act rfl ?_; refine a_storeW (H1 := []) (vs := ((addQ 1 ⟨[], [], 0⟩ 1 [97]).1.1).map B) 32 rfl rfl (by kernel_rfl) rfl ⟨lenP, lenP⟩ oneB ?_
  refine tk_q rfl rfl rfl (y_assign rfl) ?_
  refine tk_q rfl rfl rfl (y_assign rfl) ?_
  refine tk_nil ?_
  refine tk_then ?_
  refine tk_seq ?_
  refine tk_region ?_
  refine tk_q rfl rfl rfl (y_move rfl) ?_
  refine tk_act rfl ?_; refine a_slitN (vs := [B 97]) rfl (List.forall_mem_cons.2 ⟨rfl, (fun _ h => nomatch h)⟩) (EL26) rfl rfl (by decide) fun b35 => ?_
  refine tk_act rfl ?_; refine a_convX (H1 := []) rfl Tryd.underlying26 Tryd.underlying5 rfl rfl ?_
  refine tk_act rfl ?_; refine a_slitN (vs := [.slice none 0 0, .slice (some ⟨b35, 0, none⟩) 1 1]) rfl (List.forall_mem_cons.2 ⟨(RdS.one (RdS.nil (w := default))), (List.forall_mem_cons.2 ⟨rfl, (fun _ h => nomatch h)⟩)⟩) (EL45) rfl rfl (by decide) fun b37 => ?_
  refine tk_act rfl ?_
  refine tk_perm _ (.trans (.cons _ (.trans (.cons _ (.trans (.cons _ (.trans (.cons _ (.trans (.cons _ (.trans (.cons _ (.trans (.cons _ (.trans (.cons _ (List.Perm.refl _)) (.swap _ _ _))) (.swap _ _ _))) (.swap _ _ _))) (.swap _ _ _))) (.swap _ _ _))) (.swap _ _ _))) (.swap _ _ _))) (.swap _ _ _)) ?_
  refine tk_perm _ (.trans (.cons _ (.trans (.cons _ (.trans (.cons _ (.trans (.cons _ (.trans (.cons _ (.trans (.cons _ (.trans (.cons _ (.trans (.cons _ (List.Perm.refl _)) (.swap _ _ _))) (.swap _ _ _))) (.swap _ _ _))) (.swap _ _ _))) (.swap _ _ _))) (.swap _ _ _))) (.swap _ _ _))) (.swap _ _ _)) ?_
  refine tk_perm _ (.trans (.cons _ (.trans (.cons _ (.trans (.cons _ (.trans (.cons _ (.trans (.cons _ (.trans (.cons _ (.trans (.cons _ (.trans (.cons _ (List.Perm.refl _)) (.swap _ _ _))) (.swap _ _ _))) (.swap _ _ _))) (.swap _ _ _))) (.swap _ _ _))) (.swap _ _ _))) (.swap _ _ _))) (.swap _ _ _)) ?_
  refine tk_perm _ (.trans (.cons _ (.trans (.cons _ (.trans (.cons _ (.trans (.cons _ (.trans (.cons _ (.trans (.cons _ (.trans (.cons _ (.trans (.cons _ (List.Perm.refl _)) (.swap _ _ _))) (.swap _ _ _))) (.swap _ _ _))) (.swap _ _ _))) (.swap _ _ _))) (.swap _ _ _))) (.swap _ _ _))) (.swap _ _ _)) ?_
  refine tk_perm _ (.trans (.cons _ (.trans (.cons _ (.trans (.cons _ (.trans (.cons _ (.trans (.cons _ (.trans (.cons _ (.trans (.cons _ (.trans (.cons _ (List.Perm.refl _)) (.swap _ _ _))) (.swap _ _ _))) (.swap _ _ _))) (.swap _ _ _))) (.swap _ _ _))) (.swap _ _ _))) (.swap _ _ _))) (.swap _ _ _)) ?_
  refine tk_perm _ (.trans (.cons _ (.trans (.cons _ (.trans (.cons _ (.trans (.cons _ (.trans (.cons _ (.trans (.cons _ (.trans (.cons _ (.trans (.cons _ (List.Perm.refl _)) (.swap _ _ _))) (.swap _ _ _))) (.swap _ _ _))) (.swap _ _ _))) (.swap _ _ _))) (.swap _ _ _))) (.swap _ _ _))) (.swap _ _ _)) ?_
  refine a_callv [] _ rfl (by kernel_rfl) rfl (fun w' hw' => add_spec (hk := rg 1 1) (mk := rg 1 2) (nk := rg 1 3) (bg := [1]) (sb := (addQ 1 ⟨[], [], 0⟩ 1 [97]).2.b) (sl := (addQ 1 ⟨[], [], 0⟩ 1 [97]).2.l) (wb := wb) (tb := tb) (c := c29) (p := ((addQ 1 ⟨[], [], 0⟩ 1 [97]).2.p)) (wbv := wv29) (wlv := wl29) (tvv := tvv) (tlv := tl29) (kind := 1) (b := [97]) (ps := [(.slice none 0 0, []), (.slice (some ⟨b35, 0, none⟩) 1 1, [97])]) (q := (addQ 1 (addQ 1 ⟨[], [], 0⟩ 1 [97]).2 1 [97])) addQ_def ⟨lenP, lenP, lenP⟩ ⟨lenP, lenP⟩ lenP lenP lenP lenP (Ro.cel (vs := [.slice none 0 0, .slice (some ⟨b35, 0, none⟩) 1 1]) hw' (.head _) (by first | rfl | simp) rfl (by decide)) (List.forall_mem_cons.2 ⟨Ro.rnil, (List.forall_mem_cons.2 ⟨(Ro.cel (b := b35) (o := 0) (m := 1) (cp := 1) (vs := [97].map B) hw' (.tail _ (.head _)) (rfl) (by first | rfl | exact lenP | (simp; omega)) lenP), (fun _ h => nomatch h)⟩)⟩) (by simp) ⟨lenP, lenP⟩ (hg.call hw') (St.pre hw')) rfl fun ⟨c38, tl38, wv38, wl38⟩ hx38 => ?_
  try dsimp only at hx38 ⊢
  have hqn38 : ((addQ 1 (addQ 1 ⟨[], [], 0⟩ 1 [97]).2 1 [97]).1.1).length = 32 := addQ_len
  refine tk_own1 (.tail _ (.head _)) fun hfb38 => ?_
  refine tk_ownA (.tail _ (.tail _ (.head _))) fun hfl38 => ?_
  refine tk_re 38 (.tuple #[.agg (((addQ 1 (addQ 1 ⟨[], [], 0⟩ 1 [97]).2 1 [97]).1.1).map B).toArray, .bool ((addQ 1 (addQ 1 ⟨[], [], 0⟩ 1 [97]).2 1 [97]).1.2.1), I (((addQ 1 (addQ 1 ⟨[], [], 0⟩ 1 [97]).2 1 [97]).1.2.2 : Nat) : Int)]) (.tuple #[.agg (((addQ 1 ⟨[], [], 0⟩ 1 [97]).1.1).map B).toArray, .bool false, I 0]) rfl (by rw [q2_is, q1_is]; first | done | rfl) ?_
  refine tk_q rfl rfl rfl (y_move rfl) ?_
  refine tk_q rfl rfl rfl (y_extract rfl rfl) ?_
  refine tk_q rfl rfl rfl (y_extract rfl rfl) ?_
  refine tk_q rfl rfl rfl (y_extract rfl rfl) ?_
  refine tk_act rfl ?_; refine a_allocL (cs := (List.replicate 32 0).map B) (by kernel_rfl) rfl fun b10 => ?_
  refine tk_act rfl ?_; refine a_storeW (H1 := []) (vs := ((addQ 1 ⟨[], [], 0⟩ 1 [97]).1.1).map B) 32 rfl rfl (by kernel_rfl) rfl ⟨lenP, lenP⟩ oneB ?_
  refine tk_q rfl rfl rfl (y_assign rfl) ?_
  refine tk_q rfl rfl rfl (y_assign rfl) ?_
  refine tk_nil ?_
  refine tk_then ?_
  refine tk_seq ?_
  refine tk_region ?_
  refine tk_q rfl rfl rfl (y_move rfl) ?_
  refine tk_q rfl rfl rfl ((y_eql rfl rfl).cast (bool_t (by decide))) ?_
  refine tk_q rfl rfl rfl (y_move rfl) ?_
  refine tk_gq rfl rfl rfl (y_move rfl) ?_
  refine tk_gq rfl rfl rfl ((y_eql rfl rfl).cast (bool_t (by decide))) ?_
  refine tk_q rfl rfl rfl (y_pick1 rfl rfl) ?_
  refine tk_q rfl rfl rfl (y_move rfl) ?_
  refine tk_gq rfl rfl rfl (y_move rfl) ?_
  refine tk_gq rfl rfl rfl ((y_eql rfl rfl).cast (bool_t (by decide))) ?_
  refine tk_q rfl rfl rfl (y_pick1 rfl rfl) ?_
  refine tk_q rfl rfl rfl (y_move rfl) ?_
  refine tk_gq rfl rfl rfl (y_loadA 32 rfl (by kernel_rfl) lenP (hcw (.tail _ (.tail _ (.tail _ (.tail _ (.tail _ (.tail _ (.tail _ (.tail _ (.tail _ (.head _)))))))))))) ?_
  refine tk_gq rfl rfl rfl (y_loadA 32 rfl (by kernel_rfl) lenP (hcw (.head _))) ?_
  refine tk_gq rfl rfl rfl ((y_agEq (l := (addQ 1 ⟨[], [], 0⟩ 1 [97]).1.1) (m := (addQ 1 ⟨[], [], 0⟩ 1 [97]).1.1) rfl rfl Tryd.underlying65 Tryd.underlying5 (by kernel_rfl) (by kernel_rfl) ⟨addQ_len, addQ_len⟩).cast (bool_t rfl)) ?_
  refine tk_q rfl rfl rfl (y_pick1 rfl rfl) ?_
  refine tk_q rfl rfl rfl (y_move rfl) ?_
  refine tk_gq rfl rfl rfl (y_move rfl) ?_
  refine tk_q rfl rfl rfl (y_pick1 rfl rfl) ?_
  refine tk_q rfl rfl rfl (y_move rfl) ?_
  refine tk_gq rfl rfl rfl (y_move rfl) ?_
  refine tk_gq rfl rfl rfl (y_not rfl) ?_
  refine tk_q rfl rfl rfl (y_pick1 rfl rfl) ?_
  refine tk_q rfl rfl rfl (y_move rfl) ?_
  refine tk_gq rfl rfl rfl (y_move rfl) ?_
  refine tk_gact rfl ?_
  refine tk_perm _ (.trans (.cons _ (.trans (.cons _ (.trans (.cons _ (List.Perm.refl _)) (.swap _ _ _))) (.swap _ _ _))) (.swap _ _ _)) ?_
  refine tk_perm _ (.trans (.cons _ (.trans (.cons _ (.trans (.cons _ (List.Perm.refl _)) (.swap _ _ _))) (.swap _ _ _))) (.swap _ _ _)) ?_
  refine tk_perm _ (.trans (.cons _ (.trans (.cons _ (.trans (.cons _ (List.Perm.refl _)) (.swap _ _ _))) (.swap _ _ _))) (.swap _ _ _)) ?_
  refine a_callv [] _ rfl (by kernel_rfl) rfl (fun w' hw' => count_spec (hk := rg 1 1) (mk := rg 1 2) (nk := rg 1 3) (sb := (addQ 1 (addQ 1 ⟨[], [], 0⟩ 1 [97]).2 1 [97]).2.b) (sl := (addQ 1 (addQ 1 ⟨[], [], 0⟩ 1 [97]).2 1 [97]).2.l) (wb := wb) (tb := tb) (wbv := wv38) (wlv := wl38) ⟨lenP, lenP, lenP⟩ (St.pre hw')) rfl fun _ _ => ?_
  refine tk_re 66 (I ((((addQ 1 (addQ 1 ⟨[], [], 0⟩ 1 [97]).2 1 [97]).2.l).length : Nat) : Int)) (I 1) rfl (by rw [q2_is, q1_is]; first | done | rfl) ?_
  refine tk_gq rfl rfl rfl ((y_eql rfl rfl).cast (bool_t (by decide))) ?_
  refine tk_q rfl rfl rfl (y_pick1 rfl rfl) ?_
  refine tk_q rfl rfl rfl (y_move rfl) ?_
  refine tk_gq rfl rfl rfl (y_move rfl) ?_
  refine tk_gact rfl ?_; refine a_callv [] _ rfl (by kernel_rfl) rfl (fun w' hw' => size_spec (hk := rg 1 1) (mk := rg 1 2) (nk := rg 1 3) (sb := (addQ 1 (addQ 1 ⟨[], [], 0⟩ 1 [97]).2 1 [97]).2.b) (sl := (addQ 1 (addQ 1 ⟨[], [], 0⟩ 1 [97]).2 1 [97]).2.l) (wb := wb) (tb := tb) (wbv := wv38) (wlv := wl38) ⟨lenP, lenP, lenP⟩ (St.pre hw')) rfl fun _ _ => ?_
  refine tk_re 71 (I ((((addQ 1 (addQ 1 ⟨[], [], 0⟩ 1 [97]).2 1 [97]).2.b).length : Nat) : Int)) (I 49) rfl (by rw [q2_is, q1_is]; exact congrArg (fun n : Nat => I (n : Int)) (by rw [List.length_append, sealL_len tapeN_len]; rfl)) ?_
  refine tk_gq rfl rfl rfl ((y_eql rfl rfl).cast (bool_t (by decide))) ?_
  refine tk_q rfl rfl rfl (y_pick1 rfl rfl) ?_
  refine tk_q rfl rfl rfl (y_assign rfl) ?_
  refine tk_nil ?_
  refine tk_then ?_
  refine tk_retc ?_
  exact tk_ret (()) (trivial) (.inl rfl) (r1 rfl rfl) (List.nil_sublist _)
end Go.Proofs.YtfofkjajlfphjaaDoor
