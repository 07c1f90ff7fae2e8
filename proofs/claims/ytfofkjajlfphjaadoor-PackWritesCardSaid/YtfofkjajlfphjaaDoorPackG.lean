/- pack: the walk over the law PackWrites. -/
import Derived.Test.YtfofkjajlfphjaaDoorPackF
set_option linter.unusedSimpArgs false
set_option linter.unusedVariables false
namespace Go.Proofs.YtfofkjajlfphjaaDoor
open Go Go.RowKit
set_option maxRecDepth 100000
attribute [local irreducible] sumL keyedL hexL hidL markL sealL sealF openF tapeL tapeN idF addQ closeQ rg
theorem packWrites_spec {n : UInt8} {rv : Value} {rows : List Lum} {w : World} (hrows : Ro (Fs []) w (rdC rv rows.length (rows.flatMap lumC))) (hrv : ∀ u ∈ rows, Ro (Fs []) w (rdB u.v u.l)) (hrl : rows.length < 9223372036854775808) (hg : Ro (Fs []) w glob) :
    Spec Tryd.prog 11 [B n, rv] w [] (fun _ : Unit => True) (fun _ => .bool true) (fun _ => []) := by
  refine spec_of (n := 212) Tryd.func11 rfl rfl trivial trivial rfl ?_
  refine tk_seq ?_
  refine tk_region ?_
  refine tk_q rfl rfl rfl (y_assign rfl) ?_
  refine tk_nil ?_
  refine tk_then ?_
  refine tk_seq ?_
  refine tk_region ?_
  refine tk_act rfl ?_; refine a_callv [] _ rfl (by kernel_rfl) rfl (fun w' hw' => none_spec) rfl fun _ _ => ?_
  refine tk_act rfl ?_; refine a_callv [] _ rfl (by kernel_rfl) rfl (fun w' hw' => add0_spec) rfl fun _ _ => ?_
  refine tk_q rfl rfl rfl (y_move rfl) ?_
  refine tk_q rfl rfl rfl (y_extract rfl rfl) ?_
  refine tk_q rfl rfl rfl (y_extract rfl rfl) ?_
  refine tk_q rfl rfl rfl (y_extract rfl rfl) ?_
  refine tk_act rfl ?_; refine a_allocL (cs := (List.replicate 32 0).map B) (by kernel_rfl) rfl fun b5 => ?_
  refine tk_act rfl ?_; refine a_storeW (H1 := []) (vs := (List.replicate 32 0).map B) 32 rfl rfl (by kernel_rfl) rfl ⟨lenP, lenP⟩ oneB ?_
  refine tk_q rfl rfl rfl (y_assign rfl) ?_
  refine tk_q rfl rfl rfl (y_assign rfl) ?_
  refine tk_nil ?_
  refine tk_then ?_
  refine tk_seq ?_
  refine tk_region ?_
  refine tk_act rfl ?_; refine a_callv [] _ rfl (by kernel_rfl) rfl (fun w' hw' => none_spec) rfl fun _ _ => ?_
  refine tk_act rfl ?_; refine a_callv [] _ rfl (by kernel_rfl) rfl (fun w' hw' => close0_spec) rfl fun _ _ => ?_
  refine tk_q rfl rfl rfl (y_move rfl) ?_
  refine tk_q rfl rfl rfl (y_extract rfl rfl) ?_
  refine tk_q rfl rfl rfl (y_extract rfl rfl) ?_
  refine tk_q rfl rfl rfl (y_extract rfl rfl) ?_
  refine tk_q rfl rfl rfl (y_extract rfl rfl) ?_
  refine tk_q rfl rfl rfl (y_assign rfl) ?_
  refine tk_q rfl rfl rfl (y_assign rfl) ?_
  refine tk_q rfl rfl rfl (y_assign rfl) ?_
  refine tk_q rfl rfl rfl (y_assign rfl) ?_
  refine tk_nil ?_
  refine tk_then ?_
  refine tk_seq ?_
  refine tk_seq ?_
  refine tk_region ?_
  refine tk_act rfl ?_; refine a_callv [] _ rfl (by kernel_rfl) rfl (fun w' hw' => packs_spec (hg.call hw')) rfl fun _ _ => ?_
  refine tk_q rfl rfl rfl (y_not rfl) ?_
  refine tk_q rfl rfl rfl (y_move rfl) ?_
  refine tk_gq rfl rfl rfl (y_move rfl) ?_
  refine tk_gq rfl rfl rfl ((y_neq rfl rfl).cast (bool_f (by decide))) ?_
  refine tk_q rfl rfl rfl (y_pick0 rfl rfl) ?_
  refine tk_q rfl rfl rfl (y_move rfl) ?_
  refine tk_gq rfl rfl rfl (y_move rfl) ?_
  refine tk_gq rfl rfl rfl ((y_neq rfl rfl).cast (bool_f (by decide))) ?_
  refine tk_q rfl rfl rfl (y_pick0 rfl rfl) ?_
  refine tk_q rfl rfl rfl (y_move rfl) ?_
  refine tk_gact rfl ?_; refine a_callv [] _ rfl (by kernel_rfl) rfl (fun w' hw' => none_spec) rfl fun _ _ => ?_
  refine tk_gact rfl ?_; refine a_callv [] _ rfl (by kernel_rfl) rfl (fun w' hw' => count0_spec) rfl fun _ _ => ?_
  refine tk_gq rfl rfl rfl ((y_neq rfl rfl).cast (bool_f (by decide))) ?_
  refine tk_q rfl rfl rfl (y_pick0 rfl rfl) ?_
  refine tk_q rfl rfl rfl (y_move rfl) ?_
  refine tk_gact rfl ?_; refine a_callv [] _ rfl (by kernel_rfl) rfl (fun w' hw' => none_spec) rfl fun _ _ => ?_
  refine tk_gact rfl ?_; refine a_callv [] _ rfl (by kernel_rfl) rfl (fun w' hw' => size0_spec) rfl fun _ _ => ?_
  refine tk_gq rfl rfl rfl ((y_neq rfl rfl).cast (bool_f (by decide))) ?_
  refine tk_q rfl rfl rfl (y_pick0 rfl rfl) ?_
  refine tk_nil ?_
  refine tk_then ?_
  refine tk_cond0 rfl ?_
  refine tk_skip ?_
  refine tk_then ?_
  refine tk_seq ?_
  refine tk_region ?_
  refine tk_q rfl rfl rfl (y_move rfl) ?_
  refine tk_act rfl ?_; refine a_callv [] _ rfl (by kernel_rfl) rfl (fun w' hw' => writers_spec (n := n)) rfl fun ⟨wb, tb, tvv, mb⟩ _ => ?_
  refine tk_q rfl rfl rfl (y_move rfl) ?_
  refine tk_q rfl rfl rfl (y_extract rfl rfl) ?_
  refine tk_q rfl rfl rfl (y_extract rfl rfl) ?_
  refine tk_q rfl rfl rfl (y_assign rfl) ?_
  refine tk_q rfl rfl rfl (y_assign rfl) ?_
  refine tk_nil ?_
  refine tk_then ?_
  refine tk_seq ?_
  refine tk_seq ?_
  refine tk_region ?_
  refine tk_ownM0 (f := B) 5 ?_
  refine tk_ownM0 (f := B) 5 ?_
  refine tk_ownA0 (f := entC) 35 91 ?_
  refine tk_ownA0 (f := entC) 35 130 ?_
  refine tk_H [own (.slice none 0 0) (([] : List Ent).length) (([] : List Ent).flatMap entC) 130 35, own (.slice none 0 0) (([] : List Ent).length) (([] : List Ent).flatMap entC) 91 35, own (.slice none 0 0) (((tapeL [n] 0).drop 0).length) (((tapeL [n] 0).drop 0).map B) 5 1, own (.slice none 0 0) (([] : List UInt8).length) (([] : List UInt8).map B) 5 1, cel wb ((rg n 1).map B ++ ((rg n 2).map B ++ ((rg n 3).map B ++ ([Value.pointer (some ⟨tb, 0, none⟩), .slice none 0 0, .slice none 0 0])))) 117, cel tb ([tvv, .int .u64 (((0 : Nat) : Nat) : Int), .slice none 0 0]) 160, own tvv ([n].length) ([n].map B) 5 1, cel mb ((rg n 1).map B ++ ((rg n 2).map B ++ ((rg n 3).map B ++ ([Str [n], I 0, Str [], .slice none 0 0])))) 86, cel b5 ((List.replicate 32 0).map B) 65] (congrArg (fun z_ => [own (.slice none 0 0) (([] : List Ent).length) (([] : List Ent).flatMap entC) 130 35, own (.slice none 0 0) (([] : List Ent).length) (([] : List Ent).flatMap entC) 91 35, z_, own (.slice none 0 0) (([] : List UInt8).length) (([] : List UInt8).map B) 5 1, cel wb ((rg n 1).map B ++ ((rg n 2).map B ++ ((rg n 3).map B ++ ([Value.pointer (some ⟨tb, 0, none⟩), .slice none 0 0, .slice none 0 0])))) 117, cel tb ([tvv, .int .u64 (((0 : Nat) : Nat) : Int), .slice none 0 0]) 160, own tvv ([n].length) ([n].map B) 5 1, cel mb ((rg n 1).map B ++ ((rg n 2).map B ++ ((rg n 3).map B ++ ([Str [n], I 0, Str [], .slice none 0 0])))) 86, cel b5 ((List.replicate 32 0).map B) 65]) (show own (.slice none 0 0) (([] : List UInt8).length) (([] : List UInt8).map B) 5 1 = own (.slice none 0 0) (((tapeL [n] 0).drop 0).length) (((tapeL [n] 0).drop 0).map B) 5 1 from ownM_cast (by simp [tapeL_0]))) ?_
  skip
  refine tk_q rfl rfl rfl (y_assign rfl) ?_
  refine tk_nil ?_
  refine tk_then ?_
  refine tk_block ?_
  refine tk_perm _ (.trans (.cons _ (.trans (.cons _ (.trans (.cons _ (.trans (.cons _ (.trans (.cons _ (.trans (.cons _ (.trans (.cons _ (List.Perm.refl _)) (.swap _ _ _))) (.swap _ _ _))) (.swap _ _ _))) (.swap _ _ _))) (.swap _ _ _))) (.swap _ _ _))) (.swap _ _ _)) ?_
  refine tk_perm _ (.trans (.cons _ (.trans (.cons _ (.trans (.cons _ (List.Perm.refl _)) (.swap _ _ _))) (.swap _ _ _))) (.swap _ _ _)) ?_
  refine tk_perm _ (.trans (.cons _ (.trans (.cons _ (.trans (.cons _ (.trans (.cons _ (.trans (.cons _ (.trans (.cons _ (.trans (.cons _ (List.Perm.refl _)) (.swap _ _ _))) (.swap _ _ _))) (.swap _ _ _))) (.swap _ _ _))) (.swap _ _ _))) (.swap _ _ _))) (.swap _ _ _)) ?_
  refine tk_perm _ (.trans (.cons _ (.trans (.cons _ (.trans (.cons _ (.trans (.cons _ (.trans (.cons _ (.trans (.cons _ (.trans (.cons _ (List.Perm.refl _)) (.swap _ _ _))) (.swap _ _ _))) (.swap _ _ _))) (.swap _ _ _))) (.swap _ _ _))) (.swap _ _ _))) (.swap _ _ _)) ?_
  refine tk_perm _ (.trans (.cons _ (.trans (.cons _ (.trans (.cons _ (.trans (.cons _ (.trans (.cons _ (List.Perm.refl _)) (.swap _ _ _))) (.swap _ _ _))) (.swap _ _ _))) (.swap _ _ _))) (.swap _ _ _)) ?_
  refine tk_perm _ (.trans (.cons _ (.trans (.cons _ (.trans (.cons _ (.trans (.cons _ (.trans (.cons _ (.trans (.cons _ (List.Perm.refl _)) (.swap _ _ _))) (.swap _ _ _))) (.swap _ _ _))) (.swap _ _ _))) (.swap _ _ _))) (.swap _ _ _)) ?_
  refine tk_perm _ (.trans (.cons _ (.trans (.cons _ (.trans (.cons _ (.trans (.cons _ (.trans (.cons _ (.trans (.cons _ (.trans (.cons _ (List.Perm.refl _)) (.swap _ _ _))) (.swap _ _ _))) (.swap _ _ _))) (.swap _ _ _))) (.swap _ _ _))) (.swap _ _ _))) (.swap _ _ _)) ?_
  refine tk_loop (X := Nat × WSt × Nat × Value × Value × Value × Nat × Value) (fun (i, s, c, tlv, wbv, wlv, u, mlv) => i ≤ 12 ∧ i ≤ rows.length ∧ WOk2 s ∧ s.p ≤ 16 * i ∧ s.p = 16 * u ∧ (s.p ≤ 32 * c ∧ 32 * c < s.p + 32)) (fun (i, s, c, tlv, wbv, wlv, u, mlv) => [(1, rv), (12, .pointer (some ⟨wb, 0, none⟩)), (13, .pointer (some ⟨mb, 0, none⟩)), (14, I ((i : Nat) : Int))]) (fun (i, s, c, tlv, wbv, wlv, u, mlv) => [cel wb ((rg n 1).map B ++ ((rg n 2).map B ++ ((rg n 3).map B ++ ([Value.pointer (some ⟨tb, 0, none⟩), wbv, wlv])))) 117, own wbv s.b.length (s.b.map B) 5 1, own wlv s.l.length (s.l.flatMap entC) 91 35, cel tb ([tvv, .int .u64 ((c : Nat) : Int), tlv]) 160, own tvv ([n].length) ([n].map B) 5 1, own tlv (((tapeL [n] c).drop s.p).length) (((tapeL [n] c).drop s.p).map B) 5 1, cel mb ((rg n 1).map B ++ ((rg n 2).map B ++ ((rg n 3).map B ++ ([Str [n], I ((u : Nat) : Int), Str s.b, mlv])))) 86, own mlv s.l.length (s.l.flatMap entC) 130 35]) (fun (i, s, c, tlv, wbv, wlv, u, mlv) => 12 - i) ((0, ⟨[], [], 0⟩, 0, (.slice none 0 0), (.slice none 0 0), (.slice none 0 0), 0, (.slice none 0 0))) (⟨by omega, by omega, wok0, by dsimp only; omega, rfl, by dsimp only; omega⟩) (by repeat (first | exact trivial | refine ⟨rfl, ?_⟩)) ((.cons_cons _ (.cons_cons _ (.cons_cons _ (.cons_cons _ (.cons_cons _ (.cons_cons _ (.cons_cons _ (.cons_cons _ (List.nil_sublist _)))))))))) ?_
  rintro ⟨i, s, c, tlv, wbv, wlv, u, mlv⟩ hI
  try dsimp only at hI ⊢
  obtain ⟨hi1, hi2, hok, hpi, hpu, hcc⟩ := hI
  have hsl := hok.n
  have hsb := hok.b
  refine tk_own1 (.tail _ (.head _)) fun hfb => ?_
  refine tk_ownA (.tail _ (.tail _ (.head _))) fun hfl => ?_
  refine tk_ownA (.tail _ (.tail _ (.tail _ (.tail _ (.tail _ (.tail _ (.tail _ (.head _)))))))) fun hfm => ?_
  refine tk_seq ?_
  refine tk_seq ?_
  refine tk_region ?_
  refine tk_q rfl rfl rfl (y_move rfl) ?_
  refine tk_q rfl rfl rfl (y_move rfl) ?_
  refine tk_q rfl rfl rfl (y_lenE rfl hrows.1 rfl) ?_
  refine tk_qs rfl rfl rfl (y_lss rfl rfl) (fun hs7_3 => ?_) (fun hs7_3 => ?_)
  · skip
    refine tk_q rfl rfl rfl (y_move rfl) ?_
    refine tk_gq rfl rfl rfl (y_move rfl) ?_
    refine tk_gq rfl rfl rfl (y_lss rfl rfl) ?_
    refine tk_q rfl rfl rfl (y_pick1 rfl rfl) ?_
    refine tk_nil ?_
    refine tk_then ?_
    refine tk_condP rfl (fun ht76 => ?_) (fun ht76 => ?_)
    · skip
      refine tk_skip ?_
      refine tk_then ?_
      refine tk_seq ?_
      refine tk_block ?_
      refine tk_seq ?_
      refine tk_seq ?_
      refine tk_region ?_
      refine tk_q rfl rfl rfl (y_move rfl) ?_
      refine tk_q rfl rfl rfl (y_move rfl) ?_
      refine tk_q rfl rfl rfl (y_ixE (i := i) (k := 2) rfl rfl hrows.1 lenP (by kernel_rfl)) ?_
      refine tk_q rfl rfl rfl (y_fldE (o := i * 2 + 0) (off := 0) rfl (by kernel_rfl)) ?_
      refine tk_q rfl rfl rfl (y_loadE1 (i := i) (k := 2) (o := 0) (f := lumC) (l := rows) (d0 := dLum) (u := I ((rows.getD i dLum).k)) rfl rfl lumC_len lenP rfl (fun w hw => Ro.rdC hrows hw)) ?_
      refine tk_q rfl rfl rfl (y_eql rfl rfl) ?_
      refine tk_nil ?_
      refine tk_then ?_
      refine tk_condP rfl (fun ht84 => ?_) (fun ht84 => ?_)
      · skip
        refine tk_seq ?_
        refine tk_region ?_
        have hq := closeQ_ok (n := n) hok
        obtain ⟨hqo, hqp⟩ := hq
        have hql := hqo.n
        have hqb := hqo.b
        have hcl := closeQ_len (n := n) hok
        refine tk_q rfl rfl rfl (y_move rfl) ?_
        refine tk_act rfl ?_; refine a_callv [] _ rfl (by kernel_rfl) rfl (fun w' hw' => close_spec (hk := rg n 1) (mk := rg n 2) (nk := rg n 3) (bg := [n]) (sb := s.b) (sl := s.l) (wb := wb) (tb := tb) (c := c) (p := s.p) (wbv := wbv) (wlv := wlv) (tvv := tvv) (tlv := tlv) (q := (closeQ n s)) closeQ_def ⟨lenP, lenP, lenP⟩ ⟨lenP, lenP⟩ lenP lenP lenP lenP (fun e he => by have := hok.each e he; omega) (hg.call hw') (St.pre hw')) rfl fun ⟨c87, tl87, wv87, wl87, cv87, ce87⟩ hx87 => ?_
        try dsimp only at hx87 ⊢
        refine tk_own1 (.tail _ (.head _)) fun hfb87 => ?_
        refine tk_ownA (.tail _ (.tail _ (.head _))) fun hfl87 => ?_
        refine tk_own1 (.tail _ (.tail _ (.tail _ (.tail _ (.tail _ (.tail _ (.head _))))))) fun hfcb87 => ?_
        refine tk_ownA (.tail _ (.tail _ (.tail _ (.tail _ (.tail _ (.tail _ (.tail _ (.head _)))))))) fun hfcl87 => ?_
        refine tk_q rfl rfl rfl (y_move rfl) ?_
        refine tk_q rfl rfl rfl (y_extract rfl rfl) ?_
        refine tk_q rfl rfl rfl (y_extract rfl rfl) ?_
        refine tk_q rfl rfl rfl (y_extract rfl rfl) ?_
        refine tk_q rfl rfl rfl (y_extract rfl rfl) ?_
        refine tk_q rfl rfl rfl (y_assign rfl) ?_
        refine tk_q rfl rfl rfl (y_assign rfl) ?_
        refine tk_q rfl rfl rfl (y_assign rfl) ?_
        refine tk_q rfl rfl rfl (y_assign rfl) ?_
        refine tk_nil ?_
        refine tk_then ?_
        refine tk_seq ?_
        refine tk_region ?_
        refine tk_q rfl rfl rfl (y_move rfl) ?_
        refine tk_act rfl ?_
        refine tk_perm _ (.trans (.cons _ (.trans (.cons _ (.trans (.cons _ (.trans (.cons _ (.trans (.cons _ (.trans (.cons _ (.trans (.cons _ (.trans (.cons _ (.trans (.cons _ (List.Perm.refl _)) (.swap _ _ _))) (.swap _ _ _))) (.swap _ _ _))) (.swap _ _ _))) (.swap _ _ _))) (.swap _ _ _))) (.swap _ _ _))) (.swap _ _ _))) (.swap _ _ _)) ?_
        refine tk_perm _ (.trans (.cons _ (.trans (.cons _ (.trans (.cons _ (.trans (.cons _ (.trans (.cons _ (.trans (.cons _ (.trans (.cons _ (.trans (.cons _ (.trans (.cons _ (List.Perm.refl _)) (.swap _ _ _))) (.swap _ _ _))) (.swap _ _ _))) (.swap _ _ _))) (.swap _ _ _))) (.swap _ _ _))) (.swap _ _ _))) (.swap _ _ _))) (.swap _ _ _)) ?_
        refine a_callv [] _ rfl (by kernel_rfl) rfl (fun w' hw' => rclose_spec (hk := rg n 1) (mk := rg n 2) (nk := rg n 3) (bg := [n]) (sb := s.b) (sl := s.l) (mb := mb) (u := u) (mlv := mlv) (q := (closeQ n s)) (by rw [← hpu]; exact closeQ_def) ⟨lenP, lenP, lenP⟩ lenP lenP lenP lenP (fun e he => by have := hok.each e he; omega) (St.pre hw')) rfl fun ⟨u94, m94, re94⟩ hx94 => ?_
        try dsimp only at hx94 ⊢
        refine tk_ownA (.tail _ (.head _)) fun hfm94 => ?_
        refine tk_ownA (.tail _ (.tail _ (.head _))) fun hfrl94 => ?_
        refine tk_q rfl rfl rfl (y_move rfl) ?_
        refine tk_q rfl rfl rfl (y_extract rfl rfl) ?_
        refine tk_q rfl rfl rfl (y_extract rfl rfl) ?_
        refine tk_q rfl rfl rfl (y_extract rfl rfl) ?_
        refine tk_q rfl rfl rfl (y_extract rfl rfl) ?_
        refine tk_q rfl rfl rfl (y_assign rfl) ?_
        refine tk_q rfl rfl rfl (y_assign rfl) ?_
        refine tk_q rfl rfl rfl (y_assign rfl) ?_
        refine tk_q rfl rfl rfl (y_assign rfl) ?_
        refine tk_nil ?_
        refine tk_then ?_
        refine tk_seq ?_
        refine tk_seq ?_
        refine tk_region ?_
        refine tk_q rfl rfl rfl (y_move rfl) ?_
        refine tk_q rfl rfl rfl (y_move rfl) ?_
        refine tk_q rfl rfl rfl ((y_strNe (l := (closeQ n s).1.1) (m := (closeQ n s).1.1) rfl rfl).cast (bool_f (fun h => h rfl))) ?_
        refine tk_q rfl rfl rfl (y_move rfl) ?_
        refine tk_gq rfl rfl rfl (y_move rfl) ?_
        refine tk_gq rfl rfl rfl (y_str (l := (closeQ n s).1.2.1) rfl rfl rfl rfl (fun w hw => own_rdS (hw.mem (.tail _ (.tail _ (.tail _ (.tail _ (.tail _ (.tail _ (.tail _ (.tail _ (.tail _ (.head _))))))))))))) ?_
        refine tk_gq rfl rfl rfl (y_move rfl) ?_
        refine tk_gq rfl rfl rfl ((y_strNe (l := (closeQ n s).1.2.1) (m := (closeQ n s).1.2.1) rfl rfl).cast (bool_f (fun h => h rfl))) ?_
        refine tk_q rfl rfl rfl (y_pick0 rfl rfl) ?_
        refine tk_q rfl rfl rfl (y_move rfl) ?_
        refine tk_gq rfl rfl rfl (y_move rfl) ?_
        refine tk_gact rfl ?_
        refine tk_perm _ (.trans (.cons _ (.trans (.cons _ (.trans (.cons _ (.trans (.cons _ (.trans (.cons _ (.trans (.cons _ (.trans (.cons _ (.trans (.cons _ (.trans (.cons _ (.trans (.cons _ (List.Perm.refl _)) (.swap _ _ _))) (.swap _ _ _))) (.swap _ _ _))) (.swap _ _ _))) (.swap _ _ _))) (.swap _ _ _))) (.swap _ _ _))) (.swap _ _ _))) (.swap _ _ _))) (.swap _ _ _)) ?_
        refine a_callv [] _ rfl (by kernel_rfl) rfl (fun w' hw' => from12_spec (v := ce87) (l := (closeQ n s).1.2.2.1) lenP (St.pre hw')) rfl fun v110 _ => ?_
        refine tk_ownA (.head _) fun hfv110 => ?_
        refine tk_gq rfl rfl rfl (y_move rfl) ?_
        refine tk_gact rfl ?_
        refine tk_perm _ (.trans (.cons _ (.trans (.cons _ (.trans (.cons _ (.trans (.cons _ (List.Perm.refl _)) (.swap _ _ _))) (.swap _ _ _))) (.swap _ _ _))) (.swap _ _ _)) ?_
        refine tk_perm _ (.trans (.cons _ (List.Perm.refl _)) (.swap _ _ _)) ?_
        refine a_callv [] _ rfl (by kernel_rfl) rfl (fun w' hw' => same12_spec (v1 := v110) (v2 := re94) (l := (closeQ n s).1.2.2.1) (m := (closeQ n s).1.2.2.1) lenP lenP (St.pre hw')) rfl fun _ _ => ?_
        refine tk_re 112 (.bool (decide ((closeQ n s).1.2.2.1 = (closeQ n s).1.2.2.1))) (.bool true) rfl (bool_t rfl) ?_
        refine tk_gq rfl rfl rfl (y_not rfl) ?_
        refine tk_q rfl rfl rfl (y_pick0 rfl rfl) ?_
        refine tk_q rfl rfl rfl (y_move rfl) ?_
        refine tk_gq rfl rfl rfl (y_move rfl) ?_
        refine tk_gq rfl rfl rfl (y_move rfl) ?_
        refine tk_gq rfl rfl rfl ((y_neq rfl rfl).cast (bool_f (fun h => h rfl))) ?_
        refine tk_q rfl rfl rfl (y_pick0 rfl rfl) ?_
        refine tk_nil ?_
        refine tk_then ?_
        refine tk_cond0 rfl ?_
        refine tk_skip ?_
        refine tk_then ?_
        refine tk_exit ?_
        refine tk_then_exit ?_
        refine tk_in_hit ?_
        refine tk_then ?_
        refine tk_region ?_
        refine tk_q rfl rfl rfl (y_move rfl) ?_
        refine tk_q rfl rfl rfl (y_addN (a := i) (b := 1) rfl rfl (by omega)) ?_
        refine tk_q rfl rfl rfl (y_assign rfl) ?_
        refine tk_nil ?_
        refine tk_perm _ (.trans (.cons _ (.trans (.cons _ (.trans (.cons _ (.trans (.cons _ (List.Perm.refl _)) (.swap _ _ _))) (.swap _ _ _))) (.swap _ _ _))) (.swap _ _ _)) ?_
        refine tk_perm _ (.trans (.cons _ (.trans (.cons _ (.trans (.cons _ (.trans (.cons _ (List.Perm.refl _)) (.swap _ _ _))) (.swap _ _ _))) (.swap _ _ _))) (.swap _ _ _)) ?_
        refine tk_perm _ (.trans (.cons _ (.trans (.cons _ (.trans (.cons _ (.trans (.cons _ (.trans (.cons _ (.trans (.cons _ (.trans (.cons _ (.trans (.cons _ (.trans (.cons _ (.trans (.cons _ (List.Perm.refl _)) (.swap _ _ _))) (.swap _ _ _))) (.swap _ _ _))) (.swap _ _ _))) (.swap _ _ _))) (.swap _ _ _))) (.swap _ _ _))) (.swap _ _ _))) (.swap _ _ _))) (.swap _ _ _)) ?_
        refine tk_perm _ (.trans (.cons _ (.trans (.cons _ (.trans (.cons _ (.trans (.cons _ (.trans (.cons _ (.trans (.cons _ (.trans (.cons _ (.trans (.cons _ (.trans (.cons _ (.trans (.cons _ (List.Perm.refl _)) (.swap _ _ _))) (.swap _ _ _))) (.swap _ _ _))) (.swap _ _ _))) (.swap _ _ _))) (.swap _ _ _))) (.swap _ _ _))) (.swap _ _ _))) (.swap _ _ _))) (.swap _ _ _)) ?_
        refine tk_perm _ (.trans (.cons _ (.trans (.cons _ (.trans (.cons _ (.trans (.cons _ (.trans (.cons _ (.trans (.cons _ (.trans (.cons _ (.trans (.cons _ (.trans (.cons _ (.trans (.cons _ (List.Perm.refl _)) (.swap _ _ _))) (.swap _ _ _))) (.swap _ _ _))) (.swap _ _ _))) (.swap _ _ _))) (.swap _ _ _))) (.swap _ _ _))) (.swap _ _ _))) (.swap _ _ _))) (.swap _ _ _)) ?_
        refine tk_perm _ (.trans (.cons _ (.trans (.cons _ (.trans (.cons _ (.trans (.cons _ (.trans (.cons _ (.trans (.cons _ (.trans (.cons _ (.trans (.cons _ (.trans (.cons _ (.trans (.cons _ (List.Perm.refl _)) (.swap _ _ _))) (.swap _ _ _))) (.swap _ _ _))) (.swap _ _ _))) (.swap _ _ _))) (.swap _ _ _))) (.swap _ _ _))) (.swap _ _ _))) (.swap _ _ _))) (.swap _ _ _)) ?_
        refine tk_perm _ (.trans (.cons _ (.trans (.cons _ (.trans (.cons _ (.trans (.cons _ (.trans (.cons _ (.trans (.cons _ (.trans (.cons _ (.trans (.cons _ (.trans (.cons _ (.trans (.cons _ (List.Perm.refl _)) (.swap _ _ _))) (.swap _ _ _))) (.swap _ _ _))) (.swap _ _ _))) (.swap _ _ _))) (.swap _ _ _))) (.swap _ _ _))) (.swap _ _ _))) (.swap _ _ _))) (.swap _ _ _)) ?_
        refine tk_perm _ (.trans (.cons _ (.trans (.cons _ (.trans (.cons _ (.trans (.cons _ (.trans (.cons _ (.trans (.cons _ (.trans (.cons _ (.trans (.cons _ (.trans (.cons _ (.trans (.cons _ (List.Perm.refl _)) (.swap _ _ _))) (.swap _ _ _))) (.swap _ _ _))) (.swap _ _ _))) (.swap _ _ _))) (.swap _ _ _))) (.swap _ _ _))) (.swap _ _ _))) (.swap _ _ _))) (.swap _ _ _)) ?_
        exact tk_again ((i + 1, (closeQ n s).2, c87, tl87, wv87, wl87, u94, m94)) (⟨by dsimp only; omega, by dsimp only; omega, hqo, by dsimp only; omega, hx94, hx87⟩) (by dsimp only; omega) (by repeat (first | exact trivial | refine ⟨rfl, ?_⟩)) (.cons_cons _ (.cons_cons _ (.cons_cons _ (.cons_cons _ (.cons_cons _ (.cons_cons _ (.cons_cons _ (.cons_cons _ (List.nil_sublist _)))))))))
      · skip
        refine tk_skip ?_
        refine tk_then ?_
        refine tk_seq ?_
        refine tk_drawH [cel wb ((rg n 1).map B ++ ((rg n 2).map B ++ ((rg n 3).map B ++ ([Value.pointer (some ⟨tb, 0, none⟩), wbv, wlv])))) 117, own wbv s.b.length (s.b.map B) 5 1, own wlv s.l.length (s.l.flatMap entC) 91 35, cel tb ([tvv, .int .u64 ((c : Nat) : Int), tlv]) 160, own tvv ([n].length) ([n].map B) 5 1, own tlv (((tapeL [n] c).drop s.p).length) (((tapeL [n] c).drop s.p).map B) 5 1, cel mb ((rg n 1).map B ++ ((rg n 2).map B ++ ((rg n 3).map B ++ ([Str [n], I ((u : Nat) : Int), Str s.b, mlv])))) 86, own mlv s.l.length (s.l.flatMap entC) 130 35] [] (by kernel_rfl) ?_
        refine tx_q 1 rfl (by kernel_rfl) rfl rfl rfl (fun _ _ _ h => h) (y_move rfl) ?_
        refine tx_q 2 rfl (by kernel_rfl) rfl rfl rfl (fun _ _ _ h => h) (y_move rfl) ?_
        refine tx_q 3 rfl (by kernel_rfl) rfl rfl rfl (fun _ _ _ h => h) (y_ixE (i := i) (k := 2) rfl rfl hrows.1 lenP (by kernel_rfl)) ?_
        refine tx_q 4 rfl (by kernel_rfl) rfl rfl rfl (fun _ _ _ h => h) (y_fldE (o := i * 2 + 0) (off := 1) rfl (by kernel_rfl)) ?_
        refine tx_l 5 rfl (by kernel_rfl) (by kernel_rfl) rfl rfl rfl (fun _ _ _ h => h) (fun _ h => h.sub (List.Sublist.refl _)) (y_loadE1 (i := i) (k := 2) (o := 1) (f := lumC) (l := rows) (d0 := dLum) (u := (rows.getD i dLum).v) rfl rfl lumC_len lenP rfl (fun w hw => Ro.rdC hrows hw)) ?_
        refine tx_q 6 rfl (by kernel_rfl) rfl rfl rfl (fun _ _ _ h => h) (y_move rfl) ?_
        refine tx_q 7 rfl (by kernel_rfl) rfl rfl rfl (fun _ _ _ h => h) (y_move rfl) ?_
        refine tx_q 8 rfl (by kernel_rfl) rfl rfl rfl (fun _ _ _ h => h) (y_ixE (i := i) (k := 2) rfl rfl hrows.1 lenP (by kernel_rfl)) ?_
        refine tx_q 9 rfl (by kernel_rfl) rfl rfl rfl (fun _ _ _ h => h) (y_fldE (o := i * 2 + 0) (off := 1) rfl (by kernel_rfl)) ?_
        refine tx_l 10 rfl (by kernel_rfl) (by kernel_rfl) rfl rfl rfl (fun _ _ _ h => h) (fun _ h => h.sub (List.Sublist.refl _)) (y_loadE1 (i := i) (k := 2) (o := 1) (f := lumC) (l := rows) (d0 := dLum) (u := (rows.getD i dLum).v) rfl rfl lumC_len lenP rfl (fun w hw => Ro.rdC hrows hw)) ?_
        refine tx_q 11 rfl (by kernel_rfl) rfl rfl rfl (fun _ _ _ h => h) (y_lenRN (n' := ((rows.getD i dLum).l).length) rfl (hrv _ (getD_mem lenP)).1 rfl (by first | rfl | (rw [List.length_map]; omega) | simp)) ?_
        refine tx_q 12 rfl (by kernel_rfl) rfl rfl rfl (fun _ _ _ h => h) (y_minN (a := ((rows.getD i dLum).l).length) (b := 120) rfl rfl) ?_
        refine tx_q 13 rfl (by kernel_rfl) rfl rfl rfl (fun _ _ _ h => h) (y_cutRBh (l := (rows.getD i dLum).l) (min (((rows.getD i dLum).l).length) 120) rfl rfl (hrv _ (getD_mem lenP)).1 (by kernel_rfl) lenP rfl) ?_
        refine tx_a 0 rfl (by kernel_rfl) rfl ?_; refine a_slit0 EL26 rfl fun v120 => ?_
        refine tk_S (fun _ h => h.sub (.cons _ (List.Sublist.refl _))) ?_
        refine tx_a 14 rfl (by kernel_rfl) rfl ?_; refine a_appM (H1 := []) (f := B) (l := []) (m := ((rows.getD i dLum).l).take (min (((rows.getD i dLum).l).length) 120)) rfl rfl EL26 rfl rfl (fun w hw => RdS.cutBh ((fun w hw => Ro.rd (hrv _ (getD_mem lenP)) hw) w hw) (hi := min (((rows.getD i dLum).l).length) 120) lenP) (fun _ => rfl) ⟨lenP, lenP⟩ fun v134 => ?_
        refine tk_own1 (.head _) fun hfv134 => ?_
        refine tk_S (fun _ h => h.sub (.cons _ (List.Sublist.refl _))) ?_
        obtain ⟨x, hx0⟩ : ∃ x, x = ([] : List UInt8) ++ ((rows.getD i dLum).l.take (min (rows.getD i dLum).l.length 120)) := ⟨_, rfl⟩
        have hxl : x.length ≤ 120 := by rw [hx0]; simp; omega
        refine tk_H [own v134 x.length (x.map B) 5 1, cel wb ((rg n 1).map B ++ ((rg n 2).map B ++ ((rg n 3).map B ++ ([Value.pointer (some ⟨tb, 0, none⟩), wbv, wlv])))) 117, own wbv s.b.length (s.b.map B) 5 1, own wlv s.l.length (s.l.flatMap entC) 91 35, cel tb ([tvv, .int .u64 ((c : Nat) : Int), tlv]) 160, own tvv ([n].length) ([n].map B) 5 1, own tlv (((tapeL [n] c).drop s.p).length) (((tapeL [n] c).drop s.p).map B) 5 1, cel mb ((rg n 1).map B ++ ((rg n 2).map B ++ ((rg n 3).map B ++ ([Str [n], I ((u : Nat) : Int), Str s.b, mlv])))) 86, own mlv s.l.length (s.l.flatMap entC) 130 35] (congrArg (fun z_ => [z_, cel wb ((rg n 1).map B ++ ((rg n 2).map B ++ ((rg n 3).map B ++ ([Value.pointer (some ⟨tb, 0, none⟩), wbv, wlv])))) 117, own wbv s.b.length (s.b.map B) 5 1, own wlv s.l.length (s.l.flatMap entC) 91 35, cel tb ([tvv, .int .u64 ((c : Nat) : Int), tlv]) 160, own tvv ([n].length) ([n].map B) 5 1, own tlv (((tapeL [n] c).drop s.p).length) (((tapeL [n] c).drop s.p).map B) 5 1, cel mb ((rg n 1).map B ++ ((rg n 2).map B ++ ((rg n 3).map B ++ ([Str [n], I ((u : Nat) : Int), Str s.b, mlv])))) 86, own mlv s.l.length (s.l.flatMap entC) 130 35]) (show own v134 ((((rows.getD i dLum).l).take (min (((rows.getD i dLum).l).length) 120)).length) ((((rows.getD i dLum).l).take (min (((rows.getD i dLum).l).length) 120)).map B) 5 1 = own v134 x.length (x.map B) 5 1 from ownM_cast (by rw [hx0]; first | done | rfl))) ?_
        refine tk_own1 (.head _) fun hfx => ?_
        have hq := addQ_ok (n := n) (k := (rows.getD i dLum).k) (x := x) hok
        obtain ⟨hqo, hqp⟩ := hq
        have hql := hqo.n
        have hqb := hqo.b
        refine tx_q 15 rfl (by kernel_rfl) rfl rfl rfl (fun _ _ _ h => h) (y_assign rfl) ?_
        refine tx_done (by kernel_rfl) ?_
        refine tk_then ?_
        refine tk_seqI (X := Nat × Nat × Value × Value × Value) (fun (b24, c2, tl2, wb2, wl2) => (addQ n s (rows.getD i dLum).k x).2.p ≤ 32 * c2 ∧ 32 * c2 < (addQ n s (rows.getD i dLum).k x).2.p + 32) (fun (b24, c2, tl2, wb2, wl2) => [(1, rv), (12, .pointer (some ⟨wb, 0, none⟩)), (13, .pointer (some ⟨mb, 0, none⟩)), (14, I ((i : Nat) : Int)), (23, v134), (24, .pointer (some ⟨b24, 0, none⟩)), (25, .bool ((addQ n s (rows.getD i dLum).k x).1.2.1)), (26, I (((addQ n s (rows.getD i dLum).k x).1.2.2 : Nat) : Int))]) (fun (b24, c2, tl2, wb2, wl2) => [cel b24 (((addQ n s (rows.getD i dLum).k x).1.1).map B) 65, cel wb ((rg n 1).map B ++ ((rg n 2).map B ++ ((rg n 3).map B ++ ([Value.pointer (some ⟨tb, 0, none⟩), wb2, wl2])))) 117, own wb2 (((addQ n s (rows.getD i dLum).k x).2.b).length) (((addQ n s (rows.getD i dLum).k x).2.b).map B) 5 1, own wl2 (((addQ n s (rows.getD i dLum).k x).2.l).length) (((addQ n s (rows.getD i dLum).k x).2.l).flatMap entC) 91 35, cel tb ([tvv, .int .u64 ((c2 : Nat) : Int), tl2]) 160, own tvv ([n].length) ([n].map B) 5 1, own tl2 (((tapeL [n] c2).drop ((addQ n s (rows.getD i dLum).k x).2.p)).length) (((tapeL [n] c2).drop ((addQ n s (rows.getD i dLum).k x).2.p)).map B) 5 1, own v134 x.length (x.map B) 5 1, cel mb ((rg n 1).map B ++ ((rg n 2).map B ++ ((rg n 3).map B ++ ([Str [n], I ((u : Nat) : Int), Str s.b, mlv])))) 86, own mlv s.l.length (s.l.flatMap entC) 130 35]) ?_ ?_
        · skip
          refine tk_drawH [own v134 x.length (x.map B) 5 1, cel mb ((rg n 1).map B ++ ((rg n 2).map B ++ ((rg n 3).map B ++ ([Str [n], I ((u : Nat) : Int), Str s.b, mlv])))) 86, own mlv s.l.length (s.l.flatMap entC) 130 35] [] (by kernel_rfl) ?_
          refine tx_q 0 rfl (by kernel_rfl) rfl rfl rfl (fun _ _ _ h => h) (y_move rfl) ?_
          refine tx_q 1 rfl (by kernel_rfl) rfl rfl rfl (fun _ _ _ h => h) (y_move rfl) ?_
          refine tx_q 2 rfl (by kernel_rfl) rfl rfl rfl (fun _ _ _ h => h) (y_move rfl) ?_
          refine tx_q 3 rfl (by kernel_rfl) rfl rfl rfl (fun _ _ _ h => h) (y_ixE (i := i) (k := 2) rfl rfl hrows.1 lenP (by kernel_rfl)) ?_
          refine tx_q 4 rfl (by kernel_rfl) rfl rfl rfl (fun _ _ _ h => h) (y_fldE (o := i * 2 + 0) (off := 0) rfl (by kernel_rfl)) ?_
          refine tx_l 5 rfl (by kernel_rfl) (by kernel_rfl) rfl rfl rfl (fun _ _ _ h => h) (fun _ h => h.sub (.cons_cons _ (.cons _ (.cons _ (.cons _ (.cons _ (.cons _ (.cons _ (List.Sublist.refl _))))))))) (y_loadE1 (i := i) (k := 2) (o := 0) (f := lumC) (l := rows) (d0 := dLum) (u := I ((rows.getD i dLum).k)) rfl rfl lumC_len lenP rfl (fun w hw => Ro.rdC hrows hw)) ?_
          refine tx_q 6 rfl (by kernel_rfl) rfl rfl rfl (fun _ _ _ h => h) (y_move rfl) ?_
          refine tx_q 7 rfl (by kernel_rfl) rfl rfl rfl (fun _ _ _ h => h) (y_move rfl) ?_
          refine tx_q 8 rfl (by kernel_rfl) rfl rfl rfl (fun _ _ _ h => h) (y_lenRN (n' := x.length) rfl hfx.choose_spec rfl (by first | rfl | (rw [List.length_map]; omega) | simp)) ?_
          refine tx_q 9 rfl (by kernel_rfl) rfl rfl rfl (fun _ _ _ h => h) (y_quoN (a := x.length) (b := 2) rfl rfl (by omega)) ?_
          refine tx_q 10 rfl (by kernel_rfl) rfl rfl rfl (fun _ _ _ h => h) (y_cutRBh (l := x) (x.length / 2) rfl rfl hfx.choose_spec (by kernel_rfl) lenP rfl) ?_
          refine tx_q 11 rfl (by kernel_rfl) rfl rfl rfl (fun _ _ _ h => h) (y_move rfl) ?_
          refine tx_q 12 rfl (by kernel_rfl) rfl rfl rfl (fun _ _ _ h => h) (y_move rfl) ?_
          refine tx_q 13 rfl (by kernel_rfl) rfl rfl rfl (fun _ _ _ h => h) (y_lenRN (n' := x.length) rfl hfx.choose_spec rfl (by first | rfl | (rw [List.length_map]; omega) | simp)) ?_
          refine tx_q 14 rfl (by kernel_rfl) rfl rfl rfl (fun _ _ _ h => h) (y_quoN (a := x.length) (b := 2) rfl rfl (by omega)) ?_
          refine tx_q 15 rfl (by kernel_rfl) rfl rfl rfl (fun _ _ _ h => h) (y_cutRBl (l := x) (x.length / 2) rfl rfl hfx.choose_spec (by kernel_rfl) lenP rfl) ?_
          refine tx_all (is := [16, 22]) (by kernel_rfl) rfl ⟨⟨_, rfl, rfl, ?_⟩, ⟨_, rfl, rfl, ?_⟩, trivial⟩
          · skip
            skip; refine a_slitN (vs := [cutR v134 0 (x.length / 2), cutR v134 (x.length / 2) x.length]) rfl (List.forall_mem_cons.2 ⟨(RdS.one (RdS.cutBh hfx.choose_spec (hi := x.length / 2) lenP)), (List.forall_mem_cons.2 ⟨(RdS.one (RdS.cutBl hfx.choose_spec (lo := x.length / 2) lenP)), (fun _ h => nomatch h)⟩)⟩) (EL45) rfl rfl (by decide) fun b152 => ?_
            refine tk_S (fun _ h => h.sub (.cons _ (.cons_cons _ (.cons _ (.cons _ (.cons _ (.cons _ (.cons _ (.cons _ (List.Sublist.refl _)))))))))) ?_
            refine tx_more [cel b152 ([cutR v134 0 (x.length / 2), cutR v134 (x.length / 2) x.length]) 26, own v134 x.length (x.map B) 5 1, cel mb ((rg n 1).map B ++ ((rg n 2).map B ++ ((rg n 3).map B ++ ([Str [n], I ((u : Nat) : Int), Str s.b, mlv])))) 86, own mlv s.l.length (s.l.flatMap entC) 130 35] (fun _ h => h.sub (.cons _ (List.Sublist.refl _))) (fun _ h => h.sub (.cons_cons _ (.cons_cons _ (.cons _ (.cons _ (.cons _ (.cons _ (.cons _ (.cons _ (List.Sublist.refl _)))))))))) ?_
            refine tx_all (is := [17, 22]) (by kernel_rfl) rfl ⟨⟨_, rfl, rfl, ?_⟩, ⟨_, rfl, rfl, ?_⟩, trivial⟩
            · skip
              skip
              refine tk_perm _ (.trans (.cons _ (.trans (.cons _ (.trans (.cons _ (.trans (.cons _ (.trans (.cons _ (.trans (.cons _ (.trans (.cons _ (List.Perm.refl _)) (.swap _ _ _))) (.swap _ _ _))) (.swap _ _ _))) (.swap _ _ _))) (.swap _ _ _))) (.swap _ _ _))) (.swap _ _ _)) ?_
              refine tk_perm _ (.trans (.cons _ (.trans (.cons _ (.trans (.cons _ (.trans (.cons _ (.trans (.cons _ (.trans (.cons _ (.trans (.cons _ (List.Perm.refl _)) (.swap _ _ _))) (.swap _ _ _))) (.swap _ _ _))) (.swap _ _ _))) (.swap _ _ _))) (.swap _ _ _))) (.swap _ _ _)) ?_
              refine tk_perm _ (.trans (.cons _ (.trans (.cons _ (.trans (.cons _ (.trans (.cons _ (.trans (.cons _ (.trans (.cons _ (.trans (.cons _ (List.Perm.refl _)) (.swap _ _ _))) (.swap _ _ _))) (.swap _ _ _))) (.swap _ _ _))) (.swap _ _ _))) (.swap _ _ _))) (.swap _ _ _)) ?_
              refine tk_perm _ (.trans (.cons _ (.trans (.cons _ (.trans (.cons _ (.trans (.cons _ (.trans (.cons _ (.trans (.cons _ (.trans (.cons _ (List.Perm.refl _)) (.swap _ _ _))) (.swap _ _ _))) (.swap _ _ _))) (.swap _ _ _))) (.swap _ _ _))) (.swap _ _ _))) (.swap _ _ _)) ?_
              refine tk_perm _ (.trans (.cons _ (.trans (.cons _ (.trans (.cons _ (.trans (.cons _ (.trans (.cons _ (.trans (.cons _ (.trans (.cons _ (List.Perm.refl _)) (.swap _ _ _))) (.swap _ _ _))) (.swap _ _ _))) (.swap _ _ _))) (.swap _ _ _))) (.swap _ _ _))) (.swap _ _ _)) ?_
              refine tk_perm _ (.trans (.cons _ (.trans (.cons _ (.trans (.cons _ (.trans (.cons _ (.trans (.cons _ (.trans (.cons _ (.trans (.cons _ (List.Perm.refl _)) (.swap _ _ _))) (.swap _ _ _))) (.swap _ _ _))) (.swap _ _ _))) (.swap _ _ _))) (.swap _ _ _))) (.swap _ _ _)) ?_
              refine a_callv [] _ rfl (by kernel_rfl) rfl (fun w' hw' => add_spec (hk := rg n 1) (mk := rg n 2) (nk := rg n 3) (bg := [n]) (sb := s.b) (sl := s.l) (wb := wb) (tb := tb) (c := c) (p := s.p) (wbv := wbv) (wlv := wlv) (tvv := tvv) (tlv := tlv) (kind := (rows.getD i dLum).k) (b := x) (ps := [(cutR v134 0 (x.length / 2), x.take (x.length / 2)), (cutR v134 (x.length / 2) x.length, x.drop (x.length / 2))]) (q := (addQ n s (rows.getD i dLum).k x)) addQ_def ⟨lenP, lenP, lenP⟩ ⟨lenP, lenP⟩ lenP lenP lenP lenP (Ro.cel (vs := [cutR v134 0 (x.length / 2), cutR v134 (x.length / 2) x.length]) hw' (.head _) (by first | rfl | simp) rfl (by decide)) (List.forall_mem_cons.2 ⟨(Ro.cutBh (Ro.own (H0 := _) hw' (.tail _ (.head _))) (hi := x.length / 2) lenP), (List.forall_mem_cons.2 ⟨(Ro.cutBl (Ro.own (H0 := _) hw' (.tail _ (.head _))) (lo := x.length / 2) lenP), (fun _ h => nomatch h)⟩)⟩) (by simp) ⟨lenP, lenP⟩ (hg.call hw') (St.pre hw')) rfl fun ⟨c153, tl153, wv153, wl153⟩ hx153 => ?_
              try dsimp only at hx153 ⊢
              have hqn153 : ((addQ n s (rows.getD i dLum).k x).1.1).length = 32 := addQ_len
              refine tk_own1 (.tail _ (.head _)) fun hfb153 => ?_
              refine tk_ownA (.tail _ (.tail _ (.head _))) fun hfl153 => ?_
              refine tk_S (fun _ h => h.sub (.cons _ (.cons _ (.cons _ (.cons _ (.cons _ (.cons _ (List.Sublist.refl _)))))))) ?_
              refine tx_q 18 rfl (by kernel_rfl) rfl rfl rfl (fun _ _ _ h => h) (y_move rfl) ?_
              refine tx_q 19 rfl (by kernel_rfl) rfl rfl rfl (fun _ _ _ h => h) (y_extract rfl rfl) ?_
              refine tx_q 20 rfl (by kernel_rfl) rfl rfl rfl (fun _ _ _ h => h) (y_extract rfl rfl) ?_
              refine tx_q 21 rfl (by kernel_rfl) rfl rfl rfl (fun _ _ _ h => h) (y_extract rfl rfl) ?_
              refine tx_a 22 rfl (by kernel_rfl) rfl ?_; refine a_allocL (cs := (List.replicate 32 0).map B) (by kernel_rfl) rfl fun b24 => ?_
              refine tk_S (fun _ h => h.sub (.cons _ (.cons _ (.cons _ (.cons _ (.cons _ (.cons _ (.cons _ (List.Sublist.refl _))))))))) ?_
              refine tx_a 23 rfl (by kernel_rfl) rfl ?_; refine a_storeW (H1 := []) (vs := ((addQ n s (rows.getD i dLum).k x).1.1).map B) 32 rfl rfl (by kernel_rfl) rfl ⟨lenP, lenP⟩ oneB ?_
              refine tk_S (fun _ h => h.sub (.cons _ (.cons _ (.cons _ (.cons _ (.cons _ (.cons _ (.cons _ (List.Sublist.refl _))))))))) ?_
              refine tx_q 24 rfl (by kernel_rfl) rfl rfl rfl (fun _ _ _ h => h) (y_assign rfl) ?_
              refine tx_q 25 rfl (by kernel_rfl) rfl rfl rfl (fun _ _ _ h => h) (y_assign rfl) ?_
              refine tx_done (by kernel_rfl) ?_
              exact tk_to ((b24, c153, tl153, wv153, wl153)) (hx153) (by repeat (first | exact trivial | refine ⟨rfl, ?_⟩)) (.cons_cons _ (.cons_cons _ (.cons_cons _ (.cons_cons _ (.cons_cons _ (.cons_cons _ (.cons_cons _ (.cons _ (List.Sublist.refl _)))))))))
            · skip
              skip; refine a_allocL (cs := (List.replicate 32 0).map B) (by kernel_rfl) rfl fun b24 => ?_
              refine tk_S (fun _ h => h.sub (.cons _ (.cons_cons _ (.cons_cons _ (.cons _ (.cons _ (.cons _ (.cons _ (.cons _ (.cons _ (List.Sublist.refl _))))))))))) ?_
              refine tx_a 17 rfl (by kernel_rfl) rfl ?_
              refine tk_perm _ (.trans (.cons _ (.trans (.cons _ (.trans (.cons _ (.trans (.cons _ (.trans (.cons _ (.trans (.cons _ (.trans (.cons _ (.trans (.cons _ (List.Perm.refl _)) (.swap _ _ _))) (.swap _ _ _))) (.swap _ _ _))) (.swap _ _ _))) (.swap _ _ _))) (.swap _ _ _))) (.swap _ _ _))) (.swap _ _ _)) ?_
              refine tk_perm _ (.trans (.cons _ (.trans (.cons _ (.trans (.cons _ (.trans (.cons _ (.trans (.cons _ (.trans (.cons _ (.trans (.cons _ (.trans (.cons _ (List.Perm.refl _)) (.swap _ _ _))) (.swap _ _ _))) (.swap _ _ _))) (.swap _ _ _))) (.swap _ _ _))) (.swap _ _ _))) (.swap _ _ _))) (.swap _ _ _)) ?_
              refine tk_perm _ (.trans (.cons _ (.trans (.cons _ (.trans (.cons _ (.trans (.cons _ (.trans (.cons _ (.trans (.cons _ (.trans (.cons _ (.trans (.cons _ (List.Perm.refl _)) (.swap _ _ _))) (.swap _ _ _))) (.swap _ _ _))) (.swap _ _ _))) (.swap _ _ _))) (.swap _ _ _))) (.swap _ _ _))) (.swap _ _ _)) ?_
              refine tk_perm _ (.trans (.cons _ (.trans (.cons _ (.trans (.cons _ (.trans (.cons _ (.trans (.cons _ (.trans (.cons _ (.trans (.cons _ (.trans (.cons _ (List.Perm.refl _)) (.swap _ _ _))) (.swap _ _ _))) (.swap _ _ _))) (.swap _ _ _))) (.swap _ _ _))) (.swap _ _ _))) (.swap _ _ _))) (.swap _ _ _)) ?_
              refine tk_perm _ (.trans (.cons _ (.trans (.cons _ (.trans (.cons _ (.trans (.cons _ (.trans (.cons _ (.trans (.cons _ (.trans (.cons _ (.trans (.cons _ (List.Perm.refl _)) (.swap _ _ _))) (.swap _ _ _))) (.swap _ _ _))) (.swap _ _ _))) (.swap _ _ _))) (.swap _ _ _))) (.swap _ _ _))) (.swap _ _ _)) ?_
              refine tk_perm _ (.trans (.cons _ (.trans (.cons _ (.trans (.cons _ (.trans (.cons _ (.trans (.cons _ (.trans (.cons _ (.trans (.cons _ (.trans (.cons _ (List.Perm.refl _)) (.swap _ _ _))) (.swap _ _ _))) (.swap _ _ _))) (.swap _ _ _))) (.swap _ _ _))) (.swap _ _ _))) (.swap _ _ _))) (.swap _ _ _)) ?_
              refine a_callv [] _ rfl (by kernel_rfl) rfl (fun w' hw' => add_spec (hk := rg n 1) (mk := rg n 2) (nk := rg n 3) (bg := [n]) (sb := s.b) (sl := s.l) (wb := wb) (tb := tb) (c := c) (p := s.p) (wbv := wbv) (wlv := wlv) (tvv := tvv) (tlv := tlv) (kind := (rows.getD i dLum).k) (b := x) (ps := [(cutR v134 0 (x.length / 2), x.take (x.length / 2)), (cutR v134 (x.length / 2) x.length, x.drop (x.length / 2))]) (q := (addQ n s (rows.getD i dLum).k x)) addQ_def ⟨lenP, lenP, lenP⟩ ⟨lenP, lenP⟩ lenP lenP lenP lenP (Ro.cel (vs := [cutR v134 0 (x.length / 2), cutR v134 (x.length / 2) x.length]) hw' (.tail _ (.head _)) (by first | rfl | simp) rfl (by decide)) (List.forall_mem_cons.2 ⟨(Ro.cutBh (Ro.own (H0 := _) hw' (.tail _ (.tail _ (.head _)))) (hi := x.length / 2) lenP), (List.forall_mem_cons.2 ⟨(Ro.cutBl (Ro.own (H0 := _) hw' (.tail _ (.tail _ (.head _)))) (lo := x.length / 2) lenP), (fun _ h => nomatch h)⟩)⟩) (by simp) ⟨lenP, lenP⟩ (hg.call hw') (St.pre hw')) rfl fun ⟨c153, tl153, wv153, wl153⟩ hx153 => ?_
              try dsimp only at hx153 ⊢
              have hqn153 : ((addQ n s (rows.getD i dLum).k x).1.1).length = 32 := addQ_len
              refine tk_own1 (.tail _ (.head _)) fun hfb153 => ?_
              refine tk_ownA (.tail _ (.tail _ (.head _))) fun hfl153 => ?_
              refine tk_S (fun _ h => h.sub (.cons _ (.cons _ (.cons _ (.cons _ (.cons _ (.cons _ (.cons _ (List.Sublist.refl _))))))))) ?_
              refine tx_q 18 rfl (by kernel_rfl) rfl rfl rfl (fun _ _ _ h => h) (y_move rfl) ?_
              refine tx_q 19 rfl (by kernel_rfl) rfl rfl rfl (fun _ _ _ h => h) (y_extract rfl rfl) ?_
              refine tx_q 20 rfl (by kernel_rfl) rfl rfl rfl (fun _ _ _ h => h) (y_extract rfl rfl) ?_
              refine tx_q 21 rfl (by kernel_rfl) rfl rfl rfl (fun _ _ _ h => h) (y_extract rfl rfl) ?_
              refine tx_a 23 rfl (by kernel_rfl) rfl ?_; refine a_storeW (H1 := [_, _, _, _, _, _]) (vs := ((addQ n s (rows.getD i dLum).k x).1.1).map B) 32 rfl rfl (by kernel_rfl) rfl ⟨lenP, lenP⟩ oneB ?_
              refine tk_S (fun _ h => h.sub (.cons _ (.cons _ (.cons _ (.cons _ (.cons _ (.cons _ (.cons _ (List.Sublist.refl _))))))))) ?_
              refine tx_q 24 rfl (by kernel_rfl) rfl rfl rfl (fun _ _ _ h => h) (y_assign rfl) ?_
              refine tx_q 25 rfl (by kernel_rfl) rfl rfl rfl (fun _ _ _ h => h) (y_assign rfl) ?_
              refine tx_done (by kernel_rfl) ?_
              refine tk_perm _ (.trans (.cons _ (.trans (.cons _ (.trans (.cons _ (.trans (.cons _ (.trans (.cons _ (.trans (.cons _ (.trans (.cons _ (.trans (.cons _ (.trans (.cons _ (.trans (.cons _ (List.Perm.refl _)) (.swap _ _ _))) (.swap _ _ _))) (.swap _ _ _))) (.swap _ _ _))) (.swap _ _ _))) (.swap _ _ _))) (.swap _ _ _))) (.swap _ _ _))) (.swap _ _ _))) (.swap _ _ _)) ?_
              refine tk_perm _ (.trans (.cons _ (.trans (.cons _ (.trans (.cons _ (.trans (.cons _ (.trans (.cons _ (.trans (.cons _ (.trans (.cons _ (.trans (.cons _ (.trans (.cons _ (.trans (.cons _ (List.Perm.refl _)) (.swap _ _ _))) (.swap _ _ _))) (.swap _ _ _))) (.swap _ _ _))) (.swap _ _ _))) (.swap _ _ _))) (.swap _ _ _))) (.swap _ _ _))) (.swap _ _ _))) (.swap _ _ _)) ?_
              refine tk_perm _ (.trans (.cons _ (.trans (.cons _ (.trans (.cons _ (.trans (.cons _ (.trans (.cons _ (.trans (.cons _ (.trans (.cons _ (.trans (.cons _ (.trans (.cons _ (.trans (.cons _ (List.Perm.refl _)) (.swap _ _ _))) (.swap _ _ _))) (.swap _ _ _))) (.swap _ _ _))) (.swap _ _ _))) (.swap _ _ _))) (.swap _ _ _))) (.swap _ _ _))) (.swap _ _ _))) (.swap _ _ _)) ?_
              refine tk_perm _ (.trans (.cons _ (.trans (.cons _ (.trans (.cons _ (.trans (.cons _ (.trans (.cons _ (.trans (.cons _ (.trans (.cons _ (.trans (.cons _ (List.Perm.refl _)) (.swap _ _ _))) (.swap _ _ _))) (.swap _ _ _))) (.swap _ _ _))) (.swap _ _ _))) (.swap _ _ _))) (.swap _ _ _))) (.swap _ _ _)) ?_
              refine tk_perm _ (.trans (.cons _ (.trans (.cons _ (.trans (.cons _ (.trans (.cons _ (.trans (.cons _ (.trans (.cons _ (.trans (.cons _ (.trans (.cons _ (List.Perm.refl _)) (.swap _ _ _))) (.swap _ _ _))) (.swap _ _ _))) (.swap _ _ _))) (.swap _ _ _))) (.swap _ _ _))) (.swap _ _ _))) (.swap _ _ _)) ?_
              refine tk_perm _ (.trans (.cons _ (.trans (.cons _ (.trans (.cons _ (.trans (.cons _ (.trans (.cons _ (.trans (.cons _ (.trans (.cons _ (.trans (.cons _ (List.Perm.refl _)) (.swap _ _ _))) (.swap _ _ _))) (.swap _ _ _))) (.swap _ _ _))) (.swap _ _ _))) (.swap _ _ _))) (.swap _ _ _))) (.swap _ _ _)) ?_
              refine tk_perm _ (.trans (.cons _ (.trans (.cons _ (.trans (.cons _ (.trans (.cons _ (.trans (.cons _ (.trans (.cons _ (.trans (.cons _ (.trans (.cons _ (List.Perm.refl _)) (.swap _ _ _))) (.swap _ _ _))) (.swap _ _ _))) (.swap _ _ _))) (.swap _ _ _))) (.swap _ _ _))) (.swap _ _ _))) (.swap _ _ _)) ?_
              refine tk_perm _ (.trans (.cons _ (.trans (.cons _ (.trans (.cons _ (.trans (.cons _ (.trans (.cons _ (.trans (.cons _ (.trans (.cons _ (.trans (.cons _ (List.Perm.refl _)) (.swap _ _ _))) (.swap _ _ _))) (.swap _ _ _))) (.swap _ _ _))) (.swap _ _ _))) (.swap _ _ _))) (.swap _ _ _))) (.swap _ _ _)) ?_
              refine tk_perm _ (.trans (.cons _ (.trans (.cons _ (.trans (.cons _ (.trans (.cons _ (.trans (.cons _ (.trans (.cons _ (.trans (.cons _ (.trans (.cons _ (List.Perm.refl _)) (.swap _ _ _))) (.swap _ _ _))) (.swap _ _ _))) (.swap _ _ _))) (.swap _ _ _))) (.swap _ _ _))) (.swap _ _ _))) (.swap _ _ _)) ?_
              refine tk_perm _ (.trans (.cons _ (.trans (.cons _ (.trans (.cons _ (.trans (.cons _ (.trans (.cons _ (.trans (.cons _ (.trans (.cons _ (.trans (.cons _ (.trans (.cons _ (List.Perm.refl _)) (.swap _ _ _))) (.swap _ _ _))) (.swap _ _ _))) (.swap _ _ _))) (.swap _ _ _))) (.swap _ _ _))) (.swap _ _ _))) (.swap _ _ _))) (.swap _ _ _)) ?_
              exact tk_to ((b24, c153, tl153, wv153, wl153)) (hx153) (by repeat (first | exact trivial | refine ⟨rfl, ?_⟩)) (.cons_cons _ (.cons_cons _ (.cons_cons _ (.cons_cons _ (.cons_cons _ (.cons_cons _ (.cons_cons _ (.cons_cons _ (.cons_cons _ (.cons_cons _ (List.nil_sublist _)))))))))))
          · skip
            skip; refine a_allocL (cs := (List.replicate 32 0).map B) (by kernel_rfl) rfl fun b24 => ?_
            refine tk_S (fun _ h => h.sub (.cons _ (.cons_cons _ (.cons _ (.cons _ (.cons _ (.cons _ (.cons _ (.cons _ (List.Sublist.refl _)))))))))) ?_
            refine tx_a 16 rfl (by kernel_rfl) rfl ?_; refine a_slitN (vs := [cutR v134 0 (x.length / 2), cutR v134 (x.length / 2) x.length]) rfl (List.forall_mem_cons.2 ⟨(RdS.one (RdS.cutBh hfx.choose_spec (hi := x.length / 2) lenP)), (List.forall_mem_cons.2 ⟨(RdS.one (RdS.cutBl hfx.choose_spec (lo := x.length / 2) lenP)), (fun _ h => nomatch h)⟩)⟩) (EL45) rfl rfl (by decide) fun b152 => ?_
            refine tk_S (fun _ h => h.sub (.cons _ (.cons _ (.cons_cons _ (.cons _ (.cons _ (.cons _ (.cons _ (.cons _ (.cons _ (List.Sublist.refl _))))))))))) ?_
            refine tx_more [cel b152 ([cutR v134 0 (x.length / 2), cutR v134 (x.length / 2) x.length]) 26, own v134 x.length (x.map B) 5 1, cel mb ((rg n 1).map B ++ ((rg n 2).map B ++ ((rg n 3).map B ++ ([Str [n], I ((u : Nat) : Int), Str s.b, mlv])))) 86, own mlv s.l.length (s.l.flatMap entC) 130 35] (fun _ h => h.sub (.cons _ (List.Sublist.refl _))) (fun _ h => h.sub (.cons_cons _ (.cons _ (.cons_cons _ (.cons _ (.cons _ (.cons _ (.cons _ (.cons _ (.cons _ (List.Sublist.refl _))))))))))) ?_
            refine tx_a 17 rfl (by kernel_rfl) rfl ?_
            refine tk_perm _ (.trans (.cons _ (.trans (.cons _ (.trans (.cons _ (.trans (.cons _ (.trans (.cons _ (.trans (.cons _ (.trans (.cons _ (.trans (.cons _ (List.Perm.refl _)) (.swap _ _ _))) (.swap _ _ _))) (.swap _ _ _))) (.swap _ _ _))) (.swap _ _ _))) (.swap _ _ _))) (.swap _ _ _))) (.swap _ _ _)) ?_
            refine tk_perm _ (.trans (.cons _ (.trans (.cons _ (.trans (.cons _ (.trans (.cons _ (.trans (.cons _ (.trans (.cons _ (.trans (.cons _ (.trans (.cons _ (List.Perm.refl _)) (.swap _ _ _))) (.swap _ _ _))) (.swap _ _ _))) (.swap _ _ _))) (.swap _ _ _))) (.swap _ _ _))) (.swap _ _ _))) (.swap _ _ _)) ?_
            refine tk_perm _ (.trans (.cons _ (.trans (.cons _ (.trans (.cons _ (.trans (.cons _ (.trans (.cons _ (.trans (.cons _ (.trans (.cons _ (.trans (.cons _ (List.Perm.refl _)) (.swap _ _ _))) (.swap _ _ _))) (.swap _ _ _))) (.swap _ _ _))) (.swap _ _ _))) (.swap _ _ _))) (.swap _ _ _))) (.swap _ _ _)) ?_
            refine tk_perm _ (.trans (.cons _ (.trans (.cons _ (.trans (.cons _ (.trans (.cons _ (.trans (.cons _ (.trans (.cons _ (.trans (.cons _ (.trans (.cons _ (List.Perm.refl _)) (.swap _ _ _))) (.swap _ _ _))) (.swap _ _ _))) (.swap _ _ _))) (.swap _ _ _))) (.swap _ _ _))) (.swap _ _ _))) (.swap _ _ _)) ?_
            refine tk_perm _ (.trans (.cons _ (.trans (.cons _ (.trans (.cons _ (.trans (.cons _ (.trans (.cons _ (.trans (.cons _ (.trans (.cons _ (.trans (.cons _ (List.Perm.refl _)) (.swap _ _ _))) (.swap _ _ _))) (.swap _ _ _))) (.swap _ _ _))) (.swap _ _ _))) (.swap _ _ _))) (.swap _ _ _))) (.swap _ _ _)) ?_
            refine tk_perm _ (.trans (.cons _ (.trans (.cons _ (.trans (.cons _ (.trans (.cons _ (.trans (.cons _ (.trans (.cons _ (.trans (.cons _ (.trans (.cons _ (List.Perm.refl _)) (.swap _ _ _))) (.swap _ _ _))) (.swap _ _ _))) (.swap _ _ _))) (.swap _ _ _))) (.swap _ _ _))) (.swap _ _ _))) (.swap _ _ _)) ?_
            refine a_callv [] _ rfl (by kernel_rfl) rfl (fun w' hw' => add_spec (hk := rg n 1) (mk := rg n 2) (nk := rg n 3) (bg := [n]) (sb := s.b) (sl := s.l) (wb := wb) (tb := tb) (c := c) (p := s.p) (wbv := wbv) (wlv := wlv) (tvv := tvv) (tlv := tlv) (kind := (rows.getD i dLum).k) (b := x) (ps := [(cutR v134 0 (x.length / 2), x.take (x.length / 2)), (cutR v134 (x.length / 2) x.length, x.drop (x.length / 2))]) (q := (addQ n s (rows.getD i dLum).k x)) addQ_def ⟨lenP, lenP, lenP⟩ ⟨lenP, lenP⟩ lenP lenP lenP lenP (Ro.cel (vs := [cutR v134 0 (x.length / 2), cutR v134 (x.length / 2) x.length]) hw' (.head _) (by first | rfl | simp) rfl (by decide)) (List.forall_mem_cons.2 ⟨(Ro.cutBh (Ro.own (H0 := _) hw' (.tail _ (.tail _ (.head _)))) (hi := x.length / 2) lenP), (List.forall_mem_cons.2 ⟨(Ro.cutBl (Ro.own (H0 := _) hw' (.tail _ (.tail _ (.head _)))) (lo := x.length / 2) lenP), (fun _ h => nomatch h)⟩)⟩) (by simp) ⟨lenP, lenP⟩ (hg.call hw') (St.pre hw')) rfl fun ⟨c153, tl153, wv153, wl153⟩ hx153 => ?_
            try dsimp only at hx153 ⊢
            have hqn153 : ((addQ n s (rows.getD i dLum).k x).1.1).length = 32 := addQ_len
            refine tk_own1 (.tail _ (.head _)) fun hfb153 => ?_
            refine tk_ownA (.tail _ (.tail _ (.head _))) fun hfl153 => ?_
            refine tk_S (fun _ h => h.sub (.cons _ (.cons _ (.cons _ (.cons _ (.cons _ (.cons _ (.cons_cons _ (.cons _ (List.Sublist.refl _)))))))))) ?_
            refine tx_q 18 rfl (by kernel_rfl) rfl rfl rfl (fun _ _ _ h => h) (y_move rfl) ?_
            refine tx_q 19 rfl (by kernel_rfl) rfl rfl rfl (fun _ _ _ h => h) (y_extract rfl rfl) ?_
            refine tx_q 20 rfl (by kernel_rfl) rfl rfl rfl (fun _ _ _ h => h) (y_extract rfl rfl) ?_
            refine tx_q 21 rfl (by kernel_rfl) rfl rfl rfl (fun _ _ _ h => h) (y_extract rfl rfl) ?_
            refine tx_a 23 rfl (by kernel_rfl) rfl ?_; refine a_storeW (H1 := [_, _, _, _, _, _, _]) (vs := ((addQ n s (rows.getD i dLum).k x).1.1).map B) 32 rfl rfl (by kernel_rfl) rfl ⟨lenP, lenP⟩ oneB ?_
            refine tk_S (fun _ h => h.sub (.cons _ (.cons _ (.cons _ (.cons _ (.cons _ (.cons _ (.cons_cons _ (.cons _ (List.Sublist.refl _)))))))))) ?_
            refine tx_q 24 rfl (by kernel_rfl) rfl rfl rfl (fun _ _ _ h => h) (y_assign rfl) ?_
            refine tx_q 25 rfl (by kernel_rfl) rfl rfl rfl (fun _ _ _ h => h) (y_assign rfl) ?_
            refine tx_done (by kernel_rfl) ?_
            refine tk_perm _ (.trans (.cons _ (.trans (.cons _ (.trans (.cons _ (.trans (.cons _ (.trans (.cons _ (.trans (.cons _ (.trans (.cons _ (.trans (.cons _ (.trans (.cons _ (.trans (.cons _ (List.Perm.refl _)) (.swap _ _ _))) (.swap _ _ _))) (.swap _ _ _))) (.swap _ _ _))) (.swap _ _ _))) (.swap _ _ _))) (.swap _ _ _))) (.swap _ _ _))) (.swap _ _ _))) (.swap _ _ _)) ?_
            refine tk_perm _ (.trans (.cons _ (.trans (.cons _ (.trans (.cons _ (.trans (.cons _ (.trans (.cons _ (.trans (.cons _ (.trans (.cons _ (.trans (.cons _ (.trans (.cons _ (.trans (.cons _ (List.Perm.refl _)) (.swap _ _ _))) (.swap _ _ _))) (.swap _ _ _))) (.swap _ _ _))) (.swap _ _ _))) (.swap _ _ _))) (.swap _ _ _))) (.swap _ _ _))) (.swap _ _ _))) (.swap _ _ _)) ?_
            refine tk_perm _ (.trans (.cons _ (.trans (.cons _ (.trans (.cons _ (.trans (.cons _ (.trans (.cons _ (.trans (.cons _ (.trans (.cons _ (.trans (.cons _ (.trans (.cons _ (.trans (.cons _ (List.Perm.refl _)) (.swap _ _ _))) (.swap _ _ _))) (.swap _ _ _))) (.swap _ _ _))) (.swap _ _ _))) (.swap _ _ _))) (.swap _ _ _))) (.swap _ _ _))) (.swap _ _ _))) (.swap _ _ _)) ?_
            refine tk_perm _ (.trans (.cons _ (.trans (.cons _ (.trans (.cons _ (.trans (.cons _ (.trans (.cons _ (.trans (.cons _ (.trans (.cons _ (.trans (.cons _ (List.Perm.refl _)) (.swap _ _ _))) (.swap _ _ _))) (.swap _ _ _))) (.swap _ _ _))) (.swap _ _ _))) (.swap _ _ _))) (.swap _ _ _))) (.swap _ _ _)) ?_
            refine tk_perm _ (.trans (.cons _ (.trans (.cons _ (.trans (.cons _ (.trans (.cons _ (.trans (.cons _ (.trans (.cons _ (.trans (.cons _ (.trans (.cons _ (List.Perm.refl _)) (.swap _ _ _))) (.swap _ _ _))) (.swap _ _ _))) (.swap _ _ _))) (.swap _ _ _))) (.swap _ _ _))) (.swap _ _ _))) (.swap _ _ _)) ?_
            refine tk_perm _ (.trans (.cons _ (.trans (.cons _ (.trans (.cons _ (.trans (.cons _ (.trans (.cons _ (.trans (.cons _ (.trans (.cons _ (.trans (.cons _ (List.Perm.refl _)) (.swap _ _ _))) (.swap _ _ _))) (.swap _ _ _))) (.swap _ _ _))) (.swap _ _ _))) (.swap _ _ _))) (.swap _ _ _))) (.swap _ _ _)) ?_
            refine tk_perm _ (.trans (.cons _ (.trans (.cons _ (.trans (.cons _ (.trans (.cons _ (.trans (.cons _ (.trans (.cons _ (.trans (.cons _ (.trans (.cons _ (List.Perm.refl _)) (.swap _ _ _))) (.swap _ _ _))) (.swap _ _ _))) (.swap _ _ _))) (.swap _ _ _))) (.swap _ _ _))) (.swap _ _ _))) (.swap _ _ _)) ?_
            refine tk_perm _ (.trans (.cons _ (.trans (.cons _ (.trans (.cons _ (.trans (.cons _ (.trans (.cons _ (.trans (.cons _ (.trans (.cons _ (.trans (.cons _ (List.Perm.refl _)) (.swap _ _ _))) (.swap _ _ _))) (.swap _ _ _))) (.swap _ _ _))) (.swap _ _ _))) (.swap _ _ _))) (.swap _ _ _))) (.swap _ _ _)) ?_
            refine tk_perm _ (.trans (.cons _ (.trans (.cons _ (.trans (.cons _ (.trans (.cons _ (.trans (.cons _ (.trans (.cons _ (.trans (.cons _ (.trans (.cons _ (List.Perm.refl _)) (.swap _ _ _))) (.swap _ _ _))) (.swap _ _ _))) (.swap _ _ _))) (.swap _ _ _))) (.swap _ _ _))) (.swap _ _ _))) (.swap _ _ _)) ?_
            refine tk_perm _ (.trans (.cons _ (.trans (.cons _ (.trans (.cons _ (.trans (.cons _ (.trans (.cons _ (.trans (.cons _ (.trans (.cons _ (.trans (.cons _ (.trans (.cons _ (.trans (.cons _ (List.Perm.refl _)) (.swap _ _ _))) (.swap _ _ _))) (.swap _ _ _))) (.swap _ _ _))) (.swap _ _ _))) (.swap _ _ _))) (.swap _ _ _))) (.swap _ _ _))) (.swap _ _ _))) (.swap _ _ _)) ?_
            exact tk_to ((b24, c153, tl153, wv153, wl153)) (hx153) (by repeat (first | exact trivial | refine ⟨rfl, ?_⟩)) (.cons_cons _ (.cons_cons _ (.cons_cons _ (.cons_cons _ (.cons_cons _ (.cons_cons _ (.cons_cons _ (.cons_cons _ (.cons_cons _ (.cons_cons _ (List.nil_sublist _)))))))))))
        · rintro ⟨b24, c2, tl2, wb2, wl2⟩ hI2
          dsimp only at hI2 ⊢
          have hqn : ((addQ n s (rows.getD i dLum).k x).1.1).length = 32 := addQ_len
          refine tk_own1 (.tail _ (.tail _ (.head _))) fun hfb2 => ?_
          refine tk_ownA (.tail _ (.tail _ (.tail _ (.head _)))) fun hfl2 => ?_
          refine tk_seqI (X := Nat × Nat × Value) (fun (b27, u2, m2) => (addQ n s (rows.getD i dLum).k x).2.p = 16 * u2) (fun (b27, u2, m2) => [(1, rv), (12, .pointer (some ⟨wb, 0, none⟩)), (13, .pointer (some ⟨mb, 0, none⟩)), (14, I ((i : Nat) : Int)), (23, v134), (24, .pointer (some ⟨b24, 0, none⟩)), (25, .bool ((addQ n s (rows.getD i dLum).k x).1.2.1)), (26, I (((addQ n s (rows.getD i dLum).k x).1.2.2 : Nat) : Int)), (27, .pointer (some ⟨b27, 0, none⟩)), (28, .bool ((addQ n s (rows.getD i dLum).k x).1.2.1)), (29, I (((addQ n s (rows.getD i dLum).k x).1.2.2 : Nat) : Int))]) (fun (b27, u2, m2) => [cel b27 (((addQ n s (rows.getD i dLum).k x).1.1).map B) 65, cel mb ((rg n 1).map B ++ ((rg n 2).map B ++ ((rg n 3).map B ++ ([Str [n], I ((u2 : Nat) : Int), Str ((addQ n s (rows.getD i dLum).k x).2.b), m2])))) 86, own m2 (((addQ n s (rows.getD i dLum).k x).2.l).length) (((addQ n s (rows.getD i dLum).k x).2.l).flatMap entC) 130 35, cel b24 (((addQ n s (rows.getD i dLum).k x).1.1).map B) 65, cel wb ((rg n 1).map B ++ ((rg n 2).map B ++ ((rg n 3).map B ++ ([Value.pointer (some ⟨tb, 0, none⟩), wb2, wl2])))) 117, own wb2 (((addQ n s (rows.getD i dLum).k x).2.b).length) (((addQ n s (rows.getD i dLum).k x).2.b).map B) 5 1, own wl2 (((addQ n s (rows.getD i dLum).k x).2.l).length) (((addQ n s (rows.getD i dLum).k x).2.l).flatMap entC) 91 35, cel tb ([tvv, .int .u64 ((c2 : Nat) : Int), tl2]) 160, own tvv ([n].length) ([n].map B) 5 1, own tl2 (((tapeL [n] c2).drop ((addQ n s (rows.getD i dLum).k x).2.p)).length) (((tapeL [n] c2).drop ((addQ n s (rows.getD i dLum).k x).2.p)).map B) 5 1, own v134 x.length (x.map B) 5 1]) ?_ ?_
          · skip
            refine tk_drawH [cel b24 (((addQ n s (rows.getD i dLum).k x).1.1).map B) 65, cel wb ((rg n 1).map B ++ ((rg n 2).map B ++ ((rg n 3).map B ++ ([Value.pointer (some ⟨tb, 0, none⟩), wb2, wl2])))) 117, own wb2 (((addQ n s (rows.getD i dLum).k x).2.b).length) (((addQ n s (rows.getD i dLum).k x).2.b).map B) 5 1, own wl2 (((addQ n s (rows.getD i dLum).k x).2.l).length) (((addQ n s (rows.getD i dLum).k x).2.l).flatMap entC) 91 35, cel tb ([tvv, .int .u64 ((c2 : Nat) : Int), tl2]) 160, own tvv ([n].length) ([n].map B) 5 1, own tl2 (((tapeL [n] c2).drop ((addQ n s (rows.getD i dLum).k x).2.p)).length) (((tapeL [n] c2).drop ((addQ n s (rows.getD i dLum).k x).2.p)).map B) 5 1, own v134 x.length (x.map B) 5 1] [] (by kernel_rfl) ?_
            refine tx_q 0 rfl (by kernel_rfl) rfl rfl rfl (fun _ _ _ h => h) (y_move rfl) ?_
            refine tx_q 1 rfl (by kernel_rfl) rfl rfl rfl (fun _ _ _ h => h) (y_move rfl) ?_
            refine tx_q 2 rfl (by kernel_rfl) rfl rfl rfl (fun _ _ _ h => h) (y_move rfl) ?_
            refine tx_q 3 rfl (by kernel_rfl) rfl rfl rfl (fun _ _ _ h => h) (y_ixE (i := i) (k := 2) rfl rfl hrows.1 lenP (by kernel_rfl)) ?_
            refine tx_q 4 rfl (by kernel_rfl) rfl rfl rfl (fun _ _ _ h => h) (y_fldE (o := i * 2 + 0) (off := 0) rfl (by kernel_rfl)) ?_
            refine tx_l 5 rfl (by kernel_rfl) (by kernel_rfl) rfl rfl rfl (fun _ _ _ h => h) (fun _ h => h.sub (.cons_cons _ (.cons_cons _ (.cons_cons _ (.cons_cons _ (.cons_cons _ (.cons_cons _ (.cons_cons _ (.cons_cons _ (List.nil_sublist _)))))))))) (y_loadE1 (i := i) (k := 2) (o := 0) (f := lumC) (l := rows) (d0 := dLum) (u := I ((rows.getD i dLum).k)) rfl rfl lumC_len lenP rfl (fun w hw => Ro.rdC hrows hw)) ?_
            refine tx_q 6 rfl (by kernel_rfl) rfl rfl rfl (fun _ _ _ h => h) (y_move rfl) ?_
            refine tx_l 7 rfl (by kernel_rfl) (by kernel_rfl) rfl rfl rfl (fun _ _ _ h => h) (fun _ h => h.sub (.cons_cons _ (.cons_cons _ (.cons_cons _ (.cons_cons _ (.cons_cons _ (.cons_cons _ (.cons_cons _ (.cons_cons _ (List.nil_sublist _)))))))))) (y_str (l := x) rfl rfl rfl rfl (fun w hw => own_rdS (hw.mem (.tail _ (.tail _ (.tail _ (.tail _ (.tail _ (.tail _ (.tail _ (.head _))))))))))) ?_
            refine tx_all (is := [8, 13]) (by kernel_rfl) rfl ⟨⟨_, rfl, rfl, ?_⟩, ⟨_, rfl, rfl, ?_⟩, trivial⟩
            · skip
              skip
              refine tk_perm _ (.trans (.cons _ (.trans (.cons _ (.trans (.cons _ (.trans (.cons _ (.trans (.cons _ (.trans (.cons _ (.trans (.cons _ (.trans (.cons _ (.trans (.cons _ (List.Perm.refl _)) (.swap _ _ _))) (.swap _ _ _))) (.swap _ _ _))) (.swap _ _ _))) (.swap _ _ _))) (.swap _ _ _))) (.swap _ _ _))) (.swap _ _ _))) (.swap _ _ _)) ?_
              refine tk_perm _ (.trans (.cons _ (.trans (.cons _ (.trans (.cons _ (.trans (.cons _ (.trans (.cons _ (.trans (.cons _ (.trans (.cons _ (.trans (.cons _ (.trans (.cons _ (List.Perm.refl _)) (.swap _ _ _))) (.swap _ _ _))) (.swap _ _ _))) (.swap _ _ _))) (.swap _ _ _))) (.swap _ _ _))) (.swap _ _ _))) (.swap _ _ _))) (.swap _ _ _)) ?_
              refine a_callv [] _ rfl (by kernel_rfl) rfl (fun w' hw' => radd_spec (hk := rg n 1) (mk := rg n 2) (nk := rg n 3) (bg := [n]) (sb := s.b) (sl := s.l) (mb := mb) (u := u) (mlv := mlv) (kind := (rows.getD i dLum).k) (b := x) (q := (addQ n s (rows.getD i dLum).k x)) (by rw [← hpu]; exact addQ_def) ⟨lenP, lenP, lenP⟩ lenP lenP lenP lenP lenP (St.pre hw')) rfl fun ⟨u166, m166⟩ hx166 => ?_
              try dsimp only at hx166 ⊢
              have hqn166 : ((addQ n s (rows.getD i dLum).k x).1.1).length = 32 := addQ_len
              refine tk_ownA (.tail _ (.head _)) fun hfm166 => ?_
              refine tk_S (fun _ h => h.sub (.cons _ (.cons _ (List.Sublist.refl _)))) ?_
              refine tx_q 9 rfl (by kernel_rfl) rfl rfl rfl (fun _ _ _ h => h) (y_move rfl) ?_
              refine tx_q 10 rfl (by kernel_rfl) rfl rfl rfl (fun _ _ _ h => h) (y_extract rfl rfl) ?_
              refine tx_q 11 rfl (by kernel_rfl) rfl rfl rfl (fun _ _ _ h => h) (y_extract rfl rfl) ?_
              refine tx_q 12 rfl (by kernel_rfl) rfl rfl rfl (fun _ _ _ h => h) (y_extract rfl rfl) ?_
              refine tx_a 13 rfl (by kernel_rfl) rfl ?_; refine a_allocL (cs := (List.replicate 32 0).map B) (by kernel_rfl) rfl fun b27 => ?_
              refine tk_S (fun _ h => h.sub (.cons _ (.cons _ (.cons _ (List.Sublist.refl _))))) ?_
              refine tx_a 14 rfl (by kernel_rfl) rfl ?_; refine a_storeW (H1 := []) (vs := ((addQ n s (rows.getD i dLum).k x).1.1).map B) 32 rfl rfl (by kernel_rfl) rfl ⟨lenP, lenP⟩ oneB ?_
              refine tk_S (fun _ h => h.sub (.cons _ (.cons _ (.cons _ (List.Sublist.refl _))))) ?_
              refine tx_q 15 rfl (by kernel_rfl) rfl rfl rfl (fun _ _ _ h => h) (y_assign rfl) ?_
              refine tx_q 16 rfl (by kernel_rfl) rfl rfl rfl (fun _ _ _ h => h) (y_assign rfl) ?_
              refine tx_done (by kernel_rfl) ?_
              exact tk_to ((b27, u166, m166)) (hx166) (by repeat (first | exact trivial | refine ⟨rfl, ?_⟩)) (List.Sublist.refl _)
            · skip
              skip; refine a_allocL (cs := (List.replicate 32 0).map B) (by kernel_rfl) rfl fun b27 => ?_
              refine tk_S (fun _ h => h.sub (.cons _ (.cons_cons _ (.cons_cons _ (.cons_cons _ (.cons_cons _ (.cons_cons _ (.cons_cons _ (.cons_cons _ (.cons_cons _ (List.nil_sublist _))))))))))) ?_
              refine tx_a 8 rfl (by kernel_rfl) rfl ?_
              refine tk_perm _ (.trans (.cons _ (.trans (.cons _ (.trans (.cons _ (.trans (.cons _ (.trans (.cons _ (.trans (.cons _ (.trans (.cons _ (.trans (.cons _ (.trans (.cons _ (.trans (.cons _ (List.Perm.refl _)) (.swap _ _ _))) (.swap _ _ _))) (.swap _ _ _))) (.swap _ _ _))) (.swap _ _ _))) (.swap _ _ _))) (.swap _ _ _))) (.swap _ _ _))) (.swap _ _ _))) (.swap _ _ _)) ?_
              refine tk_perm _ (.trans (.cons _ (.trans (.cons _ (.trans (.cons _ (.trans (.cons _ (.trans (.cons _ (.trans (.cons _ (.trans (.cons _ (.trans (.cons _ (.trans (.cons _ (.trans (.cons _ (List.Perm.refl _)) (.swap _ _ _))) (.swap _ _ _))) (.swap _ _ _))) (.swap _ _ _))) (.swap _ _ _))) (.swap _ _ _))) (.swap _ _ _))) (.swap _ _ _))) (.swap _ _ _))) (.swap _ _ _)) ?_
              refine a_callv [] _ rfl (by kernel_rfl) rfl (fun w' hw' => radd_spec (hk := rg n 1) (mk := rg n 2) (nk := rg n 3) (bg := [n]) (sb := s.b) (sl := s.l) (mb := mb) (u := u) (mlv := mlv) (kind := (rows.getD i dLum).k) (b := x) (q := (addQ n s (rows.getD i dLum).k x)) (by rw [← hpu]; exact addQ_def) ⟨lenP, lenP, lenP⟩ lenP lenP lenP lenP lenP (St.pre hw')) rfl fun ⟨u166, m166⟩ hx166 => ?_
              try dsimp only at hx166 ⊢
              have hqn166 : ((addQ n s (rows.getD i dLum).k x).1.1).length = 32 := addQ_len
              refine tk_ownA (.tail _ (.head _)) fun hfm166 => ?_
              refine tk_S (fun _ h => h.sub (.cons _ (.cons _ (.cons _ (List.Sublist.refl _))))) ?_
              refine tx_q 9 rfl (by kernel_rfl) rfl rfl rfl (fun _ _ _ h => h) (y_move rfl) ?_
              refine tx_q 10 rfl (by kernel_rfl) rfl rfl rfl (fun _ _ _ h => h) (y_extract rfl rfl) ?_
              refine tx_q 11 rfl (by kernel_rfl) rfl rfl rfl (fun _ _ _ h => h) (y_extract rfl rfl) ?_
              refine tx_q 12 rfl (by kernel_rfl) rfl rfl rfl (fun _ _ _ h => h) (y_extract rfl rfl) ?_
              refine tx_a 14 rfl (by kernel_rfl) rfl ?_; refine a_storeW (H1 := [_, _]) (vs := ((addQ n s (rows.getD i dLum).k x).1.1).map B) 32 rfl rfl (by kernel_rfl) rfl ⟨lenP, lenP⟩ oneB ?_
              refine tk_S (fun _ h => h.sub (.cons _ (.cons _ (.cons _ (List.Sublist.refl _))))) ?_
              refine tx_q 15 rfl (by kernel_rfl) rfl rfl rfl (fun _ _ _ h => h) (y_assign rfl) ?_
              refine tx_q 16 rfl (by kernel_rfl) rfl rfl rfl (fun _ _ _ h => h) (y_assign rfl) ?_
              refine tx_done (by kernel_rfl) ?_
              refine tk_perm _ (.trans (.cons _ (.trans (.cons _ (.trans (.cons _ (.trans (.cons _ (.trans (.cons _ (.trans (.cons _ (.trans (.cons _ (.trans (.cons _ (.trans (.cons _ (.trans (.cons _ (List.Perm.refl _)) (.swap _ _ _))) (.swap _ _ _))) (.swap _ _ _))) (.swap _ _ _))) (.swap _ _ _))) (.swap _ _ _))) (.swap _ _ _))) (.swap _ _ _))) (.swap _ _ _))) (.swap _ _ _)) ?_
              refine tk_perm _ (.trans (.cons _ (.trans (.cons _ (.trans (.cons _ (.trans (.cons _ (.trans (.cons _ (.trans (.cons _ (.trans (.cons _ (.trans (.cons _ (.trans (.cons _ (.trans (.cons _ (List.Perm.refl _)) (.swap _ _ _))) (.swap _ _ _))) (.swap _ _ _))) (.swap _ _ _))) (.swap _ _ _))) (.swap _ _ _))) (.swap _ _ _))) (.swap _ _ _))) (.swap _ _ _))) (.swap _ _ _)) ?_
              refine tk_perm _ (.trans (.cons _ (.trans (.cons _ (.trans (.cons _ (.trans (.cons _ (.trans (.cons _ (.trans (.cons _ (.trans (.cons _ (.trans (.cons _ (.trans (.cons _ (.trans (.cons _ (List.Perm.refl _)) (.swap _ _ _))) (.swap _ _ _))) (.swap _ _ _))) (.swap _ _ _))) (.swap _ _ _))) (.swap _ _ _))) (.swap _ _ _))) (.swap _ _ _))) (.swap _ _ _))) (.swap _ _ _)) ?_
              refine tk_perm _ (.trans (.cons _ (.trans (.cons _ (.trans (.cons _ (.trans (.cons _ (.trans (.cons _ (.trans (.cons _ (.trans (.cons _ (.trans (.cons _ (.trans (.cons _ (.trans (.cons _ (List.Perm.refl _)) (.swap _ _ _))) (.swap _ _ _))) (.swap _ _ _))) (.swap _ _ _))) (.swap _ _ _))) (.swap _ _ _))) (.swap _ _ _))) (.swap _ _ _))) (.swap _ _ _))) (.swap _ _ _)) ?_
              refine tk_perm _ (.trans (.cons _ (.trans (.cons _ (.trans (.cons _ (.trans (.cons _ (.trans (.cons _ (.trans (.cons _ (.trans (.cons _ (.trans (.cons _ (.trans (.cons _ (.trans (.cons _ (List.Perm.refl _)) (.swap _ _ _))) (.swap _ _ _))) (.swap _ _ _))) (.swap _ _ _))) (.swap _ _ _))) (.swap _ _ _))) (.swap _ _ _))) (.swap _ _ _))) (.swap _ _ _))) (.swap _ _ _)) ?_
              refine tk_perm _ (.trans (.cons _ (.trans (.cons _ (.trans (.cons _ (.trans (.cons _ (.trans (.cons _ (.trans (.cons _ (.trans (.cons _ (.trans (.cons _ (.trans (.cons _ (.trans (.cons _ (List.Perm.refl _)) (.swap _ _ _))) (.swap _ _ _))) (.swap _ _ _))) (.swap _ _ _))) (.swap _ _ _))) (.swap _ _ _))) (.swap _ _ _))) (.swap _ _ _))) (.swap _ _ _))) (.swap _ _ _)) ?_
              refine tk_perm _ (.trans (.cons _ (.trans (.cons _ (.trans (.cons _ (.trans (.cons _ (.trans (.cons _ (.trans (.cons _ (.trans (.cons _ (.trans (.cons _ (.trans (.cons _ (.trans (.cons _ (List.Perm.refl _)) (.swap _ _ _))) (.swap _ _ _))) (.swap _ _ _))) (.swap _ _ _))) (.swap _ _ _))) (.swap _ _ _))) (.swap _ _ _))) (.swap _ _ _))) (.swap _ _ _))) (.swap _ _ _)) ?_
              refine tk_perm _ (.trans (.cons _ (.trans (.cons _ (.trans (.cons _ (.trans (.cons _ (.trans (.cons _ (.trans (.cons _ (.trans (.cons _ (.trans (.cons _ (.trans (.cons _ (.trans (.cons _ (List.Perm.refl _)) (.swap _ _ _))) (.swap _ _ _))) (.swap _ _ _))) (.swap _ _ _))) (.swap _ _ _))) (.swap _ _ _))) (.swap _ _ _))) (.swap _ _ _))) (.swap _ _ _))) (.swap _ _ _)) ?_
              refine tk_perm _ (.trans (.cons _ (.trans (.cons _ (.trans (.cons _ (.trans (.cons _ (.trans (.cons _ (.trans (.cons _ (.trans (.cons _ (.trans (.cons _ (.trans (.cons _ (List.Perm.refl _)) (.swap _ _ _))) (.swap _ _ _))) (.swap _ _ _))) (.swap _ _ _))) (.swap _ _ _))) (.swap _ _ _))) (.swap _ _ _))) (.swap _ _ _))) (.swap _ _ _)) ?_
              refine tk_perm _ (.trans (.cons _ (.trans (.cons _ (.trans (.cons _ (.trans (.cons _ (.trans (.cons _ (.trans (.cons _ (.trans (.cons _ (.trans (.cons _ (.trans (.cons _ (List.Perm.refl _)) (.swap _ _ _))) (.swap _ _ _))) (.swap _ _ _))) (.swap _ _ _))) (.swap _ _ _))) (.swap _ _ _))) (.swap _ _ _))) (.swap _ _ _))) (.swap _ _ _)) ?_
              refine tk_perm _ (.trans (.cons _ (.trans (.cons _ (.trans (.cons _ (.trans (.cons _ (.trans (.cons _ (.trans (.cons _ (.trans (.cons _ (.trans (.cons _ (.trans (.cons _ (.trans (.cons _ (List.Perm.refl _)) (.swap _ _ _))) (.swap _ _ _))) (.swap _ _ _))) (.swap _ _ _))) (.swap _ _ _))) (.swap _ _ _))) (.swap _ _ _))) (.swap _ _ _))) (.swap _ _ _))) (.swap _ _ _)) ?_
              exact tk_to ((b27, u166, m166)) (hx166) (by repeat (first | exact trivial | refine ⟨rfl, ?_⟩)) (List.Sublist.refl _)
          · rintro ⟨b27, u2, m2⟩ hI3
            dsimp only at hI3 ⊢
            refine tk_ownA (.tail _ (.tail _ (.head _))) fun hfm2 => ?_
            refine tk_seq ?_
            refine tk_seq ?_
            refine tk_drawH [cel b27 (((addQ n s (rows.getD i dLum).k x).1.1).map B) 65, cel mb ((rg n 1).map B ++ ((rg n 2).map B ++ ((rg n 3).map B ++ ([Str [n], I ((u2 : Nat) : Int), Str ((addQ n s (rows.getD i dLum).k x).2.b), m2])))) 86, own m2 (((addQ n s (rows.getD i dLum).k x).2.l).length) (((addQ n s (rows.getD i dLum).k x).2.l).flatMap entC) 130 35, cel b24 (((addQ n s (rows.getD i dLum).k x).1.1).map B) 65, cel tb ([tvv, .int .u64 ((c2 : Nat) : Int), tl2]) 160, own tvv ([n].length) ([n].map B) 5 1, own tl2 (((tapeL [n] c2).drop ((addQ n s (rows.getD i dLum).k x).2.p)).length) (((tapeL [n] c2).drop ((addQ n s (rows.getD i dLum).k x).2.p)).map B) 5 1, own v134 x.length (x.map B) 5 1] [] (by kernel_rfl) ?_
            refine tx_l 0 rfl (by kernel_rfl) (by kernel_rfl) rfl rfl rfl (fun _ _ _ h => h) (fun _ h => h.sub (.cons_cons _ (.cons_cons _ (.cons_cons _ (.cons_cons _ (.cons _ (.cons _ (.cons _ (List.Sublist.refl _))))))))) (y_loadA 32 rfl (by kernel_rfl) lenP (hcw (.tail _ (.tail _ (.tail _ (.head _)))))) ?_
            refine tx_l 1 rfl (by kernel_rfl) (by kernel_rfl) rfl rfl rfl (fun _ _ _ h => h) (fun _ h => h.sub (.cons_cons _ (.cons_cons _ (.cons_cons _ (.cons_cons _ (.cons _ (.cons _ (.cons _ (List.Sublist.refl _))))))))) (y_loadA 32 rfl (by kernel_rfl) lenP (hcw (.head _))) ?_
            refine tx_q 2 rfl (by kernel_rfl) rfl rfl rfl (fun _ _ _ h => h) ((y_agNe (l := (addQ n s (rows.getD i dLum).k x).1.1) (m := (addQ n s (rows.getD i dLum).k x).1.1) rfl rfl Tryd.underlying65 Tryd.underlying5 (by kernel_rfl) (by kernel_rfl) ⟨addQ_len, addQ_len⟩).cast (bool_f (fun h => h rfl))) ?_
            refine tx_q 3 rfl (by kernel_rfl) rfl rfl rfl (fun _ _ _ h => h) (y_move rfl) ?_
            refine tx_q 4 rfl (by kernel_rfl) rfl rfl rfl (fun _ _ _ h => h) (y_move rfl) ?_
            refine tx_q 5 rfl (by kernel_rfl) rfl rfl rfl (fun _ _ _ h => h) (y_move rfl) ?_
            refine tx_q 6 rfl (by kernel_rfl) rfl rfl rfl (fun _ _ _ h => h) ((y_neB (a := (addQ n s (rows.getD i dLum).k x).1.2.1) (b := (addQ n s (rows.getD i dLum).k x).1.2.1) rfl rfl rfl).cast (v := _) (u := .bool false) (by simp)) ?_
            refine tx_q 7 rfl (by kernel_rfl) rfl rfl rfl (fun _ _ _ h => h) (y_pick0 rfl rfl) ?_
            refine tx_q 8 rfl (by kernel_rfl) rfl rfl rfl (fun _ _ _ h => h) (y_move rfl) ?_
            refine tx_q 9 rfl (by kernel_rfl) rfl rfl rfl (fun _ _ _ h => h) (y_move rfl) ?_
            refine tx_q 10 rfl (by kernel_rfl) rfl rfl rfl (fun _ _ _ h => h) (y_move rfl) ?_
            refine tx_q 11 rfl (by kernel_rfl) rfl rfl rfl (fun _ _ _ h => h) ((y_neq rfl rfl).cast (bool_f (fun h => h rfl))) ?_
            refine tx_q 12 rfl (by kernel_rfl) rfl rfl rfl (fun _ _ _ h => h) (y_pick0 rfl rfl) ?_
            refine tx_q 13 rfl (by kernel_rfl) rfl rfl rfl (fun _ _ _ h => h) (y_move rfl) ?_
            refine tx_q 14 rfl (by kernel_rfl) rfl rfl rfl (fun _ _ _ h => h) (y_move rfl) ?_
            refine tx_q 16 rfl (by kernel_rfl) rfl rfl rfl (fun _ _ _ h => h) (y_move rfl) ?_
            refine tx_q 17 rfl (by kernel_rfl) rfl rfl rfl (fun _ _ _ h => h) (y_nilCheck rfl) ?_
            refine tx_q 18 rfl (by kernel_rfl) rfl rfl rfl (fun _ _ _ h => h) (y_fldN (o := 0) 99 rfl (by kernel_rfl)) ?_
            refine tx_l 19 rfl (by kernel_rfl) (by kernel_rfl) rfl rfl rfl (fun _ _ _ h => h) (fun _ h => h.sub (.cons_cons _ (.cons_cons _ (.cons_cons _ (.cons_cons _ (.cons _ (.cons _ (.cons _ (List.Sublist.refl _))))))))) (y_load rfl rfl (hc (o := 99) (.tail _ (.head _)) (gA (k := 32) (i := 67) (by rw [List.length_map]; exact rg_len) (by omega) (gA (k := 32) (i := 35) (by rw [List.length_map]; exact rg_len) (by omega) (gA (k := 32) (i := 3) (by rw [List.length_map]; exact rg_len) (by omega) (rfl)))))) ?_
            refine tx_q 20 rfl (by kernel_rfl) rfl rfl rfl (fun _ _ _ h => h) (y_lenE rfl hfm2.choose_spec rfl) ?_
            refine tx_a 15 rfl (by kernel_rfl) rfl ?_
            refine tk_perm _ (.trans (.cons _ (.trans (.cons _ (.trans (.cons _ (.trans (.cons _ (.trans (.cons _ (.trans (.cons _ (List.Perm.refl _)) (.swap _ _ _))) (.swap _ _ _))) (.swap _ _ _))) (.swap _ _ _))) (.swap _ _ _))) (.swap _ _ _)) ?_
            refine tk_perm _ (.trans (.cons _ (.trans (.cons _ (.trans (.cons _ (.trans (.cons _ (.trans (.cons _ (.trans (.cons _ (List.Perm.refl _)) (.swap _ _ _))) (.swap _ _ _))) (.swap _ _ _))) (.swap _ _ _))) (.swap _ _ _))) (.swap _ _ _)) ?_
            refine tk_perm _ (.trans (.cons _ (.trans (.cons _ (.trans (.cons _ (.trans (.cons _ (.trans (.cons _ (.trans (.cons _ (List.Perm.refl _)) (.swap _ _ _))) (.swap _ _ _))) (.swap _ _ _))) (.swap _ _ _))) (.swap _ _ _))) (.swap _ _ _)) ?_
            refine a_callv [] _ rfl (by kernel_rfl) rfl (fun w' hw' => count_spec (hk := rg n 1) (mk := rg n 2) (nk := rg n 3) (sb := (addQ n s (rows.getD i dLum).k x).2.b) (sl := (addQ n s (rows.getD i dLum).k x).2.l) (wb := wb) (tb := tb) (wbv := wb2) (wlv := wl2) ⟨lenP, lenP, lenP⟩ (St.pre hw')) rfl fun _ _ => ?_
            refine tk_S (fun _ h => h.sub (.cons _ (.cons _ (.cons _ (List.Sublist.refl _))))) ?_
            refine tx_q 21 rfl (by kernel_rfl) rfl rfl rfl (fun _ _ _ h => h) ((y_neq rfl rfl).cast (bool_f (fun h => h rfl))) ?_
            refine tx_q 22 rfl (by kernel_rfl) rfl rfl rfl (fun _ _ _ h => h) (y_pick0 rfl rfl) ?_
            refine tx_q 23 rfl (by kernel_rfl) rfl rfl rfl (fun _ _ _ h => h) (y_move rfl) ?_
            refine tx_q 24 rfl (by kernel_rfl) rfl rfl rfl (fun _ _ _ h => h) (y_move rfl) ?_
            refine tx_q 26 rfl (by kernel_rfl) rfl rfl rfl (fun _ _ _ h => h) (y_move rfl) ?_
            refine tx_q 27 rfl (by kernel_rfl) rfl rfl rfl (fun _ _ _ h => h) (y_nilCheck rfl) ?_
            refine tx_q 28 rfl (by kernel_rfl) rfl rfl rfl (fun _ _ _ h => h) (y_fldN (o := 0) 98 rfl (by kernel_rfl)) ?_
            refine tx_l 29 rfl (by kernel_rfl) (by kernel_rfl) rfl rfl rfl (fun _ _ _ h => h) (fun _ h => h.sub (.cons _ (.cons _ (.cons _ (List.Sublist.refl _))))) (y_load rfl rfl (hc (o := 98) (.tail _ (.head _)) (gA (k := 32) (i := 66) (by rw [List.length_map]; exact rg_len) (by omega) (gA (k := 32) (i := 34) (by rw [List.length_map]; exact rg_len) (by omega) (gA (k := 32) (i := 2) (by rw [List.length_map]; exact rg_len) (by omega) (rfl)))))) ?_
            refine tx_q 30 rfl (by kernel_rfl) rfl rfl rfl (fun _ _ _ h => h) (y_lenStr (l := (addQ n s (rows.getD i dLum).k x).2.b) rfl rfl) ?_
            refine tx_a 25 rfl (by kernel_rfl) rfl ?_; refine a_callv [] _ rfl (by kernel_rfl) rfl (fun w' hw' => size_spec (hk := rg n 1) (mk := rg n 2) (nk := rg n 3) (sb := (addQ n s (rows.getD i dLum).k x).2.b) (sl := (addQ n s (rows.getD i dLum).k x).2.l) (wb := wb) (tb := tb) (wbv := wb2) (wlv := wl2) ⟨lenP, lenP, lenP⟩ (St.pre hw')) rfl fun _ _ => ?_
            refine tk_S (fun _ h => h.sub (.cons _ (.cons _ (.cons _ (List.Sublist.refl _))))) ?_
            refine tx_q 31 rfl (by kernel_rfl) rfl rfl rfl (fun _ _ _ h => h) ((y_neq rfl rfl).cast (bool_f (fun h => h rfl))) ?_
            refine tx_q 32 rfl (by kernel_rfl) rfl rfl rfl (fun _ _ _ h => h) (y_pick0 rfl rfl) ?_
            refine tx_done (by kernel_rfl) ?_
            refine tk_then ?_
            refine tk_cond0 rfl ?_
            refine tk_skip ?_
            refine tk_then ?_
            refine tk_seq ?_
            refine tk_region ?_
            refine tk_q rfl rfl rfl (y_assign rfl) ?_
            refine tk_nil ?_
            refine tk_then ?_
            refine tk_block ?_
            refine tk_loop (X := Nat × List UInt8) (fun (j, y) => j ≤ y.length ∧ y.length = x.length) (fun (j, y) => [(1, rv), (12, .pointer (some ⟨wb, 0, none⟩)), (13, .pointer (some ⟨mb, 0, none⟩)), (14, I ((i : Nat) : Int)), (23, v134), (30, I ((j : Nat) : Int))]) (fun (j, y) => [cel wb ((rg n 1).map B ++ ((rg n 2).map B ++ ((rg n 3).map B ++ ([Value.pointer (some ⟨tb, 0, none⟩), wb2, wl2])))) 117, own wb2 (((addQ n s (rows.getD i dLum).k x).2.b).length) (((addQ n s (rows.getD i dLum).k x).2.b).map B) 5 1, own wl2 (((addQ n s (rows.getD i dLum).k x).2.l).length) (((addQ n s (rows.getD i dLum).k x).2.l).flatMap entC) 91 35, cel b27 (((addQ n s (rows.getD i dLum).k x).1.1).map B) 65, cel mb ((rg n 1).map B ++ ((rg n 2).map B ++ ((rg n 3).map B ++ ([Str [n], I ((u2 : Nat) : Int), Str ((addQ n s (rows.getD i dLum).k x).2.b), m2])))) 86, own m2 (((addQ n s (rows.getD i dLum).k x).2.l).length) (((addQ n s (rows.getD i dLum).k x).2.l).flatMap entC) 130 35, cel b24 (((addQ n s (rows.getD i dLum).k x).1.1).map B) 65, cel tb ([tvv, .int .u64 ((c2 : Nat) : Int), tl2]) 160, own tvv ([n].length) ([n].map B) 5 1, own tl2 (((tapeL [n] c2).drop ((addQ n s (rows.getD i dLum).k x).2.p)).length) (((tapeL [n] c2).drop ((addQ n s (rows.getD i dLum).k x).2.p)).map B) 5 1, own v134 y.length (y.map B) 5 1]) (fun (j, y) => y.length - j) ((0, x)) (⟨Nat.zero_le _, rfl⟩) (by repeat (first | exact trivial | refine ⟨rfl, ?_⟩)) ((List.Sublist.refl _)) ?_
            rintro ⟨j, y⟩ hI4
            dsimp only at hI4 ⊢
            refine tk_own1 (.tail _ (.tail _ (.tail _ (.tail _ (.tail _ (.tail _ (.tail _ (.tail _ (.tail _ (.tail _ (.head _))))))))))) fun hfy => ?_
            refine tk_seq ?_
            refine tk_seq ?_
            refine tk_region ?_
            refine tk_q rfl rfl rfl (y_move rfl) ?_
            refine tk_q rfl rfl rfl (y_move rfl) ?_
            refine tk_q rfl rfl rfl (y_lenRN (n' := y.length) rfl hfy.choose_spec rfl (by first | rfl | (rw [List.length_map]; omega) | simp)) ?_
            refine tk_q rfl rfl rfl (y_lss rfl rfl) ?_
            refine tk_nil ?_
            refine tk_then ?_
            refine tk_condP rfl (fun ht206 => ?_) (fun ht206 => ?_)
            · skip
              refine tk_skip ?_
              refine tk_then ?_
              refine tk_seq ?_
              refine tk_block ?_
              refine tk_region ?_
              refine tk_q rfl rfl rfl (y_move rfl) ?_
              refine tk_q rfl rfl rfl (y_move rfl) ?_
              refine tk_q rfl rfl rfl (y_ixR (j := j) rfl rfl hfy.choose_spec lenP (by kernel_rfl)) ?_
              refine tk_act rfl ?_; refine a_storeM (H1 := [_, _, _, _, _, _, _, _, _, _]) (f := B) (l := y) (i := j) (q := 90) rfl rfl rfl (by kernel_rfl) rfl lenP ?_
              refine tk_nil ?_
              refine tk_in_normal ?_
              refine tk_then ?_
              refine tk_region ?_
              refine tk_q rfl rfl rfl (y_move rfl) ?_
              refine tk_q rfl rfl rfl (y_addN (a := j) (b := 1) rfl rfl (by omega)) ?_
              refine tk_q rfl rfl rfl (y_assign rfl) ?_
              refine tk_nil ?_
              exact tk_again ((j + 1, y.set j 90)) (⟨by dsimp only; rw [List.length_set]; omega, by dsimp only; rw [List.length_set]; exact hI4.2⟩) (by dsimp only; rw [List.length_set]; omega) (by repeat (first | exact trivial | refine ⟨rfl, ?_⟩)) (List.Sublist.refl _)
            · skip
              refine tk_exit ?_
              refine tk_then_exit ?_
              refine tk_then_exit ?_
              refine tk_in_hit ?_
              refine tk_in_normal ?_
              refine tk_then ?_
              refine tk_region ?_
              refine tk_q rfl rfl rfl (y_move rfl) ?_
              refine tk_q rfl rfl rfl (y_addN (a := i) (b := 1) rfl rfl (by omega)) ?_
              refine tk_q rfl rfl rfl (y_assign rfl) ?_
              refine tk_nil ?_
              refine tk_perm _ (.trans (.cons _ (.trans (.cons _ (.trans (.cons _ (.trans (.cons _ (.trans (.cons _ (List.Perm.refl _)) (.swap _ _ _))) (.swap _ _ _))) (.swap _ _ _))) (.swap _ _ _))) (.swap _ _ _)) ?_
              refine tk_perm _ (.trans (.cons _ (.trans (.cons _ (.trans (.cons _ (.trans (.cons _ (.trans (.cons _ (List.Perm.refl _)) (.swap _ _ _))) (.swap _ _ _))) (.swap _ _ _))) (.swap _ _ _))) (.swap _ _ _)) ?_
              refine tk_perm _ (.trans (.cons _ (.trans (.cons _ (.trans (.cons _ (.trans (.cons _ (.trans (.cons _ (.trans (.cons _ (.trans (.cons _ (.trans (.cons _ (.trans (.cons _ (List.Perm.refl _)) (.swap _ _ _))) (.swap _ _ _))) (.swap _ _ _))) (.swap _ _ _))) (.swap _ _ _))) (.swap _ _ _))) (.swap _ _ _))) (.swap _ _ _))) (.swap _ _ _)) ?_
              refine tk_perm _ (.trans (.cons _ (.trans (.cons _ (.trans (.cons _ (.trans (.cons _ (.trans (.cons _ (.trans (.cons _ (.trans (.cons _ (.trans (.cons _ (.trans (.cons _ (List.Perm.refl _)) (.swap _ _ _))) (.swap _ _ _))) (.swap _ _ _))) (.swap _ _ _))) (.swap _ _ _))) (.swap _ _ _))) (.swap _ _ _))) (.swap _ _ _))) (.swap _ _ _)) ?_
              refine tk_perm _ (.trans (.cons _ (.trans (.cons _ (.trans (.cons _ (.trans (.cons _ (.trans (.cons _ (.trans (.cons _ (.trans (.cons _ (.trans (.cons _ (.trans (.cons _ (List.Perm.refl _)) (.swap _ _ _))) (.swap _ _ _))) (.swap _ _ _))) (.swap _ _ _))) (.swap _ _ _))) (.swap _ _ _))) (.swap _ _ _))) (.swap _ _ _))) (.swap _ _ _)) ?_
              refine tk_perm _ (.trans (.cons _ (.trans (.cons _ (.trans (.cons _ (.trans (.cons _ (.trans (.cons _ (.trans (.cons _ (.trans (.cons _ (List.Perm.refl _)) (.swap _ _ _))) (.swap _ _ _))) (.swap _ _ _))) (.swap _ _ _))) (.swap _ _ _))) (.swap _ _ _))) (.swap _ _ _)) ?_
              refine tk_perm _ (.trans (.cons _ (.trans (.cons _ (.trans (.cons _ (.trans (.cons _ (.trans (.cons _ (.trans (.cons _ (.trans (.cons _ (List.Perm.refl _)) (.swap _ _ _))) (.swap _ _ _))) (.swap _ _ _))) (.swap _ _ _))) (.swap _ _ _))) (.swap _ _ _))) (.swap _ _ _)) ?_
              refine tk_perm _ (.trans (.cons _ (.trans (.cons _ (.trans (.cons _ (.trans (.cons _ (.trans (.cons _ (.trans (.cons _ (.trans (.cons _ (List.Perm.refl _)) (.swap _ _ _))) (.swap _ _ _))) (.swap _ _ _))) (.swap _ _ _))) (.swap _ _ _))) (.swap _ _ _))) (.swap _ _ _)) ?_
              exact tk_again ((i + 1, (addQ n s (rows.getD i dLum).k x).2, c2, tl2, wb2, wl2, u2, m2)) (⟨by dsimp only; omega, by dsimp only; omega, hqo, by dsimp only; omega, hI3, hI2⟩) (by dsimp only; omega) (by repeat (first | exact trivial | refine ⟨rfl, ?_⟩)) (.cons_cons _ (.cons_cons _ (.cons_cons _ (.cons_cons _ (.cons_cons _ (.cons_cons _ (.cons_cons _ (.cons_cons _ (List.nil_sublist _)))))))))
    · skip
      refine tk_exit ?_
      refine tk_then_exit ?_
      refine tk_then_exit ?_
      refine tk_in_hit ?_
      refine tk_then ?_
      refine tk_seq ?_
      refine tk_region ?_
      refine tk_q rfl rfl rfl (y_assign rfl) ?_
      refine tk_nil ?_
      refine tk_then ?_
      refine tk_retc ?_
      exact tk_ret (()) (trivial) (.inl rfl) (r1 rfl rfl) (List.nil_sublist _)
  · skip
    refine tk_q rfl rfl rfl (y_move rfl) ?_
    refine tk_gno rfl rfl rfl ?_
    refine tk_gno rfl rfl rfl ?_
    refine tk_q rfl rfl rfl (y_pick0 rfl rfl) ?_
    refine tk_nil ?_
    refine tk_then ?_
    refine tk_cond0 rfl ?_
    refine tk_exit ?_
    refine tk_then_exit ?_
    refine tk_then_exit ?_
    refine tk_in_hit ?_
    refine tk_then ?_
    refine tk_seq ?_
    refine tk_region ?_
    refine tk_q rfl rfl rfl (y_assign rfl) ?_
    refine tk_nil ?_
    refine tk_then ?_
    refine tk_retc ?_
    exact tk_ret (()) (trivial) (.inl rfl) (r1 rfl rfl) (List.nil_sublist _)
end Go.Proofs.YtfofkjajlfphjaaDoor
