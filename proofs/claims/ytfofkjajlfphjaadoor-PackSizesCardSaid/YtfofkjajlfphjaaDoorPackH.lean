/- pack: the walk over made. -/
import Derived.Test.YtfofkjajlfphjaaDoorPackF
import Derived.Test.YtfofkjajlfphjaaDoorPackMade
set_option linter.unusedSimpArgs false
set_option linter.unusedVariables false
namespace Go.Proofs.YtfofkjajlfphjaaDoor
open Go Go.RowKit
set_option maxRecDepth 100000
theorem EL64 : elB Tryd.prog 64 78 2 32 := ⟨by kernel_rfl, _, _, rfl, rfl, rfl, rfl, rfl, by decide⟩
attribute [local irreducible] sumL keyedL hexL hidL markL sealL sealF openF tapeL tapeN idF addQ closeQ rg packQ
theorem made_spec {n : UInt8} {rv : Value} {rows : List Lum} {w : World} (hrows : Ro (Fs []) w (rdC rv rows.length (rows.flatMap lumC))) (hrv : ∀ u ∈ rows, Ro (Fs []) w (rdB u.v u.l)) (hrl : rows.length < 9223372036854775808) (hg : Ro (Fs []) w glob) :
    Spec Tryd.prog 40 [B n, rv] w [] (fun x : (WSt × List Lum) × Value × Value × Value × Nat => x.1 = madeN n rows (FV x.2.2.2.2) (min rows.length 10) ∧ NOk n (min rows.length 10) x.1) (fun x => .tuple #[x.2.1, x.2.2.1, x.2.2.2.1, .bool true])
      (fun x => [ownB x.2.1 (packQ n x.1.1) 5, ownA entC 35 x.2.2.1 x.1.1.l 91, ownA lumC 2 x.2.2.2.1 x.1.2 78, cel x.2.2.2.2 (firstL.map B) 5]) := by
  refine spec_of (n := 119) Tryd.func40 rfl rfl trivial trivial rfl ?_
  have hcx : True := trivial
  have hfl5 : firstL.length = 5 := rfl
  obtain ⟨hfe, hfy, hfl, hfb0, hfp, hfm⟩ := first_ok (n := n)
  refine tk_seq ?_
  refine tk_region ?_
  refine tk_q rfl rfl rfl (y_assign rfl) ?_
  refine tk_q rfl rfl rfl (y_assign rfl) ?_
  refine tk_q rfl rfl rfl (y_assign rfl) ?_
  refine tk_q rfl rfl rfl (y_assign rfl) ?_
  refine tk_nil ?_
  refine tk_then ?_
  refine tk_seq ?_
  refine tk_region ?_
  refine tk_q rfl rfl rfl (y_move rfl) ?_
  refine tk_act rfl ?_; refine a_callv [] _ rfl (by kernel_rfl) rfl (fun w' hw' => writers_spec (n := n)) rfl fun ⟨wb, tb, tvv, mb⟩ _ => ?_
  refine tk_q rfl rfl rfl (y_move rfl) ?_
  refine tk_q rfl rfl rfl (y_extract rfl rfl) ?_
  refine tk_q rfl rfl rfl (y_extract rfl rfl) ?_
  refine tk_q rfl rfl rfl (y_assign rfl) ?_
  refine tk_q rfl rfl rfl (y_assign rfl) ?_
  refine tk_nil ?_
  refine tk_then ?_
  refine tk_seq ?_
  refine tk_region ?_
  refine tk_q rfl rfl rfl (y_assign rfl) ?_
  refine tk_nil ?_
  refine tk_then ?_
  refine tk_seq ?_
  refine tk_region ?_
  refine tk_ownM0 (f := B) 5 ?_
  refine tk_ownM0 (f := B) 5 ?_
  refine tk_ownA0 (f := entC) 35 91 ?_
  refine tk_ownA0 (f := entC) 35 130 ?_
  refine tk_H [own (.slice none 0 0) (([] : List Ent).length) (([] : List Ent).flatMap entC) 130 35, own (.slice none 0 0) (([] : List Ent).length) (([] : List Ent).flatMap entC) 91 35, own (.slice none 0 0) (((tapeL [n] 0).drop 0).length) (((tapeL [n] 0).drop 0).map B) 5 1, own (.slice none 0 0) (([] : List UInt8).length) (([] : List UInt8).map B) 5 1, cel wb ((rg n 1).map B ++ ((rg n 2).map B ++ ((rg n 3).map B ++ ([Value.pointer (some ⟨tb, 0, none⟩), .slice none 0 0, .slice none 0 0])))) 117, cel tb ([tvv, .int .u64 (((0 : Nat) : Nat) : Int), .slice none 0 0]) 160, own tvv ([n].length) ([n].map B) 5 1, cel mb ((rg n 1).map B ++ ((rg n 2).map B ++ ((rg n 3).map B ++ ([Str [n], I 0, Str [], .slice none 0 0])))) 86] (congrArg (fun z_ => [own (.slice none 0 0) (([] : List Ent).length) (([] : List Ent).flatMap entC) 130 35, own (.slice none 0 0) (([] : List Ent).length) (([] : List Ent).flatMap entC) 91 35, z_, own (.slice none 0 0) (([] : List UInt8).length) (([] : List UInt8).map B) 5 1, cel wb ((rg n 1).map B ++ ((rg n 2).map B ++ ((rg n 3).map B ++ ([Value.pointer (some ⟨tb, 0, none⟩), .slice none 0 0, .slice none 0 0])))) 117, cel tb ([tvv, .int .u64 (((0 : Nat) : Nat) : Int), .slice none 0 0]) 160, own tvv ([n].length) ([n].map B) 5 1, cel mb ((rg n 1).map B ++ ((rg n 2).map B ++ ((rg n 3).map B ++ ([Str [n], I 0, Str [], .slice none 0 0])))) 86]) (show own (.slice none 0 0) (([] : List UInt8).length) (([] : List UInt8).map B) 5 1 = own (.slice none 0 0) (((tapeL [n] 0).drop 0).length) (((tapeL [n] 0).drop 0).map B) 5 1 from ownM_cast (by simp [tapeL_0]))) ?_
  skip
  refine tk_drop (.cons _ (.cons_cons _ (.cons_cons _ (.cons_cons _ (.cons_cons _ (.cons_cons _ (.cons_cons _ (List.nil_sublist _)))))))) ?_
  refine tk_q rfl rfl rfl (y_move rfl) ?_
  refine tk_act rfl ?_; refine a_slitN (vs := [B 102, B 105, B 114, B 115, B 116]) rfl (List.forall_mem_cons.2 ⟨rfl, (List.forall_mem_cons.2 ⟨rfl, (List.forall_mem_cons.2 ⟨rfl, (List.forall_mem_cons.2 ⟨rfl, (List.forall_mem_cons.2 ⟨rfl, (fun _ h => nomatch h)⟩)⟩)⟩)⟩)⟩) (EL26) rfl rfl (by decide) fun b26 => ?_
  refine tk_act rfl ?_; refine a_convX (H1 := []) rfl Tryd.underlying26 Tryd.underlying5 rfl rfl ?_
  refine tk_act rfl ?_; refine a_slitN (vs := [.slice (some ⟨b26, 0, none⟩) 5 5]) rfl (List.forall_mem_cons.2 ⟨rfl, (fun _ h => nomatch h)⟩) (EL45) rfl rfl (by decide) fun b28 => ?_
  refine tk_act rfl ?_
  refine tk_perm _ (.trans (.cons _ (.trans (.cons _ (.trans (.cons _ (List.Perm.refl _)) (.swap _ _ _))) (.swap _ _ _))) (.swap _ _ _)) ?_
  refine tk_perm _ (.trans (.cons _ (.trans (.cons _ (.trans (.cons _ (.trans (.cons _ (.trans (.cons _ (.trans (.cons _ (.trans (.cons _ (List.Perm.refl _)) (.swap _ _ _))) (.swap _ _ _))) (.swap _ _ _))) (.swap _ _ _))) (.swap _ _ _))) (.swap _ _ _))) (.swap _ _ _)) ?_
  refine tk_perm _ (.trans (.cons _ (.trans (.cons _ (.trans (.cons _ (.trans (.cons _ (.trans (.cons _ (.trans (.cons _ (.trans (.cons _ (List.Perm.refl _)) (.swap _ _ _))) (.swap _ _ _))) (.swap _ _ _))) (.swap _ _ _))) (.swap _ _ _))) (.swap _ _ _))) (.swap _ _ _)) ?_
  refine tk_perm _ (.trans (.cons _ (.trans (.cons _ (.trans (.cons _ (.trans (.cons _ (.trans (.cons _ (List.Perm.refl _)) (.swap _ _ _))) (.swap _ _ _))) (.swap _ _ _))) (.swap _ _ _))) (.swap _ _ _)) ?_
  refine tk_perm _ (.trans (.cons _ (.trans (.cons _ (.trans (.cons _ (.trans (.cons _ (.trans (.cons _ (.trans (.cons _ (List.Perm.refl _)) (.swap _ _ _))) (.swap _ _ _))) (.swap _ _ _))) (.swap _ _ _))) (.swap _ _ _))) (.swap _ _ _)) ?_
  refine tk_perm _ (.trans (.cons _ (.trans (.cons _ (.trans (.cons _ (.trans (.cons _ (.trans (.cons _ (.trans (.cons _ (.trans (.cons _ (List.Perm.refl _)) (.swap _ _ _))) (.swap _ _ _))) (.swap _ _ _))) (.swap _ _ _))) (.swap _ _ _))) (.swap _ _ _))) (.swap _ _ _)) ?_
  refine a_callv [] _ rfl (by kernel_rfl) rfl (fun w' hw' => add_spec (hk := rg n 1) (mk := rg n 2) (nk := rg n 3) (bg := [n]) (sb := []) (sl := []) (wb := wb) (tb := tb) (c := (0 : Nat)) (p := 0) (wbv := (.slice none 0 0)) (wlv := (.slice none 0 0)) (tvv := tvv) (tlv := (.slice none 0 0)) (kind := 2) (b := firstL) (ps := [(.slice (some ⟨b26, 0, none⟩) 5 5, [102, 105, 114, 115, 116])]) (q := (addQ n ⟨[], [], 0⟩ 2 firstL)) addQ_def ⟨lenP, lenP, lenP⟩ ⟨lenP, lenP⟩ lenP lenP lenP lenP (Ro.cel (vs := [.slice (some ⟨b26, 0, none⟩) 5 5]) hw' (.head _) (by first | rfl | simp) rfl (by decide)) (List.forall_mem_cons.2 ⟨(Ro.cel (b := b26) (o := 0) (m := 5) (cp := 5) (vs := [102, 105, 114, 115, 116].map B) hw' (.tail _ (.head _)) (rfl) (by first | rfl | exact lenP | (simp; omega)) lenP), (fun _ h => nomatch h)⟩) (by rfl) ⟨lenP, lenP⟩ (hg.call hw') (St.pre hw')) rfl fun ⟨c29, tl29, wv29, wl29⟩ hx29 => ?_
  try dsimp only at hx29 ⊢
  have hqn29 : ((addQ n ⟨[], [], 0⟩ 2 firstL).1.1).length = 32 := addQ_len
  refine tk_own1 (.tail _ (.head _)) fun hfb29 => ?_
  refine tk_ownA (.tail _ (.tail _ (.head _))) fun hfl29 => ?_
  refine tk_nil ?_
  refine tk_then ?_
  refine tk_seq ?_
  refine tk_region ?_
  refine tk_q rfl rfl rfl (y_move rfl) ?_
  refine tk_act rfl ?_; refine a_slitN (vs := [B 102, B 105, B 114, B 115, B 116]) rfl (List.forall_mem_cons.2 ⟨rfl, (List.forall_mem_cons.2 ⟨rfl, (List.forall_mem_cons.2 ⟨rfl, (List.forall_mem_cons.2 ⟨rfl, (List.forall_mem_cons.2 ⟨rfl, (fun _ h => nomatch h)⟩)⟩)⟩)⟩)⟩) (EL26) rfl rfl (by decide) fun b31 => ?_
  refine tk_act rfl ?_; refine a_convX (H1 := []) rfl Tryd.underlying26 Tryd.underlying5 rfl rfl ?_
  refine tk_q rfl rfl rfl (y_build (v := .agg ([I 2, .slice (some ⟨b31, 0, none⟩) 5 5]).toArray) (vs := [(0, I 2), (1, .slice (some ⟨b31, 0, none⟩) 5 5)]) rfl (run_build (zs := [I 0, .slice none 0 0]) (pl := [(0, 1), (1, 1)]) Tryd.underlying78 (fun _ => by kernel_rfl) (fun _ => by kernel_rfl) (by simp [fillL, Value.cells, hcx]))) ?_
  refine tk_act rfl ?_; refine a_slitE (k := 2) (cs := [I 2, .slice (some ⟨b31, 0, none⟩) 5 5]) rfl EL64 lenP (by decide) rfl fun b34 => ?_
  refine tk_ownA0 (f := lumC) 2 78 ?_
  refine tk_act rfl ?_; refine a_appE (H1 := []) (f := lumC) (l := []) (e := ⟨2, FV b31, firstL⟩) (b := b34) (k := 2) rfl rfl EL64 rfl rfl (.tail _ (.head _)) (lumC_len _) (List.forall_mem_cons.2 ⟨rfl, (List.forall_mem_cons.2 ⟨rfl, (fun _ h => nomatch h)⟩)⟩) lenP lenP fun v35 => ?_
  refine tk_ownA (.head _) fun hfv35 => ?_
  refine tk_q rfl rfl rfl (y_assign rfl) ?_
  refine tk_nil ?_
  refine tk_then ?_
  refine tk_seq ?_
  refine tk_seq ?_
  refine tk_region ?_
  refine tk_H [own v35 ([⟨2, FV b31, firstL⟩].length) ([⟨2, FV b31, firstL⟩].flatMap lumC) 78 2, cel b34 ([I 2, .slice (some ⟨b31, 0, none⟩) 5 5]) 78, cel b31 (firstL.map B) 5, cel wb ((rg n 1).map B ++ ((rg n 2).map B ++ ((rg n 3).map B ++ ([Value.pointer (some ⟨tb, 0, none⟩), wv29, wl29])))) 117, own wv29 (((addQ n ⟨[], [], 0⟩ 2 firstL).2.b).length) (((addQ n ⟨[], [], 0⟩ 2 firstL).2.b).map B) 5 1, own wl29 (((addQ n ⟨[], [], 0⟩ 2 firstL).2.l).length) (((addQ n ⟨[], [], 0⟩ 2 firstL).2.l).flatMap entC) 91 35, cel tb ([tvv, .int .u64 ((c29 : Nat) : Int), tl29]) 160, own tvv ([n].length) ([n].map B) 5 1, own tl29 (((tapeL [n] c29).drop ((addQ n ⟨[], [], 0⟩ 2 firstL).2.p)).length) (((tapeL [n] c29).drop ((addQ n ⟨[], [], 0⟩ 2 firstL).2.p)).map B) 5 1, cel b28 ([Value.slice (some ⟨b26, 0, none⟩) 5 5]) 26, cel b26 ([B 102, B 105, B 114, B 115, B 116]) 5] (congrArg (fun z_ => [own v35 ([⟨2, FV b31, firstL⟩].length) ([⟨2, FV b31, firstL⟩].flatMap lumC) 78 2, cel b34 ([I 2, .slice (some ⟨b31, 0, none⟩) 5 5]) 78, cel b31 z_ 5, cel wb ((rg n 1).map B ++ ((rg n 2).map B ++ ((rg n 3).map B ++ ([Value.pointer (some ⟨tb, 0, none⟩), wv29, wl29])))) 117, own wv29 (((addQ n ⟨[], [], 0⟩ 2 firstL).2.b).length) (((addQ n ⟨[], [], 0⟩ 2 firstL).2.b).map B) 5 1, own wl29 (((addQ n ⟨[], [], 0⟩ 2 firstL).2.l).length) (((addQ n ⟨[], [], 0⟩ 2 firstL).2.l).flatMap entC) 91 35, cel tb ([tvv, .int .u64 ((c29 : Nat) : Int), tl29]) 160, own tvv ([n].length) ([n].map B) 5 1, own tl29 (((tapeL [n] c29).drop ((addQ n ⟨[], [], 0⟩ 2 firstL).2.p)).length) (((tapeL [n] c29).drop ((addQ n ⟨[], [], 0⟩ 2 firstL).2.p)).map B) 5 1, cel b28 ([Value.slice (some ⟨b26, 0, none⟩) 5 5]) 26, cel b26 ([B 102, B 105, B 114, B 115, B 116]) 5]) (show [B 102, B 105, B 114, B 115, B 116] = firstL.map B from rfl)) ?_
  refine tk_q rfl rfl rfl (y_assign rfl) ?_
  refine tk_nil ?_
  refine tk_then ?_
  refine tk_block ?_
  refine tk_perm _ (.trans (.cons _ (.trans (.cons _ (List.Perm.refl _)) (.swap _ _ _))) (.swap _ _ _)) ?_
  refine tk_perm _ (.trans (.cons _ (List.Perm.refl _)) (.swap _ _ _)) ?_
  refine tk_perm _ (.trans (.cons _ (.trans (.cons _ (.trans (.cons _ (.trans (.cons _ (.trans (.cons _ (.trans (.cons _ (.trans (.cons _ (.trans (.cons _ (List.Perm.refl _)) (.swap _ _ _))) (.swap _ _ _))) (.swap _ _ _))) (.swap _ _ _))) (.swap _ _ _))) (.swap _ _ _))) (.swap _ _ _))) (.swap _ _ _)) ?_
  refine tk_perm _ (.trans (.cons _ (.trans (.cons _ (.trans (.cons _ (.trans (.cons _ (.trans (.cons _ (.trans (.cons _ (.trans (.cons _ (.trans (.cons _ (List.Perm.refl _)) (.swap _ _ _))) (.swap _ _ _))) (.swap _ _ _))) (.swap _ _ _))) (.swap _ _ _))) (.swap _ _ _))) (.swap _ _ _))) (.swap _ _ _)) ?_
  refine tk_perm _ (.trans (.cons _ (.trans (.cons _ (.trans (.cons _ (.trans (.cons _ (.trans (.cons _ (.trans (.cons _ (.trans (.cons _ (.trans (.cons _ (List.Perm.refl _)) (.swap _ _ _))) (.swap _ _ _))) (.swap _ _ _))) (.swap _ _ _))) (.swap _ _ _))) (.swap _ _ _))) (.swap _ _ _))) (.swap _ _ _)) ?_
  refine tk_perm _ (.trans (.cons _ (.trans (.cons _ (.trans (.cons _ (.trans (.cons _ (.trans (.cons _ (.trans (.cons _ (.trans (.cons _ (.trans (.cons _ (List.Perm.refl _)) (.swap _ _ _))) (.swap _ _ _))) (.swap _ _ _))) (.swap _ _ _))) (.swap _ _ _))) (.swap _ _ _))) (.swap _ _ _))) (.swap _ _ _)) ?_
  refine tk_perm _ (.trans (.cons _ (.trans (.cons _ (.trans (.cons _ (.trans (.cons _ (.trans (.cons _ (.trans (.cons _ (.trans (.cons _ (.trans (.cons _ (List.Perm.refl _)) (.swap _ _ _))) (.swap _ _ _))) (.swap _ _ _))) (.swap _ _ _))) (.swap _ _ _))) (.swap _ _ _))) (.swap _ _ _))) (.swap _ _ _)) ?_
  refine tk_perm _ (.trans (.cons _ (.trans (.cons _ (.trans (.cons _ (.trans (.cons _ (.trans (.cons _ (.trans (.cons _ (.trans (.cons _ (.trans (.cons _ (List.Perm.refl _)) (.swap _ _ _))) (.swap _ _ _))) (.swap _ _ _))) (.swap _ _ _))) (.swap _ _ _))) (.swap _ _ _))) (.swap _ _ _))) (.swap _ _ _)) ?_
  refine tk_loop (X := Nat × WSt × List Lum × Nat × Value × Value × Value × Value) (fun (i, s, h, c, tlv, wbv, wlv, vh) => i ≤ 10 ∧ i ≤ rows.length ∧ madeN n rows (FV b31) i = (s, h) ∧ NOk n i (s, h) ∧ (s.p ≤ 32 * c ∧ 32 * c < s.p + 32)) (fun (i, s, h, c, tlv, wbv, wlv, vh) => [(1, rv), (8, .pointer (some ⟨wb, 0, none⟩)), (10, vh), (11, I ((i : Nat) : Int))]) (fun (i, s, h, c, tlv, wbv, wlv, vh) => [cel wb ((rg n 1).map B ++ ((rg n 2).map B ++ ((rg n 3).map B ++ ([Value.pointer (some ⟨tb, 0, none⟩), wbv, wlv])))) 117, own wbv s.b.length (s.b.map B) 5 1, own wlv s.l.length (s.l.flatMap entC) 91 35, cel tb ([tvv, .int .u64 ((c : Nat) : Int), tlv]) 160, own tvv ([n].length) ([n].map B) 5 1, own tlv (((tapeL [n] c).drop s.p).length) (((tapeL [n] c).drop s.p).map B) 5 1, own vh h.length (h.flatMap lumC) 78 2, cel b31 (firstL.map B) 5]) (fun (i, s, h, c, tlv, wbv, wlv, vh) => 10 - i) ((0, (addQ n ⟨[], [], 0⟩ 2 firstL).2, [⟨2, FV b31, firstL⟩], c29, tl29, wv29, wl29, v35)) (⟨by omega, by omega, rfl, nok0 (rows := rows), hx29⟩) (by repeat (first | exact trivial | refine ⟨rfl, ?_⟩)) ((.cons_cons _ (.cons_cons _ (.cons_cons _ (.cons_cons _ (.cons_cons _ (.cons_cons _ (.cons_cons _ (.cons_cons _ (List.nil_sublist _)))))))))) ?_
  rintro ⟨i, s, h, c, tlv, wbv, wlv, vh⟩ hI
  try dsimp only at hI ⊢
  obtain ⟨hi1, hi2, hme, hok, hcc⟩ := hI
  have hok2 := hok
  obtain ⟨hnl, hnl1, hnb, hnp, hnw, hnm⟩ := hok2
  dsimp only at hnl hnl1 hnb hnp hnw hnm
  have hml := hnm.len
  refine tk_own1 (.tail _ (.head _)) fun hfb => ?_
  refine tk_ownA (.tail _ (.tail _ (.head _))) fun hfl => ?_
  refine tk_ownA (.tail _ (.tail _ (.tail _ (.tail _ (.tail _ (.tail _ (.head _))))))) fun hfh => ?_
  refine tk_seq ?_
  refine tk_seq ?_
  refine tk_region ?_
  refine tk_q rfl rfl rfl (y_move rfl) ?_
  refine tk_q rfl rfl rfl (y_move rfl) ?_
  refine tk_q rfl rfl rfl (y_lenE rfl hrows.1 rfl) ?_
  refine tk_qs rfl rfl rfl (y_lss rfl rfl) (fun hs6_3 => ?_) (fun hs6_3 => ?_)
  · skip
    refine tk_q rfl rfl rfl (y_move rfl) ?_
    refine tk_gq rfl rfl rfl (y_move rfl) ?_
    refine tk_gq rfl rfl rfl (y_lss rfl rfl) ?_
    refine tk_q rfl rfl rfl (y_pick1 rfl rfl) ?_
    refine tk_nil ?_
    refine tk_then ?_
    refine tk_condP rfl (fun ht43 => ?_) (fun ht43 => ?_)
    · skip
      obtain ⟨m, hm2, hm0⟩ := cntP (rows.getD i dLum).k 2 (by decide)
      have hm : (IntKind.u64.wrap (rows.getD i dLum).k).tmod 2 = (m : Int) := hm0
      have hkn : kndN (rows.getD i dLum).k = m := knd_le hm2 hm
      refine tk_skip ?_
      refine tk_then ?_
      refine tk_seq ?_
      refine tk_block ?_
      refine tk_seq ?_
      refine tk_drawH [cel wb ((rg n 1).map B ++ ((rg n 2).map B ++ ((rg n 3).map B ++ ([Value.pointer (some ⟨tb, 0, none⟩), wbv, wlv])))) 117, own wbv s.b.length (s.b.map B) 5 1, own wlv s.l.length (s.l.flatMap entC) 91 35, cel tb ([tvv, .int .u64 ((c : Nat) : Int), tlv]) 160, own tvv ([n].length) ([n].map B) 5 1, own tlv (((tapeL [n] c).drop s.p).length) (((tapeL [n] c).drop s.p).map B) 5 1, own vh h.length (h.flatMap lumC) 78 2, cel b31 (firstL.map B) 5] [] (by kernel_rfl) ?_
      refine tx_q 0 rfl (by kernel_rfl) rfl rfl rfl (fun _ _ _ h => h) (y_move rfl) ?_
      refine tx_q 1 rfl (by kernel_rfl) rfl rfl rfl (fun _ _ _ h => h) (y_move rfl) ?_
      refine tx_q 2 rfl (by kernel_rfl) rfl rfl rfl (fun _ _ _ h => h) (y_ixE (i := i) (k := 2) rfl rfl hrows.1 lenP (by kernel_rfl)) ?_
      refine tx_q 3 rfl (by kernel_rfl) rfl rfl rfl (fun _ _ _ h => h) (y_fldE (o := i * 2 + 0) (off := 0) rfl (by kernel_rfl)) ?_
      refine tx_l 4 rfl (by kernel_rfl) (by kernel_rfl) rfl rfl rfl (fun _ _ _ h => h) (fun _ h => h.sub (List.Sublist.refl _)) (y_loadE1 (i := i) (k := 2) (o := 0) (f := lumC) (l := rows) (d0 := dLum) (u := I ((rows.getD i dLum).k)) rfl rfl lumC_len lenP rfl (fun w hw => Ro.rdC hrows hw)) ?_
      refine tx_q 5 rfl (by kernel_rfl) rfl rfl rfl (fun _ _ _ h => h) (y_conv rfl rfl rfl) ?_
      refine tx_q 6 rfl (by kernel_rfl) rfl rfl rfl (fun _ _ _ h => h) ((y_rem rfl rfl (by omega)).cast (v := _) (u := .int .u64 ((m : Nat) : Int)) (by rw [hm])) ?_
      refine tx_q 7 rfl (by kernel_rfl) rfl rfl rfl (fun _ _ _ h => h) ((y_conv rfl rfl rfl).cast (v := _) (u := I ((m : Nat) : Int)) (by simp only [I]; rw [wrap_in (by omega) (by omega)])) ?_
      refine tx_q 8 rfl (by kernel_rfl) rfl rfl rfl (fun _ _ _ h => h) (y_addN (a := 1) (b := m) rfl rfl (by omega)) ?_
      refine tx_q 9 rfl (by kernel_rfl) rfl rfl rfl (fun _ _ _ h => h) (y_move rfl) ?_
      refine tx_q 10 rfl (by kernel_rfl) rfl rfl rfl (fun _ _ _ h => h) (y_move rfl) ?_
      refine tx_q 11 rfl (by kernel_rfl) rfl rfl rfl (fun _ _ _ h => h) (y_ixE (i := i) (k := 2) rfl rfl hrows.1 lenP (by kernel_rfl)) ?_
      refine tx_q 12 rfl (by kernel_rfl) rfl rfl rfl (fun _ _ _ h => h) (y_fldE (o := i * 2 + 0) (off := 1) rfl (by kernel_rfl)) ?_
      refine tx_l 13 rfl (by kernel_rfl) (by kernel_rfl) rfl rfl rfl (fun _ _ _ h => h) (fun _ h => h.sub (List.Sublist.refl _)) (y_loadE1 (i := i) (k := 2) (o := 1) (f := lumC) (l := rows) (d0 := dLum) (u := (rows.getD i dLum).v) rfl rfl lumC_len lenP rfl (fun w hw => Ro.rdC hrows hw)) ?_
      refine tx_q 14 rfl (by kernel_rfl) rfl rfl rfl (fun _ _ _ h => h) (y_move rfl) ?_
      refine tx_q 15 rfl (by kernel_rfl) rfl rfl rfl (fun _ _ _ h => h) (y_move rfl) ?_
      refine tx_q 16 rfl (by kernel_rfl) rfl rfl rfl (fun _ _ _ h => h) (y_ixE (i := i) (k := 2) rfl rfl hrows.1 lenP (by kernel_rfl)) ?_
      refine tx_q 17 rfl (by kernel_rfl) rfl rfl rfl (fun _ _ _ h => h) (y_fldE (o := i * 2 + 0) (off := 1) rfl (by kernel_rfl)) ?_
      refine tx_l 18 rfl (by kernel_rfl) (by kernel_rfl) rfl rfl rfl (fun _ _ _ h => h) (fun _ h => h.sub (List.Sublist.refl _)) (y_loadE1 (i := i) (k := 2) (o := 1) (f := lumC) (l := rows) (d0 := dLum) (u := (rows.getD i dLum).v) rfl rfl lumC_len lenP rfl (fun w hw => Ro.rdC hrows hw)) ?_
      refine tx_q 19 rfl (by kernel_rfl) rfl rfl rfl (fun _ _ _ h => h) (y_lenRN (n' := ((rows.getD i dLum).l).length) rfl (hrv _ (getD_mem lenP)).1 rfl (by first | rfl | (rw [List.length_map]; omega) | simp)) ?_
      refine tx_q 20 rfl (by kernel_rfl) rfl rfl rfl (fun _ _ _ h => h) (y_minN (a := ((rows.getD i dLum).l).length) (b := 150) rfl rfl) ?_
      refine tx_q 21 rfl (by kernel_rfl) rfl rfl rfl (fun _ _ _ h => h) (y_cutRBh (l := (rows.getD i dLum).l) (min (((rows.getD i dLum).l).length) 150) rfl rfl (hrv _ (getD_mem lenP)).1 (by kernel_rfl) lenP rfl) ?_
      have hro : Ro (Fs []) w (rdB (cutR ((rows.getD i dLum).v) 0 (min (((rows.getD i dLum).l).length) 150)) (((rows.getD i dLum).l).take (min (((rows.getD i dLum).l).length) 150))) := (Ro.cutBh (hrv (rows.getD i dLum) (getD_mem (by omega))) (hi := min (((rows.getD i dLum).l).length) 150) lenP)
      obtain ⟨x, hx0⟩ : ∃ x, x = ((rows.getD i dLum).l).take (min (((rows.getD i dLum).l).length) 150) := ⟨_, rfl⟩
      have hxl : x.length ≤ 150 := by rw [hx0]; simp; omega
      obtain ⟨vx, hvx⟩ : ∃ v, v = cutR ((rows.getD i dLum).v) 0 (min (((rows.getD i dLum).l).length) 150) := ⟨_, rfl⟩
      rw [← hx0, ← hvx] at hro
      have hcx := (show RdS w vx (x.map B) from hro.1).cells
      simp only [Value.cells] at hcx
      have hu : lumF (rows.getD i dLum) = ⟨((1 + m : Nat) : Int), vx, x⟩ := by rw [lumF, hkn, hx0, hvx]
      obtain ⟨hs1, hs2⟩ := nok_succ (n := n) (rows := rows) (fv := FV b31) (i := i) (by omega) (by omega) (by rw [hme]; exact hok)
      have hsucc : madeN n rows (FV b31) (i + 1) = ((addQ n s ((1 + m : Nat) : Int) x).2, if (addQ n s ((1 + m : Nat) : Int) x).1.2.1 = true then h ++ [⟨((1 + m : Nat) : Int), vx, x⟩] else h) := by rw [madeN, hme, stepN, hu]
      rw [hme, hu] at hs2
      dsimp only at hs2
      refine tk_re 67 (cutR ((rows.getD i dLum).v) 0 (min (((rows.getD i dLum).l).length) 150)) (vx) rfl (by rw [hvx]) ?_
      refine tx_q 22 rfl (by kernel_rfl) rfl rfl rfl (fun _ _ _ h => h) (y_build (v := .agg ([I ((1 + m : Nat) : Int), vx]).toArray) (vs := [(0, I ((1 + m : Nat) : Int)), (1, vx)]) rfl (run_build (zs := [I 0, .slice none 0 0]) (pl := [(0, 1), (1, 1)]) Tryd.underlying78 (fun _ => by kernel_rfl) (fun _ => by kernel_rfl) (by simp [fillL, Value.cells, hcx]))) ?_
      refine tx_a 23 rfl (by kernel_rfl) rfl ?_; refine a_allocL (cs := [I 0, .slice none 0 0]) (by kernel_rfl) rfl fun b12 => ?_
      refine tk_S (fun _ h => h.sub (.cons _ (List.Sublist.refl _))) ?_
      refine tx_a 24 rfl (by kernel_rfl) rfl ?_; refine a_storeW (H1 := []) (vs := [I ((1 + m : Nat) : Int), vx]) 2 rfl rfl (by kernel_rfl) rfl ⟨lenP, lenP⟩ (List.forall_mem_cons.2 ⟨rfl, (List.forall_mem_cons.2 ⟨(RdS.one hro.1), (fun _ h => nomatch h)⟩)⟩) ?_
      refine tk_S (fun _ h => h.sub (.cons _ (List.Sublist.refl _))) ?_
      refine tx_done (by kernel_rfl) ?_
      refine tk_then ?_
      refine tk_seq ?_
      refine tk_region ?_
      refine tk_q rfl rfl rfl (y_move rfl) ?_
      refine tk_q rfl rfl rfl (y_fld0 (o := 0) rfl (by kernel_rfl)) ?_
      refine tk_q rfl rfl rfl (y_load rfl rfl (hc (o := 0) (.head _) (rfl))) ?_
      refine tk_q rfl rfl rfl (y_fldN (o := 0) 1 rfl (by kernel_rfl)) ?_
      refine tk_q rfl rfl rfl (y_load rfl rfl (hc (o := 1) (.head _) (rfl))) ?_
      refine tk_act rfl ?_; refine a_slitN (vs := [vx]) rfl (List.forall_mem_cons.2 ⟨(RdS.one hro.1), (fun _ h => nomatch h)⟩) (EL45) rfl rfl (by decide) fun b75 => ?_
      refine tk_act rfl ?_
      refine tk_perm _ (.trans (.cons _ (.trans (.cons _ (.trans (.cons _ (.trans (.cons _ (.trans (.cons _ (.trans (.cons _ (.trans (.cons _ (List.Perm.refl _)) (.swap _ _ _))) (.swap _ _ _))) (.swap _ _ _))) (.swap _ _ _))) (.swap _ _ _))) (.swap _ _ _))) (.swap _ _ _)) ?_
      refine tk_perm _ (.trans (.cons _ (.trans (.cons _ (.trans (.cons _ (.trans (.cons _ (.trans (.cons _ (.trans (.cons _ (.trans (.cons _ (List.Perm.refl _)) (.swap _ _ _))) (.swap _ _ _))) (.swap _ _ _))) (.swap _ _ _))) (.swap _ _ _))) (.swap _ _ _))) (.swap _ _ _)) ?_
      refine tk_perm _ (.trans (.cons _ (.trans (.cons _ (.trans (.cons _ (.trans (.cons _ (.trans (.cons _ (.trans (.cons _ (.trans (.cons _ (List.Perm.refl _)) (.swap _ _ _))) (.swap _ _ _))) (.swap _ _ _))) (.swap _ _ _))) (.swap _ _ _))) (.swap _ _ _))) (.swap _ _ _)) ?_
      refine tk_perm _ (.trans (.cons _ (.trans (.cons _ (.trans (.cons _ (.trans (.cons _ (.trans (.cons _ (.trans (.cons _ (.trans (.cons _ (List.Perm.refl _)) (.swap _ _ _))) (.swap _ _ _))) (.swap _ _ _))) (.swap _ _ _))) (.swap _ _ _))) (.swap _ _ _))) (.swap _ _ _)) ?_
      refine tk_perm _ (.trans (.cons _ (.trans (.cons _ (.trans (.cons _ (.trans (.cons _ (.trans (.cons _ (.trans (.cons _ (.trans (.cons _ (List.Perm.refl _)) (.swap _ _ _))) (.swap _ _ _))) (.swap _ _ _))) (.swap _ _ _))) (.swap _ _ _))) (.swap _ _ _))) (.swap _ _ _)) ?_
      refine tk_perm _ (.trans (.cons _ (.trans (.cons _ (.trans (.cons _ (.trans (.cons _ (.trans (.cons _ (.trans (.cons _ (.trans (.cons _ (List.Perm.refl _)) (.swap _ _ _))) (.swap _ _ _))) (.swap _ _ _))) (.swap _ _ _))) (.swap _ _ _))) (.swap _ _ _))) (.swap _ _ _)) ?_
      refine a_callv [] _ rfl (by kernel_rfl) rfl (fun w' hw' => add_spec (hk := rg n 1) (mk := rg n 2) (nk := rg n 3) (bg := [n]) (sb := s.b) (sl := s.l) (wb := wb) (tb := tb) (c := c) (p := s.p) (wbv := wbv) (wlv := wlv) (tvv := tvv) (tlv := tlv) (kind := ((1 + m : Nat) : Int)) (b := x) (ps := [(vx, x)]) (q := (addQ n s ((1 + m : Nat) : Int) x)) addQ_def ⟨lenP, lenP, lenP⟩ ⟨lenP, lenP⟩ lenP lenP lenP lenP (Ro.cel (vs := [vx]) hw' (.head _) (by first | rfl | simp) rfl (by decide)) (List.forall_mem_cons.2 ⟨(Ro.call hro hw'), (fun _ h => nomatch h)⟩) (by simp) ⟨lenP, lenP⟩ (hg.call hw') (St.pre hw')) rfl fun ⟨c76, tl76, wv76, wl76⟩ hx76 => ?_
      try dsimp only at hx76 ⊢
      have hqn76 : ((addQ n s ((1 + m : Nat) : Int) x).1.1).length = 32 := addQ_len
      refine tk_own1 (.tail _ (.head _)) fun hfb76 => ?_
      refine tk_ownA (.tail _ (.tail _ (.head _))) fun hfl76 => ?_
      refine tk_re 76 (.tuple #[.agg (((addQ n s ((1 + m : Nat) : Int) x).1.1).map B).toArray, .bool ((addQ n s ((1 + m : Nat) : Int) x).1.2.1), I (((addQ n s ((1 + m : Nat) : Int) x).1.2.2 : Nat) : Int)]) (.tuple #[.agg (((addQ n s ((1 + m : Nat) : Int) x).1.1).map B).toArray, .bool ((addQ n s ((1 + m : Nat) : Int) x).1.2.1), I 0]) rfl (by rw [hs2]; first | done | rfl) ?_
      refine tk_q rfl rfl rfl (y_move rfl) ?_
      refine tk_q rfl rfl rfl (y_extract rfl rfl) ?_
      refine tk_q rfl rfl rfl (y_extract rfl rfl) ?_
      refine tk_q rfl rfl rfl (y_extract rfl rfl) ?_
      refine tk_act rfl ?_; refine a_allocL (cs := (List.replicate 32 0).map B) (by kernel_rfl) rfl fun b13 => ?_
      refine tk_act rfl ?_; refine a_storeW (H1 := []) (vs := ((addQ n s ((1 + m : Nat) : Int) x).1.1).map B) 32 rfl rfl (by kernel_rfl) rfl ⟨lenP, lenP⟩ oneB ?_
      refine tk_q rfl rfl rfl (y_assign rfl) ?_
      refine tk_q rfl rfl rfl (y_assign rfl) ?_
      refine tk_nil ?_
      refine tk_then ?_
      refine tk_seq ?_
      refine tk_seq ?_
      refine tk_region ?_
      refine tk_q rfl rfl rfl (y_move rfl) ?_
      refine tk_q rfl rfl rfl ((y_neq rfl rfl).cast (bool_f (by decide))) ?_
      refine tk_nil ?_
      refine tk_then ?_
      refine tk_cond0 rfl ?_
      refine tk_skip ?_
      refine tk_then ?_
      refine tk_seq ?_
      refine tk_region ?_
      refine tk_q rfl rfl rfl (y_move rfl) ?_
      refine tk_nil ?_
      refine tk_then ?_
      refine tk_cond rfl (fun ht82 => ?_) (fun ht82 => ?_)
      · skip
        refine tk_region ?_
        refine tk_q rfl rfl rfl (y_move rfl) ?_
        refine tk_q rfl rfl rfl (y_loadA 2 rfl (by kernel_rfl) lenP (hcw (.tail _ (.tail _ (.tail _ (.tail _ (.tail _ (.tail _ (.tail _ (.tail _ (.head _))))))))))) ?_
        refine tk_act rfl ?_; refine a_slitE (k := 2) (cs := [I ((1 + m : Nat) : Int), vx]) rfl EL64 lenP (by decide) rfl fun b85 => ?_
        refine tk_act rfl ?_; refine a_appE (H1 := [_, _, _, _, _, _, _, _, _, _]) (f := lumC) (l := h) (e := ⟨((1 + m : Nat) : Int), vx, x⟩) (b := b85) (k := 2) rfl rfl EL64 rfl rfl (.head _) (lumC_len _) (List.forall_mem_cons.2 ⟨rfl, (List.forall_mem_cons.2 ⟨(RdS.one hro.1), (fun _ h => nomatch h)⟩)⟩) lenP lenP fun v86 => ?_
        refine tk_ownA (.tail _ (.tail _ (.tail _ (.tail _ (.tail _ (.tail _ (.tail _ (.tail _ (.tail _ (.tail _ (.head _))))))))))) fun hfv86 => ?_
        refine tk_q rfl rfl rfl (y_assign rfl) ?_
        refine tk_nil ?_
        refine tk_in_normal ?_
        refine tk_then ?_
        refine tk_region ?_
        refine tk_q rfl rfl rfl (y_move rfl) ?_
        refine tk_q rfl rfl rfl (y_addN (a := i) (b := 1) rfl rfl (by omega)) ?_
        refine tk_q rfl rfl rfl (y_assign rfl) ?_
        refine tk_nil ?_
        exact tk_again ((i + 1, (addQ n s ((1 + m : Nat) : Int) x).2, h ++ [⟨((1 + m : Nat) : Int), vx, x⟩], c76, tl76, wv76, wl76, v86)) (⟨by dsimp only; omega, by dsimp only; omega, by dsimp only; rw [hsucc, if_pos ht82], by rw [hsucc, if_pos ht82] at hs1; exact hs1, hx76⟩) (by dsimp only; omega) (by repeat (first | exact trivial | refine ⟨rfl, ?_⟩)) (.cons _ (.cons _ (.cons_cons _ (.cons_cons _ (.cons_cons _ (.cons_cons _ (.cons_cons _ (.cons_cons _ (.cons _ (.cons _ (List.Sublist.refl _)))))))))))
      · skip
        refine tk_skip ?_
        refine tk_in_normal ?_
        refine tk_then ?_
        refine tk_region ?_
        refine tk_q rfl rfl rfl (y_move rfl) ?_
        refine tk_q rfl rfl rfl (y_addN (a := i) (b := 1) rfl rfl (by omega)) ?_
        refine tk_q rfl rfl rfl (y_assign rfl) ?_
        refine tk_nil ?_
        exact tk_again ((i + 1, (addQ n s ((1 + m : Nat) : Int) x).2, h, c76, tl76, wv76, wl76, vh)) (⟨by dsimp only; omega, by dsimp only; omega, by dsimp only; rw [hsucc, if_neg (by rw [ht82]; decide)], by rw [hsucc, if_neg (by rw [ht82]; decide)] at hs1; exact hs1, hx76⟩) (by dsimp only; omega) (by repeat (first | exact trivial | refine ⟨rfl, ?_⟩)) (.cons _ (.cons_cons _ (.cons_cons _ (.cons_cons _ (.cons_cons _ (.cons_cons _ (.cons_cons _ (.cons _ (.cons _ (List.Sublist.refl _))))))))))
    · skip
      refine tk_exit ?_
      refine tk_then_exit ?_
      refine tk_then_exit ?_
      refine tk_in_hit ?_
      refine tk_then ?_
      refine tk_seq ?_
      refine tk_region ?_
      have hne : ¬ s.l = [] := fun h0 => by rw [h0] at hnl1; simp at hnl1
      have hpq := packQ_len (n := n) (s := s)
      have hhl := headL_len (l := s.l) (fun e he => by have := hnw.each e he; omega) (by omega)
      refine tk_q rfl rfl rfl (y_move rfl) ?_
      refine tk_act rfl ?_; refine a_callv [] _ rfl (by kernel_rfl) rfl (fun w' hw' => close_spec (hk := rg n 1) (mk := rg n 2) (nk := rg n 3) (bg := [n]) (sb := s.b) (sl := s.l) (wb := wb) (tb := tb) (c := c) (p := s.p) (wbv := wbv) (wlv := wlv) (tvv := tvv) (tlv := tlv) (q := (closeQ n s)) closeQ_def ⟨lenP, lenP, lenP⟩ ⟨lenP, lenP⟩ lenP lenP lenP lenP (fun e he => by have := hnw.each e he; omega) (hg.call hw') (St.pre hw')) rfl fun ⟨c89, tl89, wv89, wl89, cv89, ce89⟩ hx89 => ?_
      try dsimp only at hx89 ⊢
      refine tk_own1 (.tail _ (.head _)) fun hfb89 => ?_
      refine tk_ownA (.tail _ (.tail _ (.head _))) fun hfl89 => ?_
      refine tk_own1 (.tail _ (.tail _ (.tail _ (.tail _ (.tail _ (.tail _ (.head _))))))) fun hfcb89 => ?_
      refine tk_ownA (.tail _ (.tail _ (.tail _ (.tail _ (.tail _ (.tail _ (.tail _ (.head _)))))))) fun hfcl89 => ?_
      refine tk_H [cel wb ((rg n 1).map B ++ ((rg n 2).map B ++ ((rg n 3).map B ++ ([Value.pointer (some ⟨tb, 0, none⟩), wv89, wl89])))) 117, own wv89 (((closeQ n s).2.b).length) (((closeQ n s).2.b).map B) 5 1, own wl89 (((closeQ n s).2.l).length) (((closeQ n s).2.l).flatMap entC) 91 35, cel tb ([tvv, .int .u64 ((c89 : Nat) : Int), tl89]) 160, own tvv ([n].length) ([n].map B) 5 1, own tl89 (((tapeL [n] c89).drop ((closeQ n s).2.p)).length) (((tapeL [n] c89).drop ((closeQ n s).2.p)).map B) 5 1, own cv89 ((packQ n s).length) ((packQ n s).map B) 5 1, own ce89 (((closeQ n s).1.2.2.1).length) (((closeQ n s).1.2.2.1).flatMap entC) 91 35, own vh h.length (h.flatMap lumC) 78 2, cel b31 (firstL.map B) 5] (congrArg (fun z_ => [cel wb ((rg n 1).map B ++ ((rg n 2).map B ++ ((rg n 3).map B ++ ([Value.pointer (some ⟨tb, 0, none⟩), wv89, wl89])))) 117, own wv89 (((closeQ n s).2.b).length) (((closeQ n s).2.b).map B) 5 1, own wl89 (((closeQ n s).2.l).length) (((closeQ n s).2.l).flatMap entC) 91 35, cel tb ([tvv, .int .u64 ((c89 : Nat) : Int), tl89]) 160, own tvv ([n].length) ([n].map B) 5 1, own tl89 (((tapeL [n] c89).drop ((closeQ n s).2.p)).length) (((tapeL [n] c89).drop ((closeQ n s).2.p)).map B) 5 1, z_, own ce89 (((closeQ n s).1.2.2.1).length) (((closeQ n s).1.2.2.1).flatMap entC) 91 35, own vh h.length (h.flatMap lumC) 78 2, cel b31 (firstL.map B) 5]) (show own cv89 (((closeQ n s).1.2.1).length) (((closeQ n s).1.2.1).map B) 5 1 = own cv89 ((packQ n s).length) ((packQ n s).map B) 5 1 from ownM_cast (by rw [closeQ_is hne]))) ?_
      refine tk_H [cel wb ((rg n 1).map B ++ ((rg n 2).map B ++ ((rg n 3).map B ++ ([Value.pointer (some ⟨tb, 0, none⟩), wv89, wl89])))) 117, own wv89 (((closeQ n s).2.b).length) (((closeQ n s).2.b).map B) 5 1, own wl89 (((closeQ n s).2.l).length) (((closeQ n s).2.l).flatMap entC) 91 35, cel tb ([tvv, .int .u64 ((c89 : Nat) : Int), tl89]) 160, own tvv ([n].length) ([n].map B) 5 1, own tl89 (((tapeL [n] c89).drop ((closeQ n s).2.p)).length) (((tapeL [n] c89).drop ((closeQ n s).2.p)).map B) 5 1, own cv89 ((packQ n s).length) ((packQ n s).map B) 5 1, own ce89 s.l.length (s.l.flatMap entC) 91 35, own vh h.length (h.flatMap lumC) 78 2, cel b31 (firstL.map B) 5] (congrArg (fun z_ => [cel wb ((rg n 1).map B ++ ((rg n 2).map B ++ ((rg n 3).map B ++ ([Value.pointer (some ⟨tb, 0, none⟩), wv89, wl89])))) 117, own wv89 (((closeQ n s).2.b).length) (((closeQ n s).2.b).map B) 5 1, own wl89 (((closeQ n s).2.l).length) (((closeQ n s).2.l).flatMap entC) 91 35, cel tb ([tvv, .int .u64 ((c89 : Nat) : Int), tl89]) 160, own tvv ([n].length) ([n].map B) 5 1, own tl89 (((tapeL [n] c89).drop ((closeQ n s).2.p)).length) (((tapeL [n] c89).drop ((closeQ n s).2.p)).map B) 5 1, own cv89 ((packQ n s).length) ((packQ n s).map B) 5 1, z_, own vh h.length (h.flatMap lumC) 78 2, cel b31 (firstL.map B) 5]) (show own ce89 (((closeQ n s).1.2.2.1).length) (((closeQ n s).1.2.2.1).flatMap entC) 91 35 = own ce89 s.l.length (s.l.flatMap entC) 91 35 from ownA_cast (by rw [closeQ_is hne]))) ?_
      rw [closeQ_is hne] at hfcb89 hfcl89
      dsimp only at hfcb89 hfcl89
      refine tk_re 89 (.tuple #[Str ((closeQ n s).1.1), cv89, ce89, I (((closeQ n s).1.2.2.2 : Nat) : Int)]) (.tuple #[Str (nameL (packQ n s)), cv89, ce89, I 0]) rfl (by rw [closeQ_is hne]; first | done | rfl) ?_
      refine tk_q rfl rfl rfl (y_move rfl) ?_
      refine tk_q rfl rfl rfl (y_extract rfl rfl) ?_
      refine tk_q rfl rfl rfl (y_extract rfl rfl) ?_
      refine tk_q rfl rfl rfl (y_extract rfl rfl) ?_
      refine tk_q rfl rfl rfl (y_extract rfl rfl) ?_
      refine tk_q rfl rfl rfl (y_assign rfl) ?_
      refine tk_q rfl rfl rfl (y_assign rfl) ?_
      refine tk_q rfl rfl rfl (y_assign rfl) ?_
      refine tk_q rfl rfl rfl (y_assign rfl) ?_
      refine tk_nil ?_
      refine tk_then ?_
      refine tk_seq ?_
      refine tk_region ?_
      refine tk_q rfl rfl rfl (y_move rfl) ?_
      refine tk_q rfl rfl rfl (y_move rfl) ?_
      refine tk_q rfl rfl rfl (y_move rfl) ?_
      refine tk_q rfl rfl rfl (y_move rfl) ?_
      refine tk_q rfl rfl rfl ((y_eql rfl rfl).cast (bool_t (by decide))) ?_
      refine tk_q rfl rfl rfl (y_move rfl) ?_
      refine tk_gq rfl rfl rfl (y_move rfl) ?_
      refine tk_gq rfl rfl rfl (y_move rfl) ?_
      refine tk_gact rfl ?_; refine a_callv [] _ rfl (by kernel_rfl) rfl (fun w' hw' => name_spec (l := packQ n s) (Ro.own (H0 := []) hw' (.tail _ (.tail _ (.tail _ (.tail _ (.tail _ (.tail _ (.head _)))))))) lenP (hg.call hw')) rfl fun _ _ => ?_
      refine tk_gq rfl rfl rfl ((y_strEq (l := nameL (packQ n s)) (m := nameL (packQ n s)) rfl rfl).cast (bool_t rfl)) ?_
      refine tk_q rfl rfl rfl (y_pick1 rfl rfl) ?_
      refine tk_q rfl rfl rfl (y_move rfl) ?_
      refine tk_gq rfl rfl rfl (y_move rfl) ?_
      refine tk_gq rfl rfl rfl (y_move rfl) ?_
      refine tk_gq rfl rfl rfl (y_str (l := packQ n s) rfl rfl rfl rfl (fun w hw => own_rdS (hw.mem (.tail _ (.tail _ (.tail _ (.tail _ (.tail _ (.tail _ (.head _)))))))))) ?_
      refine tk_gact rfl ?_; refine a_callv [] _ rfl (by kernel_rfl) rfl (fun w' hw' => rname_spec (l := packQ n s) lenP) rfl fun _ _ => ?_
      refine tk_gq rfl rfl rfl ((y_strEq (l := nameL (packQ n s)) (m := nameL (packQ n s)) rfl rfl).cast (bool_t rfl)) ?_
      refine tk_q rfl rfl rfl (y_pick1 rfl rfl) ?_
      refine tk_q rfl rfl rfl (y_move rfl) ?_
      refine tk_gq rfl rfl rfl (y_move rfl) ?_
      refine tk_gq rfl rfl rfl (y_lenE rfl hfcl89.choose_spec rfl) ?_
      refine tk_gq rfl rfl rfl (y_move rfl) ?_
      refine tk_gq rfl rfl rfl (y_lenE rfl hfh.choose_spec rfl) ?_
      refine tk_gqe (.bool true) rfl rfl rfl (y_eql rfl rfl) (bool_t (by omega)) ?_
      refine tk_q rfl rfl rfl (y_pick1 rfl rfl) ?_
      refine tk_q rfl rfl rfl (y_assign rfl) ?_
      refine tk_q rfl rfl rfl (y_assign rfl) ?_
      refine tk_q rfl rfl rfl (y_assign rfl) ?_
      refine tk_q rfl rfl rfl (y_assign rfl) ?_
      refine tk_nil ?_
      refine tk_then ?_
      refine tk_retc ?_
      exact tk_ret (((s, h), cv89, ce89, vh, b31)) (by
          have e : min rows.length 10 = i := by omega
          rw [e]; exact ⟨hme.symm, hok⟩) (.inl rfl) (r4 rfl rfl rfl rfl rfl) (.cons _ (.cons _ (.cons _ (.cons _ (.cons _ (.cons _ (List.Sublist.refl _)))))))
  · skip
    refine tk_q rfl rfl rfl (y_move rfl) ?_
    refine tk_gno rfl rfl rfl ?_
    refine tk_gno rfl rfl rfl ?_
    refine tk_q rfl rfl rfl (y_pick0 rfl rfl) ?_
    refine tk_nil ?_
    refine tk_then ?_
    refine tk_cond0 rfl ?_
    refine tk_exit ?_
    refine tk_then_exit ?_
    refine tk_then_exit ?_
    refine tk_in_hit ?_
    refine tk_then ?_
    refine tk_seq ?_
    refine tk_region ?_
    have hne : ¬ s.l = [] := fun h0 => by rw [h0] at hnl1; simp at hnl1
    have hpq := packQ_len (n := n) (s := s)
    have hhl := headL_len (l := s.l) (fun e he => by have := hnw.each e he; omega) (by omega)
    refine tk_q rfl rfl rfl (y_move rfl) ?_
    refine tk_act rfl ?_; refine a_callv [] _ rfl (by kernel_rfl) rfl (fun w' hw' => close_spec (hk := rg n 1) (mk := rg n 2) (nk := rg n 3) (bg := [n]) (sb := s.b) (sl := s.l) (wb := wb) (tb := tb) (c := c) (p := s.p) (wbv := wbv) (wlv := wlv) (tvv := tvv) (tlv := tlv) (q := (closeQ n s)) closeQ_def ⟨lenP, lenP, lenP⟩ ⟨lenP, lenP⟩ lenP lenP lenP lenP (fun e he => by have := hnw.each e he; omega) (hg.call hw') (St.pre hw')) rfl fun ⟨c89, tl89, wv89, wl89, cv89, ce89⟩ hx89 => ?_
    try dsimp only at hx89 ⊢
    refine tk_own1 (.tail _ (.head _)) fun hfb89 => ?_
    refine tk_ownA (.tail _ (.tail _ (.head _))) fun hfl89 => ?_
    refine tk_own1 (.tail _ (.tail _ (.tail _ (.tail _ (.tail _ (.tail _ (.head _))))))) fun hfcb89 => ?_
    refine tk_ownA (.tail _ (.tail _ (.tail _ (.tail _ (.tail _ (.tail _ (.tail _ (.head _)))))))) fun hfcl89 => ?_
    refine tk_H [cel wb ((rg n 1).map B ++ ((rg n 2).map B ++ ((rg n 3).map B ++ ([Value.pointer (some ⟨tb, 0, none⟩), wv89, wl89])))) 117, own wv89 (((closeQ n s).2.b).length) (((closeQ n s).2.b).map B) 5 1, own wl89 (((closeQ n s).2.l).length) (((closeQ n s).2.l).flatMap entC) 91 35, cel tb ([tvv, .int .u64 ((c89 : Nat) : Int), tl89]) 160, own tvv ([n].length) ([n].map B) 5 1, own tl89 (((tapeL [n] c89).drop ((closeQ n s).2.p)).length) (((tapeL [n] c89).drop ((closeQ n s).2.p)).map B) 5 1, own cv89 ((packQ n s).length) ((packQ n s).map B) 5 1, own ce89 (((closeQ n s).1.2.2.1).length) (((closeQ n s).1.2.2.1).flatMap entC) 91 35, own vh h.length (h.flatMap lumC) 78 2, cel b31 (firstL.map B) 5] (congrArg (fun z_ => [cel wb ((rg n 1).map B ++ ((rg n 2).map B ++ ((rg n 3).map B ++ ([Value.pointer (some ⟨tb, 0, none⟩), wv89, wl89])))) 117, own wv89 (((closeQ n s).2.b).length) (((closeQ n s).2.b).map B) 5 1, own wl89 (((closeQ n s).2.l).length) (((closeQ n s).2.l).flatMap entC) 91 35, cel tb ([tvv, .int .u64 ((c89 : Nat) : Int), tl89]) 160, own tvv ([n].length) ([n].map B) 5 1, own tl89 (((tapeL [n] c89).drop ((closeQ n s).2.p)).length) (((tapeL [n] c89).drop ((closeQ n s).2.p)).map B) 5 1, z_, own ce89 (((closeQ n s).1.2.2.1).length) (((closeQ n s).1.2.2.1).flatMap entC) 91 35, own vh h.length (h.flatMap lumC) 78 2, cel b31 (firstL.map B) 5]) (show own cv89 (((closeQ n s).1.2.1).length) (((closeQ n s).1.2.1).map B) 5 1 = own cv89 ((packQ n s).length) ((packQ n s).map B) 5 1 from ownM_cast (by rw [closeQ_is hne]))) ?_
    refine tk_H [cel wb ((rg n 1).map B ++ ((rg n 2).map B ++ ((rg n 3).map B ++ ([Value.pointer (some ⟨tb, 0, none⟩), wv89, wl89])))) 117, own wv89 (((closeQ n s).2.b).length) (((closeQ n s).2.b).map B) 5 1, own wl89 (((closeQ n s).2.l).length) (((closeQ n s).2.l).flatMap entC) 91 35, cel tb ([tvv, .int .u64 ((c89 : Nat) : Int), tl89]) 160, own tvv ([n].length) ([n].map B) 5 1, own tl89 (((tapeL [n] c89).drop ((closeQ n s).2.p)).length) (((tapeL [n] c89).drop ((closeQ n s).2.p)).map B) 5 1, own cv89 ((packQ n s).length) ((packQ n s).map B) 5 1, own ce89 s.l.length (s.l.flatMap entC) 91 35, own vh h.length (h.flatMap lumC) 78 2, cel b31 (firstL.map B) 5] (congrArg (fun z_ => [cel wb ((rg n 1).map B ++ ((rg n 2).map B ++ ((rg n 3).map B ++ ([Value.pointer (some ⟨tb, 0, none⟩), wv89, wl89])))) 117, own wv89 (((closeQ n s).2.b).length) (((closeQ n s).2.b).map B) 5 1, own wl89 (((closeQ n s).2.l).length) (((closeQ n s).2.l).flatMap entC) 91 35, cel tb ([tvv, .int .u64 ((c89 : Nat) : Int), tl89]) 160, own tvv ([n].length) ([n].map B) 5 1, own tl89 (((tapeL [n] c89).drop ((closeQ n s).2.p)).length) (((tapeL [n] c89).drop ((closeQ n s).2.p)).map B) 5 1, own cv89 ((packQ n s).length) ((packQ n s).map B) 5 1, z_, own vh h.length (h.flatMap lumC) 78 2, cel b31 (firstL.map B) 5]) (show own ce89 (((closeQ n s).1.2.2.1).length) (((closeQ n s).1.2.2.1).flatMap entC) 91 35 = own ce89 s.l.length (s.l.flatMap entC) 91 35 from ownA_cast (by rw [closeQ_is hne]))) ?_
    rw [closeQ_is hne] at hfcb89 hfcl89
    dsimp only at hfcb89 hfcl89
    refine tk_re 89 (.tuple #[Str ((closeQ n s).1.1), cv89, ce89, I (((closeQ n s).1.2.2.2 : Nat) : Int)]) (.tuple #[Str (nameL (packQ n s)), cv89, ce89, I 0]) rfl (by rw [closeQ_is hne]; first | done | rfl) ?_
    refine tk_q rfl rfl rfl (y_move rfl) ?_
    refine tk_q rfl rfl rfl (y_extract rfl rfl) ?_
    refine tk_q rfl rfl rfl (y_extract rfl rfl) ?_
    refine tk_q rfl rfl rfl (y_extract rfl rfl) ?_
    refine tk_q rfl rfl rfl (y_extract rfl rfl) ?_
    refine tk_q rfl rfl rfl (y_assign rfl) ?_
    refine tk_q rfl rfl rfl (y_assign rfl) ?_
    refine tk_q rfl rfl rfl (y_assign rfl) ?_
    refine tk_q rfl rfl rfl (y_assign rfl) ?_
    refine tk_nil ?_
    refine tk_then ?_
    refine tk_seq ?_
    refine tk_region ?_
    refine tk_q rfl rfl rfl (y_move rfl) ?_
    refine tk_q rfl rfl rfl (y_move rfl) ?_
    refine tk_q rfl rfl rfl (y_move rfl) ?_
    refine tk_q rfl rfl rfl (y_move rfl) ?_
    refine tk_q rfl rfl rfl ((y_eql rfl rfl).cast (bool_t (by decide))) ?_
    refine tk_q rfl rfl rfl (y_move rfl) ?_
    refine tk_gq rfl rfl rfl (y_move rfl) ?_
    refine tk_gq rfl rfl rfl (y_move rfl) ?_
    refine tk_gact rfl ?_; refine a_callv [] _ rfl (by kernel_rfl) rfl (fun w' hw' => name_spec (l := packQ n s) (Ro.own (H0 := []) hw' (.tail _ (.tail _ (.tail _ (.tail _ (.tail _ (.tail _ (.head _)))))))) lenP (hg.call hw')) rfl fun _ _ => ?_
    refine tk_gq rfl rfl rfl ((y_strEq (l := nameL (packQ n s)) (m := nameL (packQ n s)) rfl rfl).cast (bool_t rfl)) ?_
    refine tk_q rfl rfl rfl (y_pick1 rfl rfl) ?_
    refine tk_q rfl rfl rfl (y_move rfl) ?_
    refine tk_gq rfl rfl rfl (y_move rfl) ?_
    refine tk_gq rfl rfl rfl (y_move rfl) ?_
    refine tk_gq rfl rfl rfl (y_str (l := packQ n s) rfl rfl rfl rfl (fun w hw => own_rdS (hw.mem (.tail _ (.tail _ (.tail _ (.tail _ (.tail _ (.tail _ (.head _)))))))))) ?_
    refine tk_gact rfl ?_; refine a_callv [] _ rfl (by kernel_rfl) rfl (fun w' hw' => rname_spec (l := packQ n s) lenP) rfl fun _ _ => ?_
    refine tk_gq rfl rfl rfl ((y_strEq (l := nameL (packQ n s)) (m := nameL (packQ n s)) rfl rfl).cast (bool_t rfl)) ?_
    refine tk_q rfl rfl rfl (y_pick1 rfl rfl) ?_
    refine tk_q rfl rfl rfl (y_move rfl) ?_
    refine tk_gq rfl rfl rfl (y_move rfl) ?_
    refine tk_gq rfl rfl rfl (y_lenE rfl hfcl89.choose_spec rfl) ?_
    refine tk_gq rfl rfl rfl (y_move rfl) ?_
    refine tk_gq rfl rfl rfl (y_lenE rfl hfh.choose_spec rfl) ?_
    refine tk_gqe (.bool true) rfl rfl rfl (y_eql rfl rfl) (bool_t (by omega)) ?_
    refine tk_q rfl rfl rfl (y_pick1 rfl rfl) ?_
    refine tk_q rfl rfl rfl (y_assign rfl) ?_
    refine tk_q rfl rfl rfl (y_assign rfl) ?_
    refine tk_q rfl rfl rfl (y_assign rfl) ?_
    refine tk_q rfl rfl rfl (y_assign rfl) ?_
    refine tk_nil ?_
    refine tk_then ?_
    refine tk_retc ?_
    exact tk_ret (((s, h), cv89, ce89, vh, b31)) (by
        have e : min rows.length 10 = i := by omega
        rw [e]; exact ⟨hme.symm, hok⟩) (.inl rfl) (r4 rfl rfl rfl rfl rfl) (.cons _ (.cons _ (.cons _ (.cons _ (.cons _ (.cons _ (List.Sublist.refl _)))))))
end Go.Proofs.YtfofkjajlfphjaaDoor
