/- pack: walks over the writer's Add, Count, Size, Close. -/
import Derived.Test.YtfofkjajlfphjaaDoorPackC
set_option linter.unusedSimpArgs false
set_option linter.unusedVariables false
namespace Go.Proofs.YtfofkjajlfphjaaDoor
open Go Go.RowKit
set_option maxRecDepth 100000
attribute [local irreducible] sumL keyedL hexL hidL markL sealL sealF openF tapeL tapeN idF
section
variable {hk mk nk bg sb : List UInt8} {sl : List Ent} {wb tb c p : Nat} {wbv wlv tvv tlv : Value} {w : World}
theorem add_spec {kind : Int} {b : List UInt8} {v : Value} {ps : List Sb} {q : (List UInt8 × Bool × Nat) × WSt} (hq : addF ⟨hk, mk, nk⟩ bg ⟨sb, sl, p⟩ kind b = q) (h3 : hk.length = 32 ∧ mk.length = 32 ∧ nk.length = 32) (hI0 : p ≤ 32 * c ∧ 32 * c < p + 32) (hp0 : p < 1000000000000) (hbg : bg.length < 1099511627776)
    (hsb : sb.length ≤ 900000) (hsl : sl.length ≤ 1000) (hv : Ro (Fs [cel wb (hk.map B ++ (mk.map B ++ (nk.map B ++ ([Value.pointer (some ⟨tb, 0, none⟩), wbv, wlv])))) 117, own wbv sb.length (sb.map B) 5 1, own wlv sl.length (sl.flatMap entC) 91 35, cel tb ([tvv, .int .u64 ((c : Nat) : Int), tlv]) 160, own tvv bg.length (bg.map B) 5 1, own tlv (((tapeL bg c).drop p).length) (((tapeL bg c).drop p).map B) 5 1]) w (rd v (ps.map Prod.fst))) (hp : ∀ q ∈ ps, Ro (Fs [cel wb (hk.map B ++ (mk.map B ++ (nk.map B ++ ([Value.pointer (some ⟨tb, 0, none⟩), wbv, wlv])))) 117, own wbv sb.length (sb.map B) 5 1, own wlv sl.length (sl.flatMap entC) 91 35, cel tb ([tvv, .int .u64 ((c : Nat) : Int), tlv]) 160, own tvv bg.length (bg.map B) 5 1, own tlv (((tapeL bg c).drop p).length) (((tapeL bg c).drop p).map B) 5 1]) w (rdB q.1 q.2)) (hL : ps.flatMap Prod.snd = b) (hb : b.length < 16777216 ∧ ps.length < 16777216) (hg : Ro (Fs [cel wb (hk.map B ++ (mk.map B ++ (nk.map B ++ ([Value.pointer (some ⟨tb, 0, none⟩), wbv, wlv])))) 117, own wbv sb.length (sb.map B) 5 1, own wlv sl.length (sl.flatMap entC) 91 35, cel tb ([tvv, .int .u64 ((c : Nat) : Int), tlv]) 160, own tvv bg.length (bg.map B) 5 1, own tlv (((tapeL bg c).drop p).length) (((tapeL bg c).drop p).map B) 5 1]) w glob) (hh : Pre w [cel wb (hk.map B ++ (mk.map B ++ (nk.map B ++ ([Value.pointer (some ⟨tb, 0, none⟩), wbv, wlv])))) 117, own wbv sb.length (sb.map B) 5 1, own wlv sl.length (sl.flatMap entC) 91 35, cel tb ([tvv, .int .u64 ((c : Nat) : Int), tlv]) 160, own tvv bg.length (bg.map B) 5 1, own tlv (((tapeL bg c).drop p).length) (((tapeL bg c).drop p).map B) 5 1]) :
    Spec Tryd.prog 30 [.pointer (some ⟨wb, 0, none⟩), I kind, v] w [cel wb (hk.map B ++ (mk.map B ++ (nk.map B ++ ([Value.pointer (some ⟨tb, 0, none⟩), wbv, wlv])))) 117, own wbv sb.length (sb.map B) 5 1, own wlv sl.length (sl.flatMap entC) 91 35, cel tb ([tvv, .int .u64 ((c : Nat) : Int), tlv]) 160, own tvv bg.length (bg.map B) 5 1, own tlv (((tapeL bg c).drop p).length) (((tapeL bg c).drop p).map B) 5 1] (fun x : Nat × Value × Value × Value => q.2.p ≤ 32 * x.1 ∧ 32 * x.1 < q.2.p + 32) (fun _ => .tuple #[Ag q.1.1, .bool q.1.2.1, I ((q.1.2.2 : Nat) : Int)]) (fun x => [cel wb (hk.map B ++ (mk.map B ++ (nk.map B ++ ([Value.pointer (some ⟨tb, 0, none⟩), x.2.2.1, x.2.2.2])))) 117, own x.2.2.1 q.2.b.length (q.2.b.map B) 5 1, own x.2.2.2 q.2.l.length (q.2.l.flatMap entC) 91 35, cel tb ([tvv, .int .u64 ((x.1 : Nat) : Int), x.2.1]) 160, own tvv bg.length (bg.map B) 5 1, own x.2.1 (((tapeL bg x.1).drop q.2.p).length) (((tapeL bg x.1).drop q.2.p).map B) 5 1]) := by
  refine spec_of (n := 110) Tryd.func30 rfl rfl hh.1 hh.2 rfl ?_
  obtain ⟨hk32, mk32, nk32⟩ := h3
  refine tk_own1 (.tail _ (.head _)) fun hfb => ?_
  refine tk_ownA (.tail _ (.tail _ (.head _))) fun hfl => ?_
  refine tk_seq ?_
  refine tk_region ?_
  refine tk_act rfl ?_; refine a_allocL (cs := (List.replicate 32 0).map B) (by kernel_rfl) rfl fun b6 => ?_
  refine tk_q rfl rfl rfl (y_assign rfl) ?_
  refine tk_q rfl rfl rfl (y_assign rfl) ?_
  refine tk_nil ?_
  refine tk_then ?_
  refine tk_seq ?_
  refine tk_seq ?_
  refine tk_region ?_
  refine tk_q rfl rfl rfl (y_move rfl) ?_
  refine tk_q rfl rfl rfl (y_pnil rfl rfl rfl) ?_
  refine tk_q rfl rfl rfl (y_move rfl) ?_
  refine tk_gq rfl rfl rfl (y_move rfl) ?_
  refine tk_gact rfl ?_; refine a_callv [] _ rfl (by kernel_rfl) rfl (fun w' hw' => isKind_spec (k := kind)) rfl fun _ _ => ?_
  refine tk_gq rfl rfl rfl (y_not rfl) ?_
  refine tk_q rfl rfl rfl (y_pick0 rfl rfl) ?_
  refine tk_nil ?_
  refine tk_then ?_
  refine tk_cond rfl (fun ht19 => ?_) (fun ht19 => ?_)
  · skip
    refine tk_seq ?_
    refine tk_region ?_
    refine tk_q rfl rfl rfl (y_build (v := .agg ((List.replicate 32 0 : List UInt8).map B).toArray) (vs := []) rfl (fun _ => by kernel_rfl)) ?_
    refine tk_act rfl ?_; refine a_storeW (H1 := []) (vs := (List.replicate 32 0 : List UInt8).map B) 32 rfl rfl (by kernel_rfl) rfl ⟨lenP, lenP⟩ oneB ?_
    refine tk_q rfl rfl rfl (y_assign rfl) ?_
    refine tk_q rfl rfl rfl (y_assign rfl) ?_
    refine tk_nil ?_
    refine tk_then ?_
    refine tk_retc ?_
    refine tk_then_ret ?_
    obtain rfl : ((Z32L, false, 1), ⟨sb, sl, p⟩) = q := by rw [← hq]; exact Eq.symm (addF_kind (fun h => by simp [h] at ht19))
    exact tk_ret ((c, tlv, wbv, wlv)) (hI0) (.inl rfl) (rctt (vs := (List.replicate 32 0 : List UInt8).map B) rfl rfl (by first | (rw [List.length_map, hidl]; kernel_rfl) | (simp; kernel_rfl)) (hcw (.head _)) rfl rfl) (.cons _ (List.Sublist.refl _))
  · skip
    obtain ⟨kn, rfl, hkn⟩ : ∃ kn : Nat, kind = (kn : Int) ∧ (kn = 1 ∨ kn = 2) := by
      have h : kind = 1 ∨ kind = 2 := Decidable.byContradiction fun h => by simp [h] at ht19
      exact h.elim (fun h => ⟨1, h, .inl rfl⟩) (fun h => ⟨2, h, .inr rfl⟩)
    have hk12 : (kn : Int) = 1 ∨ (kn : Int) = 2 := by omega
    refine tk_skip ?_
    refine tk_then ?_
    refine tk_seq ?_
    refine tk_region ?_
    refine tk_q rfl rfl rfl (y_move rfl) ?_
    have hLl := congrArg List.length hL
    refine tk_act rfl ?_; refine a_callv [] _ rfl (by kernel_rfl) rfl (fun w' hw' => concat_spec (ps := ps) (L := ps.flatMap Prod.snd) (Ro.call hv hw') (fun p hp0 => (hp p hp0).call hw') (by simp) ⟨lenP, lenP⟩) rfl fun v22 _ => ?_
    refine tk_H [own v22 b.length (b.map B) 5 1, cel b6 ((List.replicate 32 0).map B) 65, cel wb (hk.map B ++ (mk.map B ++ (nk.map B ++ ([Value.pointer (some ⟨tb, 0, none⟩), wbv, wlv])))) 117, own wbv sb.length (sb.map B) 5 1, own wlv sl.length (sl.flatMap entC) 91 35, cel tb ([tvv, .int .u64 ((c : Nat) : Int), tlv]) 160, own tvv bg.length (bg.map B) 5 1, own tlv (((tapeL bg c).drop p).length) (((tapeL bg c).drop p).map B) 5 1] (congrArg (fun z_ => [z_, cel b6 ((List.replicate 32 0).map B) 65, cel wb (hk.map B ++ (mk.map B ++ (nk.map B ++ ([Value.pointer (some ⟨tb, 0, none⟩), wbv, wlv])))) 117, own wbv sb.length (sb.map B) 5 1, own wlv sl.length (sl.flatMap entC) 91 35, cel tb ([tvv, .int .u64 ((c : Nat) : Int), tlv]) 160, own tvv bg.length (bg.map B) 5 1, own tlv (((tapeL bg c).drop p).length) (((tapeL bg c).drop p).map B) 5 1]) (show own v22 ((ps.flatMap Prod.snd).length) ((ps.flatMap Prod.snd).map B) 5 1 = own v22 b.length (b.map B) 5 1 from ownM_cast hL)) ?_
    refine tk_own1 (.head _) fun hfv => ?_
    refine tk_q rfl rfl rfl (y_assign rfl) ?_
    refine tk_nil ?_
    refine tk_then ?_
    refine tk_seq ?_
    refine tk_seq ?_
    refine tk_region ?_
    refine tk_q rfl rfl rfl (y_move rfl) ?_
    refine tk_q rfl rfl rfl (y_lenRN (n' := b.length) rfl hfv.choose_spec rfl (by first | rfl | (rw [List.length_map]; omega) | simp)) ?_
    refine tk_q rfl rfl rfl (y_gtr rfl rfl) ?_
    refine tk_nil ?_
    refine tk_then ?_
    refine tk_condP rfl (fun ht25 => ?_) (fun ht25 => ?_)
    · skip
      refine tk_seq ?_
      refine tk_region ?_
      refine tk_q rfl rfl rfl (y_build (v := .agg ((List.replicate 32 0 : List UInt8).map B).toArray) (vs := []) rfl (fun _ => by kernel_rfl)) ?_
      refine tk_act rfl ?_; refine a_storeW (H1 := [_]) (vs := (List.replicate 32 0 : List UInt8).map B) 32 rfl rfl (by kernel_rfl) rfl ⟨lenP, lenP⟩ oneB ?_
      refine tk_q rfl rfl rfl (y_assign rfl) ?_
      refine tk_q rfl rfl rfl (y_assign rfl) ?_
      refine tk_nil ?_
      refine tk_then ?_
      refine tk_retc ?_
      refine tk_then_ret ?_
      obtain rfl : ((Z32L, false, 4), ⟨sb, sl, p⟩) = q := by rw [← hq]; exact Eq.symm (addF_big hk12 (by omega))
      exact tk_ret ((c, tlv, wbv, wlv)) (hI0) (.inl rfl) (rctt (vs := (List.replicate 32 0 : List UInt8).map B) rfl rfl (by first | (rw [List.length_map, hidl]; kernel_rfl) | (simp; kernel_rfl)) (hcw (.tail _ (.head _))) rfl rfl) (.cons _ (.cons _ (List.Sublist.refl _)))
    · skip
      refine tk_skip ?_
      refine tk_then ?_
      refine tk_seq ?_
      refine tk_region ?_
      refine tk_q rfl rfl rfl (y_move rfl) ?_
      refine tk_q rfl rfl rfl (y_nilCheck rfl) ?_
      refine tk_q rfl rfl rfl (y_fld0 (o := 0) rfl (by kernel_rfl)) ?_
      refine tk_q rfl rfl rfl (y_fld0 (o := 0) rfl (by kernel_rfl)) ?_
      refine tk_q rfl rfl rfl (y_loadA (vs := hk.map B ++ (mk.map B ++ (nk.map B))) 96 rfl (by kernel_rfl) lenP (hseg (pre := ([] : List Value)) (post := [Value.pointer (some ⟨tb, 0, none⟩), wbv, wlv]) (.tail _ (.tail _ (.head _))) lenP (by simp))) ?_
      refine tk_q rfl rfl rfl (y_move rfl) ?_
      refine tk_q rfl rfl rfl (y_convi8 (m := kn) rfl rfl rfl) ?_
      refine tk_q rfl rfl rfl (y_move rfl) ?_
      refine tk_act rfl ?_; refine a_slitN (vs := [v22]) rfl (List.forall_mem_cons.2 ⟨(RdS.one hfv.choose_spec), (fun _ h => nomatch h)⟩) (EL45) rfl rfl (by decide) fun b35 => ?_
      refine tk_act rfl ?_; refine a_callv [] _ rfl (by kernel_rfl) rfl (fun w' hw' => id_spec (hk := hk) (mk := mk) (nk := nk) (kind := UInt8.ofNat kn) (ps := [(v22, b)]) (L := b) ⟨lenP, lenP, lenP⟩ (Ro.cel (vs := [v22]) hw' (.head _) (by first | rfl | simp) rfl (by decide)) (List.forall_mem_cons.2 ⟨(Ro.own (H0 := []) hw' (.tail _ (.head _))), (fun _ h => nomatch h)⟩) (by simp) ⟨lenP, lenP⟩ (hg.call hw')) rfl fun _ _ => ?_
      obtain ⟨idl, hid⟩ : ∃ l, idF nk (UInt8.ofNat kn) b = l := ⟨_, rfl⟩
      have hidl : idl.length = 32 := by rw [← hid]; exact idF_len
      have hx64 : (hexL idl).length = 64 := by rw [hexL_len, hidl]
      have hnb : ¬ 131072 < b.length := by omega
      refine tk_re 36 (.agg ((idF nk (UInt8.ofNat kn) b).map B).toArray) (.agg (idl.map B).toArray) rfl (by rw [hid]) ?_
      refine tk_act rfl ?_; refine a_allocL (cs := (List.replicate 32 0).map B) (by kernel_rfl) rfl fun b10 => ?_
      refine tk_act rfl ?_; refine a_storeW (H1 := []) (vs := idl.map B) 32 rfl rfl (by kernel_rfl) rfl ⟨lenP, lenP⟩ oneB ?_
      refine tk_nil ?_
      refine tk_then ?_
      refine tk_seq ?_
      refine tk_seq ?_
      refine tk_region ?_
      refine tk_q rfl rfl rfl (y_move rfl) ?_
      refine tk_q rfl rfl rfl (y_nilCheck rfl) ?_
      refine tk_q rfl rfl rfl (y_fldN (o := 0) 98 rfl (by kernel_rfl)) ?_
      refine tk_q rfl rfl rfl (y_load rfl rfl (hc (o := 98) (.tail _ (.tail _ (.tail _ (.tail _ (.head _))))) (gA (k := 32) (i := 66) (by rw [List.length_map]; exact hk32) (by omega) (gA (k := 32) (i := 34) (by rw [List.length_map]; exact mk32) (by omega) (gA (k := 32) (i := 2) (by rw [List.length_map]; exact nk32) (by omega) (rfl)))))) ?_
      refine tk_q rfl rfl rfl (y_makeFunc (cs := [.pointer (some ⟨b10, 0, none⟩)]) rfl) ?_
      refine tk_act rfl ?_
      refine tk_perm _ (.trans (.cons _ (.trans (.cons _ (.trans (.cons _ (.trans (.cons _ (.trans (.cons _ (.trans (.cons _ (List.Perm.refl _)) (.swap _ _ _))) (.swap _ _ _))) (.swap _ _ _))) (.swap _ _ _))) (.swap _ _ _))) (.swap _ _ _)) ?_
      refine a_callv [] _ rfl (by kernel_rfl) rfl (fun w' hw' => containsf_spec (v := wlv) (l := sl) (ib := b10) (il := idl) hidl lenP (St.pre hw')) rfl fun _ _ => ?_
      refine tk_nil ?_
      refine tk_then ?_
      refine tk_cond rfl (fun ht42 => ?_) (fun ht42 => ?_)
      · skip
        refine tk_seq ?_
        refine tk_region ?_
        refine tk_q rfl rfl rfl (y_loadA 32 rfl (by kernel_rfl) lenP (hcw (.tail _ (.head _)))) ?_
        refine tk_act rfl ?_; refine a_storeW (H1 := [_, _, _, _]) (vs := idl.map B) 32 rfl rfl (by kernel_rfl) rfl ⟨lenP, lenP⟩ oneB ?_
        refine tk_q rfl rfl rfl (y_assign rfl) ?_
        refine tk_q rfl rfl rfl (y_assign rfl) ?_
        refine tk_nil ?_
        refine tk_then ?_
        refine tk_retc ?_
        refine tk_then_ret ?_
        obtain rfl : ((idl, false, 0), ⟨sb, sl, p⟩) = q := by rw [← hq]; subst hid; exact Eq.symm (addF_has hk12 hnb (by exact ht42))
        refine tk_perm _ (.trans (.cons _ (.trans (.cons _ (.trans (.cons _ (.trans (.cons _ (.trans (.cons _ (.trans (.cons _ (.trans (.cons _ (.trans (.cons _ (.trans (.cons _ (List.Perm.refl _)) (.swap _ _ _))) (.swap _ _ _))) (.swap _ _ _))) (.swap _ _ _))) (.swap _ _ _))) (.swap _ _ _))) (.swap _ _ _))) (.swap _ _ _))) (.swap _ _ _)) ?_
        refine tk_perm _ (.trans (.cons _ (.trans (.cons _ (.trans (.cons _ (.trans (.cons _ (.trans (.cons _ (.trans (.cons _ (.trans (.cons _ (.trans (.cons _ (.trans (.cons _ (List.Perm.refl _)) (.swap _ _ _))) (.swap _ _ _))) (.swap _ _ _))) (.swap _ _ _))) (.swap _ _ _))) (.swap _ _ _))) (.swap _ _ _))) (.swap _ _ _))) (.swap _ _ _)) ?_
        refine tk_perm _ (.trans (.cons _ (.trans (.cons _ (.trans (.cons _ (.trans (.cons _ (.trans (.cons _ (.trans (.cons _ (.trans (.cons _ (.trans (.cons _ (.trans (.cons _ (List.Perm.refl _)) (.swap _ _ _))) (.swap _ _ _))) (.swap _ _ _))) (.swap _ _ _))) (.swap _ _ _))) (.swap _ _ _))) (.swap _ _ _))) (.swap _ _ _))) (.swap _ _ _)) ?_
        refine tk_perm _ (.trans (.cons _ (.trans (.cons _ (.trans (.cons _ (List.Perm.refl _)) (.swap _ _ _))) (.swap _ _ _))) (.swap _ _ _)) ?_
        refine tk_perm _ (.trans (.cons _ (.trans (.cons _ (.trans (.cons _ (.trans (.cons _ (.trans (.cons _ (.trans (.cons _ (.trans (.cons _ (.trans (.cons _ (.trans (.cons _ (List.Perm.refl _)) (.swap _ _ _))) (.swap _ _ _))) (.swap _ _ _))) (.swap _ _ _))) (.swap _ _ _))) (.swap _ _ _))) (.swap _ _ _))) (.swap _ _ _))) (.swap _ _ _)) ?_
        refine tk_perm _ (.trans (.cons _ (.trans (.cons _ (.trans (.cons _ (.trans (.cons _ (.trans (.cons _ (.trans (.cons _ (.trans (.cons _ (.trans (.cons _ (.trans (.cons _ (List.Perm.refl _)) (.swap _ _ _))) (.swap _ _ _))) (.swap _ _ _))) (.swap _ _ _))) (.swap _ _ _))) (.swap _ _ _))) (.swap _ _ _))) (.swap _ _ _))) (.swap _ _ _)) ?_
        exact tk_ret ((c, tlv, wbv, wlv)) (hI0) (.inl rfl) (rctt (vs := idl.map B) rfl rfl (by first | (rw [List.length_map, hidl]; kernel_rfl) | (simp; kernel_rfl)) (hcw (.tail _ (.tail _ (.tail _ (.tail _ (.tail _ (.tail _ (.tail _ (.tail _ (.tail _ (.head _))))))))))) rfl rfl) (.cons_cons _ (.cons_cons _ (.cons_cons _ (.cons_cons _ (.cons_cons _ (.cons_cons _ (List.nil_sublist _)))))))
      · skip
        refine tk_skip ?_
        refine tk_then ?_
        refine tk_seq ?_
        refine tk_seq ?_
        refine tk_region ?_
        refine tk_q rfl rfl rfl (y_move rfl) ?_
        refine tk_q rfl rfl rfl (y_nilCheck rfl) ?_
        refine tk_q rfl rfl rfl (y_fldN (o := 0) 98 rfl (by kernel_rfl)) ?_
        refine tk_q rfl rfl rfl (y_load rfl rfl (hc (o := 98) (.tail _ (.tail _ (.tail _ (.tail _ (.tail _ (.head _)))))) (gA (k := 32) (i := 66) (by rw [List.length_map]; exact hk32) (by omega) (gA (k := 32) (i := 34) (by rw [List.length_map]; exact mk32) (by omega) (gA (k := 32) (i := 2) (by rw [List.length_map]; exact nk32) (by omega) (rfl)))))) ?_
        refine tk_q rfl rfl rfl (y_lenE rfl hfl.choose_spec rfl) ?_
        refine tk_qs rfl rfl rfl (y_geq rfl rfl) (fun hs9_5 => ?_) (fun hs9_5 => ?_)
        · skip
          refine tk_q rfl rfl rfl (y_move rfl) ?_
          refine tk_gno rfl rfl rfl ?_
          refine tk_gno rfl rfl rfl ?_
          refine tk_gno rfl rfl rfl ?_
          refine tk_gno rfl rfl rfl ?_
          refine tk_gno rfl rfl rfl ?_
          refine tk_gno rfl rfl rfl ?_
          refine tk_gno rfl rfl rfl ?_
          refine tk_gno rfl rfl rfl ?_
          refine tk_gno rfl rfl rfl ?_
          refine tk_gno rfl rfl rfl ?_
          refine tk_q rfl rfl rfl (y_pick1 rfl rfl) ?_
          refine tk_nil ?_
          refine tk_then ?_
          refine tk_cond1 rfl ?_
          refine tk_seq ?_
          refine tk_region ?_
          refine tk_q rfl rfl rfl (y_build (v := .agg ((List.replicate 32 0 : List UInt8).map B).toArray) (vs := []) rfl (fun _ => by kernel_rfl)) ?_
          refine tk_act rfl ?_; refine a_storeW (H1 := [_, _, _, _]) (vs := (List.replicate 32 0 : List UInt8).map B) 32 rfl rfl (by kernel_rfl) rfl ⟨lenP, lenP⟩ oneB ?_
          refine tk_q rfl rfl rfl (y_assign rfl) ?_
          refine tk_q rfl rfl rfl (y_assign rfl) ?_
          refine tk_nil ?_
          refine tk_then ?_
          refine tk_retc ?_
          refine tk_then_ret ?_
          have hnf : hasE sl idl = false := by simpa using ht42
          obtain rfl : ((Z32L, false, 8), ⟨sb, sl, p⟩) = q := by rw [← hq]; subst hid; exact Eq.symm (addF_full hk12 hnb (by exact hnf) (.inl (by dsimp only; omega)))
          refine tk_perm _ (.trans (.cons _ (.trans (.cons _ (.trans (.cons _ (.trans (.cons _ (.trans (.cons _ (.trans (.cons _ (.trans (.cons _ (.trans (.cons _ (.trans (.cons _ (List.Perm.refl _)) (.swap _ _ _))) (.swap _ _ _))) (.swap _ _ _))) (.swap _ _ _))) (.swap _ _ _))) (.swap _ _ _))) (.swap _ _ _))) (.swap _ _ _))) (.swap _ _ _)) ?_
          refine tk_perm _ (.trans (.cons _ (.trans (.cons _ (.trans (.cons _ (.trans (.cons _ (.trans (.cons _ (.trans (.cons _ (.trans (.cons _ (.trans (.cons _ (.trans (.cons _ (List.Perm.refl _)) (.swap _ _ _))) (.swap _ _ _))) (.swap _ _ _))) (.swap _ _ _))) (.swap _ _ _))) (.swap _ _ _))) (.swap _ _ _))) (.swap _ _ _))) (.swap _ _ _)) ?_
          refine tk_perm _ (.trans (.cons _ (.trans (.cons _ (.trans (.cons _ (.trans (.cons _ (.trans (.cons _ (.trans (.cons _ (.trans (.cons _ (.trans (.cons _ (.trans (.cons _ (List.Perm.refl _)) (.swap _ _ _))) (.swap _ _ _))) (.swap _ _ _))) (.swap _ _ _))) (.swap _ _ _))) (.swap _ _ _))) (.swap _ _ _))) (.swap _ _ _))) (.swap _ _ _)) ?_
          refine tk_perm _ (.trans (.cons _ (.trans (.cons _ (.trans (.cons _ (List.Perm.refl _)) (.swap _ _ _))) (.swap _ _ _))) (.swap _ _ _)) ?_
          refine tk_perm _ (.trans (.cons _ (.trans (.cons _ (.trans (.cons _ (.trans (.cons _ (.trans (.cons _ (.trans (.cons _ (.trans (.cons _ (.trans (.cons _ (.trans (.cons _ (List.Perm.refl _)) (.swap _ _ _))) (.swap _ _ _))) (.swap _ _ _))) (.swap _ _ _))) (.swap _ _ _))) (.swap _ _ _))) (.swap _ _ _))) (.swap _ _ _))) (.swap _ _ _)) ?_
          refine tk_perm _ (.trans (.cons _ (.trans (.cons _ (.trans (.cons _ (.trans (.cons _ (.trans (.cons _ (.trans (.cons _ (.trans (.cons _ (.trans (.cons _ (.trans (.cons _ (List.Perm.refl _)) (.swap _ _ _))) (.swap _ _ _))) (.swap _ _ _))) (.swap _ _ _))) (.swap _ _ _))) (.swap _ _ _))) (.swap _ _ _))) (.swap _ _ _))) (.swap _ _ _)) ?_
          exact tk_ret ((c, tlv, wbv, wlv)) (hI0) (.inl rfl) (rctt (vs := (List.replicate 32 0 : List UInt8).map B) rfl rfl (by first | (rw [List.length_map, hidl]; kernel_rfl) | (simp; kernel_rfl)) (hcw (.tail _ (.tail _ (.tail _ (.tail _ (.tail _ (.tail _ (.tail _ (.tail _ (.tail _ (.head _))))))))))) rfl rfl) (.cons_cons _ (.cons_cons _ (.cons_cons _ (.cons_cons _ (.cons_cons _ (.cons_cons _ (List.nil_sublist _)))))))
        · skip
          refine tk_q rfl rfl rfl (y_move rfl) ?_
          refine tk_gq rfl rfl rfl (y_move rfl) ?_
          refine tk_gq rfl rfl rfl (y_lenRN (n' := b.length) rfl hfv.choose_spec rfl (by first | rfl | (rw [List.length_map]; omega) | simp)) ?_
          refine tk_gq rfl rfl rfl (y_addN (a := b.length) (b := 48) rfl rfl (by omega)) ?_
          refine tk_gq rfl rfl rfl (y_move rfl) ?_
          refine tk_gq rfl rfl rfl (y_nilCheck rfl) ?_
          refine tk_gq rfl rfl rfl (y_fldN (o := 0) 97 rfl (by kernel_rfl)) ?_
          refine tk_gq rfl rfl rfl (y_load rfl rfl (hc (o := 97) (.tail _ (.tail _ (.tail _ (.tail _ (.tail _ (.head _)))))) (gA (k := 32) (i := 65) (by rw [List.length_map]; exact hk32) (by omega) (gA (k := 32) (i := 33) (by rw [List.length_map]; exact mk32) (by omega) (gA (k := 32) (i := 1) (by rw [List.length_map]; exact nk32) (by omega) (rfl)))))) ?_
          refine tk_gq rfl rfl rfl (y_lenRN (n' := sb.length) rfl hfb.choose_spec rfl (by first | rfl | (rw [List.length_map]; omega) | simp)) ?_
          refine tk_gq rfl rfl rfl (y_subN (a := 900000) (b := sb.length) rfl rfl (by omega)) ?_
          refine tk_gq rfl rfl rfl (y_gtr rfl rfl) ?_
          refine tk_q rfl rfl rfl (y_pick0 rfl rfl) ?_
          refine tk_nil ?_
          refine tk_then ?_
          refine tk_condP rfl (fun ht61 => ?_) (fun ht61 => ?_)
          · skip
            refine tk_seq ?_
            refine tk_region ?_
            refine tk_q rfl rfl rfl (y_build (v := .agg ((List.replicate 32 0 : List UInt8).map B).toArray) (vs := []) rfl (fun _ => by kernel_rfl)) ?_
            refine tk_act rfl ?_; refine a_storeW (H1 := [_, _, _, _]) (vs := (List.replicate 32 0 : List UInt8).map B) 32 rfl rfl (by kernel_rfl) rfl ⟨lenP, lenP⟩ oneB ?_
            refine tk_q rfl rfl rfl (y_assign rfl) ?_
            refine tk_q rfl rfl rfl (y_assign rfl) ?_
            refine tk_nil ?_
            refine tk_then ?_
            refine tk_retc ?_
            refine tk_then_ret ?_
            have hnf : hasE sl idl = false := by simpa using ht42
            obtain rfl : ((Z32L, false, 8), ⟨sb, sl, p⟩) = q := by rw [← hq]; subst hid; exact Eq.symm (addF_full hk12 hnb (by exact hnf) (.inr (by dsimp only; omega)))
            refine tk_perm _ (.trans (.cons _ (.trans (.cons _ (.trans (.cons _ (.trans (.cons _ (.trans (.cons _ (.trans (.cons _ (.trans (.cons _ (.trans (.cons _ (.trans (.cons _ (List.Perm.refl _)) (.swap _ _ _))) (.swap _ _ _))) (.swap _ _ _))) (.swap _ _ _))) (.swap _ _ _))) (.swap _ _ _))) (.swap _ _ _))) (.swap _ _ _))) (.swap _ _ _)) ?_
            refine tk_perm _ (.trans (.cons _ (.trans (.cons _ (.trans (.cons _ (.trans (.cons _ (.trans (.cons _ (.trans (.cons _ (.trans (.cons _ (.trans (.cons _ (.trans (.cons _ (List.Perm.refl _)) (.swap _ _ _))) (.swap _ _ _))) (.swap _ _ _))) (.swap _ _ _))) (.swap _ _ _))) (.swap _ _ _))) (.swap _ _ _))) (.swap _ _ _))) (.swap _ _ _)) ?_
            refine tk_perm _ (.trans (.cons _ (.trans (.cons _ (.trans (.cons _ (.trans (.cons _ (.trans (.cons _ (.trans (.cons _ (.trans (.cons _ (.trans (.cons _ (.trans (.cons _ (List.Perm.refl _)) (.swap _ _ _))) (.swap _ _ _))) (.swap _ _ _))) (.swap _ _ _))) (.swap _ _ _))) (.swap _ _ _))) (.swap _ _ _))) (.swap _ _ _))) (.swap _ _ _)) ?_
            refine tk_perm _ (.trans (.cons _ (.trans (.cons _ (.trans (.cons _ (List.Perm.refl _)) (.swap _ _ _))) (.swap _ _ _))) (.swap _ _ _)) ?_
            refine tk_perm _ (.trans (.cons _ (.trans (.cons _ (.trans (.cons _ (.trans (.cons _ (.trans (.cons _ (.trans (.cons _ (.trans (.cons _ (.trans (.cons _ (.trans (.cons _ (List.Perm.refl _)) (.swap _ _ _))) (.swap _ _ _))) (.swap _ _ _))) (.swap _ _ _))) (.swap _ _ _))) (.swap _ _ _))) (.swap _ _ _))) (.swap _ _ _))) (.swap _ _ _)) ?_
            refine tk_perm _ (.trans (.cons _ (.trans (.cons _ (.trans (.cons _ (.trans (.cons _ (.trans (.cons _ (.trans (.cons _ (.trans (.cons _ (.trans (.cons _ (.trans (.cons _ (List.Perm.refl _)) (.swap _ _ _))) (.swap _ _ _))) (.swap _ _ _))) (.swap _ _ _))) (.swap _ _ _))) (.swap _ _ _))) (.swap _ _ _))) (.swap _ _ _))) (.swap _ _ _)) ?_
            exact tk_ret ((c, tlv, wbv, wlv)) (hI0) (.inl rfl) (rctt (vs := (List.replicate 32 0 : List UInt8).map B) rfl rfl (by first | (rw [List.length_map, hidl]; kernel_rfl) | (simp; kernel_rfl)) (hcw (.tail _ (.tail _ (.tail _ (.tail _ (.tail _ (.tail _ (.tail _ (.tail _ (.tail _ (.head _))))))))))) rfl rfl) (.cons_cons _ (.cons_cons _ (.cons_cons _ (.cons_cons _ (.cons_cons _ (.cons_cons _ (List.nil_sublist _)))))))
          · skip
            refine tk_skip ?_
            refine tk_then ?_
            refine tk_seq ?_
            refine tk_drawH [own wlv sl.length (sl.flatMap entC) 91 35, cel b10 (idl.map B) 65, cel b35 ([v22]) 26, own v22 b.length (b.map B) 5 1, cel b6 ((List.replicate 32 0).map B) 65, cel wb (hk.map B ++ (mk.map B ++ (nk.map B ++ ([Value.pointer (some ⟨tb, 0, none⟩), wbv, wlv])))) 117, own wbv sb.length (sb.map B) 5 1] [] (by kernel_rfl) ?_
            refine tx_q 0 rfl (by kernel_rfl) rfl rfl rfl (fun _ _ _ h => h) (y_move rfl) ?_
            refine tx_q 1 rfl (by kernel_rfl) rfl rfl rfl (fun _ _ _ h => h) (y_nilCheck rfl) ?_
            refine tx_q 2 rfl (by kernel_rfl) rfl rfl rfl (fun _ _ _ h => h) (y_fld0 (o := 0) rfl (by kernel_rfl)) ?_
            refine tx_l 3 rfl (by kernel_rfl) (by kernel_rfl) rfl rfl rfl (fun _ _ _ h => h) (fun _ h => h.sub (.cons_cons _ (.cons_cons _ (.cons_cons _ (.cons_cons _ (.cons_cons _ (.cons_cons _ (.cons_cons _ (List.nil_sublist _))))))))) (y_loadA (vs := hk.map B ++ (mk.map B ++ (nk.map B ++ ([Value.pointer (some ⟨tb, 0, none⟩)])))) 97 rfl (by kernel_rfl) lenP (hseg (pre := ([] : List Value)) (post := [wbv, wlv]) (.tail _ (.tail _ (.tail _ (.tail _ (.tail _ (.head _)))))) lenP (by simp))) ?_
            refine tx_q 4 rfl (by kernel_rfl) rfl rfl rfl (fun _ _ _ h => h) (y_move rfl) ?_
            refine tx_q 5 rfl (by kernel_rfl) rfl rfl rfl (fun _ _ _ h => h) (y_convi8 (m := kn) rfl rfl rfl) ?_
            refine tx_l 6 rfl (by kernel_rfl) (by kernel_rfl) rfl rfl rfl (fun _ _ _ h => h) (fun _ h => h.sub (.cons_cons _ (.cons_cons _ (.cons_cons _ (.cons_cons _ (.cons_cons _ (.cons_cons _ (.cons_cons _ (List.nil_sublist _))))))))) (y_loadA 32 rfl (by kernel_rfl) lenP (hcw (.tail _ (.head _)))) ?_
            refine tx_q 8 rfl (by kernel_rfl) rfl rfl rfl (fun _ _ _ h => h) (y_move rfl) ?_
            refine tx_all (is := [7, 9]) (by kernel_rfl) rfl ⟨⟨_, rfl, rfl, ?_⟩, ⟨_, rfl, rfl, ?_⟩, trivial⟩
            · skip
              skip; refine a_callv [] _ rfl (by kernel_rfl) rfl (fun w' hw' => label_spec (l := idl) hidl) rfl fun _ _ => ?_
              refine tk_S (fun _ h => h.sub (.cons_cons _ (.cons_cons _ (.cons_cons _ (.cons_cons _ (.cons_cons _ (.cons_cons _ (.cons_cons _ (List.nil_sublist _))))))))) ?_
              refine tx_a 9 rfl (by kernel_rfl) rfl ?_; refine a_slitN (vs := [v22]) rfl (List.forall_mem_cons.2 ⟨(RdS.one hfv.choose_spec), (fun _ h => nomatch h)⟩) (EL45) rfl rfl (by decide) fun b73 => ?_
              refine tk_S (fun _ h => h.sub (.cons _ (.cons_cons _ (.cons_cons _ (.cons_cons _ (.cons_cons _ (.cons_cons _ (.cons_cons _ (.cons_cons _ (List.nil_sublist _)))))))))) ?_
              refine tx_more [cel b73 ([v22]) 26, own wlv sl.length (sl.flatMap entC) 91 35, cel b10 (idl.map B) 65, cel b35 ([v22]) 26, own v22 b.length (b.map B) 5 1, cel b6 ((List.replicate 32 0).map B) 65, cel wb (hk.map B ++ (mk.map B ++ (nk.map B ++ ([Value.pointer (some ⟨tb, 0, none⟩), wbv, wlv])))) 117, own wbv sb.length (sb.map B) 5 1] (fun _ h => h.sub (.cons _ (List.Sublist.refl _))) (fun _ h => h.sub (.cons_cons _ (.cons_cons _ (.cons_cons _ (.cons_cons _ (.cons_cons _ (.cons_cons _ (.cons_cons _ (.cons_cons _ (List.nil_sublist _)))))))))) ?_
              refine tx_a 10 rfl (by kernel_rfl) rfl ?_
              refine tk_perm _ (.trans (.cons _ (.trans (.cons _ (.trans (.cons _ (.trans (.cons _ (.trans (.cons _ (.trans (.cons _ (.trans (.cons _ (.trans (.cons _ (.trans (.cons _ (.trans (.cons _ (List.Perm.refl _)) (.swap _ _ _))) (.swap _ _ _))) (.swap _ _ _))) (.swap _ _ _))) (.swap _ _ _))) (.swap _ _ _))) (.swap _ _ _))) (.swap _ _ _))) (.swap _ _ _))) (.swap _ _ _)) ?_
              refine tk_perm _ (.trans (.cons _ (.trans (.cons _ (.trans (.cons _ (.trans (.cons _ (.trans (.cons _ (.trans (.cons _ (.trans (.cons _ (.trans (.cons _ (.trans (.cons _ (.trans (.cons _ (List.Perm.refl _)) (.swap _ _ _))) (.swap _ _ _))) (.swap _ _ _))) (.swap _ _ _))) (.swap _ _ _))) (.swap _ _ _))) (.swap _ _ _))) (.swap _ _ _))) (.swap _ _ _))) (.swap _ _ _)) ?_
              refine tk_perm _ (.trans (.cons _ (.trans (.cons _ (.trans (.cons _ (.trans (.cons _ (.trans (.cons _ (.trans (.cons _ (.trans (.cons _ (.trans (.cons _ (.trans (.cons _ (.trans (.cons _ (List.Perm.refl _)) (.swap _ _ _))) (.swap _ _ _))) (.swap _ _ _))) (.swap _ _ _))) (.swap _ _ _))) (.swap _ _ _))) (.swap _ _ _))) (.swap _ _ _))) (.swap _ _ _))) (.swap _ _ _)) ?_
              refine a_callv [] _ rfl (by kernel_rfl) rfl (fun w' hw' => write_spec (hk := hk) (mk := mk) (nk := nk) (name := hexL idl) (L := b) (kind := UInt8.ofNat kn) (ps := [(v22, b)]) (tb := tb) (c := c) (p := p) (vb := tvv) (vl := tlv) (b := bg) ⟨lenP, lenP, lenP⟩ ⟨lenP, lenP⟩ lenP lenP (Ro.cel (vs := [v22]) hw' (.head _) (by first | rfl | simp) rfl (by decide)) (List.forall_mem_cons.2 ⟨(Ro.own (H0 := _) hw' (.tail _ (.tail _ (.tail _ (.tail _ (.head _)))))), (fun _ h => nomatch h)⟩) (by simp) ⟨lenP, lenP, lenP⟩ (hg.call hw') (St.pre hw')) rfl fun ⟨c74, vl74, v74⟩ hx74 => ?_
              refine tk_S (fun _ h => h.sub (.cons _ (.cons _ (.cons _ (.cons _ (List.Sublist.refl _)))))) ?_
              refine tk_H [own v74 ((sealL hk mk (UInt8.ofNat kn) (hexL idl) (tapeN bg p 16) b).length) ((sealL hk mk (UInt8.ofNat kn) (hexL idl) (tapeN bg p 16) b).map B) 5 1, cel tb ([tvv, .int .u64 ((c74 : Nat) : Int), vl74]) 160, own tvv bg.length (bg.map B) 5 1, own vl74 (((tapeL bg c74).drop (p + 16)).length) (((tapeL bg c74).drop (p + 16)).map B) 5 1, cel b73 ([v22]) 26, own wlv sl.length (sl.flatMap entC) 91 35, cel b10 (idl.map B) 65, cel b35 ([v22]) 26, own v22 b.length (b.map B) 5 1, cel b6 ((List.replicate 32 0).map B) 65, cel wb (hk.map B ++ (mk.map B ++ (nk.map B ++ ([Value.pointer (some ⟨tb, 0, none⟩), wbv, wlv])))) 117, own wbv sb.length (sb.map B) 5 1] (congrArg (fun z_ => [z_, cel tb ([tvv, .int .u64 ((c74 : Nat) : Int), vl74]) 160, own tvv bg.length (bg.map B) 5 1, own vl74 (((tapeL bg c74).drop (p + 16)).length) (((tapeL bg c74).drop (p + 16)).map B) 5 1, cel b73 ([v22]) 26, own wlv sl.length (sl.flatMap entC) 91 35, cel b10 (idl.map B) 65, cel b35 ([v22]) 26, own v22 b.length (b.map B) 5 1, cel b6 ((List.replicate 32 0).map B) 65, cel wb (hk.map B ++ (mk.map B ++ (nk.map B ++ ([Value.pointer (some ⟨tb, 0, none⟩), wbv, wlv])))) 117, own wbv sb.length (sb.map B) 5 1]) (show own v74 (((sealF hk mk (UInt8.ofNat kn) (hexL idl) (tapeN bg p 16) b).1).length) (((sealF hk mk (UInt8.ofNat kn) (hexL idl) (tapeN bg p 16) b).1).map B) 5 1 = own v74 ((sealL hk mk (UInt8.ofNat kn) (hexL idl) (tapeN bg p 16) b).length) ((sealL hk mk (UInt8.ofNat kn) (hexL idl) (tapeN bg p 16) b).map B) 5 1 from ownM_cast (by rw [sealF_ok lenP lenP]))) ?_
              refine tk_re 74 (.tuple #[v74, I (((sealF hk mk (UInt8.ofNat kn) (hexL idl) (tapeN bg p 16) b).2 : Nat) : Int)]) (.tuple #[v74, I 0]) rfl (by rw [sealF_ok lenP lenP]; rfl) ?_
              have hslv74 : (sealL hk mk (UInt8.ofNat kn) (hexL idl) (tapeN bg p 16) b).length = b.length + 48 := sealL_len tapeN_len
              refine tk_own1 (.head _) fun hfv74 => ?_
              refine tx_q 11 rfl (by kernel_rfl) rfl rfl rfl (fun _ _ _ h => h) (y_move rfl) ?_
              refine tx_q 12 rfl (by kernel_rfl) rfl rfl rfl (fun _ _ _ h => h) (y_extract rfl rfl) ?_
              refine tx_q 13 rfl (by kernel_rfl) rfl rfl rfl (fun _ _ _ h => h) (y_extract rfl rfl) ?_
              refine tx_q 14 rfl (by kernel_rfl) rfl rfl rfl (fun _ _ _ h => h) (y_assign rfl) ?_
              refine tx_q 15 rfl (by kernel_rfl) rfl rfl rfl (fun _ _ _ h => h) (y_assign rfl) ?_
              refine tx_done (by kernel_rfl) ?_
              refine tk_then ?_
              refine tk_seq ?_
              refine tk_seq ?_
              refine tk_region ?_
              refine tk_q rfl rfl rfl (y_move rfl) ?_
              refine tk_q rfl rfl rfl ((y_neq rfl rfl).cast (bool_f (by decide))) ?_
              refine tk_nil ?_
              refine tk_then ?_
              refine tk_cond0 rfl ?_
              refine tk_skip ?_
              refine tk_then ?_
              refine tk_seq ?_
              refine tk_drawH [own v74 ((sealL hk mk (UInt8.ofNat kn) (hexL idl) (tapeN bg p 16) b).length) ((sealL hk mk (UInt8.ofNat kn) (hexL idl) (tapeN bg p 16) b).map B) 5 1, cel tb ([tvv, .int .u64 ((c74 : Nat) : Int), vl74]) 160, own tvv bg.length (bg.map B) 5 1, own vl74 (((tapeL bg c74).drop (p + 16)).length) (((tapeL bg c74).drop (p + 16)).map B) 5 1, cel b73 ([v22]) 26, cel b10 (idl.map B) 65, cel b35 ([v22]) 26, own v22 b.length (b.map B) 5 1, cel b6 ((List.replicate 32 0).map B) 65, cel wb (hk.map B ++ (mk.map B ++ (nk.map B ++ ([Value.pointer (some ⟨tb, 0, none⟩), wbv, wlv])))) 117, own wbv sb.length (sb.map B) 5 1] [19] (by kernel_rfl) ?_
              refine tx_q 0 rfl (by kernel_rfl) rfl rfl rfl (fun _ _ _ h => h) (y_move rfl) ?_
              refine tx_q 1 rfl (by kernel_rfl) rfl rfl rfl (fun _ _ _ h => h) (y_move rfl) ?_
              refine tx_q 2 rfl (by kernel_rfl) rfl rfl rfl (fun _ _ _ h => h) (y_nilCheck rfl) ?_
              refine tx_q 3 rfl (by kernel_rfl) rfl rfl rfl (fun _ _ _ h => h) (y_fldN (o := 0) 98 rfl (by kernel_rfl)) ?_
              refine tx_l 4 rfl (by kernel_rfl) (by kernel_rfl) rfl rfl rfl (fun _ _ _ h => h) (fun _ h => h.sub (.cons_cons _ (.cons_cons _ (.cons_cons _ (.cons_cons _ (.cons_cons _ (.cons _ (List.Sublist.refl _)))))))) (y_load rfl rfl (hc (o := 98) (.tail _ (.tail _ (.tail _ (.tail _ (.tail _ (.tail _ (.tail _ (.tail _ (.tail _ (.head _)))))))))) (gA (k := 32) (i := 66) (by rw [List.length_map]; exact hk32) (by omega) (gA (k := 32) (i := 34) (by rw [List.length_map]; exact mk32) (by omega) (gA (k := 32) (i := 2) (by rw [List.length_map]; exact nk32) (by omega) (rfl)))))) ?_
              refine tx_l 5 rfl (by kernel_rfl) (by kernel_rfl) rfl rfl rfl (fun _ _ _ h => h) (fun _ h => h.sub (.cons_cons _ (.cons_cons _ (.cons_cons _ (.cons_cons _ (.cons_cons _ (.cons _ (List.Sublist.refl _)))))))) (y_loadA 32 rfl (by kernel_rfl) lenP (hcw (.tail _ (.tail _ (.tail _ (.tail _ (.tail _ (.head _)))))))) ?_
              refine tx_q 6 rfl (by kernel_rfl) rfl rfl rfl (fun _ _ _ h => h) (y_move rfl) ?_
              refine tx_q 7 rfl (by kernel_rfl) rfl rfl rfl (fun _ _ _ h => h) (y_move rfl) ?_
              refine tx_q 8 rfl (by kernel_rfl) rfl rfl rfl (fun _ _ _ h => h) (y_nilCheck rfl) ?_
              refine tx_q 9 rfl (by kernel_rfl) rfl rfl rfl (fun _ _ _ h => h) (y_fldN (o := 0) 97 rfl (by kernel_rfl)) ?_
              refine tx_l 10 rfl (by kernel_rfl) (by kernel_rfl) rfl rfl rfl (fun _ _ _ h => h) (fun _ h => h.sub (.cons_cons _ (.cons_cons _ (.cons_cons _ (.cons_cons _ (.cons_cons _ (.cons _ (List.Sublist.refl _)))))))) (y_load rfl rfl (hc (o := 97) (.tail _ (.tail _ (.tail _ (.tail _ (.tail _ (.tail _ (.tail _ (.tail _ (.tail _ (.head _)))))))))) (gA (k := 32) (i := 65) (by rw [List.length_map]; exact hk32) (by omega) (gA (k := 32) (i := 33) (by rw [List.length_map]; exact mk32) (by omega) (gA (k := 32) (i := 1) (by rw [List.length_map]; exact nk32) (by omega) (rfl)))))) ?_
              refine tx_q 11 rfl (by kernel_rfl) rfl rfl rfl (fun _ _ _ h => h) (y_lenRN (n' := sb.length) rfl hfb.choose_spec rfl (by first | rfl | (rw [List.length_map]; omega) | simp)) ?_
              refine tx_q 12 rfl (by kernel_rfl) rfl rfl rfl (fun _ _ _ h => h) (y_move rfl) ?_
              refine tx_q 13 rfl (by kernel_rfl) rfl rfl rfl (fun _ _ _ h => h) ((y_lenRN (n' := (sealL hk mk (UInt8.ofNat kn) (hexL idl) (tapeN bg p 16) b).length) rfl hfv74.choose_spec rfl (by first | rfl | (rw [List.length_map]; omega) | simp)).cast (v := _) (u := I ((b.length + 48 : Nat) : Int)) (by rw [hslv74])) ?_
              refine tx_q 14 rfl (by kernel_rfl) rfl rfl rfl (fun _ _ _ h => h) (y_build (v := .agg (idl.map B ++ ([I ((kn : Nat) : Int), I ((sb.length : Nat) : Int), I ((b.length + 48 : Nat) : Int)])).toArray) (vs := [(0, .agg (idl.map B).toArray), (1, I ((kn : Nat) : Int)), (2, I ((sb.length : Nat) : Int)), (3, I ((b.length + 48 : Nat) : Int))]) rfl (run_build (zs := (List.replicate 32 0).map B ++ ([I 0, I 0, I 0])) (pl := [(0, 32), (32, 1), (33, 1), (34, 1)]) Tryd.underlying91 (fun _ => by kernel_rfl) (fun _ => by kernel_rfl) (fillP4 (a := idl.map B) lenP (by simp) rfl))) ?_
              refine tx_a 15 rfl (by kernel_rfl) rfl ?_; refine a_slitE (k := 35) (cs := idl.map B ++ ([I ((kn : Nat) : Int), I ((sb.length : Nat) : Int), I ((b.length + 48 : Nat) : Int)])) rfl EL70 lenP (by decide) rfl fun b96 => ?_
              refine tk_S (fun _ h => h.sub (.cons _ (.cons_cons _ (.cons_cons _ (.cons_cons _ (.cons_cons _ (.cons_cons _ (.cons _ (List.Sublist.refl _))))))))) ?_
              refine tx_a 16 rfl (by kernel_rfl) rfl ?_; refine a_appE (H1 := [_, _, _, _, _, _]) (f := entC) (l := sl) (e := ⟨idl, kn, sb.length, b.length + 48, hidl⟩) (b := b96) (k := 35) rfl rfl EL70 rfl rfl (.head _) (entC_len _) (List.forall_mem_append.2 ⟨oneB, (List.forall_mem_cons.2 ⟨rfl, (List.forall_mem_cons.2 ⟨rfl, (List.forall_mem_cons.2 ⟨rfl, (fun _ h => nomatch h)⟩)⟩)⟩)⟩) lenP lenP fun v97 => ?_
              refine tk_ownA (.tail _ (.tail _ (.tail _ (.tail _ (.tail _ (.tail _ (.head _))))))) fun hfv97 => ?_
              refine tk_S (fun _ h => h.sub (.cons _ (.cons_cons _ (.cons_cons _ (.cons_cons _ (.cons_cons _ (.cons_cons _ (.cons _ (List.Sublist.refl _))))))))) ?_
              refine tx_q 17 rfl (by kernel_rfl) rfl rfl rfl (fun _ _ _ h => h) (y_nilCheck rfl) ?_
              refine tx_q 18 rfl (by kernel_rfl) rfl rfl rfl (fun _ _ _ h => h) (y_fldN (o := 0) 98 rfl (by kernel_rfl)) ?_
              refine tx_x 19 rfl (by kernel_rfl) rfl rfl ?_; refine a_storeE (H1 := [_, _, _, _, _, _, _, _, _, _, _]) (o := 98) (v := v97) (cs' := hk.map B ++ (mk.map B ++ (nk.map B ++ ([Value.pointer (some ⟨tb, 0, none⟩), wbv, v97])))) rfl rfl (by kernel_rfl) (RdC.one hfv97.choose_spec) rfl (by first | (simp; done) | (simp; omega)) (sA (k := 32) (i := 66) (by rw [List.length_map]; exact hk32) (by omega) (sA (k := 32) (i := 34) (by rw [List.length_map]; exact mk32) (by omega) (sA (k := 32) (i := 2) (by rw [List.length_map]; exact nk32) (by omega) (rfl)))) ?_
              refine tx_done (by kernel_rfl) ?_
              refine tk_then ?_
              refine tk_seq ?_
              refine tk_region ?_
              refine tk_q rfl rfl rfl (y_move rfl) ?_
              refine tk_q rfl rfl rfl (y_move rfl) ?_
              refine tk_q rfl rfl rfl (y_nilCheck rfl) ?_
              refine tk_q rfl rfl rfl (y_fldN (o := 0) 97 rfl (by kernel_rfl)) ?_
              refine tk_q rfl rfl rfl (y_load rfl rfl (hc (o := 97) (.tail _ (.tail _ (.tail _ (.tail _ (.tail _ (.tail _ (.tail _ (.tail _ (.tail _ (.tail _ (.tail _ (.head _)))))))))))) (gA (k := 32) (i := 65) (by rw [List.length_map]; exact hk32) (by omega) (gA (k := 32) (i := 33) (by rw [List.length_map]; exact mk32) (by omega) (gA (k := 32) (i := 1) (by rw [List.length_map]; exact nk32) (by omega) (rfl)))))) ?_
              refine tk_q rfl rfl rfl (y_move rfl) ?_
              refine tk_act rfl ?_; refine a_appM (H1 := [_, _, _, _, _, _, _, _, _, _, _, _]) (f := B) (l := sb) (m := sealL hk mk (UInt8.ofNat kn) (hexL idl) (tapeN bg p 16) b) rfl rfl EL26 rfl rfl (fun w hw => own_rdS (hw.mem (.tail _ (.head _)))) (fun _ => rfl) ⟨lenP, lenP⟩ fun v106 => ?_
              refine tk_own1 (.tail _ (.tail _ (.tail _ (.tail _ (.tail _ (.tail _ (.tail _ (.tail _ (.tail _ (.tail _ (.tail _ (.tail _ (.head _))))))))))))) fun hfv106 => ?_
              refine tk_q rfl rfl rfl (y_nilCheck rfl) ?_
              refine tk_q rfl rfl rfl (y_fldN (o := 0) 97 rfl (by kernel_rfl)) ?_
              refine tk_act rfl ?_; refine a_storeE (H1 := [_, _, _, _, _, _, _, _, _, _, _]) (o := 97) (v := v106) (cs' := hk.map B ++ (mk.map B ++ (nk.map B ++ ([Value.pointer (some ⟨tb, 0, none⟩), v106, v97])))) rfl rfl (by kernel_rfl) (RdS.one hfv106.choose_spec) rfl (by first | (simp; done) | (simp; omega)) (sA (k := 32) (i := 65) (by rw [List.length_map]; exact hk32) (by omega) (sA (k := 32) (i := 33) (by rw [List.length_map]; exact mk32) (by omega) (sA (k := 32) (i := 1) (by rw [List.length_map]; exact nk32) (by omega) (rfl)))) ?_
              refine tk_nil ?_
              refine tk_then ?_
              refine tk_seq ?_
              refine tk_region ?_
              refine tk_q rfl rfl rfl (y_loadA 32 rfl (by kernel_rfl) lenP (hcw (.tail _ (.tail _ (.tail _ (.tail _ (.tail _ (.tail _ (.tail _ (.head _)))))))))) ?_
              refine tk_act rfl ?_; refine a_storeW (H1 := [_, _, _, _, _, _, _, _, _, _]) (vs := idl.map B) 32 rfl rfl (by kernel_rfl) rfl ⟨lenP, lenP⟩ oneB ?_
              refine tk_q rfl rfl rfl (y_assign rfl) ?_
              refine tk_q rfl rfl rfl (y_assign rfl) ?_
              refine tk_nil ?_
              refine tk_then ?_
              refine tk_retc ?_
              have hnf : hasE sl idl = false := by simpa using ht42
              obtain rfl : ((idl, true, 0), ⟨sb ++ sealL hk mk (UInt8.ofNat kn) (hexL idl) (tapeN bg p 16) b, sl ++ [⟨idl, kn, sb.length, b.length + 48, hidl⟩], p + 16⟩) = q := by rw [← hq]; subst hid; exact Eq.symm (addF_ok hk12 hnb (by exact hnf) (by dsimp only; omega))
              refine tk_perm _ (.trans (.cons _ (.trans (.cons _ (.trans (.cons _ (.trans (.cons _ (List.Perm.refl _)) (.swap _ _ _))) (.swap _ _ _))) (.swap _ _ _))) (.swap _ _ _)) ?_
              refine tk_perm _ (.trans (.cons _ (.trans (.cons _ (.trans (.cons _ (.trans (.cons _ (List.Perm.refl _)) (.swap _ _ _))) (.swap _ _ _))) (.swap _ _ _))) (.swap _ _ _)) ?_
              refine tk_perm _ (.trans (.cons _ (.trans (.cons _ (.trans (.cons _ (.trans (.cons _ (List.Perm.refl _)) (.swap _ _ _))) (.swap _ _ _))) (.swap _ _ _))) (.swap _ _ _)) ?_
              refine tk_perm _ (.trans (.cons _ (.trans (.cons _ (.trans (.cons _ (.trans (.cons _ (.trans (.cons _ (.trans (.cons _ (List.Perm.refl _)) (.swap _ _ _))) (.swap _ _ _))) (.swap _ _ _))) (.swap _ _ _))) (.swap _ _ _))) (.swap _ _ _)) ?_
              refine tk_perm _ (.trans (.cons _ (.trans (.cons _ (.trans (.cons _ (.trans (.cons _ (.trans (.cons _ (.trans (.cons _ (.trans (.cons _ (.trans (.cons _ (.trans (.cons _ (.trans (.cons _ (.trans (.cons _ (.trans (.cons _ (List.Perm.refl _)) (.swap _ _ _))) (.swap _ _ _))) (.swap _ _ _))) (.swap _ _ _))) (.swap _ _ _))) (.swap _ _ _))) (.swap _ _ _))) (.swap _ _ _))) (.swap _ _ _))) (.swap _ _ _))) (.swap _ _ _))) (.swap _ _ _)) ?_
              refine tk_perm _ (.trans (.cons _ (.trans (.cons _ (.trans (.cons _ (.trans (.cons _ (.trans (.cons _ (.trans (.cons _ (.trans (.cons _ (.trans (.cons _ (.trans (.cons _ (.trans (.cons _ (.trans (.cons _ (.trans (.cons _ (List.Perm.refl _)) (.swap _ _ _))) (.swap _ _ _))) (.swap _ _ _))) (.swap _ _ _))) (.swap _ _ _))) (.swap _ _ _))) (.swap _ _ _))) (.swap _ _ _))) (.swap _ _ _))) (.swap _ _ _))) (.swap _ _ _))) (.swap _ _ _)) ?_
              exact tk_ret ((c74, vl74, v106, v97)) (by simpa using hx74) (.inl rfl) (rctt (vs := idl.map B) rfl rfl (by first | (rw [List.length_map, hidl]; kernel_rfl) | (simp; kernel_rfl)) (hcw (.tail _ (.tail _ (.tail _ (.tail _ (.tail _ (.tail _ (.tail _ (.tail _ (.tail _ (.tail _ (.tail _ (.tail _ (.head _)))))))))))))) rfl rfl) (.cons_cons _ (.cons_cons _ (.cons_cons _ (.cons_cons _ (.cons_cons _ (.cons_cons _ (List.nil_sublist _)))))))
            · skip
              skip; refine a_slitN (vs := [v22]) rfl (List.forall_mem_cons.2 ⟨(RdS.one hfv.choose_spec), (fun _ h => nomatch h)⟩) (EL45) rfl rfl (by decide) fun b73 => ?_
              refine tk_S (fun _ h => h.sub (.cons _ (.cons_cons _ (.cons_cons _ (.cons_cons _ (.cons_cons _ (.cons_cons _ (.cons_cons _ (.cons_cons _ (List.nil_sublist _)))))))))) ?_
              refine tx_more [cel b73 ([v22]) 26, own wlv sl.length (sl.flatMap entC) 91 35, cel b10 (idl.map B) 65, cel b35 ([v22]) 26, own v22 b.length (b.map B) 5 1, cel b6 ((List.replicate 32 0).map B) 65, cel wb (hk.map B ++ (mk.map B ++ (nk.map B ++ ([Value.pointer (some ⟨tb, 0, none⟩), wbv, wlv])))) 117, own wbv sb.length (sb.map B) 5 1] (fun _ h => h.sub (.cons _ (List.Sublist.refl _))) (fun _ h => h.sub (.cons_cons _ (.cons_cons _ (.cons_cons _ (.cons_cons _ (.cons_cons _ (.cons_cons _ (.cons_cons _ (.cons_cons _ (List.nil_sublist _)))))))))) ?_
              refine tx_a 7 rfl (by kernel_rfl) rfl ?_; refine a_callv [] _ rfl (by kernel_rfl) rfl (fun w' hw' => label_spec (l := idl) hidl) rfl fun _ _ => ?_
              refine tk_S (fun _ h => h.sub (.cons_cons _ (.cons_cons _ (.cons_cons _ (.cons_cons _ (.cons_cons _ (.cons_cons _ (.cons_cons _ (.cons_cons _ (List.nil_sublist _)))))))))) ?_
              refine tx_a 10 rfl (by kernel_rfl) rfl ?_
              refine tk_perm _ (.trans (.cons _ (.trans (.cons _ (.trans (.cons _ (.trans (.cons _ (.trans (.cons _ (.trans (.cons _ (.trans (.cons _ (.trans (.cons _ (.trans (.cons _ (.trans (.cons _ (List.Perm.refl _)) (.swap _ _ _))) (.swap _ _ _))) (.swap _ _ _))) (.swap _ _ _))) (.swap _ _ _))) (.swap _ _ _))) (.swap _ _ _))) (.swap _ _ _))) (.swap _ _ _))) (.swap _ _ _)) ?_
              refine tk_perm _ (.trans (.cons _ (.trans (.cons _ (.trans (.cons _ (.trans (.cons _ (.trans (.cons _ (.trans (.cons _ (.trans (.cons _ (.trans (.cons _ (.trans (.cons _ (.trans (.cons _ (List.Perm.refl _)) (.swap _ _ _))) (.swap _ _ _))) (.swap _ _ _))) (.swap _ _ _))) (.swap _ _ _))) (.swap _ _ _))) (.swap _ _ _))) (.swap _ _ _))) (.swap _ _ _))) (.swap _ _ _)) ?_
              refine tk_perm _ (.trans (.cons _ (.trans (.cons _ (.trans (.cons _ (.trans (.cons _ (.trans (.cons _ (.trans (.cons _ (.trans (.cons _ (.trans (.cons _ (.trans (.cons _ (.trans (.cons _ (List.Perm.refl _)) (.swap _ _ _))) (.swap _ _ _))) (.swap _ _ _))) (.swap _ _ _))) (.swap _ _ _))) (.swap _ _ _))) (.swap _ _ _))) (.swap _ _ _))) (.swap _ _ _))) (.swap _ _ _)) ?_
              refine a_callv [] _ rfl (by kernel_rfl) rfl (fun w' hw' => write_spec (hk := hk) (mk := mk) (nk := nk) (name := hexL idl) (L := b) (kind := UInt8.ofNat kn) (ps := [(v22, b)]) (tb := tb) (c := c) (p := p) (vb := tvv) (vl := tlv) (b := bg) ⟨lenP, lenP, lenP⟩ ⟨lenP, lenP⟩ lenP lenP (Ro.cel (vs := [v22]) hw' (.head _) (by first | rfl | simp) rfl (by decide)) (List.forall_mem_cons.2 ⟨(Ro.own (H0 := _) hw' (.tail _ (.tail _ (.tail _ (.tail _ (.head _)))))), (fun _ h => nomatch h)⟩) (by simp) ⟨lenP, lenP, lenP⟩ (hg.call hw') (St.pre hw')) rfl fun ⟨c74, vl74, v74⟩ hx74 => ?_
              refine tk_S (fun _ h => h.sub (.cons _ (.cons _ (.cons _ (.cons _ (List.Sublist.refl _)))))) ?_
              refine tk_H [own v74 ((sealL hk mk (UInt8.ofNat kn) (hexL idl) (tapeN bg p 16) b).length) ((sealL hk mk (UInt8.ofNat kn) (hexL idl) (tapeN bg p 16) b).map B) 5 1, cel tb ([tvv, .int .u64 ((c74 : Nat) : Int), vl74]) 160, own tvv bg.length (bg.map B) 5 1, own vl74 (((tapeL bg c74).drop (p + 16)).length) (((tapeL bg c74).drop (p + 16)).map B) 5 1, cel b73 ([v22]) 26, own wlv sl.length (sl.flatMap entC) 91 35, cel b10 (idl.map B) 65, cel b35 ([v22]) 26, own v22 b.length (b.map B) 5 1, cel b6 ((List.replicate 32 0).map B) 65, cel wb (hk.map B ++ (mk.map B ++ (nk.map B ++ ([Value.pointer (some ⟨tb, 0, none⟩), wbv, wlv])))) 117, own wbv sb.length (sb.map B) 5 1] (congrArg (fun z_ => [z_, cel tb ([tvv, .int .u64 ((c74 : Nat) : Int), vl74]) 160, own tvv bg.length (bg.map B) 5 1, own vl74 (((tapeL bg c74).drop (p + 16)).length) (((tapeL bg c74).drop (p + 16)).map B) 5 1, cel b73 ([v22]) 26, own wlv sl.length (sl.flatMap entC) 91 35, cel b10 (idl.map B) 65, cel b35 ([v22]) 26, own v22 b.length (b.map B) 5 1, cel b6 ((List.replicate 32 0).map B) 65, cel wb (hk.map B ++ (mk.map B ++ (nk.map B ++ ([Value.pointer (some ⟨tb, 0, none⟩), wbv, wlv])))) 117, own wbv sb.length (sb.map B) 5 1]) (show own v74 (((sealF hk mk (UInt8.ofNat kn) (hexL idl) (tapeN bg p 16) b).1).length) (((sealF hk mk (UInt8.ofNat kn) (hexL idl) (tapeN bg p 16) b).1).map B) 5 1 = own v74 ((sealL hk mk (UInt8.ofNat kn) (hexL idl) (tapeN bg p 16) b).length) ((sealL hk mk (UInt8.ofNat kn) (hexL idl) (tapeN bg p 16) b).map B) 5 1 from ownM_cast (by rw [sealF_ok lenP lenP]))) ?_
              refine tk_re 74 (.tuple #[v74, I (((sealF hk mk (UInt8.ofNat kn) (hexL idl) (tapeN bg p 16) b).2 : Nat) : Int)]) (.tuple #[v74, I 0]) rfl (by rw [sealF_ok lenP lenP]; rfl) ?_
              have hslv74 : (sealL hk mk (UInt8.ofNat kn) (hexL idl) (tapeN bg p 16) b).length = b.length + 48 := sealL_len tapeN_len
              refine tk_own1 (.head _) fun hfv74 => ?_
              refine tx_q 11 rfl (by kernel_rfl) rfl rfl rfl (fun _ _ _ h => h) (y_move rfl) ?_
              refine tx_q 12 rfl (by kernel_rfl) rfl rfl rfl (fun _ _ _ h => h) (y_extract rfl rfl) ?_
              refine tx_q 13 rfl (by kernel_rfl) rfl rfl rfl (fun _ _ _ h => h) (y_extract rfl rfl) ?_
              refine tx_q 14 rfl (by kernel_rfl) rfl rfl rfl (fun _ _ _ h => h) (y_assign rfl) ?_
              refine tx_q 15 rfl (by kernel_rfl) rfl rfl rfl (fun _ _ _ h => h) (y_assign rfl) ?_
              refine tx_done (by kernel_rfl) ?_
              refine tk_then ?_
              refine tk_seq ?_
              refine tk_seq ?_
              refine tk_region ?_
              refine tk_q rfl rfl rfl (y_move rfl) ?_
              refine tk_q rfl rfl rfl ((y_neq rfl rfl).cast (bool_f (by decide))) ?_
              refine tk_nil ?_
              refine tk_then ?_
              refine tk_cond0 rfl ?_
              refine tk_skip ?_
              refine tk_then ?_
              refine tk_seq ?_
              refine tk_drawH [own v74 ((sealL hk mk (UInt8.ofNat kn) (hexL idl) (tapeN bg p 16) b).length) ((sealL hk mk (UInt8.ofNat kn) (hexL idl) (tapeN bg p 16) b).map B) 5 1, cel tb ([tvv, .int .u64 ((c74 : Nat) : Int), vl74]) 160, own tvv bg.length (bg.map B) 5 1, own vl74 (((tapeL bg c74).drop (p + 16)).length) (((tapeL bg c74).drop (p + 16)).map B) 5 1, cel b73 ([v22]) 26, cel b10 (idl.map B) 65, cel b35 ([v22]) 26, own v22 b.length (b.map B) 5 1, cel b6 ((List.replicate 32 0).map B) 65, cel wb (hk.map B ++ (mk.map B ++ (nk.map B ++ ([Value.pointer (some ⟨tb, 0, none⟩), wbv, wlv])))) 117, own wbv sb.length (sb.map B) 5 1] [19] (by kernel_rfl) ?_
              refine tx_q 0 rfl (by kernel_rfl) rfl rfl rfl (fun _ _ _ h => h) (y_move rfl) ?_
              refine tx_q 1 rfl (by kernel_rfl) rfl rfl rfl (fun _ _ _ h => h) (y_move rfl) ?_
              refine tx_q 2 rfl (by kernel_rfl) rfl rfl rfl (fun _ _ _ h => h) (y_nilCheck rfl) ?_
              refine tx_q 3 rfl (by kernel_rfl) rfl rfl rfl (fun _ _ _ h => h) (y_fldN (o := 0) 98 rfl (by kernel_rfl)) ?_
              refine tx_l 4 rfl (by kernel_rfl) (by kernel_rfl) rfl rfl rfl (fun _ _ _ h => h) (fun _ h => h.sub (.cons_cons _ (.cons_cons _ (.cons_cons _ (.cons_cons _ (.cons_cons _ (.cons _ (List.Sublist.refl _)))))))) (y_load rfl rfl (hc (o := 98) (.tail _ (.tail _ (.tail _ (.tail _ (.tail _ (.tail _ (.tail _ (.tail _ (.tail _ (.head _)))))))))) (gA (k := 32) (i := 66) (by rw [List.length_map]; exact hk32) (by omega) (gA (k := 32) (i := 34) (by rw [List.length_map]; exact mk32) (by omega) (gA (k := 32) (i := 2) (by rw [List.length_map]; exact nk32) (by omega) (rfl)))))) ?_
              refine tx_l 5 rfl (by kernel_rfl) (by kernel_rfl) rfl rfl rfl (fun _ _ _ h => h) (fun _ h => h.sub (.cons_cons _ (.cons_cons _ (.cons_cons _ (.cons_cons _ (.cons_cons _ (.cons _ (List.Sublist.refl _)))))))) (y_loadA 32 rfl (by kernel_rfl) lenP (hcw (.tail _ (.tail _ (.tail _ (.tail _ (.tail _ (.head _)))))))) ?_
              refine tx_q 6 rfl (by kernel_rfl) rfl rfl rfl (fun _ _ _ h => h) (y_move rfl) ?_
              refine tx_q 7 rfl (by kernel_rfl) rfl rfl rfl (fun _ _ _ h => h) (y_move rfl) ?_
              refine tx_q 8 rfl (by kernel_rfl) rfl rfl rfl (fun _ _ _ h => h) (y_nilCheck rfl) ?_
              refine tx_q 9 rfl (by kernel_rfl) rfl rfl rfl (fun _ _ _ h => h) (y_fldN (o := 0) 97 rfl (by kernel_rfl)) ?_
              refine tx_l 10 rfl (by kernel_rfl) (by kernel_rfl) rfl rfl rfl (fun _ _ _ h => h) (fun _ h => h.sub (.cons_cons _ (.cons_cons _ (.cons_cons _ (.cons_cons _ (.cons_cons _ (.cons _ (List.Sublist.refl _)))))))) (y_load rfl rfl (hc (o := 97) (.tail _ (.tail _ (.tail _ (.tail _ (.tail _ (.tail _ (.tail _ (.tail _ (.tail _ (.head _)))))))))) (gA (k := 32) (i := 65) (by rw [List.length_map]; exact hk32) (by omega) (gA (k := 32) (i := 33) (by rw [List.length_map]; exact mk32) (by omega) (gA (k := 32) (i := 1) (by rw [List.length_map]; exact nk32) (by omega) (rfl)))))) ?_
              refine tx_q 11 rfl (by kernel_rfl) rfl rfl rfl (fun _ _ _ h => h) (y_lenRN (n' := sb.length) rfl hfb.choose_spec rfl (by first | rfl | (rw [List.length_map]; omega) | simp)) ?_
              refine tx_q 12 rfl (by kernel_rfl) rfl rfl rfl (fun _ _ _ h => h) (y_move rfl) ?_
              refine tx_q 13 rfl (by kernel_rfl) rfl rfl rfl (fun _ _ _ h => h) ((y_lenRN (n' := (sealL hk mk (UInt8.ofNat kn) (hexL idl) (tapeN bg p 16) b).length) rfl hfv74.choose_spec rfl (by first | rfl | (rw [List.length_map]; omega) | simp)).cast (v := _) (u := I ((b.length + 48 : Nat) : Int)) (by rw [hslv74])) ?_
              refine tx_q 14 rfl (by kernel_rfl) rfl rfl rfl (fun _ _ _ h => h) (y_build (v := .agg (idl.map B ++ ([I ((kn : Nat) : Int), I ((sb.length : Nat) : Int), I ((b.length + 48 : Nat) : Int)])).toArray) (vs := [(0, .agg (idl.map B).toArray), (1, I ((kn : Nat) : Int)), (2, I ((sb.length : Nat) : Int)), (3, I ((b.length + 48 : Nat) : Int))]) rfl (run_build (zs := (List.replicate 32 0).map B ++ ([I 0, I 0, I 0])) (pl := [(0, 32), (32, 1), (33, 1), (34, 1)]) Tryd.underlying91 (fun _ => by kernel_rfl) (fun _ => by kernel_rfl) (fillP4 (a := idl.map B) lenP (by simp) rfl))) ?_
              refine tx_a 15 rfl (by kernel_rfl) rfl ?_; refine a_slitE (k := 35) (cs := idl.map B ++ ([I ((kn : Nat) : Int), I ((sb.length : Nat) : Int), I ((b.length + 48 : Nat) : Int)])) rfl EL70 lenP (by decide) rfl fun b96 => ?_
              refine tk_S (fun _ h => h.sub (.cons _ (.cons_cons _ (.cons_cons _ (.cons_cons _ (.cons_cons _ (.cons_cons _ (.cons _ (List.Sublist.refl _))))))))) ?_
              refine tx_a 16 rfl (by kernel_rfl) rfl ?_; refine a_appE (H1 := [_, _, _, _, _, _]) (f := entC) (l := sl) (e := ⟨idl, kn, sb.length, b.length + 48, hidl⟩) (b := b96) (k := 35) rfl rfl EL70 rfl rfl (.head _) (entC_len _) (List.forall_mem_append.2 ⟨oneB, (List.forall_mem_cons.2 ⟨rfl, (List.forall_mem_cons.2 ⟨rfl, (List.forall_mem_cons.2 ⟨rfl, (fun _ h => nomatch h)⟩)⟩)⟩)⟩) lenP lenP fun v97 => ?_
              refine tk_ownA (.tail _ (.tail _ (.tail _ (.tail _ (.tail _ (.tail _ (.head _))))))) fun hfv97 => ?_
              refine tk_S (fun _ h => h.sub (.cons _ (.cons_cons _ (.cons_cons _ (.cons_cons _ (.cons_cons _ (.cons_cons _ (.cons _ (List.Sublist.refl _))))))))) ?_
              refine tx_q 17 rfl (by kernel_rfl) rfl rfl rfl (fun _ _ _ h => h) (y_nilCheck rfl) ?_
              refine tx_q 18 rfl (by kernel_rfl) rfl rfl rfl (fun _ _ _ h => h) (y_fldN (o := 0) 98 rfl (by kernel_rfl)) ?_
              refine tx_x 19 rfl (by kernel_rfl) rfl rfl ?_; refine a_storeE (H1 := [_, _, _, _, _, _, _, _, _, _, _]) (o := 98) (v := v97) (cs' := hk.map B ++ (mk.map B ++ (nk.map B ++ ([Value.pointer (some ⟨tb, 0, none⟩), wbv, v97])))) rfl rfl (by kernel_rfl) (RdC.one hfv97.choose_spec) rfl (by first | (simp; done) | (simp; omega)) (sA (k := 32) (i := 66) (by rw [List.length_map]; exact hk32) (by omega) (sA (k := 32) (i := 34) (by rw [List.length_map]; exact mk32) (by omega) (sA (k := 32) (i := 2) (by rw [List.length_map]; exact nk32) (by omega) (rfl)))) ?_
              refine tx_done (by kernel_rfl) ?_
              refine tk_then ?_
              refine tk_seq ?_
              refine tk_region ?_
              refine tk_q rfl rfl rfl (y_move rfl) ?_
              refine tk_q rfl rfl rfl (y_move rfl) ?_
              refine tk_q rfl rfl rfl (y_nilCheck rfl) ?_
              refine tk_q rfl rfl rfl (y_fldN (o := 0) 97 rfl (by kernel_rfl)) ?_
              refine tk_q rfl rfl rfl (y_load rfl rfl (hc (o := 97) (.tail _ (.tail _ (.tail _ (.tail _ (.tail _ (.tail _ (.tail _ (.tail _ (.tail _ (.tail _ (.tail _ (.head _)))))))))))) (gA (k := 32) (i := 65) (by rw [List.length_map]; exact hk32) (by omega) (gA (k := 32) (i := 33) (by rw [List.length_map]; exact mk32) (by omega) (gA (k := 32) (i := 1) (by rw [List.length_map]; exact nk32) (by omega) (rfl)))))) ?_
              refine tk_q rfl rfl rfl (y_move rfl) ?_
              refine tk_act rfl ?_; refine a_appM (H1 := [_, _, _, _, _, _, _, _, _, _, _, _]) (f := B) (l := sb) (m := sealL hk mk (UInt8.ofNat kn) (hexL idl) (tapeN bg p 16) b) rfl rfl EL26 rfl rfl (fun w hw => own_rdS (hw.mem (.tail _ (.head _)))) (fun _ => rfl) ⟨lenP, lenP⟩ fun v106 => ?_
              refine tk_own1 (.tail _ (.tail _ (.tail _ (.tail _ (.tail _ (.tail _ (.tail _ (.tail _ (.tail _ (.tail _ (.tail _ (.tail _ (.head _))))))))))))) fun hfv106 => ?_
              refine tk_q rfl rfl rfl (y_nilCheck rfl) ?_
              refine tk_q rfl rfl rfl (y_fldN (o := 0) 97 rfl (by kernel_rfl)) ?_
              refine tk_act rfl ?_; refine a_storeE (H1 := [_, _, _, _, _, _, _, _, _, _, _]) (o := 97) (v := v106) (cs' := hk.map B ++ (mk.map B ++ (nk.map B ++ ([Value.pointer (some ⟨tb, 0, none⟩), v106, v97])))) rfl rfl (by kernel_rfl) (RdS.one hfv106.choose_spec) rfl (by first | (simp; done) | (simp; omega)) (sA (k := 32) (i := 65) (by rw [List.length_map]; exact hk32) (by omega) (sA (k := 32) (i := 33) (by rw [List.length_map]; exact mk32) (by omega) (sA (k := 32) (i := 1) (by rw [List.length_map]; exact nk32) (by omega) (rfl)))) ?_
              refine tk_nil ?_
              refine tk_then ?_
              refine tk_seq ?_
              refine tk_region ?_
              refine tk_q rfl rfl rfl (y_loadA 32 rfl (by kernel_rfl) lenP (hcw (.tail _ (.tail _ (.tail _ (.tail _ (.tail _ (.tail _ (.tail _ (.head _)))))))))) ?_
              refine tk_act rfl ?_; refine a_storeW (H1 := [_, _, _, _, _, _, _, _, _, _]) (vs := idl.map B) 32 rfl rfl (by kernel_rfl) rfl ⟨lenP, lenP⟩ oneB ?_
              refine tk_q rfl rfl rfl (y_assign rfl) ?_
              refine tk_q rfl rfl rfl (y_assign rfl) ?_
              refine tk_nil ?_
              refine tk_then ?_
              refine tk_retc ?_
              have hnf : hasE sl idl = false := by simpa using ht42
              obtain rfl : ((idl, true, 0), ⟨sb ++ sealL hk mk (UInt8.ofNat kn) (hexL idl) (tapeN bg p 16) b, sl ++ [⟨idl, kn, sb.length, b.length + 48, hidl⟩], p + 16⟩) = q := by rw [← hq]; subst hid; exact Eq.symm (addF_ok hk12 hnb (by exact hnf) (by dsimp only; omega))
              refine tk_perm _ (.trans (.cons _ (.trans (.cons _ (.trans (.cons _ (.trans (.cons _ (List.Perm.refl _)) (.swap _ _ _))) (.swap _ _ _))) (.swap _ _ _))) (.swap _ _ _)) ?_
              refine tk_perm _ (.trans (.cons _ (.trans (.cons _ (.trans (.cons _ (.trans (.cons _ (List.Perm.refl _)) (.swap _ _ _))) (.swap _ _ _))) (.swap _ _ _))) (.swap _ _ _)) ?_
              refine tk_perm _ (.trans (.cons _ (.trans (.cons _ (.trans (.cons _ (.trans (.cons _ (List.Perm.refl _)) (.swap _ _ _))) (.swap _ _ _))) (.swap _ _ _))) (.swap _ _ _)) ?_
              refine tk_perm _ (.trans (.cons _ (.trans (.cons _ (.trans (.cons _ (.trans (.cons _ (.trans (.cons _ (.trans (.cons _ (List.Perm.refl _)) (.swap _ _ _))) (.swap _ _ _))) (.swap _ _ _))) (.swap _ _ _))) (.swap _ _ _))) (.swap _ _ _)) ?_
              refine tk_perm _ (.trans (.cons _ (.trans (.cons _ (.trans (.cons _ (.trans (.cons _ (.trans (.cons _ (.trans (.cons _ (.trans (.cons _ (.trans (.cons _ (.trans (.cons _ (.trans (.cons _ (.trans (.cons _ (.trans (.cons _ (List.Perm.refl _)) (.swap _ _ _))) (.swap _ _ _))) (.swap _ _ _))) (.swap _ _ _))) (.swap _ _ _))) (.swap _ _ _))) (.swap _ _ _))) (.swap _ _ _))) (.swap _ _ _))) (.swap _ _ _))) (.swap _ _ _))) (.swap _ _ _)) ?_
              refine tk_perm _ (.trans (.cons _ (.trans (.cons _ (.trans (.cons _ (.trans (.cons _ (.trans (.cons _ (.trans (.cons _ (.trans (.cons _ (.trans (.cons _ (.trans (.cons _ (.trans (.cons _ (.trans (.cons _ (.trans (.cons _ (List.Perm.refl _)) (.swap _ _ _))) (.swap _ _ _))) (.swap _ _ _))) (.swap _ _ _))) (.swap _ _ _))) (.swap _ _ _))) (.swap _ _ _))) (.swap _ _ _))) (.swap _ _ _))) (.swap _ _ _))) (.swap _ _ _))) (.swap _ _ _)) ?_
              exact tk_ret ((c74, vl74, v106, v97)) (by simpa using hx74) (.inl rfl) (rctt (vs := idl.map B) rfl rfl (by first | (rw [List.length_map, hidl]; kernel_rfl) | (simp; kernel_rfl)) (hcw (.tail _ (.tail _ (.tail _ (.tail _ (.tail _ (.tail _ (.tail _ (.tail _ (.tail _ (.tail _ (.tail _ (.tail _ (.head _)))))))))))))) rfl rfl) (.cons_cons _ (.cons_cons _ (.cons_cons _ (.cons_cons _ (.cons_cons _ (.cons_cons _ (List.nil_sublist _)))))))
theorem count_spec (h3 : hk.length = 32 ∧ mk.length = 32 ∧ nk.length = 32) (hh : Pre w [cel wb (hk.map B ++ (mk.map B ++ (nk.map B ++ ([Value.pointer (some ⟨tb, 0, none⟩), wbv, wlv])))) 117, own wbv sb.length (sb.map B) 5 1, own wlv sl.length (sl.flatMap entC) 91 35]) : Spec Tryd.prog 33 [.pointer (some ⟨wb, 0, none⟩)] w [cel wb (hk.map B ++ (mk.map B ++ (nk.map B ++ ([Value.pointer (some ⟨tb, 0, none⟩), wbv, wlv])))) 117, own wbv sb.length (sb.map B) 5 1, own wlv sl.length (sl.flatMap entC) 91 35] (fun _ : Unit => True) (fun _ => I ((sl.length : Nat) : Int)) (fun _ => [cel wb (hk.map B ++ (mk.map B ++ (nk.map B ++ ([Value.pointer (some ⟨tb, 0, none⟩), wbv, wlv])))) 117, own wbv sb.length (sb.map B) 5 1, own wlv sl.length (sl.flatMap entC) 91 35]) := by
  refine spec_of (n := 10) Tryd.func33 rfl rfl hh.1 hh.2 rfl ?_
  obtain ⟨hk32, mk32, nk32⟩ := h3
  refine tk_own1 (.tail _ (.head _)) fun hfb => ?_
  refine tk_ownA (.tail _ (.tail _ (.head _))) fun hfl => ?_
  refine tk_seq ?_
  refine tk_region ?_
  refine tk_q rfl rfl rfl (y_assign rfl) ?_
  refine tk_nil ?_
  refine tk_then ?_
  refine tk_seq ?_
  refine tk_seq ?_
  refine tk_region ?_
  refine tk_q rfl rfl rfl (y_move rfl) ?_
  refine tk_q rfl rfl rfl (y_pnil rfl rfl rfl) ?_
  refine tk_nil ?_
  refine tk_then ?_
  refine tk_cond0 rfl ?_
  refine tk_skip ?_
  refine tk_then ?_
  refine tk_seq ?_
  refine tk_region ?_
  refine tk_q rfl rfl rfl (y_move rfl) ?_
  refine tk_q rfl rfl rfl (y_nilCheck rfl) ?_
  refine tk_q rfl rfl rfl (y_fldN (o := 0) 98 rfl (by kernel_rfl)) ?_
  refine tk_q rfl rfl rfl (y_load rfl rfl (hc (o := 98) (.head _) (gA (k := 32) (i := 66) (by rw [List.length_map]; exact hk32) (by omega) (gA (k := 32) (i := 34) (by rw [List.length_map]; exact mk32) (by omega) (gA (k := 32) (i := 2) (by rw [List.length_map]; exact nk32) (by omega) (rfl)))))) ?_
  refine tk_q rfl rfl rfl (y_lenE rfl hfl.choose_spec rfl) ?_
  refine tk_q rfl rfl rfl (y_assign rfl) ?_
  refine tk_nil ?_
  refine tk_then ?_
  refine tk_retc ?_
  exact tk_ret (()) (trivial) (.inl rfl) (r1 rfl rfl) (List.Sublist.refl _)
theorem size_spec (h3 : hk.length = 32 ∧ mk.length = 32 ∧ nk.length = 32) (hh : Pre w [cel wb (hk.map B ++ (mk.map B ++ (nk.map B ++ ([Value.pointer (some ⟨tb, 0, none⟩), wbv, wlv])))) 117, own wbv sb.length (sb.map B) 5 1, own wlv sl.length (sl.flatMap entC) 91 35]) : Spec Tryd.prog 34 [.pointer (some ⟨wb, 0, none⟩)] w [cel wb (hk.map B ++ (mk.map B ++ (nk.map B ++ ([Value.pointer (some ⟨tb, 0, none⟩), wbv, wlv])))) 117, own wbv sb.length (sb.map B) 5 1, own wlv sl.length (sl.flatMap entC) 91 35] (fun _ : Unit => True) (fun _ => I ((sb.length : Nat) : Int)) (fun _ => [cel wb (hk.map B ++ (mk.map B ++ (nk.map B ++ ([Value.pointer (some ⟨tb, 0, none⟩), wbv, wlv])))) 117, own wbv sb.length (sb.map B) 5 1, own wlv sl.length (sl.flatMap entC) 91 35]) := by
  refine spec_of (n := 10) Tryd.func34 rfl rfl hh.1 hh.2 rfl ?_
  obtain ⟨hk32, mk32, nk32⟩ := h3
  refine tk_own1 (.tail _ (.head _)) fun hfb => ?_
  refine tk_ownA (.tail _ (.tail _ (.head _))) fun hfl => ?_
  refine tk_seq ?_
  refine tk_region ?_
  refine tk_q rfl rfl rfl (y_assign rfl) ?_
  refine tk_nil ?_
  refine tk_then ?_
  refine tk_seq ?_
  refine tk_seq ?_
  refine tk_region ?_
  refine tk_q rfl rfl rfl (y_move rfl) ?_
  refine tk_q rfl rfl rfl (y_pnil rfl rfl rfl) ?_
  refine tk_nil ?_
  refine tk_then ?_
  refine tk_cond0 rfl ?_
  refine tk_skip ?_
  refine tk_then ?_
  refine tk_seq ?_
  refine tk_region ?_
  refine tk_q rfl rfl rfl (y_move rfl) ?_
  refine tk_q rfl rfl rfl (y_nilCheck rfl) ?_
  refine tk_q rfl rfl rfl (y_fldN (o := 0) 97 rfl (by kernel_rfl)) ?_
  refine tk_q rfl rfl rfl (y_load rfl rfl (hc (o := 97) (.head _) (gA (k := 32) (i := 65) (by rw [List.length_map]; exact hk32) (by omega) (gA (k := 32) (i := 33) (by rw [List.length_map]; exact mk32) (by omega) (gA (k := 32) (i := 1) (by rw [List.length_map]; exact nk32) (by omega) (rfl)))))) ?_
  refine tk_q rfl rfl rfl (y_lenRN (n' := sb.length) rfl hfb.choose_spec rfl (by first | rfl | (rw [List.length_map]; omega) | simp)) ?_
  refine tk_q rfl rfl rfl (y_assign rfl) ?_
  refine tk_nil ?_
  refine tk_then ?_
  refine tk_retc ?_
  exact tk_ret (()) (trivial) (.inl rfl) (r1 rfl rfl) (List.Sublist.refl _)
theorem count0_spec : Spec Tryd.prog 33 [.pointer none] w [] (fun _ : Unit => True) (fun _ => I 0) (fun _ => []) := by
  refine spec_of (n := 10) Tryd.func33 rfl rfl trivial trivial rfl ?_
  refine tk_seq ?_
  refine tk_region ?_
  refine tk_q rfl rfl rfl (y_assign rfl) ?_
  refine tk_nil ?_
  refine tk_then ?_
  refine tk_seq ?_
  refine tk_seq ?_
  refine tk_region ?_
  refine tk_q rfl rfl rfl (y_move rfl) ?_
  refine tk_q rfl rfl rfl (y_pnil rfl rfl rfl) ?_
  refine tk_nil ?_
  refine tk_then ?_
  refine tk_cond1 rfl ?_
  refine tk_seq ?_
  refine tk_region ?_
  refine tk_q rfl rfl rfl (y_assign rfl) ?_
  refine tk_nil ?_
  refine tk_then ?_
  refine tk_retc ?_
  refine tk_then_ret ?_
  exact tk_ret (()) (trivial) (.inl rfl) (r1 rfl rfl) (List.Sublist.refl _)
theorem size0_spec : Spec Tryd.prog 34 [.pointer none] w [] (fun _ : Unit => True) (fun _ => I 0) (fun _ => []) := by
  refine spec_of (n := 10) Tryd.func34 rfl rfl trivial trivial rfl ?_
  refine tk_seq ?_
  refine tk_region ?_
  refine tk_q rfl rfl rfl (y_assign rfl) ?_
  refine tk_nil ?_
  refine tk_then ?_
  refine tk_seq ?_
  refine tk_seq ?_
  refine tk_region ?_
  refine tk_q rfl rfl rfl (y_move rfl) ?_
  refine tk_q rfl rfl rfl (y_pnil rfl rfl rfl) ?_
  refine tk_nil ?_
  refine tk_then ?_
  refine tk_cond1 rfl ?_
  refine tk_seq ?_
  refine tk_region ?_
  refine tk_q rfl rfl rfl (y_assign rfl) ?_
  refine tk_nil ?_
  refine tk_then ?_
  refine tk_retc ?_
  refine tk_then_ret ?_
  exact tk_ret (()) (trivial) (.inl rfl) (r1 rfl rfl) (List.Sublist.refl _)
theorem close_spec {q : (List UInt8 × List UInt8 × List Ent × Nat) × WSt} (hq : closeF ⟨hk, mk, nk⟩ bg ⟨sb, sl, p⟩ = q) (h3 : hk.length = 32 ∧ mk.length = 32 ∧ nk.length = 32) (hI0 : p ≤ 32 * c ∧ 32 * c < p + 32) (hp0 : p < 1000000000000) (hbg : bg.length < 1099511627776)
    (hsb : sb.length ≤ 2000000) (hsl : sl.length ≤ 1000) (hw : ∀ e ∈ sl, e.kind < 1048576 ∧ e.len < 1048576) (hg : Ro (Fs [cel wb (hk.map B ++ (mk.map B ++ (nk.map B ++ ([Value.pointer (some ⟨tb, 0, none⟩), wbv, wlv])))) 117, own wbv sb.length (sb.map B) 5 1, own wlv sl.length (sl.flatMap entC) 91 35, cel tb ([tvv, .int .u64 ((c : Nat) : Int), tlv]) 160, own tvv bg.length (bg.map B) 5 1, own tlv (((tapeL bg c).drop p).length) (((tapeL bg c).drop p).map B) 5 1]) w glob) (hh : Pre w [cel wb (hk.map B ++ (mk.map B ++ (nk.map B ++ ([Value.pointer (some ⟨tb, 0, none⟩), wbv, wlv])))) 117, own wbv sb.length (sb.map B) 5 1, own wlv sl.length (sl.flatMap entC) 91 35, cel tb ([tvv, .int .u64 ((c : Nat) : Int), tlv]) 160, own tvv bg.length (bg.map B) 5 1, own tlv (((tapeL bg c).drop p).length) (((tapeL bg c).drop p).map B) 5 1]) :
    Spec Tryd.prog 31 [.pointer (some ⟨wb, 0, none⟩)] w [cel wb (hk.map B ++ (mk.map B ++ (nk.map B ++ ([Value.pointer (some ⟨tb, 0, none⟩), wbv, wlv])))) 117, own wbv sb.length (sb.map B) 5 1, own wlv sl.length (sl.flatMap entC) 91 35, cel tb ([tvv, .int .u64 ((c : Nat) : Int), tlv]) 160, own tvv bg.length (bg.map B) 5 1, own tlv (((tapeL bg c).drop p).length) (((tapeL bg c).drop p).map B) 5 1] (fun x : Nat × Value × Value × Value × Value × Value => q.2.p ≤ 32 * x.1 ∧ 32 * x.1 < q.2.p + 32) (fun x => .tuple #[Str q.1.1, x.2.2.2.2.1, x.2.2.2.2.2, I ((q.1.2.2.2 : Nat) : Int)])
      (fun x => [cel wb (hk.map B ++ (mk.map B ++ (nk.map B ++ ([Value.pointer (some ⟨tb, 0, none⟩), x.2.2.1, x.2.2.2.1])))) 117, own x.2.2.1 q.2.b.length (q.2.b.map B) 5 1, own x.2.2.2.1 q.2.l.length (q.2.l.flatMap entC) 91 35, cel tb ([tvv, .int .u64 ((x.1 : Nat) : Int), x.2.1]) 160, own tvv bg.length (bg.map B) 5 1, own x.2.1 (((tapeL bg x.1).drop q.2.p).length) (((tapeL bg x.1).drop q.2.p).map B) 5 1, ownB x.2.2.2.2.1 q.1.2.1 5, ownA entC 35 x.2.2.2.2.2 q.1.2.2.1 91]) := by
  refine spec_of (n := 110) Tryd.func31 rfl rfl hh.1 hh.2 rfl ?_
  obtain ⟨hk32, mk32, nk32⟩ := h3
  have hh62 : ∀ e ∈ sl, e.kind < 4611686018427387904 ∧ e.len < 4611686018427387904 := fun e he => by have := hw e he; omega
  have hhl := headL_len hh62 (by omega)
  refine tk_own1 (.tail _ (.head _)) fun hfb => ?_
  refine tk_ownA (.tail _ (.tail _ (.head _))) fun hfl => ?_
  refine tk_seq ?_
  refine tk_region ?_
  refine tk_q rfl rfl rfl (y_assign rfl) ?_
  refine tk_q rfl rfl rfl (y_assign rfl) ?_
  refine tk_q rfl rfl rfl (y_assign rfl) ?_
  refine tk_q rfl rfl rfl (y_assign rfl) ?_
  refine tk_nil ?_
  refine tk_then ?_
  refine tk_seq ?_
  refine tk_block ?_
  refine tk_seq ?_
  refine tk_region ?_
  refine tk_q rfl rfl rfl (y_move rfl) ?_
  refine tk_q rfl rfl rfl (y_pnil rfl rfl rfl) ?_
  refine tk_q rfl rfl rfl (y_assign rfl) ?_
  refine tk_nil ?_
  refine tk_then ?_
  refine tk_cond0 rfl ?_
  refine tk_seq ?_
  refine tk_region ?_
  refine tk_q rfl rfl rfl (y_move rfl) ?_
  refine tk_q rfl rfl rfl (y_nilCheck rfl) ?_
  refine tk_q rfl rfl rfl (y_fldN (o := 0) 98 rfl (by kernel_rfl)) ?_
  refine tk_q rfl rfl rfl (y_load rfl rfl (hc (o := 98) (.head _) (gA (k := 32) (i := 66) (by rw [List.length_map]; exact hk32) (by omega) (gA (k := 32) (i := 34) (by rw [List.length_map]; exact mk32) (by omega) (gA (k := 32) (i := 2) (by rw [List.length_map]; exact nk32) (by omega) (rfl)))))) ?_
  refine tk_q rfl rfl rfl (y_lenE rfl hfl.choose_spec rfl) ?_
  refine tk_q rfl rfl rfl (y_eql rfl rfl) ?_
  refine tk_q rfl rfl rfl (y_assign rfl) ?_
  refine tk_nil ?_
  refine tk_then ?_
  refine tk_condP rfl (fun ht18 => ?_) (fun ht18 => ?_)
  · skip
    refine tk_seq ?_
    refine tk_region ?_
    refine tk_q rfl rfl rfl (y_assign rfl) ?_
    refine tk_q rfl rfl rfl (y_assign rfl) ?_
    refine tk_q rfl rfl rfl (y_assign rfl) ?_
    refine tk_q rfl rfl rfl (y_assign rfl) ?_
    refine tk_nil ?_
    refine tk_then ?_
    refine tk_retc ?_
    refine tk_in_ret ?_
    refine tk_then_ret ?_
    refine tk_ownM0 (f := B) 5 ?_
    refine tk_ownA0 (f := entC) 35 91 ?_
    obtain rfl : sl = [] := List.length_eq_zero_iff.1 (by omega)
    obtain rfl : (([], [], [], 15), ⟨sb, [], p⟩) = q := by rw [← hq]; exact Eq.symm (closeF_nil rfl)
    refine tk_perm _ (.trans (.cons _ (List.Perm.refl _)) (.swap _ _ _)) ?_
    refine tk_perm _ (.trans (.cons _ (.trans (.cons _ (.trans (.cons _ (.trans (.cons _ (.trans (.cons _ (.trans (.cons _ (.trans (.cons _ (List.Perm.refl _)) (.swap _ _ _))) (.swap _ _ _))) (.swap _ _ _))) (.swap _ _ _))) (.swap _ _ _))) (.swap _ _ _))) (.swap _ _ _)) ?_
    refine tk_perm _ (.trans (.cons _ (.trans (.cons _ (.trans (.cons _ (.trans (.cons _ (.trans (.cons _ (.trans (.cons _ (.trans (.cons _ (List.Perm.refl _)) (.swap _ _ _))) (.swap _ _ _))) (.swap _ _ _))) (.swap _ _ _))) (.swap _ _ _))) (.swap _ _ _))) (.swap _ _ _)) ?_
    refine tk_perm _ (.trans (.cons _ (.trans (.cons _ (.trans (.cons _ (.trans (.cons _ (.trans (.cons _ (.trans (.cons _ (.trans (.cons _ (List.Perm.refl _)) (.swap _ _ _))) (.swap _ _ _))) (.swap _ _ _))) (.swap _ _ _))) (.swap _ _ _))) (.swap _ _ _))) (.swap _ _ _)) ?_
    refine tk_perm _ (.trans (.cons _ (.trans (.cons _ (.trans (.cons _ (.trans (.cons _ (.trans (.cons _ (.trans (.cons _ (.trans (.cons _ (List.Perm.refl _)) (.swap _ _ _))) (.swap _ _ _))) (.swap _ _ _))) (.swap _ _ _))) (.swap _ _ _))) (.swap _ _ _))) (.swap _ _ _)) ?_
    refine tk_perm _ (.trans (.cons _ (.trans (.cons _ (.trans (.cons _ (.trans (.cons _ (.trans (.cons _ (.trans (.cons _ (.trans (.cons _ (List.Perm.refl _)) (.swap _ _ _))) (.swap _ _ _))) (.swap _ _ _))) (.swap _ _ _))) (.swap _ _ _))) (.swap _ _ _))) (.swap _ _ _)) ?_
    refine tk_perm _ (.trans (.cons _ (.trans (.cons _ (.trans (.cons _ (.trans (.cons _ (.trans (.cons _ (.trans (.cons _ (.trans (.cons _ (List.Perm.refl _)) (.swap _ _ _))) (.swap _ _ _))) (.swap _ _ _))) (.swap _ _ _))) (.swap _ _ _))) (.swap _ _ _))) (.swap _ _ _)) ?_
    exact tk_ret ((c, tlv, wbv, wlv, .slice none 0 0, .slice none 0 0)) (hI0) (.inl rfl) (r4 rfl rfl rfl rfl rfl) (List.Sublist.refl _)
  · skip
    refine tk_skip ?_
    refine tk_in_normal ?_
    refine tk_then ?_
    refine tk_seqI (X := Nat × Value) (fun (o25, va) => True) (fun (o25, va) => [(0, .pointer (some ⟨wb, 0, none⟩)), (2, Str []), (3, .slice none 0 0), (4, .slice none 0 0), (5, I 0), (6, .pointer (some ⟨o25, 0, none⟩))]) (fun (o25, va) => [cel wb (hk.map B ++ (mk.map B ++ (nk.map B ++ ([Value.pointer (some ⟨tb, 0, none⟩), wbv, wlv])))) 117, own wbv sb.length (sb.map B) 5 1, own wlv sl.length (sl.flatMap entC) 91 35, cel tb ([tvv, .int .u64 ((c : Nat) : Int), tlv]) 160, own tvv bg.length (bg.map B) 5 1, own tlv (((tapeL bg c).drop p).length) (((tapeL bg c).drop p).map B) 5 1, cel o25 ([va, I 0]) 168, own va ((headP sl 0).length) ((headP sl 0).map B) 5 1]) ?_ ?_
    · skip
      refine tk_drawH [cel wb (hk.map B ++ (mk.map B ++ (nk.map B ++ ([Value.pointer (some ⟨tb, 0, none⟩), wbv, wlv])))) 117, own wbv sb.length (sb.map B) 5 1, own wlv sl.length (sl.flatMap entC) 91 35, cel tb ([tvv, .int .u64 ((c : Nat) : Int), tlv]) 160, own tvv bg.length (bg.map B) 5 1, own tlv (((tapeL bg c).drop p).length) (((tapeL bg c).drop p).map B) 5 1] [] (by kernel_rfl) ?_
      refine tx_q 1 rfl (by kernel_rfl) rfl rfl rfl (fun _ _ _ h => h) (y_move rfl) ?_
      refine tx_q 2 rfl (by kernel_rfl) rfl rfl rfl (fun _ _ _ h => h) (y_nilCheck rfl) ?_
      refine tx_q 3 rfl (by kernel_rfl) rfl rfl rfl (fun _ _ _ h => h) (y_fldN (o := 0) 98 rfl (by kernel_rfl)) ?_
      refine tx_l 4 rfl (by kernel_rfl) (by kernel_rfl) rfl rfl rfl (fun _ _ _ h => h) (fun _ h => h.sub (List.Sublist.refl _)) (y_load rfl rfl (hc (o := 98) (.head _) (gA (k := 32) (i := 66) (by rw [List.length_map]; exact hk32) (by omega) (gA (k := 32) (i := 34) (by rw [List.length_map]; exact mk32) (by omega) (gA (k := 32) (i := 2) (by rw [List.length_map]; exact nk32) (by omega) (rfl)))))) ?_
      refine tx_q 5 rfl (by kernel_rfl) rfl rfl rfl (fun _ _ _ h => h) (y_lenE rfl hfl.choose_spec rfl) ?_
      refine tx_all (is := [0, 6]) (by kernel_rfl) rfl ⟨⟨_, rfl, rfl, ?_⟩, ⟨_, rfl, rfl, ?_⟩, trivial⟩
      · skip
        skip; refine a_callv [] _ rfl (by kernel_rfl) rfl (fun w' hw' => gbegin_spec (kind := 104)) rfl fun ⟨o25, v25⟩ _ => ?_
        refine tk_S (fun _ h => h.sub (.cons _ (.cons _ (List.Sublist.refl _)))) ?_
        refine tx_a 6 rfl (by kernel_rfl) rfl ?_; refine a_slitN (vs := [I ((sl.length : Nat) : Int)]) rfl (List.forall_mem_cons.2 ⟨rfl, (fun _ h => nomatch h)⟩) (EL143) rfl rfl (by decide) fun b31 => ?_
        refine tk_S (fun _ h => h.sub (.cons _ (.cons _ (.cons _ (List.Sublist.refl _))))) ?_
        refine tx_more [cel b31 ([I ((sl.length : Nat) : Int)]) 3, cel wb (hk.map B ++ (mk.map B ++ (nk.map B ++ ([Value.pointer (some ⟨tb, 0, none⟩), wbv, wlv])))) 117, own wbv sb.length (sb.map B) 5 1, own wlv sl.length (sl.flatMap entC) 91 35, cel tb ([tvv, .int .u64 ((c : Nat) : Int), tlv]) 160, own tvv bg.length (bg.map B) 5 1, own tlv (((tapeL bg c).drop p).length) (((tapeL bg c).drop p).map B) 5 1] (fun _ h => h.sub (.cons _ (List.Sublist.refl _))) (fun _ h => h.sub (.cons_cons _ (.cons _ (.cons _ (List.Sublist.refl _))))) ?_
        refine tx_a 7 rfl (by kernel_rfl) rfl ?_
        refine tk_perm _ (.trans (.cons _ (.trans (.cons _ (List.Perm.refl _)) (.swap _ _ _))) (.swap _ _ _)) ?_
        refine tk_perm _ (.trans (.cons _ (.trans (.cons _ (List.Perm.refl _)) (.swap _ _ _))) (.swap _ _ _)) ?_
        refine a_callv [] _ rfl (by kernel_rfl) rfl (fun w' hw' => gnum_spec (ob := o25) (v := v25) (b := [72, 89, 104]) (ns := [sl.length]) (Ro.cel (vs := [sl.length].map IN) hw' (.head _) (by first | rfl | simp) rfl (by decide)) (by intro n hn; simp only [List.mem_cons, List.not_mem_nil, or_false] at hn; omega) lenP lenP (St.pre hw')) rfl fun v32 _ => ?_
        refine tk_S (fun _ h => h.sub (.cons _ (.cons _ (List.Sublist.refl _)))) ?_
        refine tk_H [cel o25 ([v32, I 0]) 168, own v32 ((headP sl 0).length) ((headP sl 0).map B) 5 1, cel b31 ([I ((sl.length : Nat) : Int)]) 3, cel wb (hk.map B ++ (mk.map B ++ (nk.map B ++ ([Value.pointer (some ⟨tb, 0, none⟩), wbv, wlv])))) 117, own wbv sb.length (sb.map B) 5 1, own wlv sl.length (sl.flatMap entC) 91 35, cel tb ([tvv, .int .u64 ((c : Nat) : Int), tlv]) 160, own tvv bg.length (bg.map B) 5 1, own tlv (((tapeL bg c).drop p).length) (((tapeL bg c).drop p).map B) 5 1] (congrArg (fun z_ => [cel o25 ([v32, I 0]) 168, z_, cel b31 ([I ((sl.length : Nat) : Int)]) 3, cel wb (hk.map B ++ (mk.map B ++ (nk.map B ++ ([Value.pointer (some ⟨tb, 0, none⟩), wbv, wlv])))) 117, own wbv sb.length (sb.map B) 5 1, own wlv sl.length (sl.flatMap entC) 91 35, cel tb ([tvv, .int .u64 ((c : Nat) : Int), tlv]) 160, own tvv bg.length (bg.map B) 5 1, own tlv (((tapeL bg c).drop p).length) (((tapeL bg c).drop p).map B) 5 1]) (show own v32 (([72, 89, 104] ++ numsL [sl.length]).length) (([72, 89, 104] ++ numsL [sl.length]).map B) 5 1 = own v32 ((headP sl 0).length) ((headP sl 0).map B) 5 1 from ownM_cast (by rw [← headP_0]; simp [numsL]))) ?_
        refine tx_q 8 rfl (by kernel_rfl) rfl rfl rfl (fun _ _ _ h => h) (y_assign rfl) ?_
        refine tx_done (by kernel_rfl) ?_
        refine tk_perm _ (.trans (.cons _ (List.Perm.refl _)) (.swap _ _ _)) ?_
        refine tk_perm _ (.trans (.cons _ (List.Perm.refl _)) (.swap _ _ _)) ?_
        refine tk_perm _ (.trans (.cons _ (.trans (.cons _ (.trans (.cons _ (.trans (.cons _ (.trans (.cons _ (.trans (.cons _ (.trans (.cons _ (.trans (.cons _ (List.Perm.refl _)) (.swap _ _ _))) (.swap _ _ _))) (.swap _ _ _))) (.swap _ _ _))) (.swap _ _ _))) (.swap _ _ _))) (.swap _ _ _))) (.swap _ _ _)) ?_
        refine tk_perm _ (.trans (.cons _ (.trans (.cons _ (.trans (.cons _ (.trans (.cons _ (.trans (.cons _ (.trans (.cons _ (.trans (.cons _ (.trans (.cons _ (List.Perm.refl _)) (.swap _ _ _))) (.swap _ _ _))) (.swap _ _ _))) (.swap _ _ _))) (.swap _ _ _))) (.swap _ _ _))) (.swap _ _ _))) (.swap _ _ _)) ?_
        refine tk_perm _ (.trans (.cons _ (.trans (.cons _ (.trans (.cons _ (.trans (.cons _ (.trans (.cons _ (.trans (.cons _ (.trans (.cons _ (.trans (.cons _ (List.Perm.refl _)) (.swap _ _ _))) (.swap _ _ _))) (.swap _ _ _))) (.swap _ _ _))) (.swap _ _ _))) (.swap _ _ _))) (.swap _ _ _))) (.swap _ _ _)) ?_
        refine tk_perm _ (.trans (.cons _ (.trans (.cons _ (.trans (.cons _ (.trans (.cons _ (.trans (.cons _ (.trans (.cons _ (.trans (.cons _ (.trans (.cons _ (List.Perm.refl _)) (.swap _ _ _))) (.swap _ _ _))) (.swap _ _ _))) (.swap _ _ _))) (.swap _ _ _))) (.swap _ _ _))) (.swap _ _ _))) (.swap _ _ _)) ?_
        refine tk_perm _ (.trans (.cons _ (.trans (.cons _ (.trans (.cons _ (.trans (.cons _ (.trans (.cons _ (.trans (.cons _ (.trans (.cons _ (.trans (.cons _ (List.Perm.refl _)) (.swap _ _ _))) (.swap _ _ _))) (.swap _ _ _))) (.swap _ _ _))) (.swap _ _ _))) (.swap _ _ _))) (.swap _ _ _))) (.swap _ _ _)) ?_
        refine tk_perm _ (.trans (.cons _ (.trans (.cons _ (.trans (.cons _ (.trans (.cons _ (.trans (.cons _ (.trans (.cons _ (.trans (.cons _ (.trans (.cons _ (List.Perm.refl _)) (.swap _ _ _))) (.swap _ _ _))) (.swap _ _ _))) (.swap _ _ _))) (.swap _ _ _))) (.swap _ _ _))) (.swap _ _ _))) (.swap _ _ _)) ?_
        exact tk_to ((o25, v32)) (by first | exact trivial | omega | (dsimp only; omega)) (by repeat (first | exact trivial | refine ⟨rfl, ?_⟩)) (.cons_cons _ (.cons_cons _ (.cons_cons _ (.cons_cons _ (.cons_cons _ (.cons_cons _ (.cons_cons _ (.cons_cons _ (List.nil_sublist _)))))))))
      · skip
        skip; refine a_slitN (vs := [I ((sl.length : Nat) : Int)]) rfl (List.forall_mem_cons.2 ⟨rfl, (fun _ h => nomatch h)⟩) (EL143) rfl rfl (by decide) fun b31 => ?_
        refine tk_S (fun _ h => h.sub (.cons _ (List.Sublist.refl _))) ?_
        refine tx_more [cel b31 ([I ((sl.length : Nat) : Int)]) 3, cel wb (hk.map B ++ (mk.map B ++ (nk.map B ++ ([Value.pointer (some ⟨tb, 0, none⟩), wbv, wlv])))) 117, own wbv sb.length (sb.map B) 5 1, own wlv sl.length (sl.flatMap entC) 91 35, cel tb ([tvv, .int .u64 ((c : Nat) : Int), tlv]) 160, own tvv bg.length (bg.map B) 5 1, own tlv (((tapeL bg c).drop p).length) (((tapeL bg c).drop p).map B) 5 1] (fun _ h => h.sub (.cons _ (List.Sublist.refl _))) (fun _ h => h.sub (List.Sublist.refl _)) ?_
        refine tx_a 0 rfl (by kernel_rfl) rfl ?_; refine a_callv [] _ rfl (by kernel_rfl) rfl (fun w' hw' => gbegin_spec (kind := 104)) rfl fun ⟨o25, v25⟩ _ => ?_
        refine tk_S (fun _ h => h.sub (.cons _ (.cons _ (List.Sublist.refl _)))) ?_
        refine tx_a 7 rfl (by kernel_rfl) rfl ?_; refine a_callv [] _ rfl (by kernel_rfl) rfl (fun w' hw' => gnum_spec (ob := o25) (v := v25) (b := [72, 89, 104]) (ns := [sl.length]) (Ro.cel (vs := [sl.length].map IN) hw' (.head _) (by first | rfl | simp) rfl (by decide)) (by intro n hn; simp only [List.mem_cons, List.not_mem_nil, or_false] at hn; omega) lenP lenP (St.pre hw')) rfl fun v32 _ => ?_
        refine tk_S (fun _ h => h.sub (.cons _ (.cons _ (List.Sublist.refl _)))) ?_
        refine tk_H [cel o25 ([v32, I 0]) 168, own v32 ((headP sl 0).length) ((headP sl 0).map B) 5 1, cel b31 ([I ((sl.length : Nat) : Int)]) 3, cel wb (hk.map B ++ (mk.map B ++ (nk.map B ++ ([Value.pointer (some ⟨tb, 0, none⟩), wbv, wlv])))) 117, own wbv sb.length (sb.map B) 5 1, own wlv sl.length (sl.flatMap entC) 91 35, cel tb ([tvv, .int .u64 ((c : Nat) : Int), tlv]) 160, own tvv bg.length (bg.map B) 5 1, own tlv (((tapeL bg c).drop p).length) (((tapeL bg c).drop p).map B) 5 1] (congrArg (fun z_ => [cel o25 ([v32, I 0]) 168, z_, cel b31 ([I ((sl.length : Nat) : Int)]) 3, cel wb (hk.map B ++ (mk.map B ++ (nk.map B ++ ([Value.pointer (some ⟨tb, 0, none⟩), wbv, wlv])))) 117, own wbv sb.length (sb.map B) 5 1, own wlv sl.length (sl.flatMap entC) 91 35, cel tb ([tvv, .int .u64 ((c : Nat) : Int), tlv]) 160, own tvv bg.length (bg.map B) 5 1, own tlv (((tapeL bg c).drop p).length) (((tapeL bg c).drop p).map B) 5 1]) (show own v32 (([72, 89, 104] ++ numsL [sl.length]).length) (([72, 89, 104] ++ numsL [sl.length]).map B) 5 1 = own v32 ((headP sl 0).length) ((headP sl 0).map B) 5 1 from ownM_cast (by rw [← headP_0]; simp [numsL]))) ?_
        refine tx_q 8 rfl (by kernel_rfl) rfl rfl rfl (fun _ _ _ h => h) (y_assign rfl) ?_
        refine tx_done (by kernel_rfl) ?_
        refine tk_perm _ (.trans (.cons _ (List.Perm.refl _)) (.swap _ _ _)) ?_
        refine tk_perm _ (.trans (.cons _ (List.Perm.refl _)) (.swap _ _ _)) ?_
        refine tk_perm _ (.trans (.cons _ (.trans (.cons _ (.trans (.cons _ (.trans (.cons _ (.trans (.cons _ (.trans (.cons _ (.trans (.cons _ (.trans (.cons _ (List.Perm.refl _)) (.swap _ _ _))) (.swap _ _ _))) (.swap _ _ _))) (.swap _ _ _))) (.swap _ _ _))) (.swap _ _ _))) (.swap _ _ _))) (.swap _ _ _)) ?_
        refine tk_perm _ (.trans (.cons _ (.trans (.cons _ (.trans (.cons _ (.trans (.cons _ (.trans (.cons _ (.trans (.cons _ (.trans (.cons _ (.trans (.cons _ (List.Perm.refl _)) (.swap _ _ _))) (.swap _ _ _))) (.swap _ _ _))) (.swap _ _ _))) (.swap _ _ _))) (.swap _ _ _))) (.swap _ _ _))) (.swap _ _ _)) ?_
        refine tk_perm _ (.trans (.cons _ (.trans (.cons _ (.trans (.cons _ (.trans (.cons _ (.trans (.cons _ (.trans (.cons _ (.trans (.cons _ (.trans (.cons _ (List.Perm.refl _)) (.swap _ _ _))) (.swap _ _ _))) (.swap _ _ _))) (.swap _ _ _))) (.swap _ _ _))) (.swap _ _ _))) (.swap _ _ _))) (.swap _ _ _)) ?_
        refine tk_perm _ (.trans (.cons _ (.trans (.cons _ (.trans (.cons _ (.trans (.cons _ (.trans (.cons _ (.trans (.cons _ (.trans (.cons _ (.trans (.cons _ (List.Perm.refl _)) (.swap _ _ _))) (.swap _ _ _))) (.swap _ _ _))) (.swap _ _ _))) (.swap _ _ _))) (.swap _ _ _))) (.swap _ _ _))) (.swap _ _ _)) ?_
        refine tk_perm _ (.trans (.cons _ (.trans (.cons _ (.trans (.cons _ (.trans (.cons _ (.trans (.cons _ (.trans (.cons _ (.trans (.cons _ (.trans (.cons _ (List.Perm.refl _)) (.swap _ _ _))) (.swap _ _ _))) (.swap _ _ _))) (.swap _ _ _))) (.swap _ _ _))) (.swap _ _ _))) (.swap _ _ _))) (.swap _ _ _)) ?_
        refine tk_perm _ (.trans (.cons _ (.trans (.cons _ (.trans (.cons _ (.trans (.cons _ (.trans (.cons _ (.trans (.cons _ (.trans (.cons _ (.trans (.cons _ (List.Perm.refl _)) (.swap _ _ _))) (.swap _ _ _))) (.swap _ _ _))) (.swap _ _ _))) (.swap _ _ _))) (.swap _ _ _))) (.swap _ _ _))) (.swap _ _ _)) ?_
        exact tk_to ((o25, v32)) (by first | exact trivial | omega | (dsimp only; omega)) (by repeat (first | exact trivial | refine ⟨rfl, ?_⟩)) (.cons_cons _ (.cons_cons _ (.cons_cons _ (.cons_cons _ (.cons_cons _ (.cons_cons _ (.cons_cons _ (.cons_cons _ (List.nil_sublist _)))))))))
    · rintro ⟨o25, va⟩ hI
      try dsimp only at hI ⊢
      refine tk_seq ?_
      refine tk_seq ?_
      refine tk_region ?_
      refine tk_q rfl rfl rfl (y_move rfl) ?_
      refine tk_q rfl rfl rfl (y_nilCheck rfl) ?_
      refine tk_q rfl rfl rfl (y_fldN (o := 0) 98 rfl (by kernel_rfl)) ?_
      refine tk_q rfl rfl rfl (y_load rfl rfl (hc (o := 98) (.head _) (gA (k := 32) (i := 66) (by rw [List.length_map]; exact hk32) (by omega) (gA (k := 32) (i := 34) (by rw [List.length_map]; exact mk32) (by omega) (gA (k := 32) (i := 2) (by rw [List.length_map]; exact nk32) (by omega) (rfl)))))) ?_
      refine tk_q rfl rfl rfl (y_lenE rfl hfl.choose_spec rfl) ?_
      refine tk_q rfl rfl rfl (y_move rfl) ?_
      refine tk_nil ?_
      refine tk_then ?_
      refine tk_block ?_
      refine tk_loop (X := Nat × Value) (fun (i, va) => i ≤ sl.length) (fun (i, va) => [(0, .pointer (some ⟨wb, 0, none⟩)), (2, Str []), (3, .slice none 0 0), (4, .slice none 0 0), (5, I 0), (6, .pointer (some ⟨o25, 0, none⟩)), (36, wlv), (37, I ((sl.length : Nat) : Int)), (38, I ((i : Nat) : Int))]) (fun (i, va) => [cel wb (hk.map B ++ (mk.map B ++ (nk.map B ++ ([Value.pointer (some ⟨tb, 0, none⟩), wbv, wlv])))) 117, own wbv sb.length (sb.map B) 5 1, own wlv sl.length (sl.flatMap entC) 91 35, cel tb ([tvv, .int .u64 ((c : Nat) : Int), tlv]) 160, own tvv bg.length (bg.map B) 5 1, own tlv (((tapeL bg c).drop p).length) (((tapeL bg c).drop p).map B) 5 1, cel o25 ([va, I 0]) 168, own va ((headP sl i).length) ((headP sl i).map B) 5 1]) (fun (i, va) => sl.length - i) ((0, va)) (Nat.zero_le _) (by repeat (first | exact trivial | refine ⟨rfl, ?_⟩)) ((List.Sublist.refl _)) ?_
      rintro ⟨i, va⟩ hI
      try dsimp only at hI ⊢
      have hpl := headP_len hh62 (by omega) i
      refine tk_own1 (.tail _ (.tail _ (.tail _ (.tail _ (.tail _ (.tail _ (.tail _ (.head _)))))))) fun hfo => ?_
      refine tk_seq ?_
      refine tk_region ?_
      refine tk_q rfl rfl rfl (y_lss rfl rfl) ?_
      refine tk_nil ?_
      refine tk_then ?_
      refine tk_seq ?_
      refine tk_condP rfl (fun ht39 => ?_) (fun ht39 => ?_)
      · skip
        have hei := hh62 (sl.getD i dEnt) (getD_mem (by omega))
        have heh : (sl.getD i dEnt).id.length = 32 := (sl.getD i dEnt).h
        refine tk_skip ?_
        refine tk_then ?_
        refine tk_seq ?_
        refine tk_block ?_
        refine tk_seq ?_
        refine tk_region ?_
        refine tk_q rfl rfl rfl (y_ixE (i := i) (k := 35) rfl rfl hfl.choose_spec lenP (by kernel_rfl)) ?_
        refine tk_q rfl rfl rfl (y_loadE (i := i) (k := 35) (o := 0) (f := entC) (l := sl) (d0 := dEnt) (vs := ((sl.getD i dEnt).id).map B ++ ([I (((sl.getD i dEnt).kind : Nat) : Int), I (((sl.getD i dEnt).off : Nat) : Int), I (((sl.getD i dEnt).len : Nat) : Int)])) 35 rfl (by kernel_rfl) (by rw [List.length_append, List.length_map, (sl.getD i dEnt).h]; rfl) entC_len lenP (ent_all _) (fun w hw => own_rdC (hw.mem (.tail _ (.tail _ (.head _)))))) ?_
        refine tk_act rfl ?_; refine a_allocL (cs := (List.replicate 32 0).map B ++ ([I 0, I 0, I 0])) (by kernel_rfl) rfl fun b8 => ?_
        refine tk_act rfl ?_; refine a_storeW (H1 := []) (vs := ((sl.getD i dEnt).id).map B ++ ([I (((sl.getD i dEnt).kind : Nat) : Int), I (((sl.getD i dEnt).off : Nat) : Int), I (((sl.getD i dEnt).len : Nat) : Int)])) 35 rfl rfl (by kernel_rfl) rfl ⟨lenP, lenP⟩ (List.forall_mem_append.2 ⟨oneB, (List.forall_mem_cons.2 ⟨rfl, (List.forall_mem_cons.2 ⟨rfl, (List.forall_mem_cons.2 ⟨rfl, (fun _ h => nomatch h)⟩)⟩)⟩)⟩) ?_
        refine tk_nil ?_
        refine tk_then ?_
        refine tk_drawH [cel b8 (((sl.getD i dEnt).id).map B ++ ([I (((sl.getD i dEnt).kind : Nat) : Int), I (((sl.getD i dEnt).off : Nat) : Int), I (((sl.getD i dEnt).len : Nat) : Int)])) 91, cel wb (hk.map B ++ (mk.map B ++ (nk.map B ++ ([Value.pointer (some ⟨tb, 0, none⟩), wbv, wlv])))) 117, own wbv sb.length (sb.map B) 5 1, own wlv sl.length (sl.flatMap entC) 91 35, cel tb ([tvv, .int .u64 ((c : Nat) : Int), tlv]) 160, own tvv bg.length (bg.map B) 5 1, own tlv (((tapeL bg c).drop p).length) (((tapeL bg c).drop p).map B) 5 1] [] (by kernel_rfl) ?_
        refine tx_q 0 rfl (by kernel_rfl) rfl rfl rfl (fun _ _ _ h => h) (y_move rfl) ?_
        refine tx_q 1 rfl (by kernel_rfl) rfl rfl rfl (fun _ _ _ h => h) (y_fld0 (o := 0) rfl (by kernel_rfl)) ?_
        refine tx_q 2 rfl (by kernel_rfl) rfl rfl rfl (fun _ _ _ h => h) (y_cutA (m := 32) (sz := 1) rfl (by kernel_rfl)) ?_
        refine tx_q 5 rfl (by kernel_rfl) rfl rfl rfl (fun _ _ _ h => h) (y_fldN (o := 0) 32 rfl (by kernel_rfl)) ?_
        refine tx_l 6 rfl (by kernel_rfl) (by kernel_rfl) rfl rfl rfl (fun _ _ _ h => h) (fun _ h => h.sub (.cons_cons _ (.cons_cons _ (.cons_cons _ (.cons_cons _ (.cons_cons _ (.cons_cons _ (.cons_cons _ (List.nil_sublist _))))))))) (y_load rfl rfl (hc (o := 32) (.head _) (gA (k := 32) (i := 0) (by rw [List.length_map]; exact (sl.getD i dEnt).h) (by omega) (rfl)))) ?_
        refine tx_q 7 rfl (by kernel_rfl) rfl rfl rfl (fun _ _ _ h => h) (y_fldN (o := 0) 34 rfl (by kernel_rfl)) ?_
        refine tx_l 8 rfl (by kernel_rfl) (by kernel_rfl) rfl rfl rfl (fun _ _ _ h => h) (fun _ h => h.sub (.cons_cons _ (.cons_cons _ (.cons_cons _ (.cons_cons _ (.cons_cons _ (.cons_cons _ (.cons_cons _ (List.nil_sublist _))))))))) (y_load rfl rfl (hc (o := 34) (.head _) (gA (k := 32) (i := 2) (by rw [List.length_map]; exact (sl.getD i dEnt).h) (by omega) (rfl)))) ?_
        refine tx_all (is := [3, 9]) (by kernel_rfl) rfl ⟨⟨_, rfl, rfl, ?_⟩, ⟨_, rfl, rfl, ?_⟩, trivial⟩
        · skip
          skip; refine a_slitN (vs := [.slice (some ⟨b8, 0, none⟩) 32 32]) rfl (List.forall_mem_cons.2 ⟨rfl, (fun _ h => nomatch h)⟩) (EL45) rfl rfl (by decide) fun b45 => ?_
          refine tk_S (fun _ h => h.sub (.cons _ (.cons_cons _ (.cons_cons _ (.cons_cons _ (.cons_cons _ (.cons_cons _ (.cons_cons _ (.cons_cons _ (List.nil_sublist _)))))))))) ?_
          refine tx_more [cel b45 ([Value.slice (some ⟨b8, 0, none⟩) 32 32]) 26, cel b8 (((sl.getD i dEnt).id).map B ++ ([I (((sl.getD i dEnt).kind : Nat) : Int), I (((sl.getD i dEnt).off : Nat) : Int), I (((sl.getD i dEnt).len : Nat) : Int)])) 91, cel wb (hk.map B ++ (mk.map B ++ (nk.map B ++ ([Value.pointer (some ⟨tb, 0, none⟩), wbv, wlv])))) 117, own wbv sb.length (sb.map B) 5 1, own wlv sl.length (sl.flatMap entC) 91 35, cel tb ([tvv, .int .u64 ((c : Nat) : Int), tlv]) 160, own tvv bg.length (bg.map B) 5 1, own tlv (((tapeL bg c).drop p).length) (((tapeL bg c).drop p).map B) 5 1] (fun _ h => h.sub (.cons _ (List.Sublist.refl _))) (fun _ h => h.sub (.cons_cons _ (.cons_cons _ (.cons_cons _ (.cons_cons _ (.cons_cons _ (.cons_cons _ (.cons_cons _ (.cons_cons _ (List.nil_sublist _)))))))))) ?_
          refine tx_all (is := [4, 9]) (by kernel_rfl) rfl ⟨⟨_, rfl, rfl, ?_⟩, ⟨_, rfl, rfl, ?_⟩, trivial⟩
          · skip
            skip
            refine tk_perm _ (.trans (.cons _ (.trans (.cons _ (.trans (.cons _ (.trans (.cons _ (.trans (.cons _ (.trans (.cons _ (.trans (.cons _ (.trans (.cons _ (.trans (.cons _ (List.Perm.refl _)) (.swap _ _ _))) (.swap _ _ _))) (.swap _ _ _))) (.swap _ _ _))) (.swap _ _ _))) (.swap _ _ _))) (.swap _ _ _))) (.swap _ _ _))) (.swap _ _ _)) ?_
            refine tk_perm _ (.trans (.cons _ (.trans (.cons _ (.trans (.cons _ (.trans (.cons _ (.trans (.cons _ (.trans (.cons _ (.trans (.cons _ (.trans (.cons _ (.trans (.cons _ (List.Perm.refl _)) (.swap _ _ _))) (.swap _ _ _))) (.swap _ _ _))) (.swap _ _ _))) (.swap _ _ _))) (.swap _ _ _))) (.swap _ _ _))) (.swap _ _ _))) (.swap _ _ _)) ?_
            refine a_callv [] _ rfl (by kernel_rfl) rfl (fun w' hw' => graw_spec (ob := o25) (v := va) (b := headP sl i) (ps := [(.slice (some ⟨b8, 0, none⟩) 32 32, (sl.getD i dEnt).id)]) (L := (sl.getD i dEnt).id) (Ro.cel (vs := [.slice (some ⟨b8, 0, none⟩) 32 32]) hw' (.head _) (by first | rfl | simp) rfl (by decide)) (List.forall_mem_cons.2 ⟨(Ro.cel (b := b8) (o := 0) (m := 32) (cp := 32) (vs := ((sl.getD i dEnt).id).map B) hw' (.tail _ (.head _)) (dsW1) (by first | rfl | exact lenP | (simp; omega)) lenP), (fun _ h => nomatch h)⟩) (by simp) lenP lenP lenP (St.pre hw')) rfl fun v46 _ => ?_
            refine tk_S (fun _ h => h.sub (.cons _ (.cons _ (List.Sublist.refl _)))) ?_
            refine tx_a 9 rfl (by kernel_rfl) rfl ?_; refine a_slitN (vs := [I (((sl.getD i dEnt).kind : Nat) : Int), I (((sl.getD i dEnt).len : Nat) : Int)]) rfl (List.forall_mem_cons.2 ⟨rfl, (List.forall_mem_cons.2 ⟨rfl, (fun _ h => nomatch h)⟩)⟩) (EL143) rfl rfl (by decide) fun b51 => ?_
            refine tk_S (fun _ h => h.sub (.cons _ (.cons _ (.cons _ (List.Sublist.refl _))))) ?_
            refine tx_more [cel b51 ([I (((sl.getD i dEnt).kind : Nat) : Int), I (((sl.getD i dEnt).len : Nat) : Int)]) 3, cel b45 ([Value.slice (some ⟨b8, 0, none⟩) 32 32]) 26, cel b8 (((sl.getD i dEnt).id).map B ++ ([I (((sl.getD i dEnt).kind : Nat) : Int), I (((sl.getD i dEnt).off : Nat) : Int), I (((sl.getD i dEnt).len : Nat) : Int)])) 91, cel wb (hk.map B ++ (mk.map B ++ (nk.map B ++ ([Value.pointer (some ⟨tb, 0, none⟩), wbv, wlv])))) 117, own wbv sb.length (sb.map B) 5 1, own wlv sl.length (sl.flatMap entC) 91 35, cel tb ([tvv, .int .u64 ((c : Nat) : Int), tlv]) 160, own tvv bg.length (bg.map B) 5 1, own tlv (((tapeL bg c).drop p).length) (((tapeL bg c).drop p).map B) 5 1] (fun _ h => h.sub (.cons _ (List.Sublist.refl _))) (fun _ h => h.sub (.cons_cons _ (.cons _ (.cons _ (List.Sublist.refl _))))) ?_
            refine tx_a 10 rfl (by kernel_rfl) rfl ?_
            refine tk_perm _ (.trans (.cons _ (.trans (.cons _ (List.Perm.refl _)) (.swap _ _ _))) (.swap _ _ _)) ?_
            refine tk_perm _ (.trans (.cons _ (.trans (.cons _ (List.Perm.refl _)) (.swap _ _ _))) (.swap _ _ _)) ?_
            refine a_callv [] _ rfl (by kernel_rfl) rfl (fun w' hw' => gnum_spec (ob := o25) (v := v46) (b := (headP sl i) ++ ((sl.getD i dEnt).id)) (ns := [(sl.getD i dEnt).kind, (sl.getD i dEnt).len]) (Ro.cel (vs := [(sl.getD i dEnt).kind, (sl.getD i dEnt).len].map IN) hw' (.head _) (by first | rfl | simp) rfl (by decide)) (by intro n hn; simp only [List.mem_cons, List.not_mem_nil, or_false] at hn; omega) lenP lenP (St.pre hw')) rfl fun v52 _ => ?_
            refine tk_S (fun _ h => h.sub (.cons _ (.cons _ (List.Sublist.refl _)))) ?_
            refine tx_done (by kernel_rfl) ?_
            refine tk_in_normal ?_
            refine tk_then ?_
            refine tk_region ?_
            refine tk_q rfl rfl rfl (y_addN (a := i) (b := 1) rfl rfl (by omega)) ?_
            refine tk_q rfl rfl rfl (y_move rfl) ?_
            refine tk_nil ?_
            refine tk_H [cel o25 ([v52, I 0]) 168, own v52 ((headP sl (i + 1)).length) ((headP sl (i + 1)).map B) 5 1, cel b51 ([I (((sl.getD i dEnt).kind : Nat) : Int), I (((sl.getD i dEnt).len : Nat) : Int)]) 3, cel b45 ([Value.slice (some ⟨b8, 0, none⟩) 32 32]) 26, cel b8 (((sl.getD i dEnt).id).map B ++ ([I (((sl.getD i dEnt).kind : Nat) : Int), I (((sl.getD i dEnt).off : Nat) : Int), I (((sl.getD i dEnt).len : Nat) : Int)])) 91, cel wb (hk.map B ++ (mk.map B ++ (nk.map B ++ ([Value.pointer (some ⟨tb, 0, none⟩), wbv, wlv])))) 117, own wbv sb.length (sb.map B) 5 1, own wlv sl.length (sl.flatMap entC) 91 35, cel tb ([tvv, .int .u64 ((c : Nat) : Int), tlv]) 160, own tvv bg.length (bg.map B) 5 1, own tlv (((tapeL bg c).drop p).length) (((tapeL bg c).drop p).map B) 5 1] (congrArg (fun z_ => [cel o25 ([v52, I 0]) 168, z_, cel b51 ([I (((sl.getD i dEnt).kind : Nat) : Int), I (((sl.getD i dEnt).len : Nat) : Int)]) 3, cel b45 ([Value.slice (some ⟨b8, 0, none⟩) 32 32]) 26, cel b8 (((sl.getD i dEnt).id).map B ++ ([I (((sl.getD i dEnt).kind : Nat) : Int), I (((sl.getD i dEnt).off : Nat) : Int), I (((sl.getD i dEnt).len : Nat) : Int)])) 91, cel wb (hk.map B ++ (mk.map B ++ (nk.map B ++ ([Value.pointer (some ⟨tb, 0, none⟩), wbv, wlv])))) 117, own wbv sb.length (sb.map B) 5 1, own wlv sl.length (sl.flatMap entC) 91 35, cel tb ([tvv, .int .u64 ((c : Nat) : Int), tlv]) 160, own tvv bg.length (bg.map B) 5 1, own tlv (((tapeL bg c).drop p).length) (((tapeL bg c).drop p).map B) 5 1]) (show own v52 ((((headP sl i) ++ ((sl.getD i dEnt).id)) ++ numsL [(sl.getD i dEnt).kind, (sl.getD i dEnt).len]).length) ((((headP sl i) ++ ((sl.getD i dEnt).id)) ++ numsL [(sl.getD i dEnt).kind, (sl.getD i dEnt).len]).map B) 5 1 = own v52 ((headP sl (i + 1)).length) ((headP sl (i + 1)).map B) 5 1 from ownM_cast (by rw [← headP_succ (by omega)]; simp [numsL]))) ?_
            refine tk_perm _ (.trans (.cons _ (List.Perm.refl _)) (.swap _ _ _)) ?_
            refine tk_perm _ (.trans (.cons _ (List.Perm.refl _)) (.swap _ _ _)) ?_
            refine tk_perm _ (.trans (.cons _ (.trans (.cons _ (.trans (.cons _ (.trans (.cons _ (.trans (.cons _ (.trans (.cons _ (.trans (.cons _ (.trans (.cons _ (.trans (.cons _ (.trans (.cons _ (List.Perm.refl _)) (.swap _ _ _))) (.swap _ _ _))) (.swap _ _ _))) (.swap _ _ _))) (.swap _ _ _))) (.swap _ _ _))) (.swap _ _ _))) (.swap _ _ _))) (.swap _ _ _))) (.swap _ _ _)) ?_
            refine tk_perm _ (.trans (.cons _ (.trans (.cons _ (.trans (.cons _ (.trans (.cons _ (.trans (.cons _ (.trans (.cons _ (.trans (.cons _ (.trans (.cons _ (.trans (.cons _ (.trans (.cons _ (List.Perm.refl _)) (.swap _ _ _))) (.swap _ _ _))) (.swap _ _ _))) (.swap _ _ _))) (.swap _ _ _))) (.swap _ _ _))) (.swap _ _ _))) (.swap _ _ _))) (.swap _ _ _))) (.swap _ _ _)) ?_
            refine tk_perm _ (.trans (.cons _ (.trans (.cons _ (.trans (.cons _ (.trans (.cons _ (.trans (.cons _ (.trans (.cons _ (.trans (.cons _ (.trans (.cons _ (.trans (.cons _ (.trans (.cons _ (List.Perm.refl _)) (.swap _ _ _))) (.swap _ _ _))) (.swap _ _ _))) (.swap _ _ _))) (.swap _ _ _))) (.swap _ _ _))) (.swap _ _ _))) (.swap _ _ _))) (.swap _ _ _))) (.swap _ _ _)) ?_
            refine tk_perm _ (.trans (.cons _ (.trans (.cons _ (.trans (.cons _ (.trans (.cons _ (.trans (.cons _ (.trans (.cons _ (.trans (.cons _ (.trans (.cons _ (.trans (.cons _ (.trans (.cons _ (List.Perm.refl _)) (.swap _ _ _))) (.swap _ _ _))) (.swap _ _ _))) (.swap _ _ _))) (.swap _ _ _))) (.swap _ _ _))) (.swap _ _ _))) (.swap _ _ _))) (.swap _ _ _))) (.swap _ _ _)) ?_
            refine tk_perm _ (.trans (.cons _ (.trans (.cons _ (.trans (.cons _ (.trans (.cons _ (.trans (.cons _ (.trans (.cons _ (.trans (.cons _ (.trans (.cons _ (.trans (.cons _ (.trans (.cons _ (List.Perm.refl _)) (.swap _ _ _))) (.swap _ _ _))) (.swap _ _ _))) (.swap _ _ _))) (.swap _ _ _))) (.swap _ _ _))) (.swap _ _ _))) (.swap _ _ _))) (.swap _ _ _))) (.swap _ _ _)) ?_
            refine tk_perm _ (.trans (.cons _ (.trans (.cons _ (.trans (.cons _ (.trans (.cons _ (.trans (.cons _ (.trans (.cons _ (.trans (.cons _ (.trans (.cons _ (.trans (.cons _ (.trans (.cons _ (List.Perm.refl _)) (.swap _ _ _))) (.swap _ _ _))) (.swap _ _ _))) (.swap _ _ _))) (.swap _ _ _))) (.swap _ _ _))) (.swap _ _ _))) (.swap _ _ _))) (.swap _ _ _))) (.swap _ _ _)) ?_
            exact tk_again ((i + 1, v52)) (by first | exact trivial | omega | (dsimp only; omega)) (by first | omega | (dsimp only; omega)) (by repeat (first | exact trivial | refine ⟨rfl, ?_⟩)) (.cons_cons _ (.cons_cons _ (.cons_cons _ (.cons_cons _ (.cons_cons _ (.cons_cons _ (.cons_cons _ (.cons_cons _ (List.nil_sublist _)))))))))
          · skip
            skip; refine a_slitN (vs := [I (((sl.getD i dEnt).kind : Nat) : Int), I (((sl.getD i dEnt).len : Nat) : Int)]) rfl (List.forall_mem_cons.2 ⟨rfl, (List.forall_mem_cons.2 ⟨rfl, (fun _ h => nomatch h)⟩)⟩) (EL143) rfl rfl (by decide) fun b51 => ?_
            refine tk_S (fun _ h => h.sub (.cons _ (.cons_cons _ (.cons_cons _ (.cons_cons _ (.cons_cons _ (.cons_cons _ (.cons_cons _ (.cons_cons _ (.cons_cons _ (List.nil_sublist _))))))))))) ?_
            refine tx_more [cel b51 ([I (((sl.getD i dEnt).kind : Nat) : Int), I (((sl.getD i dEnt).len : Nat) : Int)]) 3, cel b45 ([Value.slice (some ⟨b8, 0, none⟩) 32 32]) 26, cel b8 (((sl.getD i dEnt).id).map B ++ ([I (((sl.getD i dEnt).kind : Nat) : Int), I (((sl.getD i dEnt).off : Nat) : Int), I (((sl.getD i dEnt).len : Nat) : Int)])) 91, cel wb (hk.map B ++ (mk.map B ++ (nk.map B ++ ([Value.pointer (some ⟨tb, 0, none⟩), wbv, wlv])))) 117, own wbv sb.length (sb.map B) 5 1, own wlv sl.length (sl.flatMap entC) 91 35, cel tb ([tvv, .int .u64 ((c : Nat) : Int), tlv]) 160, own tvv bg.length (bg.map B) 5 1, own tlv (((tapeL bg c).drop p).length) (((tapeL bg c).drop p).map B) 5 1] (fun _ h => h.sub (.cons _ (List.Sublist.refl _))) (fun _ h => h.sub (.cons_cons _ (.cons_cons _ (.cons_cons _ (.cons_cons _ (.cons_cons _ (.cons_cons _ (.cons_cons _ (.cons_cons _ (.cons_cons _ (List.nil_sublist _))))))))))) ?_
            refine tx_a 4 rfl (by kernel_rfl) rfl ?_
            refine tk_perm _ (.trans (.cons _ (.trans (.cons _ (.trans (.cons _ (.trans (.cons _ (.trans (.cons _ (.trans (.cons _ (.trans (.cons _ (.trans (.cons _ (.trans (.cons _ (.trans (.cons _ (List.Perm.refl _)) (.swap _ _ _))) (.swap _ _ _))) (.swap _ _ _))) (.swap _ _ _))) (.swap _ _ _))) (.swap _ _ _))) (.swap _ _ _))) (.swap _ _ _))) (.swap _ _ _))) (.swap _ _ _)) ?_
            refine tk_perm _ (.trans (.cons _ (.trans (.cons _ (.trans (.cons _ (.trans (.cons _ (.trans (.cons _ (.trans (.cons _ (.trans (.cons _ (.trans (.cons _ (.trans (.cons _ (.trans (.cons _ (List.Perm.refl _)) (.swap _ _ _))) (.swap _ _ _))) (.swap _ _ _))) (.swap _ _ _))) (.swap _ _ _))) (.swap _ _ _))) (.swap _ _ _))) (.swap _ _ _))) (.swap _ _ _))) (.swap _ _ _)) ?_
            refine a_callv [] _ rfl (by kernel_rfl) rfl (fun w' hw' => graw_spec (ob := o25) (v := va) (b := headP sl i) (ps := [(.slice (some ⟨b8, 0, none⟩) 32 32, (sl.getD i dEnt).id)]) (L := (sl.getD i dEnt).id) (Ro.cel (vs := [.slice (some ⟨b8, 0, none⟩) 32 32]) hw' (.tail _ (.head _)) (by first | rfl | simp) rfl (by decide)) (List.forall_mem_cons.2 ⟨(Ro.cel (b := b8) (o := 0) (m := 32) (cp := 32) (vs := ((sl.getD i dEnt).id).map B) hw' (.tail _ (.tail _ (.head _))) (dsW1) (by first | rfl | exact lenP | (simp; omega)) lenP), (fun _ h => nomatch h)⟩) (by simp) lenP lenP lenP (St.pre hw')) rfl fun v46 _ => ?_
            refine tk_S (fun _ h => h.sub (.cons _ (.cons _ (List.Sublist.refl _)))) ?_
            refine tx_a 10 rfl (by kernel_rfl) rfl ?_; refine a_callv [] _ rfl (by kernel_rfl) rfl (fun w' hw' => gnum_spec (ob := o25) (v := v46) (b := (headP sl i) ++ ((sl.getD i dEnt).id)) (ns := [(sl.getD i dEnt).kind, (sl.getD i dEnt).len]) (Ro.cel (vs := [(sl.getD i dEnt).kind, (sl.getD i dEnt).len].map IN) hw' (.head _) (by first | rfl | simp) rfl (by decide)) (by intro n hn; simp only [List.mem_cons, List.not_mem_nil, or_false] at hn; omega) lenP lenP (St.pre hw')) rfl fun v52 _ => ?_
            refine tk_S (fun _ h => h.sub (.cons _ (.cons _ (List.Sublist.refl _)))) ?_
            refine tx_done (by kernel_rfl) ?_
            refine tk_in_normal ?_
            refine tk_then ?_
            refine tk_region ?_
            refine tk_q rfl rfl rfl (y_addN (a := i) (b := 1) rfl rfl (by omega)) ?_
            refine tk_q rfl rfl rfl (y_move rfl) ?_
            refine tk_nil ?_
            refine tk_H [cel o25 ([v52, I 0]) 168, own v52 ((headP sl (i + 1)).length) ((headP sl (i + 1)).map B) 5 1, cel b51 ([I (((sl.getD i dEnt).kind : Nat) : Int), I (((sl.getD i dEnt).len : Nat) : Int)]) 3, cel b45 ([Value.slice (some ⟨b8, 0, none⟩) 32 32]) 26, cel b8 (((sl.getD i dEnt).id).map B ++ ([I (((sl.getD i dEnt).kind : Nat) : Int), I (((sl.getD i dEnt).off : Nat) : Int), I (((sl.getD i dEnt).len : Nat) : Int)])) 91, cel wb (hk.map B ++ (mk.map B ++ (nk.map B ++ ([Value.pointer (some ⟨tb, 0, none⟩), wbv, wlv])))) 117, own wbv sb.length (sb.map B) 5 1, own wlv sl.length (sl.flatMap entC) 91 35, cel tb ([tvv, .int .u64 ((c : Nat) : Int), tlv]) 160, own tvv bg.length (bg.map B) 5 1, own tlv (((tapeL bg c).drop p).length) (((tapeL bg c).drop p).map B) 5 1] (congrArg (fun z_ => [cel o25 ([v52, I 0]) 168, z_, cel b51 ([I (((sl.getD i dEnt).kind : Nat) : Int), I (((sl.getD i dEnt).len : Nat) : Int)]) 3, cel b45 ([Value.slice (some ⟨b8, 0, none⟩) 32 32]) 26, cel b8 (((sl.getD i dEnt).id).map B ++ ([I (((sl.getD i dEnt).kind : Nat) : Int), I (((sl.getD i dEnt).off : Nat) : Int), I (((sl.getD i dEnt).len : Nat) : Int)])) 91, cel wb (hk.map B ++ (mk.map B ++ (nk.map B ++ ([Value.pointer (some ⟨tb, 0, none⟩), wbv, wlv])))) 117, own wbv sb.length (sb.map B) 5 1, own wlv sl.length (sl.flatMap entC) 91 35, cel tb ([tvv, .int .u64 ((c : Nat) : Int), tlv]) 160, own tvv bg.length (bg.map B) 5 1, own tlv (((tapeL bg c).drop p).length) (((tapeL bg c).drop p).map B) 5 1]) (show own v52 ((((headP sl i) ++ ((sl.getD i dEnt).id)) ++ numsL [(sl.getD i dEnt).kind, (sl.getD i dEnt).len]).length) ((((headP sl i) ++ ((sl.getD i dEnt).id)) ++ numsL [(sl.getD i dEnt).kind, (sl.getD i dEnt).len]).map B) 5 1 = own v52 ((headP sl (i + 1)).length) ((headP sl (i + 1)).map B) 5 1 from ownM_cast (by rw [← headP_succ (by omega)]; simp [numsL]))) ?_
            refine tk_perm _ (.trans (.cons _ (List.Perm.refl _)) (.swap _ _ _)) ?_
            refine tk_perm _ (.trans (.cons _ (List.Perm.refl _)) (.swap _ _ _)) ?_
            refine tk_perm _ (.trans (.cons _ (.trans (.cons _ (.trans (.cons _ (.trans (.cons _ (.trans (.cons _ (.trans (.cons _ (.trans (.cons _ (.trans (.cons _ (.trans (.cons _ (.trans (.cons _ (List.Perm.refl _)) (.swap _ _ _))) (.swap _ _ _))) (.swap _ _ _))) (.swap _ _ _))) (.swap _ _ _))) (.swap _ _ _))) (.swap _ _ _))) (.swap _ _ _))) (.swap _ _ _))) (.swap _ _ _)) ?_
            refine tk_perm _ (.trans (.cons _ (.trans (.cons _ (.trans (.cons _ (.trans (.cons _ (.trans (.cons _ (.trans (.cons _ (.trans (.cons _ (.trans (.cons _ (.trans (.cons _ (.trans (.cons _ (List.Perm.refl _)) (.swap _ _ _))) (.swap _ _ _))) (.swap _ _ _))) (.swap _ _ _))) (.swap _ _ _))) (.swap _ _ _))) (.swap _ _ _))) (.swap _ _ _))) (.swap _ _ _))) (.swap _ _ _)) ?_
            refine tk_perm _ (.trans (.cons _ (.trans (.cons _ (.trans (.cons _ (.trans (.cons _ (.trans (.cons _ (.trans (.cons _ (.trans (.cons _ (.trans (.cons _ (.trans (.cons _ (.trans (.cons _ (List.Perm.refl _)) (.swap _ _ _))) (.swap _ _ _))) (.swap _ _ _))) (.swap _ _ _))) (.swap _ _ _))) (.swap _ _ _))) (.swap _ _ _))) (.swap _ _ _))) (.swap _ _ _))) (.swap _ _ _)) ?_
            refine tk_perm _ (.trans (.cons _ (.trans (.cons _ (.trans (.cons _ (.trans (.cons _ (.trans (.cons _ (.trans (.cons _ (.trans (.cons _ (.trans (.cons _ (.trans (.cons _ (.trans (.cons _ (List.Perm.refl _)) (.swap _ _ _))) (.swap _ _ _))) (.swap _ _ _))) (.swap _ _ _))) (.swap _ _ _))) (.swap _ _ _))) (.swap _ _ _))) (.swap _ _ _))) (.swap _ _ _))) (.swap _ _ _)) ?_
            refine tk_perm _ (.trans (.cons _ (.trans (.cons _ (.trans (.cons _ (.trans (.cons _ (.trans (.cons _ (.trans (.cons _ (.trans (.cons _ (.trans (.cons _ (.trans (.cons _ (.trans (.cons _ (List.Perm.refl _)) (.swap _ _ _))) (.swap _ _ _))) (.swap _ _ _))) (.swap _ _ _))) (.swap _ _ _))) (.swap _ _ _))) (.swap _ _ _))) (.swap _ _ _))) (.swap _ _ _))) (.swap _ _ _)) ?_
            refine tk_perm _ (.trans (.cons _ (.trans (.cons _ (.trans (.cons _ (.trans (.cons _ (.trans (.cons _ (.trans (.cons _ (.trans (.cons _ (.trans (.cons _ (.trans (.cons _ (.trans (.cons _ (List.Perm.refl _)) (.swap _ _ _))) (.swap _ _ _))) (.swap _ _ _))) (.swap _ _ _))) (.swap _ _ _))) (.swap _ _ _))) (.swap _ _ _))) (.swap _ _ _))) (.swap _ _ _))) (.swap _ _ _)) ?_
            exact tk_again ((i + 1, v52)) (by first | exact trivial | omega | (dsimp only; omega)) (by first | omega | (dsimp only; omega)) (by repeat (first | exact trivial | refine ⟨rfl, ?_⟩)) (.cons_cons _ (.cons_cons _ (.cons_cons _ (.cons_cons _ (.cons_cons _ (.cons_cons _ (.cons_cons _ (.cons_cons _ (List.nil_sublist _)))))))))
        · skip
          skip; refine a_slitN (vs := [I (((sl.getD i dEnt).kind : Nat) : Int), I (((sl.getD i dEnt).len : Nat) : Int)]) rfl (List.forall_mem_cons.2 ⟨rfl, (List.forall_mem_cons.2 ⟨rfl, (fun _ h => nomatch h)⟩)⟩) (EL143) rfl rfl (by decide) fun b51 => ?_
          refine tk_S (fun _ h => h.sub (.cons _ (.cons_cons _ (.cons_cons _ (.cons_cons _ (.cons_cons _ (.cons_cons _ (.cons_cons _ (.cons_cons _ (List.nil_sublist _)))))))))) ?_
          refine tx_more [cel b51 ([I (((sl.getD i dEnt).kind : Nat) : Int), I (((sl.getD i dEnt).len : Nat) : Int)]) 3, cel b8 (((sl.getD i dEnt).id).map B ++ ([I (((sl.getD i dEnt).kind : Nat) : Int), I (((sl.getD i dEnt).off : Nat) : Int), I (((sl.getD i dEnt).len : Nat) : Int)])) 91, cel wb (hk.map B ++ (mk.map B ++ (nk.map B ++ ([Value.pointer (some ⟨tb, 0, none⟩), wbv, wlv])))) 117, own wbv sb.length (sb.map B) 5 1, own wlv sl.length (sl.flatMap entC) 91 35, cel tb ([tvv, .int .u64 ((c : Nat) : Int), tlv]) 160, own tvv bg.length (bg.map B) 5 1, own tlv (((tapeL bg c).drop p).length) (((tapeL bg c).drop p).map B) 5 1] (fun _ h => h.sub (.cons _ (List.Sublist.refl _))) (fun _ h => h.sub (.cons_cons _ (.cons_cons _ (.cons_cons _ (.cons_cons _ (.cons_cons _ (.cons_cons _ (.cons_cons _ (.cons_cons _ (List.nil_sublist _)))))))))) ?_
          refine tx_a 3 rfl (by kernel_rfl) rfl ?_; refine a_slitN (vs := [.slice (some ⟨b8, 0, none⟩) 32 32]) rfl (List.forall_mem_cons.2 ⟨rfl, (fun _ h => nomatch h)⟩) (EL45) rfl rfl (by decide) fun b45 => ?_
          refine tk_S (fun _ h => h.sub (.cons _ (.cons_cons _ (.cons_cons _ (.cons_cons _ (.cons_cons _ (.cons_cons _ (.cons_cons _ (.cons_cons _ (.cons_cons _ (List.nil_sublist _))))))))))) ?_
          refine tx_more [cel b45 ([Value.slice (some ⟨b8, 0, none⟩) 32 32]) 26, cel b51 ([I (((sl.getD i dEnt).kind : Nat) : Int), I (((sl.getD i dEnt).len : Nat) : Int)]) 3, cel b8 (((sl.getD i dEnt).id).map B ++ ([I (((sl.getD i dEnt).kind : Nat) : Int), I (((sl.getD i dEnt).off : Nat) : Int), I (((sl.getD i dEnt).len : Nat) : Int)])) 91, cel wb (hk.map B ++ (mk.map B ++ (nk.map B ++ ([Value.pointer (some ⟨tb, 0, none⟩), wbv, wlv])))) 117, own wbv sb.length (sb.map B) 5 1, own wlv sl.length (sl.flatMap entC) 91 35, cel tb ([tvv, .int .u64 ((c : Nat) : Int), tlv]) 160, own tvv bg.length (bg.map B) 5 1, own tlv (((tapeL bg c).drop p).length) (((tapeL bg c).drop p).map B) 5 1] (fun _ h => h.sub (.cons _ (List.Sublist.refl _))) (fun _ h => h.sub (.cons_cons _ (.cons_cons _ (.cons_cons _ (.cons_cons _ (.cons_cons _ (.cons_cons _ (.cons_cons _ (.cons_cons _ (.cons_cons _ (List.nil_sublist _))))))))))) ?_
          refine tx_a 4 rfl (by kernel_rfl) rfl ?_
          refine tk_perm _ (.trans (.cons _ (.trans (.cons _ (.trans (.cons _ (.trans (.cons _ (.trans (.cons _ (.trans (.cons _ (.trans (.cons _ (.trans (.cons _ (.trans (.cons _ (.trans (.cons _ (List.Perm.refl _)) (.swap _ _ _))) (.swap _ _ _))) (.swap _ _ _))) (.swap _ _ _))) (.swap _ _ _))) (.swap _ _ _))) (.swap _ _ _))) (.swap _ _ _))) (.swap _ _ _))) (.swap _ _ _)) ?_
          refine tk_perm _ (.trans (.cons _ (.trans (.cons _ (.trans (.cons _ (.trans (.cons _ (.trans (.cons _ (.trans (.cons _ (.trans (.cons _ (.trans (.cons _ (.trans (.cons _ (.trans (.cons _ (List.Perm.refl _)) (.swap _ _ _))) (.swap _ _ _))) (.swap _ _ _))) (.swap _ _ _))) (.swap _ _ _))) (.swap _ _ _))) (.swap _ _ _))) (.swap _ _ _))) (.swap _ _ _))) (.swap _ _ _)) ?_
          refine a_callv [] _ rfl (by kernel_rfl) rfl (fun w' hw' => graw_spec (ob := o25) (v := va) (b := headP sl i) (ps := [(.slice (some ⟨b8, 0, none⟩) 32 32, (sl.getD i dEnt).id)]) (L := (sl.getD i dEnt).id) (Ro.cel (vs := [.slice (some ⟨b8, 0, none⟩) 32 32]) hw' (.head _) (by first | rfl | simp) rfl (by decide)) (List.forall_mem_cons.2 ⟨(Ro.cel (b := b8) (o := 0) (m := 32) (cp := 32) (vs := ((sl.getD i dEnt).id).map B) hw' (.tail _ (.tail _ (.head _))) (dsW1) (by first | rfl | exact lenP | (simp; omega)) lenP), (fun _ h => nomatch h)⟩) (by simp) lenP lenP lenP (St.pre hw')) rfl fun v46 _ => ?_
          refine tk_S (fun _ h => h.sub (.cons _ (.cons _ (List.Sublist.refl _)))) ?_
          refine tx_a 10 rfl (by kernel_rfl) rfl ?_; refine a_callv [] _ rfl (by kernel_rfl) rfl (fun w' hw' => gnum_spec (ob := o25) (v := v46) (b := (headP sl i) ++ ((sl.getD i dEnt).id)) (ns := [(sl.getD i dEnt).kind, (sl.getD i dEnt).len]) (Ro.cel (vs := [(sl.getD i dEnt).kind, (sl.getD i dEnt).len].map IN) hw' (.tail _ (.head _)) (by first | rfl | simp) rfl (by decide)) (by intro n hn; simp only [List.mem_cons, List.not_mem_nil, or_false] at hn; omega) lenP lenP (St.pre hw')) rfl fun v52 _ => ?_
          refine tk_S (fun _ h => h.sub (.cons _ (.cons _ (List.Sublist.refl _)))) ?_
          refine tx_done (by kernel_rfl) ?_
          refine tk_in_normal ?_
          refine tk_then ?_
          refine tk_region ?_
          refine tk_q rfl rfl rfl (y_addN (a := i) (b := 1) rfl rfl (by omega)) ?_
          refine tk_q rfl rfl rfl (y_move rfl) ?_
          refine tk_nil ?_
          refine tk_H [cel o25 ([v52, I 0]) 168, own v52 ((headP sl (i + 1)).length) ((headP sl (i + 1)).map B) 5 1, cel b45 ([Value.slice (some ⟨b8, 0, none⟩) 32 32]) 26, cel b51 ([I (((sl.getD i dEnt).kind : Nat) : Int), I (((sl.getD i dEnt).len : Nat) : Int)]) 3, cel b8 (((sl.getD i dEnt).id).map B ++ ([I (((sl.getD i dEnt).kind : Nat) : Int), I (((sl.getD i dEnt).off : Nat) : Int), I (((sl.getD i dEnt).len : Nat) : Int)])) 91, cel wb (hk.map B ++ (mk.map B ++ (nk.map B ++ ([Value.pointer (some ⟨tb, 0, none⟩), wbv, wlv])))) 117, own wbv sb.length (sb.map B) 5 1, own wlv sl.length (sl.flatMap entC) 91 35, cel tb ([tvv, .int .u64 ((c : Nat) : Int), tlv]) 160, own tvv bg.length (bg.map B) 5 1, own tlv (((tapeL bg c).drop p).length) (((tapeL bg c).drop p).map B) 5 1] (congrArg (fun z_ => [cel o25 ([v52, I 0]) 168, z_, cel b45 ([Value.slice (some ⟨b8, 0, none⟩) 32 32]) 26, cel b51 ([I (((sl.getD i dEnt).kind : Nat) : Int), I (((sl.getD i dEnt).len : Nat) : Int)]) 3, cel b8 (((sl.getD i dEnt).id).map B ++ ([I (((sl.getD i dEnt).kind : Nat) : Int), I (((sl.getD i dEnt).off : Nat) : Int), I (((sl.getD i dEnt).len : Nat) : Int)])) 91, cel wb (hk.map B ++ (mk.map B ++ (nk.map B ++ ([Value.pointer (some ⟨tb, 0, none⟩), wbv, wlv])))) 117, own wbv sb.length (sb.map B) 5 1, own wlv sl.length (sl.flatMap entC) 91 35, cel tb ([tvv, .int .u64 ((c : Nat) : Int), tlv]) 160, own tvv bg.length (bg.map B) 5 1, own tlv (((tapeL bg c).drop p).length) (((tapeL bg c).drop p).map B) 5 1]) (show own v52 ((((headP sl i) ++ ((sl.getD i dEnt).id)) ++ numsL [(sl.getD i dEnt).kind, (sl.getD i dEnt).len]).length) ((((headP sl i) ++ ((sl.getD i dEnt).id)) ++ numsL [(sl.getD i dEnt).kind, (sl.getD i dEnt).len]).map B) 5 1 = own v52 ((headP sl (i + 1)).length) ((headP sl (i + 1)).map B) 5 1 from ownM_cast (by rw [← headP_succ (by omega)]; simp [numsL]))) ?_
          refine tk_perm _ (.trans (.cons _ (List.Perm.refl _)) (.swap _ _ _)) ?_
          refine tk_perm _ (.trans (.cons _ (List.Perm.refl _)) (.swap _ _ _)) ?_
          refine tk_perm _ (.trans (.cons _ (.trans (.cons _ (.trans (.cons _ (.trans (.cons _ (.trans (.cons _ (.trans (.cons _ (.trans (.cons _ (.trans (.cons _ (.trans (.cons _ (.trans (.cons _ (List.Perm.refl _)) (.swap _ _ _))) (.swap _ _ _))) (.swap _ _ _))) (.swap _ _ _))) (.swap _ _ _))) (.swap _ _ _))) (.swap _ _ _))) (.swap _ _ _))) (.swap _ _ _))) (.swap _ _ _)) ?_
          refine tk_perm _ (.trans (.cons _ (.trans (.cons _ (.trans (.cons _ (.trans (.cons _ (.trans (.cons _ (.trans (.cons _ (.trans (.cons _ (.trans (.cons _ (.trans (.cons _ (.trans (.cons _ (List.Perm.refl _)) (.swap _ _ _))) (.swap _ _ _))) (.swap _ _ _))) (.swap _ _ _))) (.swap _ _ _))) (.swap _ _ _))) (.swap _ _ _))) (.swap _ _ _))) (.swap _ _ _))) (.swap _ _ _)) ?_
          refine tk_perm _ (.trans (.cons _ (.trans (.cons _ (.trans (.cons _ (.trans (.cons _ (.trans (.cons _ (.trans (.cons _ (.trans (.cons _ (.trans (.cons _ (.trans (.cons _ (.trans (.cons _ (List.Perm.refl _)) (.swap _ _ _))) (.swap _ _ _))) (.swap _ _ _))) (.swap _ _ _))) (.swap _ _ _))) (.swap _ _ _))) (.swap _ _ _))) (.swap _ _ _))) (.swap _ _ _))) (.swap _ _ _)) ?_
          refine tk_perm _ (.trans (.cons _ (.trans (.cons _ (.trans (.cons _ (.trans (.cons _ (.trans (.cons _ (.trans (.cons _ (.trans (.cons _ (.trans (.cons _ (.trans (.cons _ (.trans (.cons _ (List.Perm.refl _)) (.swap _ _ _))) (.swap _ _ _))) (.swap _ _ _))) (.swap _ _ _))) (.swap _ _ _))) (.swap _ _ _))) (.swap _ _ _))) (.swap _ _ _))) (.swap _ _ _))) (.swap _ _ _)) ?_
          refine tk_perm _ (.trans (.cons _ (.trans (.cons _ (.trans (.cons _ (.trans (.cons _ (.trans (.cons _ (.trans (.cons _ (.trans (.cons _ (.trans (.cons _ (.trans (.cons _ (.trans (.cons _ (List.Perm.refl _)) (.swap _ _ _))) (.swap _ _ _))) (.swap _ _ _))) (.swap _ _ _))) (.swap _ _ _))) (.swap _ _ _))) (.swap _ _ _))) (.swap _ _ _))) (.swap _ _ _))) (.swap _ _ _)) ?_
          refine tk_perm _ (.trans (.cons _ (.trans (.cons _ (.trans (.cons _ (.trans (.cons _ (.trans (.cons _ (.trans (.cons _ (.trans (.cons _ (.trans (.cons _ (.trans (.cons _ (.trans (.cons _ (List.Perm.refl _)) (.swap _ _ _))) (.swap _ _ _))) (.swap _ _ _))) (.swap _ _ _))) (.swap _ _ _))) (.swap _ _ _))) (.swap _ _ _))) (.swap _ _ _))) (.swap _ _ _))) (.swap _ _ _)) ?_
          exact tk_again ((i + 1, v52)) (by first | exact trivial | omega | (dsimp only; omega)) (by first | omega | (dsimp only; omega)) (by repeat (first | exact trivial | refine ⟨rfl, ?_⟩)) (.cons_cons _ (.cons_cons _ (.cons_cons _ (.cons_cons _ (.cons_cons _ (.cons_cons _ (.cons_cons _ (.cons_cons _ (List.nil_sublist _)))))))))
      · skip
        refine tk_exit ?_
        refine tk_then_exit ?_
        refine tk_then_exit ?_
        refine tk_in_hit ?_
        refine tk_then ?_
        refine tk_seq ?_
        refine tk_region ?_
        refine tk_H [cel wb (hk.map B ++ (mk.map B ++ (nk.map B ++ ([Value.pointer (some ⟨tb, 0, none⟩), wbv, wlv])))) 117, own wbv sb.length (sb.map B) 5 1, own wlv sl.length (sl.flatMap entC) 91 35, cel tb ([tvv, .int .u64 ((c : Nat) : Int), tlv]) 160, own tvv bg.length (bg.map B) 5 1, own tlv (((tapeL bg c).drop p).length) (((tapeL bg c).drop p).map B) 5 1, cel o25 ([va, I 0]) 168, own va ((headL sl).length) ((headL sl).map B) 5 1] (congrArg (fun z_ => [cel wb (hk.map B ++ (mk.map B ++ (nk.map B ++ ([Value.pointer (some ⟨tb, 0, none⟩), wbv, wlv])))) 117, own wbv sb.length (sb.map B) 5 1, own wlv sl.length (sl.flatMap entC) 91 35, cel tb ([tvv, .int .u64 ((c : Nat) : Int), tlv]) 160, own tvv bg.length (bg.map B) 5 1, own tlv (((tapeL bg c).drop p).length) (((tapeL bg c).drop p).map B) 5 1, cel o25 ([va, I 0]) 168, z_]) (show own va ((headP sl i).length) ((headP sl i).map B) 5 1 = own va ((headL sl).length) ((headL sl).map B) 5 1 from ownM_cast (by rw [show i = sl.length by omega, headP_all]))) ?_
        skip
        refine tk_q rfl rfl rfl (y_move rfl) ?_
        refine tk_act rfl ?_
        refine tk_perm _ (.trans (.cons _ (.trans (.cons _ (.trans (.cons _ (.trans (.cons _ (.trans (.cons _ (.trans (.cons _ (.trans (.cons _ (List.Perm.refl _)) (.swap _ _ _))) (.swap _ _ _))) (.swap _ _ _))) (.swap _ _ _))) (.swap _ _ _))) (.swap _ _ _))) (.swap _ _ _)) ?_
        refine tk_perm _ (.trans (.cons _ (.trans (.cons _ (.trans (.cons _ (.trans (.cons _ (.trans (.cons _ (.trans (.cons _ (.trans (.cons _ (List.Perm.refl _)) (.swap _ _ _))) (.swap _ _ _))) (.swap _ _ _))) (.swap _ _ _))) (.swap _ _ _))) (.swap _ _ _))) (.swap _ _ _)) ?_
        refine a_callv [] _ rfl (by kernel_rfl) rfl (fun w' hw' => gbytes_spec (ob := o25) (v := va) (b := headL sl) lenP (St.pre hw')) rfl fun v56 _ => ?_
        refine tk_own1 (.tail _ (.tail _ (.head _))) fun hf56 => ?_
        refine tk_q rfl rfl rfl (y_move rfl) ?_
        refine tk_q rfl rfl rfl (y_extract rfl rfl) ?_
        refine tk_q rfl rfl rfl (y_extract rfl rfl) ?_
        refine tk_q rfl rfl rfl (y_assign rfl) ?_
        refine tk_q rfl rfl rfl (y_assign rfl) ?_
        refine tk_nil ?_
        refine tk_then ?_
        refine tk_seq ?_
        refine tk_seq ?_
        refine tk_region ?_
        refine tk_q rfl rfl rfl (y_move rfl) ?_
        refine tk_q rfl rfl rfl ((y_neq rfl rfl).cast (bool_f (by decide))) ?_
        refine tk_nil ?_
        refine tk_then ?_
        refine tk_cond0 rfl ?_
        refine tk_skip ?_
        refine tk_then ?_
        refine tk_seq ?_
        refine tk_region ?_
        refine tk_q rfl rfl rfl (y_move rfl) ?_
        refine tk_q rfl rfl rfl (y_nilCheck rfl) ?_
        refine tk_q rfl rfl rfl (y_fld0 (o := 0) rfl (by kernel_rfl)) ?_
        refine tk_q rfl rfl rfl (y_loadA (vs := hk.map B ++ (mk.map B ++ (nk.map B ++ ([Value.pointer (some ⟨tb, 0, none⟩)])))) 97 rfl (by kernel_rfl) lenP (hseg (pre := ([] : List Value)) (post := [wbv, wlv]) (.tail _ (.tail _ (.tail _ (.head _)))) lenP (by simp))) ?_
        refine tk_q rfl rfl rfl (y_move rfl) ?_
        refine tk_act rfl ?_; refine a_slitN (vs := [v56]) rfl (List.forall_mem_cons.2 ⟨(RdS.one hf56.choose_spec), (fun _ h => nomatch h)⟩) (EL45) rfl rfl (by decide) fun b68 => ?_
        refine tk_act rfl ?_
        refine tk_perm _ (.trans (.cons _ (.trans (.cons _ (.trans (.cons _ (.trans (.cons _ (.trans (.cons _ (.trans (.cons _ (.trans (.cons _ (.trans (.cons _ (.trans (.cons _ (List.Perm.refl _)) (.swap _ _ _))) (.swap _ _ _))) (.swap _ _ _))) (.swap _ _ _))) (.swap _ _ _))) (.swap _ _ _))) (.swap _ _ _))) (.swap _ _ _))) (.swap _ _ _)) ?_
        refine tk_perm _ (.trans (.cons _ (.trans (.cons _ (.trans (.cons _ (.trans (.cons _ (.trans (.cons _ (.trans (.cons _ (.trans (.cons _ (.trans (.cons _ (.trans (.cons _ (List.Perm.refl _)) (.swap _ _ _))) (.swap _ _ _))) (.swap _ _ _))) (.swap _ _ _))) (.swap _ _ _))) (.swap _ _ _))) (.swap _ _ _))) (.swap _ _ _))) (.swap _ _ _)) ?_
        refine tk_perm _ (.trans (.cons _ (.trans (.cons _ (.trans (.cons _ (.trans (.cons _ (.trans (.cons _ (.trans (.cons _ (.trans (.cons _ (.trans (.cons _ (.trans (.cons _ (List.Perm.refl _)) (.swap _ _ _))) (.swap _ _ _))) (.swap _ _ _))) (.swap _ _ _))) (.swap _ _ _))) (.swap _ _ _))) (.swap _ _ _))) (.swap _ _ _))) (.swap _ _ _)) ?_
        refine a_callv [] _ rfl (by kernel_rfl) rfl (fun w' hw' => write_spec (hk := hk) (mk := mk) (nk := nk) (name := [104, 101, 97, 100]) (L := headL sl) (kind := 104) (ps := [(v56, headL sl)]) (tb := tb) (c := c) (p := p) (vb := tvv) (vl := tlv) (b := bg) ⟨lenP, lenP, lenP⟩ ⟨lenP, lenP⟩ lenP lenP (Ro.cel (vs := [v56]) hw' (.head _) (by first | rfl | simp) rfl (by decide)) (List.forall_mem_cons.2 ⟨(Ro.own (H0 := _) hw' (.tail _ (.tail _ (.tail _ (.head _))))), (fun _ h => nomatch h)⟩) (by simp) ⟨lenP, lenP, lenP⟩ (hg.call hw') (St.pre hw')) rfl fun ⟨c69, vl69, v69⟩ hx69 => ?_
        refine tk_H [own v69 ((sealL hk mk 104 [104, 101, 97, 100] (tapeN bg p 16) (headL sl)).length) ((sealL hk mk 104 [104, 101, 97, 100] (tapeN bg p 16) (headL sl)).map B) 5 1, cel tb ([tvv, .int .u64 ((c69 : Nat) : Int), vl69]) 160, own tvv bg.length (bg.map B) 5 1, own vl69 (((tapeL bg c69).drop (p + 16)).length) (((tapeL bg c69).drop (p + 16)).map B) 5 1, cel b68 ([v56]) 26, cel o25 ([va, I 0]) 168, own va ((headL sl).length) ((headL sl).map B) 5 1, own v56 ((headL sl).length) ((headL sl).map B) 5 1, cel wb (hk.map B ++ (mk.map B ++ (nk.map B ++ ([Value.pointer (some ⟨tb, 0, none⟩), wbv, wlv])))) 117, own wbv sb.length (sb.map B) 5 1, own wlv sl.length (sl.flatMap entC) 91 35] (congrArg (fun z_ => [z_, cel tb ([tvv, .int .u64 ((c69 : Nat) : Int), vl69]) 160, own tvv bg.length (bg.map B) 5 1, own vl69 (((tapeL bg c69).drop (p + 16)).length) (((tapeL bg c69).drop (p + 16)).map B) 5 1, cel b68 ([v56]) 26, cel o25 ([va, I 0]) 168, own va ((headL sl).length) ((headL sl).map B) 5 1, own v56 ((headL sl).length) ((headL sl).map B) 5 1, cel wb (hk.map B ++ (mk.map B ++ (nk.map B ++ ([Value.pointer (some ⟨tb, 0, none⟩), wbv, wlv])))) 117, own wbv sb.length (sb.map B) 5 1, own wlv sl.length (sl.flatMap entC) 91 35]) (show own v69 (((sealF hk mk 104 [104, 101, 97, 100] (tapeN bg p 16) (headL sl)).1).length) (((sealF hk mk 104 [104, 101, 97, 100] (tapeN bg p 16) (headL sl)).1).map B) 5 1 = own v69 ((sealL hk mk 104 [104, 101, 97, 100] (tapeN bg p 16) (headL sl)).length) ((sealL hk mk 104 [104, 101, 97, 100] (tapeN bg p 16) (headL sl)).map B) 5 1 from ownM_cast (by rw [sealF_ok lenP lenP]))) ?_
        refine tk_re 69 (.tuple #[v69, I (((sealF hk mk 104 [104, 101, 97, 100] (tapeN bg p 16) (headL sl)).2 : Nat) : Int)]) (.tuple #[v69, I 0]) rfl (by rw [sealF_ok lenP lenP]; rfl) ?_
        have hslv69 : (sealL hk mk 104 [104, 101, 97, 100] (tapeN bg p 16) (headL sl)).length = (headL sl).length + 48 := sealL_len tapeN_len
        refine tk_own1 (.head _) fun hfv69 => ?_
        refine tk_q rfl rfl rfl (y_move rfl) ?_
        refine tk_q rfl rfl rfl (y_extract rfl rfl) ?_
        refine tk_q rfl rfl rfl (y_extract rfl rfl) ?_
        refine tk_q rfl rfl rfl (y_assign rfl) ?_
        refine tk_q rfl rfl rfl (y_assign rfl) ?_
        refine tk_nil ?_
        refine tk_then ?_
        refine tk_seq ?_
        refine tk_seq ?_
        refine tk_region ?_
        refine tk_q rfl rfl rfl (y_move rfl) ?_
        refine tk_q rfl rfl rfl ((y_neq rfl rfl).cast (bool_f (by decide))) ?_
        refine tk_nil ?_
        refine tk_then ?_
        refine tk_cond0 rfl ?_
        refine tk_skip ?_
        refine tk_then ?_
        refine tk_seq ?_
        refine tk_region ?_
        refine tk_q rfl rfl rfl (y_move rfl) ?_
        refine tk_qe (I (((headL sl).length + 48 : Nat) : Int)) rfl rfl rfl (y_lenRN (n' := (sealL hk mk 104 [104, 101, 97, 100] (tapeN bg p 16) (headL sl)).length) rfl hfv69.choose_spec rfl (by first | rfl | (rw [List.length_map]; omega) | simp)) (by rw [hslv69]) ?_
        refine tk_q rfl rfl rfl (y_assign rfl) ?_
        refine tk_nil ?_
        refine tk_then ?_
        refine tk_seq ?_
        refine tk_region ?_
        refine tk_q rfl rfl rfl (y_move rfl) ?_
        refine tk_q rfl rfl rfl (y_nilCheck rfl) ?_
        refine tk_q rfl rfl rfl (y_fldN (o := 0) 97 rfl (by kernel_rfl)) ?_
        refine tk_q rfl rfl rfl (y_load rfl rfl (hc (o := 97) (.tail _ (.tail _ (.tail _ (.tail _ (.tail _ (.tail _ (.tail _ (.tail _ (.head _))))))))) (gA (k := 32) (i := 65) (by rw [List.length_map]; exact hk32) (by omega) (gA (k := 32) (i := 33) (by rw [List.length_map]; exact mk32) (by omega) (gA (k := 32) (i := 1) (by rw [List.length_map]; exact nk32) (by omega) (rfl)))))) ?_
        refine tk_q rfl rfl rfl (y_move rfl) ?_
        refine tk_q rfl rfl rfl (y_move rfl) ?_
        refine tk_q rfl rfl rfl (y_shrN (k := .i64) (k' := .u64) (a := (headL sl).length + 48) (m := 24) rfl rfl (by decide)) ?_
        refine tk_q rfl rfl rfl (y_convi8 (m := ((headL sl).length + 48) / 2 ^ 24) rfl rfl rfl) ?_
        refine tk_q rfl rfl rfl (y_move rfl) ?_
        refine tk_q rfl rfl rfl (y_shrN (k := .i64) (k' := .u64) (a := (headL sl).length + 48) (m := 16) rfl rfl (by decide)) ?_
        refine tk_q rfl rfl rfl (y_convi8 (m := ((headL sl).length + 48) / 2 ^ 16) rfl rfl rfl) ?_
        refine tk_q rfl rfl rfl (y_move rfl) ?_
        refine tk_q rfl rfl rfl (y_shrN (k := .i64) (k' := .u64) (a := (headL sl).length + 48) (m := 8) rfl rfl (by decide)) ?_
        refine tk_q rfl rfl rfl (y_convi8 (m := ((headL sl).length + 48) / 2 ^ 8) rfl rfl rfl) ?_
        refine tk_q rfl rfl rfl (y_move rfl) ?_
        refine tk_q rfl rfl rfl (y_convi8 (m := (headL sl).length + 48) rfl rfl rfl) ?_
        refine tk_act rfl ?_; refine a_slitN (vs := [B (UInt8.ofNat (((headL sl).length + 48) / 2 ^ 24)), B (UInt8.ofNat (((headL sl).length + 48) / 2 ^ 16)), B (UInt8.ofNat (((headL sl).length + 48) / 2 ^ 8)), B (UInt8.ofNat ((headL sl).length + 48))]) rfl (List.forall_mem_cons.2 ⟨rfl, (List.forall_mem_cons.2 ⟨rfl, (List.forall_mem_cons.2 ⟨rfl, (List.forall_mem_cons.2 ⟨rfl, (fun _ h => nomatch h)⟩)⟩)⟩)⟩) (EL26) rfl rfl (by decide) fun b93 => ?_
        refine tk_act rfl ?_; refine a_slitN (vs := [wbv, v69, .slice (some ⟨b93, 0, none⟩) 4 4]) rfl (List.forall_mem_cons.2 ⟨(RdS.one hfb.choose_spec), (List.forall_mem_cons.2 ⟨(RdS.one hfv69.choose_spec), (List.forall_mem_cons.2 ⟨rfl, (fun _ h => nomatch h)⟩)⟩)⟩) (EL45) rfl rfl (by decide) fun b94 => ?_
        refine tk_act rfl ?_; refine a_callv [] _ rfl (by kernel_rfl) rfl (fun w' hw' => concat_spec (ps := [(wbv, sb), (v69, sealL hk mk 104 [104, 101, 97, 100] (tapeN bg p 16) (headL sl)), (.slice (some ⟨b93, 0, none⟩) 4 4, [UInt8.ofNat (((headL sl).length + 48) / 2 ^ 24), UInt8.ofNat (((headL sl).length + 48) / 2 ^ 16), UInt8.ofNat (((headL sl).length + 48) / 2 ^ 8), UInt8.ofNat ((headL sl).length + 48)])]) (L := sb ++ (sealL hk mk 104 [104, 101, 97, 100] (tapeN bg p 16) (headL sl)) ++ [UInt8.ofNat (((headL sl).length + 48) / 2 ^ 24), UInt8.ofNat (((headL sl).length + 48) / 2 ^ 16), UInt8.ofNat (((headL sl).length + 48) / 2 ^ 8), UInt8.ofNat ((headL sl).length + 48)]) (Ro.cel (vs := [wbv, v69, .slice (some ⟨b93, 0, none⟩) 4 4]) hw' (.head _) (by first | rfl | simp) rfl (by decide)) (List.forall_mem_cons.2 ⟨(Ro.own (H0 := []) hw' (.tail _ (.tail _ (.tail _ (.tail _ (.tail _ (.tail _ (.tail _ (.tail _ (.tail _ (.tail _ (.tail _ (.head _))))))))))))), (List.forall_mem_cons.2 ⟨(Ro.own (H0 := []) hw' (.tail _ (.tail _ (.head _)))), (List.forall_mem_cons.2 ⟨(Ro.cel (H0 := []) (b := b93) (o := 0) (m := 4) (cp := 4) (vs := [UInt8.ofNat (((headL sl).length + 48) / 2 ^ 24), UInt8.ofNat (((headL sl).length + 48) / 2 ^ 16), UInt8.ofNat (((headL sl).length + 48) / 2 ^ 8), UInt8.ofNat ((headL sl).length + 48)].map B) hw' (.tail _ (.head _)) (rfl) (by first | rfl | exact lenP | (simp; omega)) lenP), (fun _ h => nomatch h)⟩)⟩)⟩) (by simp) ⟨lenP, lenP⟩) rfl fun v95 _ => ?_
        refine tk_H [own v95 ((packL ⟨hk, mk, nk⟩ bg ⟨sb, sl, p⟩).length) ((packL ⟨hk, mk, nk⟩ bg ⟨sb, sl, p⟩).map B) 5 1, cel b94 ([wbv, v69, .slice (some ⟨b93, 0, none⟩) 4 4]) 26, cel b93 ([B (UInt8.ofNat (((headL sl).length + 48) / 2 ^ 24)), B (UInt8.ofNat (((headL sl).length + 48) / 2 ^ 16)), B (UInt8.ofNat (((headL sl).length + 48) / 2 ^ 8)), B (UInt8.ofNat ((headL sl).length + 48))]) 5, own v69 ((sealL hk mk 104 [104, 101, 97, 100] (tapeN bg p 16) (headL sl)).length) ((sealL hk mk 104 [104, 101, 97, 100] (tapeN bg p 16) (headL sl)).map B) 5 1, cel tb ([tvv, .int .u64 ((c69 : Nat) : Int), vl69]) 160, own tvv bg.length (bg.map B) 5 1, own vl69 (((tapeL bg c69).drop (p + 16)).length) (((tapeL bg c69).drop (p + 16)).map B) 5 1, cel b68 ([v56]) 26, cel o25 ([va, I 0]) 168, own va ((headL sl).length) ((headL sl).map B) 5 1, own v56 ((headL sl).length) ((headL sl).map B) 5 1, cel wb (hk.map B ++ (mk.map B ++ (nk.map B ++ ([Value.pointer (some ⟨tb, 0, none⟩), wbv, wlv])))) 117, own wbv sb.length (sb.map B) 5 1, own wlv sl.length (sl.flatMap entC) 91 35] (congrArg (fun z_ => [z_, cel b94 ([wbv, v69, .slice (some ⟨b93, 0, none⟩) 4 4]) 26, cel b93 ([B (UInt8.ofNat (((headL sl).length + 48) / 2 ^ 24)), B (UInt8.ofNat (((headL sl).length + 48) / 2 ^ 16)), B (UInt8.ofNat (((headL sl).length + 48) / 2 ^ 8)), B (UInt8.ofNat ((headL sl).length + 48))]) 5, own v69 ((sealL hk mk 104 [104, 101, 97, 100] (tapeN bg p 16) (headL sl)).length) ((sealL hk mk 104 [104, 101, 97, 100] (tapeN bg p 16) (headL sl)).map B) 5 1, cel tb ([tvv, .int .u64 ((c69 : Nat) : Int), vl69]) 160, own tvv bg.length (bg.map B) 5 1, own vl69 (((tapeL bg c69).drop (p + 16)).length) (((tapeL bg c69).drop (p + 16)).map B) 5 1, cel b68 ([v56]) 26, cel o25 ([va, I 0]) 168, own va ((headL sl).length) ((headL sl).map B) 5 1, own v56 ((headL sl).length) ((headL sl).map B) 5 1, cel wb (hk.map B ++ (mk.map B ++ (nk.map B ++ ([Value.pointer (some ⟨tb, 0, none⟩), wbv, wlv])))) 117, own wbv sb.length (sb.map B) 5 1, own wlv sl.length (sl.flatMap entC) 91 35]) (show own v95 ((sb ++ (sealL hk mk 104 [104, 101, 97, 100] (tapeN bg p 16) (headL sl)) ++ [UInt8.ofNat (((headL sl).length + 48) / 2 ^ 24), UInt8.ofNat (((headL sl).length + 48) / 2 ^ 16), UInt8.ofNat (((headL sl).length + 48) / 2 ^ 8), UInt8.ofNat ((headL sl).length + 48)]).length) ((sb ++ (sealL hk mk 104 [104, 101, 97, 100] (tapeN bg p 16) (headL sl)) ++ [UInt8.ofNat (((headL sl).length + 48) / 2 ^ 24), UInt8.ofNat (((headL sl).length + 48) / 2 ^ 16), UInt8.ofNat (((headL sl).length + 48) / 2 ^ 8), UInt8.ofNat ((headL sl).length + 48)]).map B) 5 1 = own v95 ((packL ⟨hk, mk, nk⟩ bg ⟨sb, sl, p⟩).length) ((packL ⟨hk, mk, nk⟩ bg ⟨sb, sl, p⟩).map B) 5 1 from ownM_cast rfl)) ?_
        refine tk_own1 (.head _) fun hfp => ?_
        have hpl : (packL ⟨hk, mk, nk⟩ bg ⟨sb, sl, p⟩).length = sb.length + (headL sl).length + 52 := by simp only [packL, List.length_append, sealL_len tapeN_len, four, List.length_cons, List.length_nil]; omega
        refine tk_q rfl rfl rfl (y_assign rfl) ?_
        refine tk_nil ?_
        refine tk_then ?_
        refine tk_seq ?_
        refine tk_region ?_
        refine tk_q rfl rfl rfl (y_move rfl) ?_
        refine tk_q rfl rfl rfl (y_nilCheck rfl) ?_
        refine tk_q rfl rfl rfl (y_fldN (o := 0) 98 rfl (by kernel_rfl)) ?_
        refine tk_q rfl rfl rfl (y_load rfl rfl (hc (o := 98) (.tail _ (.tail _ (.tail _ (.tail _ (.tail _ (.tail _ (.tail _ (.tail _ (.tail _ (.tail _ (.tail _ (.head _)))))))))))) (gA (k := 32) (i := 66) (by rw [List.length_map]; exact hk32) (by omega) (gA (k := 32) (i := 34) (by rw [List.length_map]; exact mk32) (by omega) (gA (k := 32) (i := 2) (by rw [List.length_map]; exact nk32) (by omega) (rfl)))))) ?_
        refine tk_q rfl rfl rfl (y_assign rfl) ?_
        refine tk_nil ?_
        refine tk_then ?_
        refine tk_seq ?_
        refine tk_region ?_
        refine tk_ownM0 (f := B) 5 ?_
        refine tk_ownA0 (f := entC) 35 91 ?_
        refine tk_q rfl rfl rfl (y_move rfl) ?_
        refine tk_q rfl rfl rfl (y_move rfl) ?_
        refine tk_q rfl rfl rfl (y_nilCheck rfl) ?_
        refine tk_q rfl rfl rfl (y_fldN (o := 0) 97 rfl (by kernel_rfl)) ?_
        refine tk_act rfl ?_; refine a_storeE (H1 := [_, _, _, _, _, _, _, _, _, _, _, _, _]) (o := 97) (v := .slice none 0 0) (cs' := hk.map B ++ (mk.map B ++ (nk.map B ++ ([Value.pointer (some ⟨tb, 0, none⟩), .slice none 0 0, wlv])))) rfl rfl (by kernel_rfl) (RdS.one (RdS.nil (w := default))) rfl (by first | (simp; done) | (simp; omega)) (sA (k := 32) (i := 65) (by rw [List.length_map]; exact hk32) (by omega) (sA (k := 32) (i := 33) (by rw [List.length_map]; exact mk32) (by omega) (sA (k := 32) (i := 1) (by rw [List.length_map]; exact nk32) (by omega) (rfl)))) ?_
        refine tk_q rfl rfl rfl (y_nilCheck rfl) ?_
        refine tk_q rfl rfl rfl (y_fldN (o := 0) 98 rfl (by kernel_rfl)) ?_
        refine tk_act rfl ?_; refine a_storeE (H1 := [_, _, _, _, _, _, _, _, _, _, _, _, _]) (o := 98) (v := .slice none 0 0) (cs' := hk.map B ++ (mk.map B ++ (nk.map B ++ ([Value.pointer (some ⟨tb, 0, none⟩), .slice none 0 0, .slice none 0 0])))) rfl rfl (by kernel_rfl) (RdS.one (RdS.nil (w := default))) rfl (by first | (simp; done) | (simp; omega)) (sA (k := 32) (i := 66) (by rw [List.length_map]; exact hk32) (by omega) (sA (k := 32) (i := 34) (by rw [List.length_map]; exact mk32) (by omega) (sA (k := 32) (i := 2) (by rw [List.length_map]; exact nk32) (by omega) (rfl)))) ?_
        refine tk_nil ?_
        refine tk_then ?_
        refine tk_seq ?_
        refine tk_region ?_
        refine tk_q rfl rfl rfl (y_move rfl) ?_
        refine tk_act rfl ?_; refine a_callv [] _ rfl (by kernel_rfl) rfl (fun w' hw' => name_spec (l := packL ⟨hk, mk, nk⟩ bg ⟨sb, sl, p⟩) (Ro.own (H0 := []) hw' (.tail _ (.tail _ (.head _)))) lenP (hg.call hw')) rfl fun _ _ => ?_
        refine tk_q rfl rfl rfl (y_move rfl) ?_
        refine tk_q rfl rfl rfl (y_move rfl) ?_
        refine tk_q rfl rfl rfl (y_assign rfl) ?_
        refine tk_q rfl rfl rfl (y_assign rfl) ?_
        refine tk_q rfl rfl rfl (y_assign rfl) ?_
        refine tk_q rfl rfl rfl (y_assign rfl) ?_
        refine tk_nil ?_
        refine tk_then ?_
        refine tk_retc ?_
        have hne : ¬ sl = [] := fun h => by subst h; simp at ht18
        obtain rfl : ((nameL (packL ⟨hk, mk, nk⟩ bg ⟨sb, sl, p⟩), packL ⟨hk, mk, nk⟩ bg ⟨sb, sl, p⟩, sl, 0), ⟨[], [], p + 16⟩) = q := by rw [← hq]; exact Eq.symm (closeF_ok hne)
        refine tk_perm _ (.trans (.cons _ (.trans (.cons _ (.trans (.cons _ (.trans (.cons _ (.trans (.cons _ (.trans (.cons _ (.trans (.cons _ (.trans (.cons _ (.trans (.cons _ (.trans (.cons _ (.trans (.cons _ (.trans (.cons _ (.trans (.cons _ (.trans (.cons _ (.trans (.cons _ (List.Perm.refl _)) (.swap _ _ _))) (.swap _ _ _))) (.swap _ _ _))) (.swap _ _ _))) (.swap _ _ _))) (.swap _ _ _))) (.swap _ _ _))) (.swap _ _ _))) (.swap _ _ _))) (.swap _ _ _))) (.swap _ _ _))) (.swap _ _ _))) (.swap _ _ _))) (.swap _ _ _))) (.swap _ _ _)) ?_
        refine tk_perm _ (.trans (.cons _ (.trans (.cons _ (.trans (.cons _ (List.Perm.refl _)) (.swap _ _ _))) (.swap _ _ _))) (.swap _ _ _)) ?_
        refine tk_perm _ (.trans (.cons _ (.trans (.cons _ (.trans (.cons _ (.trans (.cons _ (.trans (.cons _ (.trans (.cons _ (.trans (.cons _ (.trans (.cons _ (.trans (.cons _ (List.Perm.refl _)) (.swap _ _ _))) (.swap _ _ _))) (.swap _ _ _))) (.swap _ _ _))) (.swap _ _ _))) (.swap _ _ _))) (.swap _ _ _))) (.swap _ _ _))) (.swap _ _ _)) ?_
        refine tk_perm _ (.trans (.cons _ (.trans (.cons _ (.trans (.cons _ (.trans (.cons _ (.trans (.cons _ (.trans (.cons _ (.trans (.cons _ (.trans (.cons _ (.trans (.cons _ (List.Perm.refl _)) (.swap _ _ _))) (.swap _ _ _))) (.swap _ _ _))) (.swap _ _ _))) (.swap _ _ _))) (.swap _ _ _))) (.swap _ _ _))) (.swap _ _ _))) (.swap _ _ _)) ?_
        refine tk_perm _ (.trans (.cons _ (.trans (.cons _ (.trans (.cons _ (.trans (.cons _ (.trans (.cons _ (.trans (.cons _ (.trans (.cons _ (.trans (.cons _ (.trans (.cons _ (List.Perm.refl _)) (.swap _ _ _))) (.swap _ _ _))) (.swap _ _ _))) (.swap _ _ _))) (.swap _ _ _))) (.swap _ _ _))) (.swap _ _ _))) (.swap _ _ _))) (.swap _ _ _)) ?_
        refine tk_perm _ (.trans (.cons _ (.trans (.cons _ (.trans (.cons _ (.trans (.cons _ (.trans (.cons _ (List.Perm.refl _)) (.swap _ _ _))) (.swap _ _ _))) (.swap _ _ _))) (.swap _ _ _))) (.swap _ _ _)) ?_
        refine tk_perm _ (.trans (.cons _ (.trans (.cons _ (.trans (.cons _ (.trans (.cons _ (.trans (.cons _ (.trans (.cons _ (List.Perm.refl _)) (.swap _ _ _))) (.swap _ _ _))) (.swap _ _ _))) (.swap _ _ _))) (.swap _ _ _))) (.swap _ _ _)) ?_
        refine tk_perm _ (.trans (.cons _ (.trans (.cons _ (.trans (.cons _ (.trans (.cons _ (.trans (.cons _ (.trans (.cons _ (.trans (.cons _ (.trans (.cons _ (.trans (.cons _ (.trans (.cons _ (.trans (.cons _ (.trans (.cons _ (.trans (.cons _ (.trans (.cons _ (List.Perm.refl _)) (.swap _ _ _))) (.swap _ _ _))) (.swap _ _ _))) (.swap _ _ _))) (.swap _ _ _))) (.swap _ _ _))) (.swap _ _ _))) (.swap _ _ _))) (.swap _ _ _))) (.swap _ _ _))) (.swap _ _ _))) (.swap _ _ _))) (.swap _ _ _))) (.swap _ _ _)) ?_
        exact tk_ret ((c69, vl69, .slice none 0 0, .slice none 0 0, v95, wlv)) (by simpa using hx69) (.inl rfl) (r4 rfl rfl rfl rfl rfl) (.cons_cons _ (.cons_cons _ (.cons_cons _ (.cons_cons _ (.cons_cons _ (.cons_cons _ (.cons_cons _ (.cons_cons _ (List.nil_sublist _)))))))))
end
end Go.Proofs.YtfofkjajlfphjaaDoor
