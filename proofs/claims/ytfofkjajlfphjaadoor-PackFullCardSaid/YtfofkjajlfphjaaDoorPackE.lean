/- pack: walks over the reference's writer; both writers. -/
import Derived.Test.YtfofkjajlfphjaaDoorPackD
set_option linter.unusedSimpArgs false
set_option linter.unusedVariables false
namespace Go.Proofs.YtfofkjajlfphjaaDoor
open Go Go.RowKit
set_option maxRecDepth 100000
attribute [local irreducible] sumL keyedL hexL hidL markL sealL sealF openF tapeL tapeN idF
section
variable {hk mk nk bg sb : List UInt8} {sl : List Ent} {mb u : Nat} {mlv : Value} {w : World}
theorem radd_spec {kind : Int} {b : List UInt8} {q : (List UInt8 × Bool × Nat) × WSt} (hq : addF ⟨hk, mk, nk⟩ bg ⟨sb, sl, 16 * u⟩ kind b = q) (h3 : hk.length = 32 ∧ mk.length = 32 ∧ nk.length = 32) (hu0 : u < 10000000000) (hbg : bg.length < 1099511627776)
    (hsb : sb.length ≤ 900000) (hsl : sl.length ≤ 1000) (hb : b.length < 16777216) (hh : Pre w [cel mb (hk.map B ++ (mk.map B ++ (nk.map B ++ ([Str bg, I ((u : Nat) : Int), Str sb, mlv])))) 86, own mlv sl.length (sl.flatMap entC) 130 35]) :
    Spec Tryd.prog 39 [.pointer (some ⟨mb, 0, none⟩), I kind, Str b] w [cel mb (hk.map B ++ (mk.map B ++ (nk.map B ++ ([Str bg, I ((u : Nat) : Int), Str sb, mlv])))) 86, own mlv sl.length (sl.flatMap entC) 130 35] (fun x : Nat × Value => q.2.p = 16 * x.1) (fun _ => .tuple #[Ag q.1.1, .bool q.1.2.1, I ((q.1.2.2 : Nat) : Int)]) (fun x => [cel mb (hk.map B ++ (mk.map B ++ (nk.map B ++ ([Str bg, I ((x.1 : Nat) : Int), Str q.2.b, x.2])))) 86, own x.2 q.2.l.length (q.2.l.flatMap entC) 130 35]) := by
  refine spec_of (n := 106) Tryd.func39 rfl rfl hh.1 hh.2 rfl ?_
  obtain ⟨hk32, mk32, nk32⟩ := h3
  refine tk_ownA (.tail _ (.head _)) fun hfm => ?_
  refine tk_seq ?_
  refine tk_region ?_
  refine tk_act rfl ?_; refine a_allocL (cs := (List.replicate 32 0).map B) (by kernel_rfl) rfl fun b6 => ?_
  refine tk_q rfl rfl rfl (y_assign rfl) ?_
  refine tk_q rfl rfl rfl (y_assign rfl) ?_
  refine tk_nil ?_
  refine tk_then ?_
  refine tk_seqI (X := Unit) (fun _ => kind = 1 ∨ kind = 2) (fun _ => [(0, .pointer (some ⟨mb, 0, none⟩)), (1, I (kind)), (2, Str b), (6, .pointer (some ⟨b6, 0, none⟩))]) (fun _ => [cel b6 ((List.replicate 32 0).map B) 65, cel mb (hk.map B ++ (mk.map B ++ (nk.map B ++ ([Str bg, I ((u : Nat) : Int), Str sb, mlv])))) 86, own mlv sl.length (sl.flatMap entC) 130 35]) ?_ ?_
  · skip
    refine tk_seq ?_
    refine tk_region ?_
    refine tk_q rfl rfl rfl (y_move rfl) ?_
    refine tk_qs rfl rfl rfl (y_neq rfl rfl) (fun hs1_1 => ?_) (fun hs1_1 => ?_)
    · skip
      refine tk_q rfl rfl rfl (y_move rfl) ?_
      refine tk_gq rfl rfl rfl (y_move rfl) ?_
      refine tk_gq rfl rfl rfl (y_neq rfl rfl) ?_
      refine tk_q rfl rfl rfl (y_pick1 rfl rfl) ?_
      refine tk_nil ?_
      refine tk_then ?_
      refine tk_condP rfl (fun ht17 => ?_) (fun ht17 => ?_)
      · skip
        refine tk_seq ?_
        refine tk_region ?_
        refine tk_q rfl rfl rfl (y_build (v := .agg ((List.replicate 32 0 : List UInt8).map B).toArray) (vs := []) rfl (fun _ => by kernel_rfl)) ?_
        refine tk_act rfl ?_; refine a_storeW (H1 := []) (vs := (List.replicate 32 0 : List UInt8).map B) 32 rfl rfl (by kernel_rfl) rfl ⟨lenP, lenP⟩ oneB ?_
        refine tk_q rfl rfl rfl (y_assign rfl) ?_
        refine tk_q rfl rfl rfl (y_assign rfl) ?_
        refine tk_nil ?_
        refine tk_then ?_
        refine tk_retc ?_
        refine tk_then_ret ?_
        obtain rfl : ((Z32L, false, 1), ⟨sb, sl, 16 * u⟩) = q := by rw [← hq]; exact Eq.symm (addF_kind (fun h => by omega))
        exact tk_ret ((u, mlv)) (rfl) (.inl rfl) (rctt (vs := (List.replicate 32 0 : List UInt8).map B) rfl rfl (by first | (rw [List.length_map, hidl]; kernel_rfl) | (simp; kernel_rfl)) (hcw (.head _)) rfl rfl) (.cons _ (List.Sublist.refl _))
      · skip
        refine tk_skip ?_
        exact tk_to (()) (by omega) (by repeat (first | exact trivial | refine ⟨rfl, ?_⟩)) (List.Sublist.refl _)
    · skip
      refine tk_q rfl rfl rfl (y_move rfl) ?_
      refine tk_gno rfl rfl rfl ?_
      refine tk_gno rfl rfl rfl ?_
      refine tk_q rfl rfl rfl (y_pick0 rfl rfl) ?_
      refine tk_nil ?_
      refine tk_then ?_
      refine tk_cond0 rfl ?_
      refine tk_skip ?_
      exact tk_to (()) (by omega) (by repeat (first | exact trivial | refine ⟨rfl, ?_⟩)) (List.Sublist.refl _)
  · rintro _ hI
    try dsimp only at hI ⊢
    obtain ⟨kn, rfl, hkn⟩ : ∃ kn : Nat, kind = (kn : Int) ∧ (kn = 1 ∨ kn = 2) := hI.elim (fun h => ⟨1, h, .inl rfl⟩) (fun h => ⟨2, h, .inr rfl⟩)
    have hk12 : (kn : Int) = 1 ∨ (kn : Int) = 2 := by omega
    refine tk_seq ?_
    refine tk_seq ?_
    refine tk_region ?_
    refine tk_q rfl rfl rfl (y_move rfl) ?_
    refine tk_q rfl rfl rfl (y_lenStr (l := b) rfl rfl) ?_
    refine tk_q rfl rfl rfl (y_gtr rfl rfl) ?_
    refine tk_nil ?_
    refine tk_then ?_
    refine tk_condP rfl (fun ht21 => ?_) (fun ht21 => ?_)
    · skip
      refine tk_seq ?_
      refine tk_region ?_
      refine tk_q rfl rfl rfl (y_build (v := .agg ((List.replicate 32 0 : List UInt8).map B).toArray) (vs := []) rfl (fun _ => by kernel_rfl)) ?_
      refine tk_act rfl ?_; refine a_storeW (H1 := []) (vs := (List.replicate 32 0 : List UInt8).map B) 32 rfl rfl (by kernel_rfl) rfl ⟨lenP, lenP⟩ oneB ?_
      refine tk_q rfl rfl rfl (y_assign rfl) ?_
      refine tk_q rfl rfl rfl (y_assign rfl) ?_
      refine tk_nil ?_
      refine tk_then ?_
      refine tk_retc ?_
      refine tk_then_ret ?_
      obtain rfl : ((Z32L, false, 4), ⟨sb, sl, 16 * u⟩) = q := by rw [← hq]; exact Eq.symm (addF_big hk12 (by omega))
      exact tk_ret ((u, mlv)) (rfl) (.inl rfl) (rctt (vs := (List.replicate 32 0 : List UInt8).map B) rfl rfl (by first | (rw [List.length_map, hidl]; kernel_rfl) | (simp; kernel_rfl)) (hcw (.head _)) rfl rfl) (.cons _ (List.Sublist.refl _))
    · skip
      refine tk_skip ?_
      refine tk_then ?_
      refine tk_seq ?_
      refine tk_region ?_
      refine tk_q rfl rfl rfl (y_move rfl) ?_
      refine tk_q rfl rfl rfl (y_nilCheck rfl) ?_
      refine tk_q rfl rfl rfl (y_fld0 (o := 0) rfl (by kernel_rfl)) ?_
      refine tk_q rfl rfl rfl (y_loadA (vs := hk.map B ++ (mk.map B ++ (nk.map B))) 96 rfl (by kernel_rfl) lenP (hseg (pre := ([] : List Value)) (post := [Str bg, I ((u : Nat) : Int), Str sb, mlv]) (.tail _ (.head _)) lenP (by simp))) ?_
      refine tk_q rfl rfl rfl (y_move rfl) ?_
      refine tk_q rfl rfl rfl (y_convi8 (m := kn) rfl rfl rfl) ?_
      refine tk_q rfl rfl rfl (y_move rfl) ?_
      refine tk_act rfl ?_; refine a_callv [] _ rfl (by kernel_rfl) rfl (fun w' hw' => docid_spec (hk := hk) (mk := mk) (nk := nk) (kind := UInt8.ofNat kn) (l := b) ⟨lenP, lenP, lenP⟩ lenP) rfl fun _ _ => ?_
      obtain ⟨idl, hid⟩ : ∃ l, idF nk (UInt8.ofNat kn) b = l := ⟨_, rfl⟩
      have hidl : idl.length = 32 := by rw [← hid]; exact idF_len
      have hx64 : (hexL idl).length = 64 := by rw [hexL_len, hidl]
      have hnb : ¬ 131072 < b.length := by omega
      refine tk_re 30 (.agg ((idF nk (UInt8.ofNat kn) b).map B).toArray) (.agg (idl.map B).toArray) rfl (by rw [hid]) ?_
      refine tk_act rfl ?_; refine a_allocL (cs := (List.replicate 32 0).map B) (by kernel_rfl) rfl fun b9 => ?_
      refine tk_act rfl ?_; refine a_storeW (H1 := []) (vs := idl.map B) 32 rfl rfl (by kernel_rfl) rfl ⟨lenP, lenP⟩ oneB ?_
      refine tk_nil ?_
      refine tk_then ?_
      refine tk_seq ?_
      refine tk_seq ?_
      refine tk_region ?_
      refine tk_q rfl rfl rfl (y_assign rfl) ?_
      refine tk_nil ?_
      refine tk_then ?_
      refine tk_block ?_
      refine tk_loop (X := Nat) (fun i => i ≤ sl.length ∧ ∀ j, j < i → ¬ (sl.getD j dEnt).id = idl) (fun i => [(0, .pointer (some ⟨mb, 0, none⟩)), (1, I ((kn : Nat) : Int)), (2, Str b), (6, .pointer (some ⟨b6, 0, none⟩)), (9, .pointer (some ⟨b9, 0, none⟩)), (10, I ((i : Nat) : Int))]) (fun i => [cel b9 (idl.map B) 65, cel b6 ((List.replicate 32 0).map B) 65, cel mb (hk.map B ++ (mk.map B ++ (nk.map B ++ ([Str bg, I ((u : Nat) : Int), Str sb, mlv])))) 86, own mlv sl.length (sl.flatMap entC) 130 35]) (fun i => sl.length - i) (0) (⟨Nat.zero_le _, fun _ h => absurd h (by omega)⟩) (by repeat (first | exact trivial | refine ⟨rfl, ?_⟩)) ((List.Sublist.refl _)) ?_
      rintro i hI
      try dsimp only at hI ⊢
      refine tk_seq ?_
      refine tk_seq ?_
      refine tk_region ?_
      refine tk_q rfl rfl rfl (y_move rfl) ?_
      refine tk_q rfl rfl rfl (y_move rfl) ?_
      refine tk_q rfl rfl rfl (y_nilCheck rfl) ?_
      refine tk_q rfl rfl rfl (y_fldN (o := 0) 99 rfl (by kernel_rfl)) ?_
      refine tk_q rfl rfl rfl (y_load rfl rfl (hc (o := 99) (.tail _ (.tail _ (.head _))) (gA (k := 32) (i := 67) (by rw [List.length_map]; exact hk32) (by omega) (gA (k := 32) (i := 35) (by rw [List.length_map]; exact mk32) (by omega) (gA (k := 32) (i := 3) (by rw [List.length_map]; exact nk32) (by omega) (rfl)))))) ?_
      refine tk_q rfl rfl rfl (y_lenE rfl hfm.choose_spec rfl) ?_
      refine tk_q rfl rfl rfl (y_lss rfl rfl) ?_
      refine tk_nil ?_
      refine tk_then ?_
      refine tk_condP rfl (fun ht37 => ?_) (fun ht37 => ?_)
      · skip
        have heh : (sl.getD i dEnt).id.length = 32 := (sl.getD i dEnt).h
        refine tk_skip ?_
        refine tk_then ?_
        refine tk_seq ?_
        refine tk_block ?_
        refine tk_seq ?_
        refine tk_drawH [cel b9 (idl.map B) 65, cel b6 ((List.replicate 32 0).map B) 65, cel mb (hk.map B ++ (mk.map B ++ (nk.map B ++ ([Str bg, I ((u : Nat) : Int), Str sb, mlv])))) 86, own mlv sl.length (sl.flatMap entC) 130 35] [] (by kernel_rfl) ?_
        refine tx_q 0 rfl (by kernel_rfl) rfl rfl rfl (fun _ _ _ h => h) (y_move rfl) ?_
        refine tx_q 1 rfl (by kernel_rfl) rfl rfl rfl (fun _ _ _ h => h) (y_nilCheck rfl) ?_
        refine tx_q 2 rfl (by kernel_rfl) rfl rfl rfl (fun _ _ _ h => h) (y_fldN (o := 0) 99 rfl (by kernel_rfl)) ?_
        refine tx_l 3 rfl (by kernel_rfl) (by kernel_rfl) rfl rfl rfl (fun _ _ _ h => h) (fun _ h => h.sub (List.Sublist.refl _)) (y_load rfl rfl (hc (o := 99) (.tail _ (.tail _ (.head _))) (gA (k := 32) (i := 67) (by rw [List.length_map]; exact hk32) (by omega) (gA (k := 32) (i := 35) (by rw [List.length_map]; exact mk32) (by omega) (gA (k := 32) (i := 3) (by rw [List.length_map]; exact nk32) (by omega) (rfl)))))) ?_
        refine tx_q 4 rfl (by kernel_rfl) rfl rfl rfl (fun _ _ _ h => h) (y_move rfl) ?_
        refine tx_q 5 rfl (by kernel_rfl) rfl rfl rfl (fun _ _ _ h => h) (y_ixE (i := i) (k := 35) rfl rfl hfm.choose_spec lenP (by kernel_rfl)) ?_
        refine tx_q 6 rfl (by kernel_rfl) rfl rfl rfl (fun _ _ _ h => h) (y_fldE (o := i * 35 + 0) (off := 0) rfl (by kernel_rfl)) ?_
        refine tx_l 7 rfl (by kernel_rfl) (by kernel_rfl) rfl rfl rfl (fun _ _ _ h => h) (fun _ h => h.sub (List.Sublist.refl _)) (y_loadE (i := i) (k := 35) (o := 0) (f := entC) (l := sl) (d0 := dEnt) (vs := ((sl.getD i dEnt).id).map B) 32 rfl (by kernel_rfl) (by rw [List.length_map]; exact (sl.getD i dEnt).h) entC_len lenP (ent_id _) (fun w hw => own_rdC (hw.mem (.tail _ (.tail _ (.tail _ (.head _))))))) ?_
        refine tx_l 8 rfl (by kernel_rfl) (by kernel_rfl) rfl rfl rfl (fun _ _ _ h => h) (fun _ h => h.sub (List.Sublist.refl _)) (y_loadA 32 rfl (by kernel_rfl) lenP (hcw (.head _))) ?_
        refine tx_q 9 rfl (by kernel_rfl) rfl rfl rfl (fun _ _ _ h => h) (y_agEq (l := (sl.getD i dEnt).id) (m := idl) rfl rfl Tryd.underlying65 Tryd.underlying5 (by kernel_rfl) (by kernel_rfl) ⟨(sl.getD i dEnt).h, hidl⟩) ?_
        refine tx_done (by kernel_rfl) ?_
        refine tk_then ?_
        refine tk_condP rfl (fun ht49 => ?_) (fun ht49 => ?_)
        · skip
          refine tk_seq ?_
          refine tk_region ?_
          refine tk_q rfl rfl rfl (y_loadA 32 rfl (by kernel_rfl) lenP (hcw (.head _))) ?_
          refine tk_act rfl ?_; refine a_storeW (H1 := [_]) (vs := idl.map B) 32 rfl rfl (by kernel_rfl) rfl ⟨lenP, lenP⟩ oneB ?_
          refine tk_q rfl rfl rfl (y_assign rfl) ?_
          refine tk_q rfl rfl rfl (y_assign rfl) ?_
          refine tk_nil ?_
          refine tk_then ?_
          refine tk_retc ?_
          refine tk_in_ret ?_
          refine tk_then_ret ?_
          refine tk_then_ret ?_
          refine tk_in_ret ?_
          refine tk_then_ret ?_
          obtain rfl : ((idl, false, 0), ⟨sb, sl, 16 * u⟩) = q := by rw [← hq]; subst hid; exact Eq.symm (addF_has hk12 hnb (by exact has_at (l := sl) (by omega) ht49))
          exact tk_ret ((u, mlv)) (rfl) (.inl rfl) (rctt (vs := idl.map B) rfl rfl (by first | (rw [List.length_map, hidl]; kernel_rfl) | (simp; kernel_rfl)) (hcw (.tail _ (.head _))) rfl rfl) (.cons _ (.cons _ (List.Sublist.refl _)))
        · skip
          refine tk_skip ?_
          refine tk_in_normal ?_
          refine tk_then ?_
          refine tk_region ?_
          refine tk_q rfl rfl rfl (y_move rfl) ?_
          refine tk_q rfl rfl rfl (y_addN (a := i) (b := 1) rfl rfl (by omega)) ?_
          refine tk_q rfl rfl rfl (y_assign rfl) ?_
          refine tk_nil ?_
          exact tk_again (i + 1) (⟨by omega, fun j hj => (Nat.lt_or_ge j i).elim (hI.2 j) (fun h => by rw [show j = i by omega]; exact ht49)⟩) (by first | omega | (dsimp only; omega)) (by repeat (first | exact trivial | refine ⟨rfl, ?_⟩)) (List.Sublist.refl _)
      · skip
        refine tk_exit ?_
        refine tk_then_exit ?_
        refine tk_then_exit ?_
        refine tk_in_hit ?_
        refine tk_then ?_
        refine tk_seq ?_
        refine tk_seq ?_
        refine tk_region ?_
        refine tk_q rfl rfl rfl (y_move rfl) ?_
        refine tk_q rfl rfl rfl (y_nilCheck rfl) ?_
        refine tk_q rfl rfl rfl (y_fldN (o := 0) 99 rfl (by kernel_rfl)) ?_
        refine tk_q rfl rfl rfl (y_load rfl rfl (hc (o := 99) (.tail _ (.tail _ (.head _))) (gA (k := 32) (i := 67) (by rw [List.length_map]; exact hk32) (by omega) (gA (k := 32) (i := 35) (by rw [List.length_map]; exact mk32) (by omega) (gA (k := 32) (i := 3) (by rw [List.length_map]; exact nk32) (by omega) (rfl)))))) ?_
        refine tk_q rfl rfl rfl (y_lenE rfl hfm.choose_spec rfl) ?_
        refine tk_qs rfl rfl rfl (y_geq rfl rfl) (fun hs11_5 => ?_) (fun hs11_5 => ?_)
        · skip
          refine tk_q rfl rfl rfl (y_move rfl) ?_
          refine tk_gno rfl rfl rfl ?_
          refine tk_gno rfl rfl rfl ?_
          refine tk_gno rfl rfl rfl ?_
          refine tk_gno rfl rfl rfl ?_
          refine tk_gno rfl rfl rfl ?_
          refine tk_gno rfl rfl rfl ?_
          refine tk_gno rfl rfl rfl ?_
          refine tk_gno rfl rfl rfl ?_
          refine tk_gno rfl rfl rfl ?_
          refine tk_gno rfl rfl rfl ?_
          refine tk_q rfl rfl rfl (y_pick1 rfl rfl) ?_
          refine tk_nil ?_
          refine tk_then ?_
          refine tk_cond1 rfl ?_
          refine tk_seq ?_
          refine tk_region ?_
          refine tk_q rfl rfl rfl (y_build (v := .agg ((List.replicate 32 0 : List UInt8).map B).toArray) (vs := []) rfl (fun _ => by kernel_rfl)) ?_
          refine tk_act rfl ?_; refine a_storeW (H1 := [_]) (vs := (List.replicate 32 0 : List UInt8).map B) 32 rfl rfl (by kernel_rfl) rfl ⟨lenP, lenP⟩ oneB ?_
          refine tk_q rfl rfl rfl (y_assign rfl) ?_
          refine tk_q rfl rfl rfl (y_assign rfl) ?_
          refine tk_nil ?_
          refine tk_then ?_
          refine tk_retc ?_
          refine tk_then_ret ?_
          have hnf : hasE sl idl = false := has_none (fun j hj => hI.2 j (by omega))
          obtain rfl : ((Z32L, false, 8), ⟨sb, sl, 16 * u⟩) = q := by rw [← hq]; subst hid; exact Eq.symm (addF_full hk12 hnb (by exact hnf) (.inl (by dsimp only; omega)))
          exact tk_ret ((u, mlv)) (rfl) (.inl rfl) (rctt (vs := (List.replicate 32 0 : List UInt8).map B) rfl rfl (by first | (rw [List.length_map, hidl]; kernel_rfl) | (simp; kernel_rfl)) (hcw (.tail _ (.head _))) rfl rfl) (.cons _ (.cons _ (List.Sublist.refl _)))
        · skip
          refine tk_q rfl rfl rfl (y_move rfl) ?_
          refine tk_gq rfl rfl rfl (y_move rfl) ?_
          refine tk_gq rfl rfl rfl (y_lenStr (l := b) rfl rfl) ?_
          refine tk_gq rfl rfl rfl (y_addN (a := b.length) (b := 48) rfl rfl (by omega)) ?_
          refine tk_gq rfl rfl rfl (y_move rfl) ?_
          refine tk_gq rfl rfl rfl (y_nilCheck rfl) ?_
          refine tk_gq rfl rfl rfl (y_fldN (o := 0) 98 rfl (by kernel_rfl)) ?_
          refine tk_gq rfl rfl rfl (y_load rfl rfl (hc (o := 98) (.tail _ (.tail _ (.head _))) (gA (k := 32) (i := 66) (by rw [List.length_map]; exact hk32) (by omega) (gA (k := 32) (i := 34) (by rw [List.length_map]; exact mk32) (by omega) (gA (k := 32) (i := 2) (by rw [List.length_map]; exact nk32) (by omega) (rfl)))))) ?_
          refine tk_gq rfl rfl rfl (y_lenStr (l := sb) rfl rfl) ?_
          refine tk_gq rfl rfl rfl (y_subN (a := 900000) (b := sb.length) rfl rfl (by omega)) ?_
          refine tk_gq rfl rfl rfl (y_gtr rfl rfl) ?_
          refine tk_q rfl rfl rfl (y_pick0 rfl rfl) ?_
          refine tk_nil ?_
          refine tk_then ?_
          refine tk_condP rfl (fun ht68 => ?_) (fun ht68 => ?_)
          · skip
            refine tk_seq ?_
            refine tk_region ?_
            refine tk_q rfl rfl rfl (y_build (v := .agg ((List.replicate 32 0 : List UInt8).map B).toArray) (vs := []) rfl (fun _ => by kernel_rfl)) ?_
            refine tk_act rfl ?_; refine a_storeW (H1 := [_]) (vs := (List.replicate 32 0 : List UInt8).map B) 32 rfl rfl (by kernel_rfl) rfl ⟨lenP, lenP⟩ oneB ?_
            refine tk_q rfl rfl rfl (y_assign rfl) ?_
            refine tk_q rfl rfl rfl (y_assign rfl) ?_
            refine tk_nil ?_
            refine tk_then ?_
            refine tk_retc ?_
            refine tk_then_ret ?_
            have hnf : hasE sl idl = false := has_none (fun j hj => hI.2 j (by omega))
            obtain rfl : ((Z32L, false, 8), ⟨sb, sl, 16 * u⟩) = q := by rw [← hq]; subst hid; exact Eq.symm (addF_full hk12 hnb (by exact hnf) (.inr (by dsimp only; omega)))
            exact tk_ret ((u, mlv)) (rfl) (.inl rfl) (rctt (vs := (List.replicate 32 0 : List UInt8).map B) rfl rfl (by first | (rw [List.length_map, hidl]; kernel_rfl) | (simp; kernel_rfl)) (hcw (.tail _ (.head _))) rfl rfl) (.cons _ (.cons _ (List.Sublist.refl _)))
          · skip
            refine tk_skip ?_
            refine tk_then ?_
            refine tk_seq ?_
            refine tk_region ?_
            refine tk_q rfl rfl rfl (y_move rfl) ?_
            refine tk_q rfl rfl rfl (y_move rfl) ?_
            refine tk_q rfl rfl rfl (y_cutA (m := 32) (sz := 1) rfl (by kernel_rfl)) ?_
            refine tk_q rfl rfl rfl (y_str (l := idl) rfl rfl rfl rfl (fun w hw => cel_rdE (o := 0) (m := 32) (cp := 32) (vs := idl.map B) (hw.mem (.head _)) (dsW) (by first | rfl | exact lenP | (simp; omega)) lenP)) ?_
            refine tk_act rfl ?_; refine a_callv [] _ rfl (by kernel_rfl) rfl (fun w' hw' => rtext_spec (l := idl) lenP) rfl fun _ _ => ?_
            refine tk_q rfl rfl rfl (y_move rfl) ?_
            refine tk_act rfl ?_
            refine tk_perm _ (.trans (.cons _ (.trans (.cons _ (List.Perm.refl _)) (.swap _ _ _))) (.swap _ _ _)) ?_
            refine a_callv [] _ rfl (by kernel_rfl) rfl (fun w' hw' => rwrite_spec (hk := hk) (mk := mk) (nk := nk) (mb := mb) (bg := bg) (u := u) (B_ := sb) (ml := mlv) (k := kn) (name := hexL idl) (l := b) ⟨lenP, lenP, lenP⟩ ⟨lenP, lenP, lenP, lenP⟩ (St.pre hw')) rfl fun _ _ => ?_
            have hslr : (sealL hk mk (UInt8.ofNat kn) (hexL idl) (tapeN bg (16 * u) 16) b).length = b.length + 48 := sealL_len tapeN_len
            refine tk_re 76 (Str ((sealF hk mk (UInt8.ofNat kn) (hexL idl) (tapeN bg (16 * u) 16) b).1)) (Str (sealL hk mk (UInt8.ofNat kn) (hexL idl) (tapeN bg (16 * u) 16) b)) rfl (by rw [sealF_ok lenP lenP]) ?_
            refine tk_q rfl rfl rfl (y_assign rfl) ?_
            refine tk_nil ?_
            refine tk_then ?_
            refine tk_seq ?_
            refine tk_drawH [cel mb (hk.map B ++ (mk.map B ++ (nk.map B ++ ([Str bg, I ((u + 1 : Nat) : Int), Str sb, mlv])))) 86, cel b9 (idl.map B) 65, cel b6 ((List.replicate 32 0).map B) 65] [19] (by kernel_rfl) ?_
            refine tx_q 0 rfl (by kernel_rfl) rfl rfl rfl (fun _ _ _ h => h) (y_move rfl) ?_
            refine tx_q 1 rfl (by kernel_rfl) rfl rfl rfl (fun _ _ _ h => h) (y_move rfl) ?_
            refine tx_q 2 rfl (by kernel_rfl) rfl rfl rfl (fun _ _ _ h => h) (y_nilCheck rfl) ?_
            refine tx_q 3 rfl (by kernel_rfl) rfl rfl rfl (fun _ _ _ h => h) (y_fldN (o := 0) 99 rfl (by kernel_rfl)) ?_
            refine tx_l 4 rfl (by kernel_rfl) (by kernel_rfl) rfl rfl rfl (fun _ _ _ h => h) (fun _ h => h.sub (.cons_cons _ (.cons_cons _ (.cons_cons _ (List.nil_sublist _))))) (y_load rfl rfl (hc (o := 99) (.head _) (gA (k := 32) (i := 67) (by rw [List.length_map]; exact hk32) (by omega) (gA (k := 32) (i := 35) (by rw [List.length_map]; exact mk32) (by omega) (gA (k := 32) (i := 3) (by rw [List.length_map]; exact nk32) (by omega) (rfl)))))) ?_
            refine tx_l 5 rfl (by kernel_rfl) (by kernel_rfl) rfl rfl rfl (fun _ _ _ h => h) (fun _ h => h.sub (.cons_cons _ (.cons_cons _ (.cons_cons _ (List.nil_sublist _))))) (y_loadA 32 rfl (by kernel_rfl) lenP (hcw (.tail _ (.head _)))) ?_
            refine tx_q 6 rfl (by kernel_rfl) rfl rfl rfl (fun _ _ _ h => h) (y_move rfl) ?_
            refine tx_q 7 rfl (by kernel_rfl) rfl rfl rfl (fun _ _ _ h => h) (y_move rfl) ?_
            refine tx_q 8 rfl (by kernel_rfl) rfl rfl rfl (fun _ _ _ h => h) (y_nilCheck rfl) ?_
            refine tx_q 9 rfl (by kernel_rfl) rfl rfl rfl (fun _ _ _ h => h) (y_fldN (o := 0) 98 rfl (by kernel_rfl)) ?_
            refine tx_l 10 rfl (by kernel_rfl) (by kernel_rfl) rfl rfl rfl (fun _ _ _ h => h) (fun _ h => h.sub (.cons_cons _ (.cons_cons _ (.cons_cons _ (List.nil_sublist _))))) (y_load rfl rfl (hc (o := 98) (.head _) (gA (k := 32) (i := 66) (by rw [List.length_map]; exact hk32) (by omega) (gA (k := 32) (i := 34) (by rw [List.length_map]; exact mk32) (by omega) (gA (k := 32) (i := 2) (by rw [List.length_map]; exact nk32) (by omega) (rfl)))))) ?_
            refine tx_q 11 rfl (by kernel_rfl) rfl rfl rfl (fun _ _ _ h => h) (y_lenStr (l := sb) rfl rfl) ?_
            refine tx_q 12 rfl (by kernel_rfl) rfl rfl rfl (fun _ _ _ h => h) (y_move rfl) ?_
            refine tx_q 13 rfl (by kernel_rfl) rfl rfl rfl (fun _ _ _ h => h) ((y_lenStr (l := sealL hk mk (UInt8.ofNat kn) (hexL idl) (tapeN bg (16 * u) 16) b) rfl rfl).cast (v := _) (u := I ((b.length + 48 : Nat) : Int)) (by rw [hslr])) ?_
            refine tx_q 14 rfl (by kernel_rfl) rfl rfl rfl (fun _ _ _ h => h) (y_build (v := .agg (idl.map B ++ ([I ((kn : Nat) : Int), I ((sb.length : Nat) : Int), I ((b.length + 48 : Nat) : Int)])).toArray) (vs := [(0, .agg (idl.map B).toArray), (1, I ((kn : Nat) : Int)), (2, I ((sb.length : Nat) : Int)), (3, I ((b.length + 48 : Nat) : Int))]) rfl (run_build (zs := (List.replicate 32 0).map B ++ ([I 0, I 0, I 0])) (pl := [(0, 32), (32, 1), (33, 1), (34, 1)]) Tryd.underlying130 (fun _ => by kernel_rfl) (fun _ => by kernel_rfl) (fillP4 (a := idl.map B) lenP (by simp) rfl))) ?_
            refine tx_a 15 rfl (by kernel_rfl) rfl ?_; refine a_slitE (k := 35) (cs := idl.map B ++ ([I ((kn : Nat) : Int), I ((sb.length : Nat) : Int), I ((b.length + 48 : Nat) : Int)])) rfl EL79 lenP (by decide) rfl fun b92 => ?_
            refine tk_S (fun _ h => h.sub (.cons _ (.cons_cons _ (.cons_cons _ (.cons_cons _ (List.nil_sublist _)))))) ?_
            refine tx_a 16 rfl (by kernel_rfl) rfl ?_; refine a_appE (H1 := [_, _, _, _]) (f := entC) (l := sl) (e := ⟨idl, kn, sb.length, b.length + 48, hidl⟩) (b := b92) (k := 35) rfl rfl EL79 rfl rfl (.head _) (entC_len _) (List.forall_mem_append.2 ⟨oneB, (List.forall_mem_cons.2 ⟨rfl, (List.forall_mem_cons.2 ⟨rfl, (List.forall_mem_cons.2 ⟨rfl, (fun _ h => nomatch h)⟩)⟩)⟩)⟩) lenP lenP fun v93 => ?_
            refine tk_ownA (.tail _ (.tail _ (.tail _ (.tail _ (.head _))))) fun hfv93 => ?_
            refine tk_S (fun _ h => h.sub (.cons _ (.cons_cons _ (.cons_cons _ (.cons_cons _ (List.nil_sublist _)))))) ?_
            refine tx_q 17 rfl (by kernel_rfl) rfl rfl rfl (fun _ _ _ h => h) (y_nilCheck rfl) ?_
            refine tx_q 18 rfl (by kernel_rfl) rfl rfl rfl (fun _ _ _ h => h) (y_fldN (o := 0) 99 rfl (by kernel_rfl)) ?_
            refine tx_x 19 rfl (by kernel_rfl) rfl rfl ?_; refine a_storeE (H1 := [_]) (o := 99) (v := v93) (cs' := hk.map B ++ (mk.map B ++ (nk.map B ++ ([Str bg, I ((u + 1 : Nat) : Int), Str sb, v93])))) rfl rfl (by kernel_rfl) (RdC.one hfv93.choose_spec) rfl (by first | (simp; done) | (simp; omega)) (sA (k := 32) (i := 67) (by rw [List.length_map]; exact hk32) (by omega) (sA (k := 32) (i := 35) (by rw [List.length_map]; exact mk32) (by omega) (sA (k := 32) (i := 3) (by rw [List.length_map]; exact nk32) (by omega) (rfl)))) ?_
            refine tx_done (by kernel_rfl) ?_
            refine tk_then ?_
            refine tk_seq ?_
            refine tk_region ?_
            refine tk_q rfl rfl rfl (y_move rfl) ?_
            refine tk_q rfl rfl rfl (y_move rfl) ?_
            refine tk_q rfl rfl rfl (y_nilCheck rfl) ?_
            refine tk_q rfl rfl rfl (y_fldN (o := 0) 98 rfl (by kernel_rfl)) ?_
            refine tk_q rfl rfl rfl (y_load rfl rfl (hc (o := 98) (.tail _ (.head _)) (gA (k := 32) (i := 66) (by rw [List.length_map]; exact hk32) (by omega) (gA (k := 32) (i := 34) (by rw [List.length_map]; exact mk32) (by omega) (gA (k := 32) (i := 2) (by rw [List.length_map]; exact nk32) (by omega) (rfl)))))) ?_
            refine tk_q rfl rfl rfl (y_move rfl) ?_
            refine tk_q rfl rfl rfl (y_catT (l := sb) (m := sealL hk mk (UInt8.ofNat kn) (hexL idl) (tapeN bg (16 * u) 16) b) rfl rfl lenP) ?_
            refine tk_q rfl rfl rfl (y_nilCheck rfl) ?_
            refine tk_q rfl rfl rfl (y_fldN (o := 0) 98 rfl (by kernel_rfl)) ?_
            refine tk_act rfl ?_; refine a_storeE (H1 := [_]) (o := 98) (v := Str (sb ++ (sealL hk mk (UInt8.ofNat kn) (hexL idl) (tapeN bg (16 * u) 16) b))) (cs' := hk.map B ++ (mk.map B ++ (nk.map B ++ ([Str bg, I ((u + 1 : Nat) : Int), Str (sb ++ (sealL hk mk (UInt8.ofNat kn) (hexL idl) (tapeN bg (16 * u) 16) b)), v93])))) rfl rfl (by kernel_rfl) rfl rfl (by first | (simp; done) | (simp; omega)) (sA (k := 32) (i := 66) (by rw [List.length_map]; exact hk32) (by omega) (sA (k := 32) (i := 34) (by rw [List.length_map]; exact mk32) (by omega) (sA (k := 32) (i := 2) (by rw [List.length_map]; exact nk32) (by omega) (rfl)))) ?_
            refine tk_nil ?_
            refine tk_then ?_
            refine tk_seq ?_
            refine tk_region ?_
            refine tk_q rfl rfl rfl (y_loadA 32 rfl (by kernel_rfl) lenP (hcw (.tail _ (.tail _ (.head _))))) ?_
            refine tk_act rfl ?_; refine a_storeW (H1 := [_, _, _]) (vs := idl.map B) 32 rfl rfl (by kernel_rfl) rfl ⟨lenP, lenP⟩ oneB ?_
            refine tk_q rfl rfl rfl (y_assign rfl) ?_
            refine tk_q rfl rfl rfl (y_assign rfl) ?_
            refine tk_nil ?_
            refine tk_then ?_
            refine tk_retc ?_
            have hnf : hasE sl idl = false := has_none (fun j hj => hI.2 j (by omega))
            obtain rfl : ((idl, true, 0), ⟨sb ++ sealL hk mk (UInt8.ofNat kn) (hexL idl) (tapeN bg (16 * u) 16) b, sl ++ [⟨idl, kn, sb.length, b.length + 48, hidl⟩], 16 * u + 16⟩) = q := by rw [← hq]; subst hid; exact Eq.symm (addF_ok hk12 hnb (by exact hnf) (by dsimp only; omega))
            exact tk_ret ((u + 1, v93)) (by dsimp only; omega) (.inl rfl) (rctt (vs := idl.map B) rfl rfl (by first | (rw [List.length_map, hidl]; kernel_rfl) | (simp; kernel_rfl)) (hcw (.tail _ (.tail _ (.tail _ (.head _))))) rfl rfl) (.cons _ (.cons_cons _ (.cons _ (.cons _ (List.Sublist.refl _)))))
theorem rclose_spec {q : (List UInt8 × List UInt8 × List Ent × Nat) × WSt} (hq : closeF ⟨hk, mk, nk⟩ bg ⟨sb, sl, 16 * u⟩ = q) (h3 : hk.length = 32 ∧ mk.length = 32 ∧ nk.length = 32) (hu0 : u < 10000000000) (hbg : bg.length < 1099511627776)
    (hsb : sb.length ≤ 2000000) (hsl : sl.length ≤ 1000) (hw : ∀ e ∈ sl, e.kind < 1048576 ∧ e.len < 1048576) (hh : Pre w [cel mb (hk.map B ++ (mk.map B ++ (nk.map B ++ ([Str bg, I ((u : Nat) : Int), Str sb, mlv])))) 86, own mlv sl.length (sl.flatMap entC) 130 35]) :
    Spec Tryd.prog 36 [.pointer (some ⟨mb, 0, none⟩)] w [cel mb (hk.map B ++ (mk.map B ++ (nk.map B ++ ([Str bg, I ((u : Nat) : Int), Str sb, mlv])))) 86, own mlv sl.length (sl.flatMap entC) 130 35] (fun x : Nat × Value × Value => q.2.p = 16 * x.1) (fun x => .tuple #[Str q.1.1, Str q.1.2.1, x.2.2, I ((q.1.2.2.2 : Nat) : Int)]) (fun x => [cel mb (hk.map B ++ (mk.map B ++ (nk.map B ++ ([Str bg, I ((x.1 : Nat) : Int), Str q.2.b, x.2.1])))) 86, own x.2.1 q.2.l.length (q.2.l.flatMap entC) 130 35, ownA entC 35 x.2.2 q.1.2.2.1 130]) := by
  refine spec_of (n := 92) Tryd.func36 rfl rfl hh.1 hh.2 rfl ?_
  obtain ⟨hk32, mk32, nk32⟩ := h3
  have hh62 : ∀ e ∈ sl, e.kind < 4611686018427387904 ∧ e.len < 4611686018427387904 := fun e he => by have := hw e he; omega
  have hhl := headL_len hh62 (by omega)
  have hnn := numL_len 8 (n := sl.length) (by omega)
  refine tk_ownA (.tail _ (.head _)) fun hfm => ?_
  refine tk_seq ?_
  refine tk_region ?_
  refine tk_q rfl rfl rfl (y_assign rfl) ?_
  refine tk_q rfl rfl rfl (y_assign rfl) ?_
  refine tk_q rfl rfl rfl (y_assign rfl) ?_
  refine tk_q rfl rfl rfl (y_assign rfl) ?_
  refine tk_nil ?_
  refine tk_then ?_
  refine tk_seq ?_
  refine tk_seq ?_
  refine tk_region ?_
  refine tk_q rfl rfl rfl (y_move rfl) ?_
  refine tk_q rfl rfl rfl (y_nilCheck rfl) ?_
  refine tk_q rfl rfl rfl (y_fldN (o := 0) 99 rfl (by kernel_rfl)) ?_
  refine tk_q rfl rfl rfl (y_load rfl rfl (hc (o := 99) (.head _) (gA (k := 32) (i := 67) (by rw [List.length_map]; exact hk32) (by omega) (gA (k := 32) (i := 35) (by rw [List.length_map]; exact mk32) (by omega) (gA (k := 32) (i := 3) (by rw [List.length_map]; exact nk32) (by omega) (rfl)))))) ?_
  refine tk_q rfl rfl rfl (y_lenE rfl hfm.choose_spec rfl) ?_
  refine tk_q rfl rfl rfl (y_eql rfl rfl) ?_
  refine tk_nil ?_
  refine tk_then ?_
  refine tk_condP rfl (fun ht16 => ?_) (fun ht16 => ?_)
  · skip
    refine tk_seq ?_
    refine tk_region ?_
    refine tk_q rfl rfl rfl (y_assign rfl) ?_
    refine tk_q rfl rfl rfl (y_assign rfl) ?_
    refine tk_q rfl rfl rfl (y_assign rfl) ?_
    refine tk_q rfl rfl rfl (y_assign rfl) ?_
    refine tk_nil ?_
    refine tk_then ?_
    refine tk_retc ?_
    refine tk_then_ret ?_
    refine tk_ownA0 (f := entC) 35 130 ?_
    obtain rfl : sl = [] := List.length_eq_zero_iff.1 (by omega)
    obtain rfl : (([], [], [], 15), ⟨sb, [], 16 * u⟩) = q := by rw [← hq]; exact Eq.symm (closeF_nil rfl)
    refine tk_perm _ (.trans (.cons _ (.trans (.cons _ (List.Perm.refl _)) (.swap _ _ _))) (.swap _ _ _)) ?_
    refine tk_perm _ (.trans (.cons _ (.trans (.cons _ (List.Perm.refl _)) (.swap _ _ _))) (.swap _ _ _)) ?_
    exact tk_ret ((u, mlv, .slice none 0 0)) (rfl) (.inl rfl) (r4 rfl rfl rfl rfl rfl) (List.Sublist.refl _)
  · skip
    refine tk_skip ?_
    refine tk_then ?_
    refine tk_seq ?_
    refine tk_drawH [cel mb (hk.map B ++ (mk.map B ++ (nk.map B ++ ([Str bg, I ((u : Nat) : Int), Str sb, mlv])))) 86, own mlv sl.length (sl.flatMap entC) 130 35] [] (by kernel_rfl) ?_
    refine tx_q 1 rfl (by kernel_rfl) rfl rfl rfl (fun _ _ _ h => h) (y_move rfl) ?_
    refine tx_q 2 rfl (by kernel_rfl) rfl rfl rfl (fun _ _ _ h => h) (y_nilCheck rfl) ?_
    refine tx_q 3 rfl (by kernel_rfl) rfl rfl rfl (fun _ _ _ h => h) (y_fldN (o := 0) 99 rfl (by kernel_rfl)) ?_
    refine tx_l 4 rfl (by kernel_rfl) (by kernel_rfl) rfl rfl rfl (fun _ _ _ h => h) (fun _ h => h.sub (List.Sublist.refl _)) (y_load rfl rfl (hc (o := 99) (.head _) (gA (k := 32) (i := 67) (by rw [List.length_map]; exact hk32) (by omega) (gA (k := 32) (i := 35) (by rw [List.length_map]; exact mk32) (by omega) (gA (k := 32) (i := 3) (by rw [List.length_map]; exact nk32) (by omega) (rfl)))))) ?_
    refine tx_q 5 rfl (by kernel_rfl) rfl rfl rfl (fun _ _ _ h => h) (y_lenE rfl hfm.choose_spec rfl) ?_
    refine tx_a 0 rfl (by kernel_rfl) rfl ?_; refine a_callv [] _ rfl (by kernel_rfl) rfl (fun w' hw' => rbegin_spec (kind := 104)) rfl fun _ _ => ?_
    refine tk_S (fun _ h => h.sub (List.Sublist.refl _)) ?_
    refine tx_a 6 rfl (by kernel_rfl) rfl ?_; refine a_callv [] _ rfl (by kernel_rfl) rfl (fun w' hw' => rnum_spec (n := sl.length) lenP) rfl fun _ _ => ?_
    refine tk_S (fun _ h => h.sub (List.Sublist.refl _)) ?_
    refine tx_q 7 rfl (by kernel_rfl) rfl rfl rfl (fun _ _ _ h => h) (y_catT (l := [72, 89, 104]) (m := numL sl.length) rfl rfl lenP) ?_
    refine tk_re 24 (Str ([72, 89, 104] ++ (numL sl.length))) (Str (headP sl 0)) rfl (by rw [headP_0]) ?_
    refine tx_q 8 rfl (by kernel_rfl) rfl rfl rfl (fun _ _ _ h => h) (y_assign rfl) ?_
    refine tx_done (by kernel_rfl) ?_
    refine tk_then ?_
    refine tk_seq ?_
    refine tk_seq ?_
    refine tk_region ?_
    refine tk_q rfl rfl rfl (y_assign rfl) ?_
    refine tk_nil ?_
    refine tk_then ?_
    refine tk_block ?_
    refine tk_loop (X := Nat) (fun i => i ≤ sl.length) (fun i => [(0, .pointer (some ⟨mb, 0, none⟩)), (2, Str []), (3, Str []), (4, .slice none 0 0), (5, I 0), (6, Str (headP sl i)), (7, I ((i : Nat) : Int))]) (fun i => [cel mb (hk.map B ++ (mk.map B ++ (nk.map B ++ ([Str bg, I ((u : Nat) : Int), Str sb, mlv])))) 86, own mlv sl.length (sl.flatMap entC) 130 35]) (fun i => sl.length - i) (0) (Nat.zero_le _) (by repeat (first | exact trivial | refine ⟨rfl, ?_⟩)) ((List.Sublist.refl _)) ?_
    rintro i hI
    try dsimp only at hI ⊢
    have hpl := headP_len hh62 (by omega) i
    refine tk_seq ?_
    refine tk_seq ?_
    refine tk_region ?_
    refine tk_q rfl rfl rfl (y_move rfl) ?_
    refine tk_q rfl rfl rfl (y_move rfl) ?_
    refine tk_q rfl rfl rfl (y_nilCheck rfl) ?_
    refine tk_q rfl rfl rfl (y_fldN (o := 0) 99 rfl (by kernel_rfl)) ?_
    refine tk_q rfl rfl rfl (y_load rfl rfl (hc (o := 99) (.head _) (gA (k := 32) (i := 67) (by rw [List.length_map]; exact hk32) (by omega) (gA (k := 32) (i := 35) (by rw [List.length_map]; exact mk32) (by omega) (gA (k := 32) (i := 3) (by rw [List.length_map]; exact nk32) (by omega) (rfl)))))) ?_
    refine tk_q rfl rfl rfl (y_lenE rfl hfm.choose_spec rfl) ?_
    refine tk_q rfl rfl rfl (y_lss rfl rfl) ?_
    refine tk_nil ?_
    refine tk_then ?_
    refine tk_condP rfl (fun ht31 => ?_) (fun ht31 => ?_)
    · skip
      have hei := hh62 (sl.getD i dEnt) (getD_mem (by omega))
      have heh : (sl.getD i dEnt).id.length = 32 := (sl.getD i dEnt).h
      have hn1 := numL_len 8 (n := (sl.getD i dEnt).kind) (by omega)
      have hn2 := numL_len 8 (n := (sl.getD i dEnt).len) (by omega)
      refine tk_skip ?_
      refine tk_then ?_
      refine tk_seq ?_
      refine tk_block ?_
      refine tk_drawH [cel mb (hk.map B ++ (mk.map B ++ (nk.map B ++ ([Str bg, I ((u : Nat) : Int), Str sb, mlv])))) 86, own mlv sl.length (sl.flatMap entC) 130 35] [] (by kernel_rfl) ?_
      refine tx_q 0 rfl (by kernel_rfl) rfl rfl rfl (fun _ _ _ h => h) (y_move rfl) ?_
      refine tx_q 1 rfl (by kernel_rfl) rfl rfl rfl (fun _ _ _ h => h) (y_move rfl) ?_
      refine tx_q 2 rfl (by kernel_rfl) rfl rfl rfl (fun _ _ _ h => h) (y_nilCheck rfl) ?_
      refine tx_q 3 rfl (by kernel_rfl) rfl rfl rfl (fun _ _ _ h => h) (y_fldN (o := 0) 99 rfl (by kernel_rfl)) ?_
      refine tx_l 4 rfl (by kernel_rfl) (by kernel_rfl) rfl rfl rfl (fun _ _ _ h => h) (fun _ h => h.sub (List.Sublist.refl _)) (y_load rfl rfl (hc (o := 99) (.head _) (gA (k := 32) (i := 67) (by rw [List.length_map]; exact hk32) (by omega) (gA (k := 32) (i := 35) (by rw [List.length_map]; exact mk32) (by omega) (gA (k := 32) (i := 3) (by rw [List.length_map]; exact nk32) (by omega) (rfl)))))) ?_
      refine tx_q 5 rfl (by kernel_rfl) rfl rfl rfl (fun _ _ _ h => h) (y_move rfl) ?_
      refine tx_q 6 rfl (by kernel_rfl) rfl rfl rfl (fun _ _ _ h => h) (y_ixE (i := i) (k := 35) rfl rfl hfm.choose_spec lenP (by kernel_rfl)) ?_
      refine tx_q 7 rfl (by kernel_rfl) rfl rfl rfl (fun _ _ _ h => h) (y_fldE (o := i * 35 + 0) (off := 0) rfl (by kernel_rfl)) ?_
      refine tx_q 8 rfl (by kernel_rfl) rfl rfl rfl (fun _ _ _ h => h) (y_cutA (m := 32) (sz := 1) rfl (by kernel_rfl)) ?_
      refine tx_l 9 rfl (by kernel_rfl) (by kernel_rfl) rfl rfl rfl (fun _ _ _ h => h) (fun _ h => h.sub (List.Sublist.refl _)) (y_str (l := (sl.getD i dEnt).id) rfl rfl rfl rfl (fun w hw => RdC.part (i := i) (k := 35) (o := 0) (f := entC) (l := sl) (d0 := dEnt) ((fun w hw => own_rdC (hw.mem (.tail _ (.head _)))) w hw) entC_len lenP ⟨ent_id _, (sl.getD i dEnt).h⟩)) ?_
      refine tx_q 10 rfl (by kernel_rfl) rfl rfl rfl (fun _ _ _ h => h) (y_catT (l := headP sl i) (m := (sl.getD i dEnt).id) rfl rfl lenP) ?_
      refine tx_q 11 rfl (by kernel_rfl) rfl rfl rfl (fun _ _ _ h => h) (y_move rfl) ?_
      refine tx_q 12 rfl (by kernel_rfl) rfl rfl rfl (fun _ _ _ h => h) (y_nilCheck rfl) ?_
      refine tx_q 13 rfl (by kernel_rfl) rfl rfl rfl (fun _ _ _ h => h) (y_fldN (o := 0) 99 rfl (by kernel_rfl)) ?_
      refine tx_l 14 rfl (by kernel_rfl) (by kernel_rfl) rfl rfl rfl (fun _ _ _ h => h) (fun _ h => h.sub (List.Sublist.refl _)) (y_load rfl rfl (hc (o := 99) (.head _) (gA (k := 32) (i := 67) (by rw [List.length_map]; exact hk32) (by omega) (gA (k := 32) (i := 35) (by rw [List.length_map]; exact mk32) (by omega) (gA (k := 32) (i := 3) (by rw [List.length_map]; exact nk32) (by omega) (rfl)))))) ?_
      refine tx_q 15 rfl (by kernel_rfl) rfl rfl rfl (fun _ _ _ h => h) (y_move rfl) ?_
      refine tx_q 16 rfl (by kernel_rfl) rfl rfl rfl (fun _ _ _ h => h) (y_ixE (i := i) (k := 35) rfl rfl hfm.choose_spec lenP (by kernel_rfl)) ?_
      refine tx_q 17 rfl (by kernel_rfl) rfl rfl rfl (fun _ _ _ h => h) (y_fldE (o := i * 35 + 0) (off := 32) rfl (by kernel_rfl)) ?_
      refine tx_l 18 rfl (by kernel_rfl) (by kernel_rfl) rfl rfl rfl (fun _ _ _ h => h) (fun _ h => h.sub (List.Sublist.refl _)) (y_loadE1 (i := i) (k := 35) (o := 32) (f := entC) (l := sl) (d0 := dEnt) (u := I (((sl.getD i dEnt).kind : Nat) : Int)) rfl rfl entC_len lenP (ent_k _) (fun w hw => own_rdC (hw.mem (.tail _ (.head _))))) ?_
      refine tx_q 21 rfl (by kernel_rfl) rfl rfl rfl (fun _ _ _ h => h) (y_move rfl) ?_
      refine tx_q 22 rfl (by kernel_rfl) rfl rfl rfl (fun _ _ _ h => h) (y_nilCheck rfl) ?_
      refine tx_q 23 rfl (by kernel_rfl) rfl rfl rfl (fun _ _ _ h => h) (y_fldN (o := 0) 99 rfl (by kernel_rfl)) ?_
      refine tx_l 24 rfl (by kernel_rfl) (by kernel_rfl) rfl rfl rfl (fun _ _ _ h => h) (fun _ h => h.sub (List.Sublist.refl _)) (y_load rfl rfl (hc (o := 99) (.head _) (gA (k := 32) (i := 67) (by rw [List.length_map]; exact hk32) (by omega) (gA (k := 32) (i := 35) (by rw [List.length_map]; exact mk32) (by omega) (gA (k := 32) (i := 3) (by rw [List.length_map]; exact nk32) (by omega) (rfl)))))) ?_
      refine tx_q 25 rfl (by kernel_rfl) rfl rfl rfl (fun _ _ _ h => h) (y_move rfl) ?_
      refine tx_q 26 rfl (by kernel_rfl) rfl rfl rfl (fun _ _ _ h => h) (y_ixE (i := i) (k := 35) rfl rfl hfm.choose_spec lenP (by kernel_rfl)) ?_
      refine tx_q 27 rfl (by kernel_rfl) rfl rfl rfl (fun _ _ _ h => h) (y_fldE (o := i * 35 + 0) (off := 34) rfl (by kernel_rfl)) ?_
      refine tx_l 28 rfl (by kernel_rfl) (by kernel_rfl) rfl rfl rfl (fun _ _ _ h => h) (fun _ h => h.sub (List.Sublist.refl _)) (y_loadE1 (i := i) (k := 35) (o := 34) (f := entC) (l := sl) (d0 := dEnt) (u := I (((sl.getD i dEnt).len : Nat) : Int)) rfl rfl entC_len lenP (ent_l _) (fun w hw => own_rdC (hw.mem (.tail _ (.head _))))) ?_
      refine tx_a 19 rfl (by kernel_rfl) rfl ?_; refine a_callv [] _ rfl (by kernel_rfl) rfl (fun w' hw' => rnum_spec (n := (sl.getD i dEnt).kind) lenP) rfl fun _ _ => ?_
      refine tk_S (fun _ h => h.sub (List.Sublist.refl _)) ?_
      refine tx_q 20 rfl (by kernel_rfl) rfl rfl rfl (fun _ _ _ h => h) (y_catT (l := (headP sl i) ++ ((sl.getD i dEnt).id)) (m := numL ((sl.getD i dEnt).kind)) rfl rfl lenP) ?_
      refine tx_a 29 rfl (by kernel_rfl) rfl ?_; refine a_callv [] _ rfl (by kernel_rfl) rfl (fun w' hw' => rnum_spec (n := (sl.getD i dEnt).len) lenP) rfl fun _ _ => ?_
      refine tk_S (fun _ h => h.sub (List.Sublist.refl _)) ?_
      refine tx_q 30 rfl (by kernel_rfl) rfl rfl rfl (fun _ _ _ h => h) (y_catT (l := ((headP sl i) ++ ((sl.getD i dEnt).id)) ++ (numL ((sl.getD i dEnt).kind))) (m := numL ((sl.getD i dEnt).len)) rfl rfl lenP) ?_
      refine tk_re 64 (Str ((((headP sl i) ++ ((sl.getD i dEnt).id)) ++ (numL ((sl.getD i dEnt).kind))) ++ (numL ((sl.getD i dEnt).len)))) (Str (headP sl (i + 1))) rfl (by rw [headP_succ (by omega)]) ?_
      refine tx_q 31 rfl (by kernel_rfl) rfl rfl rfl (fun _ _ _ h => h) (y_assign rfl) ?_
      refine tx_done (by kernel_rfl) ?_
      refine tk_in_normal ?_
      refine tk_then ?_
      refine tk_region ?_
      refine tk_q rfl rfl rfl (y_move rfl) ?_
      refine tk_q rfl rfl rfl (y_addN (a := i) (b := 1) rfl rfl (by omega)) ?_
      refine tk_q rfl rfl rfl (y_assign rfl) ?_
      refine tk_nil ?_
      exact tk_again (i + 1) (by first | exact trivial | omega | (dsimp only; omega)) (by first | omega | (dsimp only; omega)) (by repeat (first | exact trivial | refine ⟨rfl, ?_⟩)) (List.Sublist.refl _)
    · skip
      refine tk_exit ?_
      refine tk_then_exit ?_
      refine tk_then_exit ?_
      refine tk_in_hit ?_
      refine tk_then ?_
      refine tk_seq ?_
      refine tk_region ?_
      refine tk_re 6 (Str (headP sl i)) (Str (headL sl)) rfl (by rw [show i = sl.length by omega, headP_all]) ?_
      refine tk_q rfl rfl rfl (y_move rfl) ?_
      refine tk_q rfl rfl rfl (y_move rfl) ?_
      refine tk_act rfl ?_; refine a_callv [] _ rfl (by kernel_rfl) rfl (fun w' hw' => rwrite_spec (hk := hk) (mk := mk) (nk := nk) (mb := mb) (bg := bg) (u := u) (B_ := sb) (ml := mlv) (k := 104) (name := [104, 101, 97, 100]) (l := headL sl) ⟨lenP, lenP, lenP⟩ ⟨lenP, lenP, lenP, lenP⟩ (St.pre hw')) rfl fun _ _ => ?_
      have hf4 : (four ((headL sl).length + 48)).length = 4 := rfl
      have hslr : (sealL hk mk 104 [104, 101, 97, 100] (tapeN bg (16 * u) 16) (headL sl)).length = (headL sl).length + 48 := sealL_len tapeN_len
      refine tk_re 67 (Str ((sealF hk mk (UInt8.ofNat 104) [104, 101, 97, 100] (tapeN bg (16 * u) 16) (headL sl)).1)) (Str (sealL hk mk 104 [104, 101, 97, 100] (tapeN bg (16 * u) 16) (headL sl))) rfl (by rw [show UInt8.ofNat 104 = 104 from rfl, sealF_ok lenP lenP]) ?_
      refine tk_q rfl rfl rfl (y_assign rfl) ?_
      refine tk_nil ?_
      refine tk_then ?_
      refine tk_seq ?_
      refine tk_drawH [cel mb (hk.map B ++ (mk.map B ++ (nk.map B ++ ([Str bg, I ((u + 1 : Nat) : Int), Str sb, mlv])))) 86, own mlv sl.length (sl.flatMap entC) 130 35] [] (by kernel_rfl) ?_
      refine tx_q 0 rfl (by kernel_rfl) rfl rfl rfl (fun _ _ _ h => h) (y_move rfl) ?_
      refine tx_q 1 rfl (by kernel_rfl) rfl rfl rfl (fun _ _ _ h => h) (y_nilCheck rfl) ?_
      refine tx_q 2 rfl (by kernel_rfl) rfl rfl rfl (fun _ _ _ h => h) (y_fldN (o := 0) 98 rfl (by kernel_rfl)) ?_
      refine tx_l 3 rfl (by kernel_rfl) (by kernel_rfl) rfl rfl rfl (fun _ _ _ h => h) (fun _ h => h.sub (List.Sublist.refl _)) (y_load rfl rfl (hc (o := 98) (.head _) (gA (k := 32) (i := 66) (by rw [List.length_map]; exact hk32) (by omega) (gA (k := 32) (i := 34) (by rw [List.length_map]; exact mk32) (by omega) (gA (k := 32) (i := 2) (by rw [List.length_map]; exact nk32) (by omega) (rfl)))))) ?_
      refine tx_q 4 rfl (by kernel_rfl) rfl rfl rfl (fun _ _ _ h => h) (y_move rfl) ?_
      refine tx_q 5 rfl (by kernel_rfl) rfl rfl rfl (fun _ _ _ h => h) (y_catT (l := sb) (m := sealL hk mk 104 [104, 101, 97, 100] (tapeN bg (16 * u) 16) (headL sl)) rfl rfl lenP) ?_
      refine tx_q 6 rfl (by kernel_rfl) rfl rfl rfl (fun _ _ _ h => h) (y_move rfl) ?_
      refine tx_q 7 rfl (by kernel_rfl) rfl rfl rfl (fun _ _ _ h => h) ((y_lenStr (l := sealL hk mk 104 [104, 101, 97, 100] (tapeN bg (16 * u) 16) (headL sl)) rfl rfl).cast (v := _) (u := I (((headL sl).length + 48 : Nat) : Int)) (by rw [hslr])) ?_
      refine tx_a 8 rfl (by kernel_rfl) rfl ?_; refine a_callv [] _ rfl (by kernel_rfl) rfl (fun w' hw' => four_spec (n := (headL sl).length + 48)) rfl fun _ _ => ?_
      refine tk_S (fun _ h => h.sub (List.Sublist.refl _)) ?_
      refine tx_q 9 rfl (by kernel_rfl) rfl rfl rfl (fun _ _ _ h => h) (y_catT (l := sb ++ (sealL hk mk 104 [104, 101, 97, 100] (tapeN bg (16 * u) 16) (headL sl))) (m := four ((headL sl).length + 48)) rfl rfl lenP) ?_
      refine tk_re 77 (Str ((sb ++ (sealL hk mk 104 [104, 101, 97, 100] (tapeN bg (16 * u) 16) (headL sl))) ++ (four ((headL sl).length + 48)))) (Str (packL ⟨hk, mk, nk⟩ bg ⟨sb, sl, 16 * u⟩)) rfl (rfl) ?_
      have hpl : (packL ⟨hk, mk, nk⟩ bg ⟨sb, sl, 16 * u⟩).length = sb.length + (headL sl).length + 52 := by simp only [packL, List.length_append, sealL_len tapeN_len, four, List.length_cons, List.length_nil]; omega
      refine tx_q 10 rfl (by kernel_rfl) rfl rfl rfl (fun _ _ _ h => h) (y_assign rfl) ?_
      refine tx_done (by kernel_rfl) ?_
      refine tk_then ?_
      refine tk_seq ?_
      refine tk_region ?_
      refine tk_q rfl rfl rfl (y_move rfl) ?_
      refine tk_q rfl rfl rfl (y_nilCheck rfl) ?_
      refine tk_q rfl rfl rfl (y_fldN (o := 0) 99 rfl (by kernel_rfl)) ?_
      refine tk_q rfl rfl rfl (y_load rfl rfl (hc (o := 99) (.head _) (gA (k := 32) (i := 67) (by rw [List.length_map]; exact hk32) (by omega) (gA (k := 32) (i := 35) (by rw [List.length_map]; exact mk32) (by omega) (gA (k := 32) (i := 3) (by rw [List.length_map]; exact nk32) (by omega) (rfl)))))) ?_
      refine tk_q rfl rfl rfl (y_assign rfl) ?_
      refine tk_nil ?_
      refine tk_then ?_
      refine tk_seq ?_
      refine tk_region ?_
      refine tk_ownA0 (f := entC) 35 130 ?_
      refine tk_q rfl rfl rfl (y_move rfl) ?_
      refine tk_q rfl rfl rfl (y_move rfl) ?_
      refine tk_q rfl rfl rfl (y_nilCheck rfl) ?_
      refine tk_q rfl rfl rfl (y_fldN (o := 0) 98 rfl (by kernel_rfl)) ?_
      refine tk_act rfl ?_; refine a_storeE (H1 := [_]) (o := 98) (v := Str []) (cs' := hk.map B ++ (mk.map B ++ (nk.map B ++ ([Str bg, I ((u + 1 : Nat) : Int), Str [], mlv])))) rfl rfl (by kernel_rfl) rfl rfl (by first | (simp; done) | (simp; omega)) (sA (k := 32) (i := 66) (by rw [List.length_map]; exact hk32) (by omega) (sA (k := 32) (i := 34) (by rw [List.length_map]; exact mk32) (by omega) (sA (k := 32) (i := 2) (by rw [List.length_map]; exact nk32) (by omega) (rfl)))) ?_
      refine tk_q rfl rfl rfl (y_nilCheck rfl) ?_
      refine tk_q rfl rfl rfl (y_fldN (o := 0) 99 rfl (by kernel_rfl)) ?_
      refine tk_act rfl ?_; refine a_storeE (H1 := [_]) (o := 99) (v := .slice none 0 0) (cs' := hk.map B ++ (mk.map B ++ (nk.map B ++ ([Str bg, I ((u + 1 : Nat) : Int), Str [], .slice none 0 0])))) rfl rfl (by kernel_rfl) (RdS.one (RdS.nil (w := default))) rfl (by first | (simp; done) | (simp; omega)) (sA (k := 32) (i := 67) (by rw [List.length_map]; exact hk32) (by omega) (sA (k := 32) (i := 35) (by rw [List.length_map]; exact mk32) (by omega) (sA (k := 32) (i := 3) (by rw [List.length_map]; exact nk32) (by omega) (rfl)))) ?_
      refine tk_nil ?_
      refine tk_then ?_
      refine tk_seq ?_
      refine tk_region ?_
      refine tk_q rfl rfl rfl (y_move rfl) ?_
      refine tk_act rfl ?_; refine a_callv [] _ rfl (by kernel_rfl) rfl (fun w' hw' => rname_spec (l := packL ⟨hk, mk, nk⟩ bg ⟨sb, sl, 16 * u⟩) lenP) rfl fun _ _ => ?_
      refine tk_q rfl rfl rfl (y_move rfl) ?_
      refine tk_q rfl rfl rfl (y_move rfl) ?_
      refine tk_q rfl rfl rfl (y_assign rfl) ?_
      refine tk_q rfl rfl rfl (y_assign rfl) ?_
      refine tk_q rfl rfl rfl (y_assign rfl) ?_
      refine tk_q rfl rfl rfl (y_assign rfl) ?_
      refine tk_nil ?_
      refine tk_then ?_
      refine tk_retc ?_
      have hne : ¬ sl = [] := fun h => by subst h; simp at ht16
      obtain rfl : ((nameL (packL ⟨hk, mk, nk⟩ bg ⟨sb, sl, 16 * u⟩), packL ⟨hk, mk, nk⟩ bg ⟨sb, sl, 16 * u⟩, sl, 0), ⟨[], [], 16 * u + 16⟩) = q := by rw [← hq]; exact Eq.symm (closeF_ok hne)
      refine tk_perm _ (.trans (.cons _ (.trans (.cons _ (List.Perm.refl _)) (.swap _ _ _))) (.swap _ _ _)) ?_
      refine tk_perm _ (.trans (.cons _ (List.Perm.refl _)) (.swap _ _ _)) ?_
      refine tk_perm _ (.trans (.cons _ (.trans (.cons _ (List.Perm.refl _)) (.swap _ _ _))) (.swap _ _ _)) ?_
      exact tk_ret ((u + 1, .slice none 0 0, mlv)) (by dsimp only; omega) (.inl rfl) (r4 rfl rfl rfl rfl rfl) (List.Sublist.refl _)
theorem writers_spec {n : UInt8} : Spec Tryd.prog 35 [B n] w [] (fun _ : Nat × Nat × Value × Nat => True) (fun x => .tuple #[.pointer (some ⟨x.1, 0, none⟩), .pointer (some ⟨x.2.2.2, 0, none⟩)])
    (fun x => [cel x.1 ((rg n 1).map B ++ ((rg n 2).map B ++ ((rg n 3).map B ++ [Value.pointer (some ⟨x.2.1, 0, none⟩), .slice none 0 0, .slice none 0 0]))) 117, cel x.2.1 [x.2.2.1, .int .u64 ((0 : Nat) : Int), .slice none 0 0] 160, ownB x.2.2.1 [n] 5, cel x.2.2.2 ((rg n 1).map B ++ ((rg n 2).map B ++ ((rg n 3).map B ++ [Str [n], I 0, Str [], .slice none 0 0]))) 86]) := by
  refine spec_of (n := 23) Tryd.func35 rfl rfl trivial trivial rfl ?_
  refine tk_seq ?_
  refine tk_region ?_
  refine tk_q rfl rfl rfl (y_assign rfl) ?_
  refine tk_q rfl rfl rfl (y_assign rfl) ?_
  refine tk_nil ?_
  refine tk_then ?_
  refine tk_seq ?_
  refine tk_region ?_
  refine tk_q rfl rfl rfl (y_move rfl) ?_
  refine tk_act rfl ?_; refine a_callv [] _ rfl (by kernel_rfl) rfl (fun w' hw' => ring12_spec (n := n)) rfl fun _ _ => ?_
  refine tk_q rfl rfl rfl (y_move rfl) ?_
  refine tk_q rfl rfl rfl (y_extract rfl rfl) ?_
  refine tk_q rfl rfl rfl (y_extract rfl rfl) ?_
  refine tk_act rfl ?_; refine a_allocL (cs := (List.replicate 32 0).map B ++ ((List.replicate 32 0).map B ++ ((List.replicate 32 0).map B))) (by kernel_rfl) rfl fun b4 => ?_
  refine tk_act rfl ?_; refine a_allocL (cs := (List.replicate 32 0).map B ++ ((List.replicate 32 0).map B ++ ((List.replicate 32 0).map B))) (by kernel_rfl) rfl fun b5 => ?_
  refine tk_act rfl ?_; refine a_storeW (H1 := [_]) (vs := (rg n 1).map B ++ ((rg n 2).map B ++ ((rg n 3).map B))) 96 rfl rfl (by kernel_rfl) rfl ⟨lenP, lenP⟩ (List.forall_mem_append.2 ⟨oneB, (List.forall_mem_append.2 ⟨oneB, oneB⟩)⟩) ?_
  refine tk_act rfl ?_; refine a_storeW (H1 := []) (vs := (rg n 1).map B ++ ((rg n 2).map B ++ ((rg n 3).map B))) 96 rfl rfl (by kernel_rfl) rfl ⟨lenP, lenP⟩ (List.forall_mem_append.2 ⟨oneB, (List.forall_mem_append.2 ⟨oneB, oneB⟩)⟩) ?_
  refine tk_nil ?_
  refine tk_then ?_
  refine tk_seq ?_
  refine tk_drawH [cel b5 ((rg n 1).map B ++ ((rg n 2).map B ++ ((rg n 3).map B))) 54, cel b4 ((rg n 1).map B ++ ((rg n 2).map B ++ ((rg n 3).map B))) 49] [] (by kernel_rfl) ?_
  refine tx_l 0 rfl (by kernel_rfl) (by kernel_rfl) rfl rfl rfl (fun _ _ _ h => h) (fun _ h => h.sub (List.Sublist.refl _)) (y_loadA 96 rfl (by kernel_rfl) lenP (hcw (.tail _ (.head _)))) ?_
  refine tx_q 1 rfl (by kernel_rfl) rfl rfl rfl (fun _ _ _ h => h) (y_move rfl) ?_
  refine tx_l 6 rfl (by kernel_rfl) (by kernel_rfl) rfl rfl rfl (fun _ _ _ h => h) (fun _ h => h.sub (List.Sublist.refl _)) (y_loadA 96 rfl (by kernel_rfl) lenP (hcw (.head _))) ?_
  refine tx_q 7 rfl (by kernel_rfl) rfl rfl rfl (fun _ _ _ h => h) (y_move rfl) ?_
  refine tx_all (is := [2, 8]) (by kernel_rfl) rfl ⟨⟨_, rfl, rfl, ?_⟩, ⟨_, rfl, rfl, ?_⟩, trivial⟩
  · skip
    skip; refine a_slitN (vs := [B n]) rfl (List.forall_mem_cons.2 ⟨rfl, (fun _ h => nomatch h)⟩) (EL26) rfl rfl (by decide) fun b13 => ?_
    refine tk_S (fun _ h => h.sub (.cons _ (List.Sublist.refl _))) ?_
    refine tx_more [cel b13 ([B n]) 5, cel b5 ((rg n 1).map B ++ ((rg n 2).map B ++ ((rg n 3).map B))) 54, cel b4 ((rg n 1).map B ++ ((rg n 2).map B ++ ((rg n 3).map B))) 49] (fun _ h => h.sub (.cons _ (List.Sublist.refl _))) (fun _ h => h.sub (List.Sublist.refl _)) ?_
    refine tx_all (is := [3, 8]) (by kernel_rfl) rfl ⟨⟨_, rfl, rfl, ?_⟩, ⟨_, rfl, rfl, ?_⟩, trivial⟩
    · skip
      skip; refine a_callv [] _ rfl (by kernel_rfl) rfl (fun w' hw' => wind_spec (b := [n]) (Ro.cel (H0 := []) (b := b13) (o := 0) (m := 1) (cp := 1) (vs := [n].map B) hw' (.head _) (rfl) (by first | rfl | exact lenP | (simp; omega)) lenP) lenP) rfl fun ⟨tb14, vb14⟩ _ => ?_
      refine tk_S (fun _ h => h.sub (.cons _ (.cons _ (List.Sublist.refl _)))) ?_
      refine tx_more [cel tb14 ([vb14, .int .u64 (((0 : Nat) : Nat) : Int), .slice none 0 0]) 160, own vb14 ([n].length) ([n].map B) 5 1, cel b13 ([B n]) 5, cel b5 ((rg n 1).map B ++ ((rg n 2).map B ++ ((rg n 3).map B))) 54, cel b4 ((rg n 1).map B ++ ((rg n 2).map B ++ ((rg n 3).map B))) 49] (fun _ h => h.sub (.cons _ (.cons _ (List.Sublist.refl _)))) (fun _ h => h.sub (List.Sublist.refl _)) ?_
      refine tx_q 4 rfl (by kernel_rfl) rfl rfl rfl (fun _ _ _ h => h) (y_build (v := .agg ((rg n 1).map B ++ ((rg n 2).map B ++ ((rg n 3).map B ++ ([Value.pointer (some ⟨tb14, 0, none⟩)])))).toArray) (vs := [(0, .agg ((rg n 1).map B ++ ((rg n 2).map B ++ ((rg n 3).map B))).toArray), (1, .pointer (some ⟨tb14, 0, none⟩))]) rfl (run_build (zs := (List.replicate 32 0).map B ++ ((List.replicate 32 0).map B ++ ((List.replicate 32 0).map B ++ ([Value.pointer none])))) (pl := [(0, 96), (96, 1)]) Tryd.underlying52 (fun _ => by kernel_rfl) (fun _ => by kernel_rfl) (fillP2 (a := (rg n 1).map B ++ ((rg n 2).map B ++ ((rg n 3).map B))) (b := [Value.pointer (some ⟨tb14, 0, none⟩)]) lenP rfl (by simp) (by simp)))) ?_
      refine tx_all (is := [5, 8]) (by kernel_rfl) rfl ⟨⟨_, rfl, rfl, ?_⟩, ⟨_, rfl, rfl, ?_⟩, trivial⟩
      · skip
        skip; refine a_callv [] _ rfl (by kernel_rfl) rfl (fun w' hw' => pnew_spec (hk := rg n 1) (mk := rg n 2) (nk := rg n 3) (tb := tb14) ⟨lenP, lenP, lenP⟩) rfl fun w16 _ => ?_
        refine tk_S (fun _ h => h.sub (.cons _ (List.Sublist.refl _))) ?_
        refine tx_more [cel w16 ((rg n 1).map B ++ ((rg n 2).map B ++ ((rg n 3).map B ++ ([Value.pointer (some ⟨tb14, 0, none⟩), .slice none 0 0, .slice none 0 0])))) 117, cel tb14 ([vb14, .int .u64 (((0 : Nat) : Nat) : Int), .slice none 0 0]) 160, own vb14 ([n].length) ([n].map B) 5 1, cel b13 ([B n]) 5, cel b5 ((rg n 1).map B ++ ((rg n 2).map B ++ ((rg n 3).map B))) 54, cel b4 ((rg n 1).map B ++ ((rg n 2).map B ++ ((rg n 3).map B))) 49] (fun _ h => h.sub (.cons _ (List.Sublist.refl _))) (fun _ h => h.sub (List.Sublist.refl _)) ?_
        refine tx_q 12 rfl (by kernel_rfl) rfl rfl rfl (fun _ _ _ h => h) (y_assign rfl) ?_
        refine tx_a 8 rfl (by kernel_rfl) rfl ?_; refine a_slitN (vs := [B n]) rfl (List.forall_mem_cons.2 ⟨rfl, (fun _ h => nomatch h)⟩) (EL26) rfl rfl (by decide) fun b19 => ?_
        refine tk_S (fun _ h => h.sub (.cons _ (List.Sublist.refl _))) ?_
        refine tx_more [cel b19 ([B n]) 5, cel w16 ((rg n 1).map B ++ ((rg n 2).map B ++ ((rg n 3).map B ++ ([Value.pointer (some ⟨tb14, 0, none⟩), .slice none 0 0, .slice none 0 0])))) 117, cel tb14 ([vb14, .int .u64 (((0 : Nat) : Nat) : Int), .slice none 0 0]) 160, own vb14 ([n].length) ([n].map B) 5 1, cel b13 ([B n]) 5, cel b5 ((rg n 1).map B ++ ((rg n 2).map B ++ ((rg n 3).map B))) 54, cel b4 ((rg n 1).map B ++ ((rg n 2).map B ++ ((rg n 3).map B))) 49] (fun _ h => h.sub (.cons _ (List.Sublist.refl _))) (fun _ h => h.sub (List.Sublist.refl _)) ?_
        refine tx_l 9 rfl (by kernel_rfl) (by kernel_rfl) rfl rfl rfl (fun _ _ _ h => h) (fun _ h => h.sub (List.Sublist.refl _)) (y_str (l := [n]) rfl rfl rfl rfl (fun w hw => cel_rdE (o := 0) (m := 1) (cp := 1) (vs := [n].map B) (hw.mem (.head _)) (rfl) (by first | rfl | exact lenP | (simp; omega)) lenP)) ?_
        refine tx_q 10 rfl (by kernel_rfl) rfl rfl rfl (fun _ _ _ h => h) (y_build (v := .agg ((rg n 1).map B ++ ((rg n 2).map B ++ ((rg n 3).map B ++ ([Str [n], I 0, Str [], .slice none 0 0])))).toArray) (vs := [(0, .agg ((rg n 1).map B ++ ((rg n 2).map B ++ ((rg n 3).map B))).toArray), (1, Str [n])]) rfl (run_build (zs := (List.replicate 32 0).map B ++ ((List.replicate 32 0).map B ++ ((List.replicate 32 0).map B ++ ([Str [], I 0, Str [], .slice none 0 0])))) (pl := [(0, 96), (96, 1), (97, 1), (98, 1), (99, 1)]) Tryd.underlying86 (fun _ => by kernel_rfl) (fun _ => by kernel_rfl) (fillP2 (a := (rg n 1).map B ++ ((rg n 2).map B ++ ((rg n 3).map B))) (b := [Str [n]]) lenP rfl (by simp) (by simp)))) ?_
        refine tx_a 11 rfl (by kernel_rfl) rfl ?_; refine a_boxL (cs := (rg n 1).map B ++ ((rg n 2).map B ++ ((rg n 3).map B ++ ([Str [n], I 0, Str [], .slice none 0 0])))) rfl rfl fun b22 => ?_
        refine tk_S (fun _ h => h.sub (.cons _ (List.Sublist.refl _))) ?_
        refine tx_q 13 rfl (by kernel_rfl) rfl rfl rfl (fun _ _ _ h => h) (y_assign rfl) ?_
        refine tx_done (by kernel_rfl) ?_
        refine tk_then ?_
        refine tk_retc ?_
        refine tk_perm _ (.trans (.cons _ (.trans (.cons _ (.trans (.cons _ (.trans (.cons _ (List.Perm.refl _)) (.swap _ _ _))) (.swap _ _ _))) (.swap _ _ _))) (.swap _ _ _)) ?_
        refine tk_perm _ (.trans (.cons _ (.trans (.cons _ (.trans (.cons _ (.trans (.cons _ (List.Perm.refl _)) (.swap _ _ _))) (.swap _ _ _))) (.swap _ _ _))) (.swap _ _ _)) ?_
        refine tk_perm _ (.trans (.cons _ (.trans (.cons _ (.trans (.cons _ (.trans (.cons _ (List.Perm.refl _)) (.swap _ _ _))) (.swap _ _ _))) (.swap _ _ _))) (.swap _ _ _)) ?_
        exact tk_ret ((w16, tb14, vb14, b22)) (trivial) (.inl rfl) (r2 rfl rfl rfl) (.cons_cons _ (.cons_cons _ (.cons_cons _ (.cons_cons _ (List.nil_sublist _)))))
      · skip
        skip; refine a_slitN (vs := [B n]) rfl (List.forall_mem_cons.2 ⟨rfl, (fun _ h => nomatch h)⟩) (EL26) rfl rfl (by decide) fun b19 => ?_
        refine tk_S (fun _ h => h.sub (.cons _ (List.Sublist.refl _))) ?_
        refine tx_more [cel b19 ([B n]) 5, cel tb14 ([vb14, .int .u64 (((0 : Nat) : Nat) : Int), .slice none 0 0]) 160, own vb14 ([n].length) ([n].map B) 5 1, cel b13 ([B n]) 5, cel b5 ((rg n 1).map B ++ ((rg n 2).map B ++ ((rg n 3).map B))) 54, cel b4 ((rg n 1).map B ++ ((rg n 2).map B ++ ((rg n 3).map B))) 49] (fun _ h => h.sub (.cons _ (List.Sublist.refl _))) (fun _ h => h.sub (List.Sublist.refl _)) ?_
        refine tx_l 9 rfl (by kernel_rfl) (by kernel_rfl) rfl rfl rfl (fun _ _ _ h => h) (fun _ h => h.sub (List.Sublist.refl _)) (y_str (l := [n]) rfl rfl rfl rfl (fun w hw => cel_rdE (o := 0) (m := 1) (cp := 1) (vs := [n].map B) (hw.mem (.head _)) (rfl) (by first | rfl | exact lenP | (simp; omega)) lenP)) ?_
        refine tx_q 10 rfl (by kernel_rfl) rfl rfl rfl (fun _ _ _ h => h) (y_build (v := .agg ((rg n 1).map B ++ ((rg n 2).map B ++ ((rg n 3).map B ++ ([Str [n], I 0, Str [], .slice none 0 0])))).toArray) (vs := [(0, .agg ((rg n 1).map B ++ ((rg n 2).map B ++ ((rg n 3).map B))).toArray), (1, Str [n])]) rfl (run_build (zs := (List.replicate 32 0).map B ++ ((List.replicate 32 0).map B ++ ((List.replicate 32 0).map B ++ ([Str [], I 0, Str [], .slice none 0 0])))) (pl := [(0, 96), (96, 1), (97, 1), (98, 1), (99, 1)]) Tryd.underlying86 (fun _ => by kernel_rfl) (fun _ => by kernel_rfl) (fillP2 (a := (rg n 1).map B ++ ((rg n 2).map B ++ ((rg n 3).map B))) (b := [Str [n]]) lenP rfl (by simp) (by simp)))) ?_
        refine tx_all (is := [5, 11]) (by kernel_rfl) rfl ⟨⟨_, rfl, rfl, ?_⟩, ⟨_, rfl, rfl, ?_⟩, trivial⟩
        · skip
          skip; refine a_callv [] _ rfl (by kernel_rfl) rfl (fun w' hw' => pnew_spec (hk := rg n 1) (mk := rg n 2) (nk := rg n 3) (tb := tb14) ⟨lenP, lenP, lenP⟩) rfl fun w16 _ => ?_
          refine tk_S (fun _ h => h.sub (.cons _ (List.Sublist.refl _))) ?_
          refine tx_q 12 rfl (by kernel_rfl) rfl rfl rfl (fun _ _ _ h => h) (y_assign rfl) ?_
          refine tx_a 11 rfl (by kernel_rfl) rfl ?_; refine a_boxL (cs := (rg n 1).map B ++ ((rg n 2).map B ++ ((rg n 3).map B ++ ([Str [n], I 0, Str [], .slice none 0 0])))) rfl rfl fun b22 => ?_
          refine tk_S (fun _ h => h.sub (.cons _ (.cons _ (List.Sublist.refl _)))) ?_
          refine tx_q 13 rfl (by kernel_rfl) rfl rfl rfl (fun _ _ _ h => h) (y_assign rfl) ?_
          refine tx_done (by kernel_rfl) ?_
          refine tk_then ?_
          refine tk_retc ?_
          refine tk_perm _ (.trans (.cons _ (.trans (.cons _ (.trans (.cons _ (.trans (.cons _ (List.Perm.refl _)) (.swap _ _ _))) (.swap _ _ _))) (.swap _ _ _))) (.swap _ _ _)) ?_
          refine tk_perm _ (.trans (.cons _ (.trans (.cons _ (.trans (.cons _ (.trans (.cons _ (List.Perm.refl _)) (.swap _ _ _))) (.swap _ _ _))) (.swap _ _ _))) (.swap _ _ _)) ?_
          refine tk_perm _ (.trans (.cons _ (.trans (.cons _ (.trans (.cons _ (List.Perm.refl _)) (.swap _ _ _))) (.swap _ _ _))) (.swap _ _ _)) ?_
          exact tk_ret ((w16, tb14, vb14, b22)) (trivial) (.inl rfl) (r2 rfl rfl rfl) (.cons_cons _ (.cons_cons _ (.cons_cons _ (.cons_cons _ (List.nil_sublist _)))))
        · skip
          skip; refine a_boxL (cs := (rg n 1).map B ++ ((rg n 2).map B ++ ((rg n 3).map B ++ ([Str [n], I 0, Str [], .slice none 0 0])))) rfl rfl fun b22 => ?_
          refine tk_S (fun _ h => h.sub (.cons _ (List.Sublist.refl _))) ?_
          refine tx_more [cel b22 ((rg n 1).map B ++ ((rg n 2).map B ++ ((rg n 3).map B ++ ([Str [n], I 0, Str [], .slice none 0 0])))) 86, cel b19 ([B n]) 5, cel tb14 ([vb14, .int .u64 (((0 : Nat) : Nat) : Int), .slice none 0 0]) 160, own vb14 ([n].length) ([n].map B) 5 1, cel b13 ([B n]) 5, cel b5 ((rg n 1).map B ++ ((rg n 2).map B ++ ((rg n 3).map B))) 54, cel b4 ((rg n 1).map B ++ ((rg n 2).map B ++ ((rg n 3).map B))) 49] (fun _ h => h.sub (.cons _ (List.Sublist.refl _))) (fun _ h => h.sub (List.Sublist.refl _)) ?_
          refine tx_a 5 rfl (by kernel_rfl) rfl ?_; refine a_callv [] _ rfl (by kernel_rfl) rfl (fun w' hw' => pnew_spec (hk := rg n 1) (mk := rg n 2) (nk := rg n 3) (tb := tb14) ⟨lenP, lenP, lenP⟩) rfl fun w16 _ => ?_
          refine tk_S (fun _ h => h.sub (.cons _ (List.Sublist.refl _))) ?_
          refine tx_q 12 rfl (by kernel_rfl) rfl rfl rfl (fun _ _ _ h => h) (y_assign rfl) ?_
          refine tx_q 13 rfl (by kernel_rfl) rfl rfl rfl (fun _ _ _ h => h) (y_assign rfl) ?_
          refine tx_done (by kernel_rfl) ?_
          refine tk_then ?_
          refine tk_retc ?_
          refine tk_perm _ (.trans (.cons _ (List.Perm.refl _)) (.swap _ _ _)) ?_
          refine tk_perm _ (.trans (.cons _ (.trans (.cons _ (.trans (.cons _ (.trans (.cons _ (List.Perm.refl _)) (.swap _ _ _))) (.swap _ _ _))) (.swap _ _ _))) (.swap _ _ _)) ?_
          refine tk_perm _ (.trans (.cons _ (.trans (.cons _ (.trans (.cons _ (.trans (.cons _ (List.Perm.refl _)) (.swap _ _ _))) (.swap _ _ _))) (.swap _ _ _))) (.swap _ _ _)) ?_
          refine tk_perm _ (.trans (.cons _ (.trans (.cons _ (.trans (.cons _ (List.Perm.refl _)) (.swap _ _ _))) (.swap _ _ _))) (.swap _ _ _)) ?_
          exact tk_ret ((w16, tb14, vb14, b22)) (trivial) (.inl rfl) (r2 rfl rfl rfl) (.cons_cons _ (.cons_cons _ (.cons_cons _ (.cons_cons _ (List.nil_sublist _)))))
    · skip
      skip; refine a_slitN (vs := [B n]) rfl (List.forall_mem_cons.2 ⟨rfl, (fun _ h => nomatch h)⟩) (EL26) rfl rfl (by decide) fun b19 => ?_
      refine tk_S (fun _ h => h.sub (.cons _ (List.Sublist.refl _))) ?_
      refine tx_more [cel b19 ([B n]) 5, cel b13 ([B n]) 5, cel b5 ((rg n 1).map B ++ ((rg n 2).map B ++ ((rg n 3).map B))) 54, cel b4 ((rg n 1).map B ++ ((rg n 2).map B ++ ((rg n 3).map B))) 49] (fun _ h => h.sub (.cons _ (List.Sublist.refl _))) (fun _ h => h.sub (List.Sublist.refl _)) ?_
      refine tx_l 9 rfl (by kernel_rfl) (by kernel_rfl) rfl rfl rfl (fun _ _ _ h => h) (fun _ h => h.sub (List.Sublist.refl _)) (y_str (l := [n]) rfl rfl rfl rfl (fun w hw => cel_rdE (o := 0) (m := 1) (cp := 1) (vs := [n].map B) (hw.mem (.head _)) (rfl) (by first | rfl | exact lenP | (simp; omega)) lenP)) ?_
      refine tx_q 10 rfl (by kernel_rfl) rfl rfl rfl (fun _ _ _ h => h) (y_build (v := .agg ((rg n 1).map B ++ ((rg n 2).map B ++ ((rg n 3).map B ++ ([Str [n], I 0, Str [], .slice none 0 0])))).toArray) (vs := [(0, .agg ((rg n 1).map B ++ ((rg n 2).map B ++ ((rg n 3).map B))).toArray), (1, Str [n])]) rfl (run_build (zs := (List.replicate 32 0).map B ++ ((List.replicate 32 0).map B ++ ((List.replicate 32 0).map B ++ ([Str [], I 0, Str [], .slice none 0 0])))) (pl := [(0, 96), (96, 1), (97, 1), (98, 1), (99, 1)]) Tryd.underlying86 (fun _ => by kernel_rfl) (fun _ => by kernel_rfl) (fillP2 (a := (rg n 1).map B ++ ((rg n 2).map B ++ ((rg n 3).map B))) (b := [Str [n]]) lenP rfl (by simp) (by simp)))) ?_
      refine tx_all (is := [3, 11]) (by kernel_rfl) rfl ⟨⟨_, rfl, rfl, ?_⟩, ⟨_, rfl, rfl, ?_⟩, trivial⟩
      · skip
        skip; refine a_callv [] _ rfl (by kernel_rfl) rfl (fun w' hw' => wind_spec (b := [n]) (Ro.cel (H0 := []) (b := b13) (o := 0) (m := 1) (cp := 1) (vs := [n].map B) hw' (.tail _ (.head _)) (rfl) (by first | rfl | exact lenP | (simp; omega)) lenP) lenP) rfl fun ⟨tb14, vb14⟩ _ => ?_
        refine tk_S (fun _ h => h.sub (.cons _ (.cons _ (List.Sublist.refl _)))) ?_
        refine tx_more [cel tb14 ([vb14, .int .u64 (((0 : Nat) : Nat) : Int), .slice none 0 0]) 160, own vb14 ([n].length) ([n].map B) 5 1, cel b19 ([B n]) 5, cel b13 ([B n]) 5, cel b5 ((rg n 1).map B ++ ((rg n 2).map B ++ ((rg n 3).map B))) 54, cel b4 ((rg n 1).map B ++ ((rg n 2).map B ++ ((rg n 3).map B))) 49] (fun _ h => h.sub (.cons _ (.cons _ (List.Sublist.refl _)))) (fun _ h => h.sub (List.Sublist.refl _)) ?_
        refine tx_q 4 rfl (by kernel_rfl) rfl rfl rfl (fun _ _ _ h => h) (y_build (v := .agg ((rg n 1).map B ++ ((rg n 2).map B ++ ((rg n 3).map B ++ ([Value.pointer (some ⟨tb14, 0, none⟩)])))).toArray) (vs := [(0, .agg ((rg n 1).map B ++ ((rg n 2).map B ++ ((rg n 3).map B))).toArray), (1, .pointer (some ⟨tb14, 0, none⟩))]) rfl (run_build (zs := (List.replicate 32 0).map B ++ ((List.replicate 32 0).map B ++ ((List.replicate 32 0).map B ++ ([Value.pointer none])))) (pl := [(0, 96), (96, 1)]) Tryd.underlying52 (fun _ => by kernel_rfl) (fun _ => by kernel_rfl) (fillP2 (a := (rg n 1).map B ++ ((rg n 2).map B ++ ((rg n 3).map B))) (b := [Value.pointer (some ⟨tb14, 0, none⟩)]) lenP rfl (by simp) (by simp)))) ?_
        refine tx_all (is := [5, 11]) (by kernel_rfl) rfl ⟨⟨_, rfl, rfl, ?_⟩, ⟨_, rfl, rfl, ?_⟩, trivial⟩
        · skip
          skip; refine a_callv [] _ rfl (by kernel_rfl) rfl (fun w' hw' => pnew_spec (hk := rg n 1) (mk := rg n 2) (nk := rg n 3) (tb := tb14) ⟨lenP, lenP, lenP⟩) rfl fun w16 _ => ?_
          refine tk_S (fun _ h => h.sub (.cons _ (List.Sublist.refl _))) ?_
          refine tx_q 12 rfl (by kernel_rfl) rfl rfl rfl (fun _ _ _ h => h) (y_assign rfl) ?_
          refine tx_a 11 rfl (by kernel_rfl) rfl ?_; refine a_boxL (cs := (rg n 1).map B ++ ((rg n 2).map B ++ ((rg n 3).map B ++ ([Str [n], I 0, Str [], .slice none 0 0])))) rfl rfl fun b22 => ?_
          refine tk_S (fun _ h => h.sub (.cons _ (.cons _ (List.Sublist.refl _)))) ?_
          refine tx_q 13 rfl (by kernel_rfl) rfl rfl rfl (fun _ _ _ h => h) (y_assign rfl) ?_
          refine tx_done (by kernel_rfl) ?_
          refine tk_then ?_
          refine tk_retc ?_
          refine tk_perm _ (.trans (.cons _ (.trans (.cons _ (.trans (.cons _ (List.Perm.refl _)) (.swap _ _ _))) (.swap _ _ _))) (.swap _ _ _)) ?_
          refine tk_perm _ (.trans (.cons _ (.trans (.cons _ (.trans (.cons _ (List.Perm.refl _)) (.swap _ _ _))) (.swap _ _ _))) (.swap _ _ _)) ?_
          refine tk_perm _ (.trans (.cons _ (.trans (.cons _ (.trans (.cons _ (List.Perm.refl _)) (.swap _ _ _))) (.swap _ _ _))) (.swap _ _ _)) ?_
          exact tk_ret ((w16, tb14, vb14, b22)) (trivial) (.inl rfl) (r2 rfl rfl rfl) (.cons_cons _ (.cons_cons _ (.cons_cons _ (.cons_cons _ (List.nil_sublist _)))))
        · skip
          skip; refine a_boxL (cs := (rg n 1).map B ++ ((rg n 2).map B ++ ((rg n 3).map B ++ ([Str [n], I 0, Str [], .slice none 0 0])))) rfl rfl fun b22 => ?_
          refine tk_S (fun _ h => h.sub (.cons _ (List.Sublist.refl _))) ?_
          refine tx_more [cel b22 ((rg n 1).map B ++ ((rg n 2).map B ++ ((rg n 3).map B ++ ([Str [n], I 0, Str [], .slice none 0 0])))) 86, cel tb14 ([vb14, .int .u64 (((0 : Nat) : Nat) : Int), .slice none 0 0]) 160, own vb14 ([n].length) ([n].map B) 5 1, cel b19 ([B n]) 5, cel b13 ([B n]) 5, cel b5 ((rg n 1).map B ++ ((rg n 2).map B ++ ((rg n 3).map B))) 54, cel b4 ((rg n 1).map B ++ ((rg n 2).map B ++ ((rg n 3).map B))) 49] (fun _ h => h.sub (.cons _ (List.Sublist.refl _))) (fun _ h => h.sub (List.Sublist.refl _)) ?_
          refine tx_a 5 rfl (by kernel_rfl) rfl ?_; refine a_callv [] _ rfl (by kernel_rfl) rfl (fun w' hw' => pnew_spec (hk := rg n 1) (mk := rg n 2) (nk := rg n 3) (tb := tb14) ⟨lenP, lenP, lenP⟩) rfl fun w16 _ => ?_
          refine tk_S (fun _ h => h.sub (.cons _ (List.Sublist.refl _))) ?_
          refine tx_q 12 rfl (by kernel_rfl) rfl rfl rfl (fun _ _ _ h => h) (y_assign rfl) ?_
          refine tx_q 13 rfl (by kernel_rfl) rfl rfl rfl (fun _ _ _ h => h) (y_assign rfl) ?_
          refine tx_done (by kernel_rfl) ?_
          refine tk_then ?_
          refine tk_retc ?_
          refine tk_perm _ (.trans (.cons _ (List.Perm.refl _)) (.swap _ _ _)) ?_
          refine tk_perm _ (.trans (.cons _ (.trans (.cons _ (.trans (.cons _ (List.Perm.refl _)) (.swap _ _ _))) (.swap _ _ _))) (.swap _ _ _)) ?_
          refine tk_perm _ (.trans (.cons _ (.trans (.cons _ (.trans (.cons _ (List.Perm.refl _)) (.swap _ _ _))) (.swap _ _ _))) (.swap _ _ _)) ?_
          refine tk_perm _ (.trans (.cons _ (.trans (.cons _ (.trans (.cons _ (List.Perm.refl _)) (.swap _ _ _))) (.swap _ _ _))) (.swap _ _ _)) ?_
          exact tk_ret ((w16, tb14, vb14, b22)) (trivial) (.inl rfl) (r2 rfl rfl rfl) (.cons_cons _ (.cons_cons _ (.cons_cons _ (.cons_cons _ (List.nil_sublist _)))))
      · skip
        skip; refine a_boxL (cs := (rg n 1).map B ++ ((rg n 2).map B ++ ((rg n 3).map B ++ ([Str [n], I 0, Str [], .slice none 0 0])))) rfl rfl fun b22 => ?_
        refine tk_S (fun _ h => h.sub (.cons _ (List.Sublist.refl _))) ?_
        refine tx_more [cel b22 ((rg n 1).map B ++ ((rg n 2).map B ++ ((rg n 3).map B ++ ([Str [n], I 0, Str [], .slice none 0 0])))) 86, cel b19 ([B n]) 5, cel b13 ([B n]) 5, cel b5 ((rg n 1).map B ++ ((rg n 2).map B ++ ((rg n 3).map B))) 54, cel b4 ((rg n 1).map B ++ ((rg n 2).map B ++ ((rg n 3).map B))) 49] (fun _ h => h.sub (.cons _ (List.Sublist.refl _))) (fun _ h => h.sub (List.Sublist.refl _)) ?_
        refine tx_a 3 rfl (by kernel_rfl) rfl ?_; refine a_callv [] _ rfl (by kernel_rfl) rfl (fun w' hw' => wind_spec (b := [n]) (Ro.cel (H0 := []) (b := b13) (o := 0) (m := 1) (cp := 1) (vs := [n].map B) hw' (.tail _ (.tail _ (.head _))) (rfl) (by first | rfl | exact lenP | (simp; omega)) lenP) lenP) rfl fun ⟨tb14, vb14⟩ _ => ?_
        refine tk_S (fun _ h => h.sub (.cons _ (.cons _ (List.Sublist.refl _)))) ?_
        refine tx_more [cel tb14 ([vb14, .int .u64 (((0 : Nat) : Nat) : Int), .slice none 0 0]) 160, own vb14 ([n].length) ([n].map B) 5 1, cel b22 ((rg n 1).map B ++ ((rg n 2).map B ++ ((rg n 3).map B ++ ([Str [n], I 0, Str [], .slice none 0 0])))) 86, cel b19 ([B n]) 5, cel b13 ([B n]) 5, cel b5 ((rg n 1).map B ++ ((rg n 2).map B ++ ((rg n 3).map B))) 54, cel b4 ((rg n 1).map B ++ ((rg n 2).map B ++ ((rg n 3).map B))) 49] (fun _ h => h.sub (.cons _ (.cons _ (List.Sublist.refl _)))) (fun _ h => h.sub (List.Sublist.refl _)) ?_
        refine tx_q 4 rfl (by kernel_rfl) rfl rfl rfl (fun _ _ _ h => h) (y_build (v := .agg ((rg n 1).map B ++ ((rg n 2).map B ++ ((rg n 3).map B ++ ([Value.pointer (some ⟨tb14, 0, none⟩)])))).toArray) (vs := [(0, .agg ((rg n 1).map B ++ ((rg n 2).map B ++ ((rg n 3).map B))).toArray), (1, .pointer (some ⟨tb14, 0, none⟩))]) rfl (run_build (zs := (List.replicate 32 0).map B ++ ((List.replicate 32 0).map B ++ ((List.replicate 32 0).map B ++ ([Value.pointer none])))) (pl := [(0, 96), (96, 1)]) Tryd.underlying52 (fun _ => by kernel_rfl) (fun _ => by kernel_rfl) (fillP2 (a := (rg n 1).map B ++ ((rg n 2).map B ++ ((rg n 3).map B))) (b := [Value.pointer (some ⟨tb14, 0, none⟩)]) lenP rfl (by simp) (by simp)))) ?_
        refine tx_a 5 rfl (by kernel_rfl) rfl ?_; refine a_callv [] _ rfl (by kernel_rfl) rfl (fun w' hw' => pnew_spec (hk := rg n 1) (mk := rg n 2) (nk := rg n 3) (tb := tb14) ⟨lenP, lenP, lenP⟩) rfl fun w16 _ => ?_
        refine tk_S (fun _ h => h.sub (.cons _ (List.Sublist.refl _))) ?_
        refine tx_q 12 rfl (by kernel_rfl) rfl rfl rfl (fun _ _ _ h => h) (y_assign rfl) ?_
        refine tx_q 13 rfl (by kernel_rfl) rfl rfl rfl (fun _ _ _ h => h) (y_assign rfl) ?_
        refine tx_done (by kernel_rfl) ?_
        refine tk_then ?_
        refine tk_retc ?_
        exact tk_ret ((w16, tb14, vb14, b22)) (trivial) (.inl rfl) (r2 rfl rfl rfl) (.cons_cons _ (.cons_cons _ (.cons_cons _ (.cons_cons _ (List.nil_sublist _)))))
  · skip
    skip; refine a_slitN (vs := [B n]) rfl (List.forall_mem_cons.2 ⟨rfl, (fun _ h => nomatch h)⟩) (EL26) rfl rfl (by decide) fun b19 => ?_
    refine tk_S (fun _ h => h.sub (.cons _ (List.Sublist.refl _))) ?_
    refine tx_more [cel b19 ([B n]) 5, cel b5 ((rg n 1).map B ++ ((rg n 2).map B ++ ((rg n 3).map B))) 54, cel b4 ((rg n 1).map B ++ ((rg n 2).map B ++ ((rg n 3).map B))) 49] (fun _ h => h.sub (.cons _ (List.Sublist.refl _))) (fun _ h => h.sub (List.Sublist.refl _)) ?_
    refine tx_l 9 rfl (by kernel_rfl) (by kernel_rfl) rfl rfl rfl (fun _ _ _ h => h) (fun _ h => h.sub (List.Sublist.refl _)) (y_str (l := [n]) rfl rfl rfl rfl (fun w hw => cel_rdE (o := 0) (m := 1) (cp := 1) (vs := [n].map B) (hw.mem (.head _)) (rfl) (by first | rfl | exact lenP | (simp; omega)) lenP)) ?_
    refine tx_q 10 rfl (by kernel_rfl) rfl rfl rfl (fun _ _ _ h => h) (y_build (v := .agg ((rg n 1).map B ++ ((rg n 2).map B ++ ((rg n 3).map B ++ ([Str [n], I 0, Str [], .slice none 0 0])))).toArray) (vs := [(0, .agg ((rg n 1).map B ++ ((rg n 2).map B ++ ((rg n 3).map B))).toArray), (1, Str [n])]) rfl (run_build (zs := (List.replicate 32 0).map B ++ ((List.replicate 32 0).map B ++ ((List.replicate 32 0).map B ++ ([Str [], I 0, Str [], .slice none 0 0])))) (pl := [(0, 96), (96, 1), (97, 1), (98, 1), (99, 1)]) Tryd.underlying86 (fun _ => by kernel_rfl) (fun _ => by kernel_rfl) (fillP2 (a := (rg n 1).map B ++ ((rg n 2).map B ++ ((rg n 3).map B))) (b := [Str [n]]) lenP rfl (by simp) (by simp)))) ?_
    refine tx_all (is := [2, 11]) (by kernel_rfl) rfl ⟨⟨_, rfl, rfl, ?_⟩, ⟨_, rfl, rfl, ?_⟩, trivial⟩
    · skip
      skip; refine a_slitN (vs := [B n]) rfl (List.forall_mem_cons.2 ⟨rfl, (fun _ h => nomatch h)⟩) (EL26) rfl rfl (by decide) fun b13 => ?_
      refine tk_S (fun _ h => h.sub (.cons _ (List.Sublist.refl _))) ?_
      refine tx_more [cel b13 ([B n]) 5, cel b19 ([B n]) 5, cel b5 ((rg n 1).map B ++ ((rg n 2).map B ++ ((rg n 3).map B))) 54, cel b4 ((rg n 1).map B ++ ((rg n 2).map B ++ ((rg n 3).map B))) 49] (fun _ h => h.sub (.cons _ (List.Sublist.refl _))) (fun _ h => h.sub (List.Sublist.refl _)) ?_
      refine tx_all (is := [3, 11]) (by kernel_rfl) rfl ⟨⟨_, rfl, rfl, ?_⟩, ⟨_, rfl, rfl, ?_⟩, trivial⟩
      · skip
        skip; refine a_callv [] _ rfl (by kernel_rfl) rfl (fun w' hw' => wind_spec (b := [n]) (Ro.cel (H0 := []) (b := b13) (o := 0) (m := 1) (cp := 1) (vs := [n].map B) hw' (.head _) (rfl) (by first | rfl | exact lenP | (simp; omega)) lenP) lenP) rfl fun ⟨tb14, vb14⟩ _ => ?_
        refine tk_S (fun _ h => h.sub (.cons _ (.cons _ (List.Sublist.refl _)))) ?_
        refine tx_more [cel tb14 ([vb14, .int .u64 (((0 : Nat) : Nat) : Int), .slice none 0 0]) 160, own vb14 ([n].length) ([n].map B) 5 1, cel b13 ([B n]) 5, cel b19 ([B n]) 5, cel b5 ((rg n 1).map B ++ ((rg n 2).map B ++ ((rg n 3).map B))) 54, cel b4 ((rg n 1).map B ++ ((rg n 2).map B ++ ((rg n 3).map B))) 49] (fun _ h => h.sub (.cons _ (.cons _ (List.Sublist.refl _)))) (fun _ h => h.sub (List.Sublist.refl _)) ?_
        refine tx_q 4 rfl (by kernel_rfl) rfl rfl rfl (fun _ _ _ h => h) (y_build (v := .agg ((rg n 1).map B ++ ((rg n 2).map B ++ ((rg n 3).map B ++ ([Value.pointer (some ⟨tb14, 0, none⟩)])))).toArray) (vs := [(0, .agg ((rg n 1).map B ++ ((rg n 2).map B ++ ((rg n 3).map B))).toArray), (1, .pointer (some ⟨tb14, 0, none⟩))]) rfl (run_build (zs := (List.replicate 32 0).map B ++ ((List.replicate 32 0).map B ++ ((List.replicate 32 0).map B ++ ([Value.pointer none])))) (pl := [(0, 96), (96, 1)]) Tryd.underlying52 (fun _ => by kernel_rfl) (fun _ => by kernel_rfl) (fillP2 (a := (rg n 1).map B ++ ((rg n 2).map B ++ ((rg n 3).map B))) (b := [Value.pointer (some ⟨tb14, 0, none⟩)]) lenP rfl (by simp) (by simp)))) ?_
        refine tx_all (is := [5, 11]) (by kernel_rfl) rfl ⟨⟨_, rfl, rfl, ?_⟩, ⟨_, rfl, rfl, ?_⟩, trivial⟩
        · skip
          skip; refine a_callv [] _ rfl (by kernel_rfl) rfl (fun w' hw' => pnew_spec (hk := rg n 1) (mk := rg n 2) (nk := rg n 3) (tb := tb14) ⟨lenP, lenP, lenP⟩) rfl fun w16 _ => ?_
          refine tk_S (fun _ h => h.sub (.cons _ (List.Sublist.refl _))) ?_
          refine tx_q 12 rfl (by kernel_rfl) rfl rfl rfl (fun _ _ _ h => h) (y_assign rfl) ?_
          refine tx_a 11 rfl (by kernel_rfl) rfl ?_; refine a_boxL (cs := (rg n 1).map B ++ ((rg n 2).map B ++ ((rg n 3).map B ++ ([Str [n], I 0, Str [], .slice none 0 0])))) rfl rfl fun b22 => ?_
          refine tk_S (fun _ h => h.sub (.cons _ (.cons _ (List.Sublist.refl _)))) ?_
          refine tx_q 13 rfl (by kernel_rfl) rfl rfl rfl (fun _ _ _ h => h) (y_assign rfl) ?_
          refine tx_done (by kernel_rfl) ?_
          refine tk_then ?_
          refine tk_retc ?_
          refine tk_perm _ (.trans (.cons _ (.trans (.cons _ (.trans (.cons _ (List.Perm.refl _)) (.swap _ _ _))) (.swap _ _ _))) (.swap _ _ _)) ?_
          refine tk_perm _ (.trans (.cons _ (.trans (.cons _ (.trans (.cons _ (List.Perm.refl _)) (.swap _ _ _))) (.swap _ _ _))) (.swap _ _ _)) ?_
          refine tk_perm _ (.trans (.cons _ (.trans (.cons _ (.trans (.cons _ (List.Perm.refl _)) (.swap _ _ _))) (.swap _ _ _))) (.swap _ _ _)) ?_
          exact tk_ret ((w16, tb14, vb14, b22)) (trivial) (.inl rfl) (r2 rfl rfl rfl) (.cons_cons _ (.cons_cons _ (.cons_cons _ (.cons_cons _ (List.nil_sublist _)))))
        · skip
          skip; refine a_boxL (cs := (rg n 1).map B ++ ((rg n 2).map B ++ ((rg n 3).map B ++ ([Str [n], I 0, Str [], .slice none 0 0])))) rfl rfl fun b22 => ?_
          refine tk_S (fun _ h => h.sub (.cons _ (List.Sublist.refl _))) ?_
          refine tx_more [cel b22 ((rg n 1).map B ++ ((rg n 2).map B ++ ((rg n 3).map B ++ ([Str [n], I 0, Str [], .slice none 0 0])))) 86, cel tb14 ([vb14, .int .u64 (((0 : Nat) : Nat) : Int), .slice none 0 0]) 160, own vb14 ([n].length) ([n].map B) 5 1, cel b13 ([B n]) 5, cel b19 ([B n]) 5, cel b5 ((rg n 1).map B ++ ((rg n 2).map B ++ ((rg n 3).map B))) 54, cel b4 ((rg n 1).map B ++ ((rg n 2).map B ++ ((rg n 3).map B))) 49] (fun _ h => h.sub (.cons _ (List.Sublist.refl _))) (fun _ h => h.sub (List.Sublist.refl _)) ?_
          refine tx_a 5 rfl (by kernel_rfl) rfl ?_; refine a_callv [] _ rfl (by kernel_rfl) rfl (fun w' hw' => pnew_spec (hk := rg n 1) (mk := rg n 2) (nk := rg n 3) (tb := tb14) ⟨lenP, lenP, lenP⟩) rfl fun w16 _ => ?_
          refine tk_S (fun _ h => h.sub (.cons _ (List.Sublist.refl _))) ?_
          refine tx_q 12 rfl (by kernel_rfl) rfl rfl rfl (fun _ _ _ h => h) (y_assign rfl) ?_
          refine tx_q 13 rfl (by kernel_rfl) rfl rfl rfl (fun _ _ _ h => h) (y_assign rfl) ?_
          refine tx_done (by kernel_rfl) ?_
          refine tk_then ?_
          refine tk_retc ?_
          refine tk_perm _ (.trans (.cons _ (List.Perm.refl _)) (.swap _ _ _)) ?_
          refine tk_perm _ (.trans (.cons _ (.trans (.cons _ (.trans (.cons _ (List.Perm.refl _)) (.swap _ _ _))) (.swap _ _ _))) (.swap _ _ _)) ?_
          refine tk_perm _ (.trans (.cons _ (.trans (.cons _ (.trans (.cons _ (List.Perm.refl _)) (.swap _ _ _))) (.swap _ _ _))) (.swap _ _ _)) ?_
          refine tk_perm _ (.trans (.cons _ (.trans (.cons _ (.trans (.cons _ (List.Perm.refl _)) (.swap _ _ _))) (.swap _ _ _))) (.swap _ _ _)) ?_
          exact tk_ret ((w16, tb14, vb14, b22)) (trivial) (.inl rfl) (r2 rfl rfl rfl) (.cons_cons _ (.cons_cons _ (.cons_cons _ (.cons_cons _ (List.nil_sublist _)))))
      · skip
        skip; refine a_boxL (cs := (rg n 1).map B ++ ((rg n 2).map B ++ ((rg n 3).map B ++ ([Str [n], I 0, Str [], .slice none 0 0])))) rfl rfl fun b22 => ?_
        refine tk_S (fun _ h => h.sub (.cons _ (List.Sublist.refl _))) ?_
        refine tx_more [cel b22 ((rg n 1).map B ++ ((rg n 2).map B ++ ((rg n 3).map B ++ ([Str [n], I 0, Str [], .slice none 0 0])))) 86, cel b13 ([B n]) 5, cel b19 ([B n]) 5, cel b5 ((rg n 1).map B ++ ((rg n 2).map B ++ ((rg n 3).map B))) 54, cel b4 ((rg n 1).map B ++ ((rg n 2).map B ++ ((rg n 3).map B))) 49] (fun _ h => h.sub (.cons _ (List.Sublist.refl _))) (fun _ h => h.sub (List.Sublist.refl _)) ?_
        refine tx_a 3 rfl (by kernel_rfl) rfl ?_; refine a_callv [] _ rfl (by kernel_rfl) rfl (fun w' hw' => wind_spec (b := [n]) (Ro.cel (H0 := []) (b := b13) (o := 0) (m := 1) (cp := 1) (vs := [n].map B) hw' (.tail _ (.head _)) (rfl) (by first | rfl | exact lenP | (simp; omega)) lenP) lenP) rfl fun ⟨tb14, vb14⟩ _ => ?_
        refine tk_S (fun _ h => h.sub (.cons _ (.cons _ (List.Sublist.refl _)))) ?_
        refine tx_more [cel tb14 ([vb14, .int .u64 (((0 : Nat) : Nat) : Int), .slice none 0 0]) 160, own vb14 ([n].length) ([n].map B) 5 1, cel b22 ((rg n 1).map B ++ ((rg n 2).map B ++ ((rg n 3).map B ++ ([Str [n], I 0, Str [], .slice none 0 0])))) 86, cel b13 ([B n]) 5, cel b19 ([B n]) 5, cel b5 ((rg n 1).map B ++ ((rg n 2).map B ++ ((rg n 3).map B))) 54, cel b4 ((rg n 1).map B ++ ((rg n 2).map B ++ ((rg n 3).map B))) 49] (fun _ h => h.sub (.cons _ (.cons _ (List.Sublist.refl _)))) (fun _ h => h.sub (List.Sublist.refl _)) ?_
        refine tx_q 4 rfl (by kernel_rfl) rfl rfl rfl (fun _ _ _ h => h) (y_build (v := .agg ((rg n 1).map B ++ ((rg n 2).map B ++ ((rg n 3).map B ++ ([Value.pointer (some ⟨tb14, 0, none⟩)])))).toArray) (vs := [(0, .agg ((rg n 1).map B ++ ((rg n 2).map B ++ ((rg n 3).map B))).toArray), (1, .pointer (some ⟨tb14, 0, none⟩))]) rfl (run_build (zs := (List.replicate 32 0).map B ++ ((List.replicate 32 0).map B ++ ((List.replicate 32 0).map B ++ ([Value.pointer none])))) (pl := [(0, 96), (96, 1)]) Tryd.underlying52 (fun _ => by kernel_rfl) (fun _ => by kernel_rfl) (fillP2 (a := (rg n 1).map B ++ ((rg n 2).map B ++ ((rg n 3).map B))) (b := [Value.pointer (some ⟨tb14, 0, none⟩)]) lenP rfl (by simp) (by simp)))) ?_
        refine tx_a 5 rfl (by kernel_rfl) rfl ?_; refine a_callv [] _ rfl (by kernel_rfl) rfl (fun w' hw' => pnew_spec (hk := rg n 1) (mk := rg n 2) (nk := rg n 3) (tb := tb14) ⟨lenP, lenP, lenP⟩) rfl fun w16 _ => ?_
        refine tk_S (fun _ h => h.sub (.cons _ (List.Sublist.refl _))) ?_
        refine tx_q 12 rfl (by kernel_rfl) rfl rfl rfl (fun _ _ _ h => h) (y_assign rfl) ?_
        refine tx_q 13 rfl (by kernel_rfl) rfl rfl rfl (fun _ _ _ h => h) (y_assign rfl) ?_
        refine tx_done (by kernel_rfl) ?_
        refine tk_then ?_
        refine tk_retc ?_
        exact tk_ret ((w16, tb14, vb14, b22)) (trivial) (.inl rfl) (r2 rfl rfl rfl) (.cons_cons _ (.cons_cons _ (.cons_cons _ (.cons_cons _ (List.nil_sublist _)))))
    · skip
      skip; refine a_boxL (cs := (rg n 1).map B ++ ((rg n 2).map B ++ ((rg n 3).map B ++ ([Str [n], I 0, Str [], .slice none 0 0])))) rfl rfl fun b22 => ?_
      refine tk_S (fun _ h => h.sub (.cons _ (List.Sublist.refl _))) ?_
      refine tx_more [cel b22 ((rg n 1).map B ++ ((rg n 2).map B ++ ((rg n 3).map B ++ ([Str [n], I 0, Str [], .slice none 0 0])))) 86, cel b19 ([B n]) 5, cel b5 ((rg n 1).map B ++ ((rg n 2).map B ++ ((rg n 3).map B))) 54, cel b4 ((rg n 1).map B ++ ((rg n 2).map B ++ ((rg n 3).map B))) 49] (fun _ h => h.sub (.cons _ (List.Sublist.refl _))) (fun _ h => h.sub (List.Sublist.refl _)) ?_
      refine tx_a 2 rfl (by kernel_rfl) rfl ?_; refine a_slitN (vs := [B n]) rfl (List.forall_mem_cons.2 ⟨rfl, (fun _ h => nomatch h)⟩) (EL26) rfl rfl (by decide) fun b13 => ?_
      refine tk_S (fun _ h => h.sub (.cons _ (List.Sublist.refl _))) ?_
      refine tx_more [cel b13 ([B n]) 5, cel b22 ((rg n 1).map B ++ ((rg n 2).map B ++ ((rg n 3).map B ++ ([Str [n], I 0, Str [], .slice none 0 0])))) 86, cel b19 ([B n]) 5, cel b5 ((rg n 1).map B ++ ((rg n 2).map B ++ ((rg n 3).map B))) 54, cel b4 ((rg n 1).map B ++ ((rg n 2).map B ++ ((rg n 3).map B))) 49] (fun _ h => h.sub (.cons _ (List.Sublist.refl _))) (fun _ h => h.sub (List.Sublist.refl _)) ?_
      refine tx_a 3 rfl (by kernel_rfl) rfl ?_; refine a_callv [] _ rfl (by kernel_rfl) rfl (fun w' hw' => wind_spec (b := [n]) (Ro.cel (H0 := []) (b := b13) (o := 0) (m := 1) (cp := 1) (vs := [n].map B) hw' (.head _) (rfl) (by first | rfl | exact lenP | (simp; omega)) lenP) lenP) rfl fun ⟨tb14, vb14⟩ _ => ?_
      refine tk_S (fun _ h => h.sub (.cons _ (.cons _ (List.Sublist.refl _)))) ?_
      refine tx_more [cel tb14 ([vb14, .int .u64 (((0 : Nat) : Nat) : Int), .slice none 0 0]) 160, own vb14 ([n].length) ([n].map B) 5 1, cel b13 ([B n]) 5, cel b22 ((rg n 1).map B ++ ((rg n 2).map B ++ ((rg n 3).map B ++ ([Str [n], I 0, Str [], .slice none 0 0])))) 86, cel b19 ([B n]) 5, cel b5 ((rg n 1).map B ++ ((rg n 2).map B ++ ((rg n 3).map B))) 54, cel b4 ((rg n 1).map B ++ ((rg n 2).map B ++ ((rg n 3).map B))) 49] (fun _ h => h.sub (.cons _ (.cons _ (List.Sublist.refl _)))) (fun _ h => h.sub (List.Sublist.refl _)) ?_
      refine tx_q 4 rfl (by kernel_rfl) rfl rfl rfl (fun _ _ _ h => h) (y_build (v := .agg ((rg n 1).map B ++ ((rg n 2).map B ++ ((rg n 3).map B ++ ([Value.pointer (some ⟨tb14, 0, none⟩)])))).toArray) (vs := [(0, .agg ((rg n 1).map B ++ ((rg n 2).map B ++ ((rg n 3).map B))).toArray), (1, .pointer (some ⟨tb14, 0, none⟩))]) rfl (run_build (zs := (List.replicate 32 0).map B ++ ((List.replicate 32 0).map B ++ ((List.replicate 32 0).map B ++ ([Value.pointer none])))) (pl := [(0, 96), (96, 1)]) Tryd.underlying52 (fun _ => by kernel_rfl) (fun _ => by kernel_rfl) (fillP2 (a := (rg n 1).map B ++ ((rg n 2).map B ++ ((rg n 3).map B))) (b := [Value.pointer (some ⟨tb14, 0, none⟩)]) lenP rfl (by simp) (by simp)))) ?_
      refine tx_a 5 rfl (by kernel_rfl) rfl ?_; refine a_callv [] _ rfl (by kernel_rfl) rfl (fun w' hw' => pnew_spec (hk := rg n 1) (mk := rg n 2) (nk := rg n 3) (tb := tb14) ⟨lenP, lenP, lenP⟩) rfl fun w16 _ => ?_
      refine tk_S (fun _ h => h.sub (.cons _ (List.Sublist.refl _))) ?_
      refine tx_q 12 rfl (by kernel_rfl) rfl rfl rfl (fun _ _ _ h => h) (y_assign rfl) ?_
      refine tx_q 13 rfl (by kernel_rfl) rfl rfl rfl (fun _ _ _ h => h) (y_assign rfl) ?_
      refine tx_done (by kernel_rfl) ?_
      refine tk_then ?_
      refine tk_retc ?_
      exact tk_ret ((w16, tb14, vb14, b22)) (trivial) (.inl rfl) (r2 rfl rfl rfl) (.cons_cons _ (.cons_cons _ (.cons_cons _ (.cons _ (.cons_cons _ (List.nil_sublist _))))))
end
end Go.Proofs.YtfofkjajlfphjaaDoor
