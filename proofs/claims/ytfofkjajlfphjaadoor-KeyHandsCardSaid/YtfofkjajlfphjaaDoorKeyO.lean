/- key: the walk over the law KeyHands. -/
import Derived.Test.YtfofkjajlfphjaaDoorKeyL
import Derived.Test.YtfofkjajlfphjaaDoorEngTwo
set_option linter.unusedSimpArgs false
set_option linter.unusedVariables false
namespace Go.Proofs.YtfofkjajlfphjaaDoor
open Go Go.RowKit
set_option maxRecDepth 100000
def isRing (xs : List Value) : Prop := ∃ h m n : List UInt8, h.length = 32 ∧ m.length = 32 ∧ n.length = 32 ∧ xs = h.map B ++ (m.map B ++ n.map B)
theorem isRing.of {h m n : List UInt8} (h1 : h.length = 32) (h2 : m.length = 32) (h3 : n.length = 32) : isRing (h.map B ++ (m.map B ++ n.map B)) := ⟨h, m, n, h1, h2, h3, rfl⟩
theorem ring_len {h m n : List UInt8} (h1 : h.length = 32) (h2 : m.length = 32) (h3 : n.length = 32) : (h.map B ++ (m.map B ++ n.map B)).length = 96 := by simp; omega
theorem eqc_b32 {d : Nat} : EqC Tryd.prog (d + 2) 22 32 (fun xs => ∃ l : List UInt8, l.length = 32 ∧ xs = l.map B) := eqc_arr Tryd.underlying22 (by kernel_rfl) Tryd.underlying5 (by kernel_rfl)
theorem isRing.fe : ∀ xs : List Value, isRing xs →
    (∃ l : List UInt8, l.length = 32 ∧ (xs.take 64).take 32 = l.map B) ∧ (∃ l : List UInt8, l.length = 32 ∧ ((xs.take 64).drop 32).take 32 = l.map B) ∧ ((xs.take 64).drop 32).drop 32 = [] ∧ (∃ l : List UInt8, l.length = 32 ∧ (xs.drop 64).take 32 = l.map B) ∧ (xs.drop 64).drop 32 = [] := by
  rintro _ ⟨h, m, n, h1, h2, h3, rfl⟩
  have e1 : (h.map B).length = 32 := by simpa using h1
  have e2 : (m.map B).length = 32 := by simpa using h2
  have e3 : (n.map B).length = 32 := by simpa using h3
  have t1 : (h.map B ++ (m.map B ++ n.map B)).take 64 = h.map B ++ m.map B := by rw [← List.append_assoc, List.take_left' (by simp; omega)]
  have t2 : (h.map B ++ (m.map B ++ n.map B)).drop 64 = n.map B := by rw [← List.append_assoc, List.drop_left' (by simp; omega)]
  rw [t1, t2, List.take_left' e1, List.drop_left' e1]
  exact ⟨⟨h, h1, rfl⟩, ⟨m, h2, List.take_of_length_le (by omega)⟩, List.drop_of_length_le (by omega), ⟨n, h3, List.take_of_length_le (by omega)⟩, List.drop_of_length_le (by omega)⟩
theorem eqc_ring : EqC Tryd.prog 10000 49 96 isRing :=
  (eqc_struct (d := 9999) (by kernel_rfl) Tryd.underlying49 (by kernel_rfl) (.cons (k := 64) rfl (by decide) (eqc_struct (d := 9998) (by kernel_rfl) Tryd.underlying36 (by kernel_rfl) (.cons (k := 32) rfl (by decide) (eqc_b32 (d := 9996)) (.cons (k := 32) rfl (by decide) (eqc_b32 (d := 9996)) (.nil _)))) (.cons (k := 32) rfl (by decide) (eqc_b32 (d := 9997)) (.nil _)))).weak
    (fun xs h => by obtain ⟨a, b, c, e, f⟩ := isRing.fe xs h; exact ⟨⟨a, b, c⟩, e, f⟩)
theorem eqc_rring : EqC Tryd.prog 10000 54 96 isRing :=
  (eqc_struct (d := 9999) (by kernel_rfl) Tryd.underlying54 (by kernel_rfl) (.cons (k := 64) rfl (by decide) (eqc_struct (d := 9998) (by kernel_rfl) Tryd.underlying24 (by kernel_rfl) (.cons (k := 32) rfl (by decide) (eqc_b32 (d := 9996)) (.cons (k := 32) rfl (by decide) (eqc_b32 (d := 9996)) (.nil _)))) (.cons (k := 32) rfl (by decide) (eqc_b32 (d := 9997)) (.nil _)))).weak
    (fun xs h => by obtain ⟨a, b, c, e, f⟩ := isRing.fe xs h; exact ⟨⟨a, b, c⟩, e, f⟩)
attribute [local irreducible] hidL markL sealL sealF openF keyedL strL kyL tapeL tapeN
theorem keyHands_spec {wv bv pv : Value} {wl bl nm : List UInt8} {ps : List Sb} {z : Int} {kind : UInt8} {w : World} (hw0 : Ro (Fs []) w (rdB wv wl)) (hb0 : Ro (Fs []) w (rdB bv bl)) (hv : Ro (Fs []) w (rd pv (ps.map Prod.fst))) (hp : ∀ p ∈ ps, Ro (Fs []) w (rdB p.1 p.2)) (hpv : pv.oneCell' = true) (hnm : nm.length < 9223372036854775808) (hps : ps.length < 9223372036854775808) (hg : Ro (Fs []) w glob) : Spec Tryd.prog 10 [.agg [wv, I z, bv, pv, B kind, Str nm].toArray] w [] (fun _ : Unit => True) (fun _ => .bool true) (fun _ => []) := by
  refine spec_of (n := 157) Tryd.func10 rfl rfl trivial trivial rfl ?_
  obtain ⟨m, hm5, hm0⟩ := cntM z 5 (by decide)
  have hm : (IntKind.u64.wrap z).tmod 5 = (m : Int) := hm0
  obtain ⟨hk, hkE⟩ : ∃ l, kyL [104, 105, 100, 101] wl m = l := ⟨_, rfl⟩
  obtain ⟨mk, mkE⟩ : ∃ l, kyL [109, 97, 114, 107] wl m = l := ⟨_, rfl⟩
  obtain ⟨nk, nkE⟩ : ∃ l, kyL [110, 97, 109, 101] wl m = l := ⟨_, rfl⟩
  obtain ⟨b, hbE⟩ : ∃ l, bl.take (min bl.length 100) = l := ⟨_, rfl⟩
  have hk32 : hk.length = 32 := by rw [← hkE]; exact kyL_len
  have mk32 : mk.length = 32 := by rw [← mkE]; exact kyL_len
  have nk32 : nk.length = 32 := by rw [← nkE]; exact kyL_len
  have hb100 : b.length ≤ 100 := by rw [← hbE]; simp; omega
  refine tk_seq ?_
  refine tk_region ?_
  refine tk_act rfl ?_; refine a_boxL (cs := [wv, I (z), bv, pv, B kind, Str nm]) rfl rfl fun b1 => ?_
  refine tk_q rfl rfl rfl (y_assign rfl) ?_
  refine tk_nil ?_
  refine tk_then ?_
  refine tk_seq ?_
  refine tk_region ?_
  refine tk_q rfl rfl rfl (y_loadA 6 rfl (by kernel_rfl) lenP (hcw (.head _))) ?_
  refine tk_act rfl ?_; refine a_callv [] _ rfl (by kernel_rfl) rfl (fun w' hw' => pen2_spec (m := m) hkE mkE nkE hbE hm5 hm (Ro.call (H0 := []) hw0 hw') (Ro.call (H0 := []) hb0 hw') hpv (hg.call hw')) rfl fun ⟨tb21, vb21⟩ _ => ?_
  refine tk_q rfl rfl rfl (y_move rfl) ?_
  refine tk_q rfl rfl rfl (y_extract rfl rfl) ?_
  refine tk_q rfl rfl rfl (y_extract rfl rfl) ?_
  refine tk_q rfl rfl rfl (y_extract rfl rfl) ?_
  refine tk_act rfl ?_; refine a_allocL (cs := (List.replicate 32 0).map B ++ ((List.replicate 32 0).map B ++ ((List.replicate 32 0).map B ++ ([Value.pointer none])))) (by kernel_rfl) rfl fun b3 => ?_
  refine tk_act rfl ?_; refine a_allocL (cs := (List.replicate 32 0).map B ++ ((List.replicate 32 0).map B ++ ((List.replicate 32 0).map B))) (by kernel_rfl) rfl fun b4 => ?_
  refine tk_act rfl ?_; refine a_storeW (H1 := [_]) (vs := hk.map B ++ (mk.map B ++ (nk.map B ++ ([Value.pointer (some ⟨tb21, 0, none⟩)])))) 97 rfl rfl (by kernel_rfl) rfl ⟨lenP, lenP⟩ (List.forall_mem_append.2 ⟨oneB, (List.forall_mem_append.2 ⟨oneB, (List.forall_mem_append.2 ⟨oneB, (List.forall_mem_cons.2 ⟨rfl, (fun _ h => nomatch h)⟩)⟩)⟩)⟩) ?_
  refine tk_act rfl ?_; refine a_storeW (H1 := []) (vs := hk.map B ++ (mk.map B ++ (nk.map B))) 96 rfl rfl (by kernel_rfl) rfl ⟨lenP, lenP⟩ (List.forall_mem_append.2 ⟨oneB, (List.forall_mem_append.2 ⟨oneB, oneB⟩)⟩) ?_
  refine tk_q rfl rfl rfl (y_assign rfl) ?_
  refine tk_nil ?_
  refine tk_then ?_
  refine tk_seq ?_
  refine tk_region ?_
  refine tk_act rfl ?_; refine a_slitN (vs := [B 119]) rfl (List.forall_mem_cons.2 ⟨rfl, (fun _ h => nomatch h)⟩) (EL26) rfl rfl (by decide) fun b25 => ?_
  refine tk_act rfl ?_; refine a_convX (H1 := []) rfl Tryd.underlying26 Tryd.underlying5 rfl rfl ?_
  refine tk_q rfl rfl rfl (y_fld0 (o := 0) rfl (by kernel_rfl)) ?_
  refine tk_q rfl rfl rfl (y_load rfl rfl (hc (o := 0) (.tail _ (.tail _ (.tail _ (.tail _ (.tail _ (.head _)))))) (rfl))) ?_
  refine tk_q rfl rfl rfl (y_fld0 (o := 0) rfl (by kernel_rfl)) ?_
  refine tk_q rfl rfl rfl (y_load rfl rfl (hc (o := 0) (.tail _ (.tail _ (.tail _ (.tail _ (.tail _ (.head _)))))) (rfl))) ?_
  refine tk_q rfl rfl rfl (y_lenRN (n' := wl.length) rfl hw0.1 rfl (by first | rfl | (rw [List.length_map]; omega) | simp)) ?_
  refine tk_q rfl rfl rfl (y_minN (a := wl.length) (b := 100) rfl rfl) ?_
  refine tk_q rfl rfl rfl (y_cutRBh (l := wl) (min wl.length 100) rfl rfl hw0.1 (by kernel_rfl) lenP rfl) ?_
  refine tk_celM (H1 := []) (f := B) (l := [119]) (T := 5) rfl rfl (by decide) ?_
  refine tk_act rfl ?_; refine a_appM (H1 := []) (f := B) (l := [119]) (m := wl.take (min wl.length 100)) rfl rfl EL26 rfl rfl (fun w hw => RdS.cutBh ((fun w hw => Ro.rd hw0 hw) w hw) (hi := min wl.length 100) lenP) (fun _ => rfl) ⟨lenP, lenP⟩ fun v34 => ?_
  refine tk_own1 (.head _) fun hfv34 => ?_
  refine tk_q rfl rfl rfl (y_assign rfl) ?_
  refine tk_nil ?_
  refine tk_then ?_
  refine tk_seq ?_
  refine tk_drawH [own v34 (([119] ++ (wl.take (min wl.length 100))).length) (([119] ++ (wl.take (min wl.length 100))).map B) 5 1, cel b4 (hk.map B ++ (mk.map B ++ (nk.map B))) 54, cel b3 (hk.map B ++ (mk.map B ++ (nk.map B ++ ([Value.pointer (some ⟨tb21, 0, none⟩)])))) 52, cel tb21 ([vb21, .int .u64 (((0 : Nat) : Nat) : Int), .slice none 0 0]) 160, own vb21 b.length (b.map B) 5 1, cel b1 ([wv, I (z), bv, pv, B kind, Str nm]) 47] [] (by kernel_rfl) ?_
  refine tx_q 0 rfl (by kernel_rfl) rfl rfl rfl (fun _ _ _ h => h) (y_move rfl) ?_
  refine tx_q 2 rfl (by kernel_rfl) rfl rfl rfl (fun _ _ _ h => h) (y_fldN (o := 0) 1 rfl (by kernel_rfl)) ?_
  refine tx_l 3 rfl (by kernel_rfl) (by kernel_rfl) rfl rfl rfl (fun _ _ _ h => h) (fun _ h => h.sub (List.Sublist.refl _)) (y_load rfl rfl (hc (o := 1) (.tail _ (.tail _ (.tail _ (.tail _ (.tail _ (.head _)))))) (rfl))) ?_
  refine tx_q 4 rfl (by kernel_rfl) rfl rfl rfl (fun _ _ _ h => h) (y_conv rfl rfl rfl) ?_
  refine tx_q 5 rfl (by kernel_rfl) rfl rfl rfl (fun _ _ _ h => h) ((y_rem rfl rfl (by omega)).cast (v := _) (u := .int .u64 ((m : Nat) : Int)) (by rw [hm])) ?_
  refine tx_q 6 rfl (by kernel_rfl) rfl rfl rfl (fun _ _ _ h => h) ((y_conv rfl rfl rfl).cast (v := _) (u := I ((m : Nat) : Int)) (by simp only [I]; rw [wrap_in (by omega) (by omega)])) ?_
  refine tx_all (is := [1, 11]) (by kernel_rfl) rfl ⟨⟨_, rfl, rfl, ?_⟩, ⟨_, rfl, rfl, ?_⟩, trivial⟩
  · skip
    skip; refine a_callv [] _ rfl (by kernel_rfl) rfl (fun w' hw' => salt_spec) rfl fun b37 _ => ?_
    refine tk_S (fun _ h => h.sub (.cons _ (List.Sublist.refl _))) ?_
    refine tx_more [cel b37 ([B 48, B 49, B 50, B 51, B 52, B 53, B 54, B 55, B 56, B 57, B 97, B 98, B 99, B 100, B 101, B 102]) 5, own v34 (([119] ++ (wl.take (min wl.length 100))).length) (([119] ++ (wl.take (min wl.length 100))).map B) 5 1, cel b4 (hk.map B ++ (mk.map B ++ (nk.map B))) 54, cel b3 (hk.map B ++ (mk.map B ++ (nk.map B ++ ([Value.pointer (some ⟨tb21, 0, none⟩)])))) 52, cel tb21 ([vb21, .int .u64 (((0 : Nat) : Nat) : Int), .slice none 0 0]) 160, own vb21 b.length (b.map B) 5 1, cel b1 ([wv, I (z), bv, pv, B kind, Str nm]) 47] (fun _ h => h.sub (.cons _ (List.Sublist.refl _))) (fun _ h => h.sub (List.Sublist.refl _)) ?_
    refine tx_all (is := [7, 11]) (by kernel_rfl) rfl ⟨⟨_, rfl, rfl, ?_⟩, ⟨_, rfl, rfl, ?_⟩, trivial⟩
    · skip
      skip; refine a_callv [] _ rfl (by kernel_rfl) rfl (fun w' hw' => make_spec (k := [119] ++ (wl.take (min wl.length 100))) (s := [48, 49, 50, 51, 52, 53, 54, 55, 56, 57, 97, 98, 99, 100, 101, 102]) (n := m) (Ro.own (H0 := []) hw' (.tail _ (.head _))) (Ro.cel (H0 := []) (b := b37) (o := 0) (m := 16) (cp := 16) (vs := [48, 49, 50, 51, 52, 53, 54, 55, 56, 57, 97, 98, 99, 100, 101, 102].map B) hw' (.head _) (rfl) (by first | rfl | (simp; done) | (simp; omega)) (by first | omega | (simp; done) | (simp; omega))) ⟨lenP, lenP⟩ lenP lenP (hg.call hw')) rfl fun _ _ => ?_
      refine tk_S (fun _ h => h.sub (List.Sublist.refl _)) ?_
      refine tk_re 43 (.tuple #[.agg ((keyedL (strL ([119] ++ (wl.take (min wl.length 100))) [48, 49, 50, 51, 52, 53, 54, 55, 56, 57, 97, 98, 99, 100, 101, 102] m) [104, 105, 100, 101]).map B ++ ((keyedL (strL ([119] ++ (wl.take (min wl.length 100))) [48, 49, 50, 51, 52, 53, 54, 55, 56, 57, 97, 98, 99, 100, 101, 102] m) [109, 97, 114, 107]).map B ++ ((keyedL (strL ([119] ++ (wl.take (min wl.length 100))) [48, 49, 50, 51, 52, 53, 54, 55, 56, 57, 97, 98, 99, 100, 101, 102] m) [110, 97, 109, 101]).map B))).toArray, I 0]) (.tuple #[.agg (hk.map B ++ (mk.map B ++ (nk.map B))).toArray, I 0]) rfl (by rw [kyL_def, kyL_def, kyL_def, hkE, mkE, nkE]) ?_
      refine tx_q 8 rfl (by kernel_rfl) rfl rfl rfl (fun _ _ _ h => h) (y_move rfl) ?_
      refine tx_q 9 rfl (by kernel_rfl) rfl rfl rfl (fun _ _ _ h => h) (y_extract rfl rfl) ?_
      refine tx_q 10 rfl (by kernel_rfl) rfl rfl rfl (fun _ _ _ h => h) (y_extract rfl rfl) ?_
      refine tx_a 11 rfl (by kernel_rfl) rfl ?_; refine a_allocL (cs := (List.replicate 32 0).map B ++ ((List.replicate 32 0).map B ++ ((List.replicate 32 0).map B))) (by kernel_rfl) rfl fun b7 => ?_
      refine tk_S (fun _ h => h.sub (.cons _ (List.Sublist.refl _))) ?_
      refine tx_a 12 rfl (by kernel_rfl) rfl ?_; refine a_storeW (H1 := []) (vs := hk.map B ++ (mk.map B ++ (nk.map B))) 96 rfl rfl (by kernel_rfl) rfl ⟨lenP, lenP⟩ (List.forall_mem_append.2 ⟨oneB, (List.forall_mem_append.2 ⟨oneB, oneB⟩)⟩) ?_
      refine tk_S (fun _ h => h.sub (.cons _ (List.Sublist.refl _))) ?_
      refine tx_q 13 rfl (by kernel_rfl) rfl rfl rfl (fun _ _ _ h => h) (y_assign rfl) ?_
      refine tx_done (by kernel_rfl) ?_
      refine tk_then ?_
      refine tk_seq ?_
      refine tk_seq ?_
      refine tk_drawH [cel b7 (hk.map B ++ (mk.map B ++ (nk.map B))) 49, cel b37 ([B 48, B 49, B 50, B 51, B 52, B 53, B 54, B 55, B 56, B 57, B 97, B 98, B 99, B 100, B 101, B 102]) 5, own v34 (([119] ++ (wl.take (min wl.length 100))).length) (([119] ++ (wl.take (min wl.length 100))).map B) 5 1, cel b4 (hk.map B ++ (mk.map B ++ (nk.map B))) 54, cel b3 (hk.map B ++ (mk.map B ++ (nk.map B ++ ([Value.pointer (some ⟨tb21, 0, none⟩)])))) 52, cel tb21 ([vb21, .int .u64 (((0 : Nat) : Nat) : Int), .slice none 0 0]) 160, own vb21 b.length (b.map B) 5 1, cel b1 ([wv, I (z), bv, pv, B kind, Str nm]) 47] [] (by kernel_rfl) ?_
      refine tx_a 0 rfl (by kernel_rfl) rfl ?_; refine a_callv [] _ rfl (by kernel_rfl) rfl (fun w' hw' => rings_spec (hg.call hw')) rfl fun _ _ => ?_
      refine tk_S (fun _ h => h.sub (List.Sublist.refl _)) ?_
      refine tx_q 1 rfl (by kernel_rfl) rfl rfl rfl (fun _ _ _ h => h) (y_not rfl) ?_
      refine tx_q 2 rfl (by kernel_rfl) rfl rfl rfl (fun _ _ _ h => h) (y_move rfl) ?_
      refine tx_q 3 rfl (by kernel_rfl) rfl rfl rfl (fun _ _ _ h => h) (y_move rfl) ?_
      refine tx_q 4 rfl (by kernel_rfl) rfl rfl rfl (fun _ _ _ h => h) (y_not rfl) ?_
      refine tx_q 5 rfl (by kernel_rfl) rfl rfl rfl (fun _ _ _ h => h) (y_pick0 rfl rfl) ?_
      refine tx_q 6 rfl (by kernel_rfl) rfl rfl rfl (fun _ _ _ h => h) (y_move rfl) ?_
      refine tx_q 7 rfl (by kernel_rfl) rfl rfl rfl (fun _ _ _ h => h) (y_move rfl) ?_
      refine tx_q 8 rfl (by kernel_rfl) rfl rfl rfl (fun _ _ _ h => h) ((y_neq rfl rfl).cast (bool_f (by decide))) ?_
      refine tx_q 9 rfl (by kernel_rfl) rfl rfl rfl (fun _ _ _ h => h) (y_pick0 rfl rfl) ?_
      refine tx_q 10 rfl (by kernel_rfl) rfl rfl rfl (fun _ _ _ h => h) (y_move rfl) ?_
      refine tx_l 11 rfl (by kernel_rfl) (by kernel_rfl) rfl rfl rfl (fun _ _ _ h => h) (fun _ h => h.sub (List.Sublist.refl _)) (y_loadA 96 rfl (by kernel_rfl) lenP (hcw (.head _))) ?_
      refine tx_q 12 rfl (by kernel_rfl) rfl rfl rfl (fun _ _ _ h => h) (y_fld0 (o := 0) rfl (by kernel_rfl)) ?_
      refine tx_l 13 rfl (by kernel_rfl) (by kernel_rfl) rfl rfl rfl (fun _ _ _ h => h) (fun _ h => h.sub (List.Sublist.refl _)) (y_loadA (vs := hk.map B ++ (mk.map B ++ (nk.map B))) 96 rfl (by kernel_rfl) lenP (hseg (pre := ([] : List Value)) (post := [Value.pointer (some ⟨tb21, 0, none⟩)]) (.tail _ (.tail _ (.tail _ (.tail _ (.head _))))) lenP (by simp))) ?_
      refine tx_q 14 rfl (by kernel_rfl) rfl rfl rfl (fun _ _ _ h => h) ((y_stNe (p := True) rfl rfl (by kernel_rfl) eqc_ring ⟨isRing.of hk32 mk32 nk32, isRing.of hk32 mk32 nk32, ring_len hk32 mk32 nk32, ring_len hk32 mk32 nk32⟩ (by kernel_rfl) (iff_true_intro rfl)).cast (v := _) (u := .bool false) (bool_f (fun h => h trivial))) ?_
      refine tx_q 15 rfl (by kernel_rfl) rfl rfl rfl (fun _ _ _ h => h) (y_pick0 rfl rfl) ?_
      refine tx_q 16 rfl (by kernel_rfl) rfl rfl rfl (fun _ _ _ h => h) (y_move rfl) ?_
      refine tx_l 17 rfl (by kernel_rfl) (by kernel_rfl) rfl rfl rfl (fun _ _ _ h => h) (fun _ h => h.sub (List.Sublist.refl _)) (y_loadA 96 rfl (by kernel_rfl) lenP (hcw (.head _))) ?_
      refine tx_l 19 rfl (by kernel_rfl) (by kernel_rfl) rfl rfl rfl (fun _ _ _ h => h) (fun _ h => h.sub (List.Sublist.refl _)) (y_loadA 96 rfl (by kernel_rfl) lenP (hcw (.tail _ (.tail _ (.tail _ (.head _)))))) ?_
      refine tx_a 18 rfl (by kernel_rfl) rfl ?_; refine a_callv [] _ rfl (by kernel_rfl) rfl (fun w' hw' => from_spec (hk := hk) (mk := mk) (nk := nk) ⟨lenP, lenP, lenP⟩) rfl fun _ _ => ?_
      refine tk_S (fun _ h => h.sub (List.Sublist.refl _)) ?_
      refine tx_q 20 rfl (by kernel_rfl) rfl rfl rfl (fun _ _ _ h => h) ((y_stNe (p := True) rfl rfl (by kernel_rfl) eqc_rring ⟨isRing.of hk32 mk32 nk32, isRing.of hk32 mk32 nk32, ring_len hk32 mk32 nk32, ring_len hk32 mk32 nk32⟩ (by kernel_rfl) (iff_true_intro rfl)).cast (v := _) (u := .bool false) (bool_f (fun h => h trivial))) ?_
      refine tx_q 21 rfl (by kernel_rfl) rfl rfl rfl (fun _ _ _ h => h) (y_pick0 rfl rfl) ?_
      refine tx_done (by kernel_rfl) ?_
      refine tk_then ?_
      refine tk_cond0 rfl ?_
      refine tk_skip ?_
      refine tk_then ?_
      refine tk_seq ?_
      refine tk_seq ?_
      refine tk_region ?_
      refine tk_drop (.cons_cons _ (.cons _ (.cons _ (List.Sublist.refl _)))) ?_
      refine tk_ownM0 (f := B) 5 ?_
      refine tk_H [own (.slice none 0 0) (((tapeL b 0).drop (16 * 0)).length) (((tapeL b 0).drop (16 * 0)).map B) 5 1, cel b7 (hk.map B ++ (mk.map B ++ (nk.map B))) 49, cel b4 (hk.map B ++ (mk.map B ++ (nk.map B))) 54, cel b3 (hk.map B ++ (mk.map B ++ (nk.map B ++ ([Value.pointer (some ⟨tb21, 0, none⟩)])))) 52, cel tb21 ([vb21, .int .u64 (((0 : Nat) : Nat) : Int), .slice none 0 0]) 160, own vb21 b.length (b.map B) 5 1, cel b1 ([wv, I (z), bv, pv, B kind, Str nm]) 47] (congrArg (fun z_ => [z_, cel b7 (hk.map B ++ (mk.map B ++ (nk.map B))) 49, cel b4 (hk.map B ++ (mk.map B ++ (nk.map B))) 54, cel b3 (hk.map B ++ (mk.map B ++ (nk.map B ++ ([Value.pointer (some ⟨tb21, 0, none⟩)])))) 52, cel tb21 ([vb21, .int .u64 (((0 : Nat) : Nat) : Int), .slice none 0 0]) 160, own vb21 b.length (b.map B) 5 1, cel b1 ([wv, I (z), bv, pv, B kind, Str nm]) 47]) (show own (.slice none 0 0) (([] : List UInt8).length) (([] : List UInt8).map B) 5 1 = own (.slice none 0 0) (((tapeL b 0).drop (16 * 0)).length) (((tapeL b 0).drop (16 * 0)).map B) 5 1 from ownM_cast (by simp [tapeL_0]))) ?_
      skip
      refine tk_q rfl rfl rfl (y_assign rfl) ?_
      refine tk_nil ?_
      refine tk_then ?_
      refine tk_block ?_
      refine tk_loop (X := Nat × Nat × Value) (fun (i, cA, vA) => i ≤ 5 ∧ i ≤ ps.length ∧ (16 * i ≤ 32 * cA ∧ 32 * cA < 16 * i + 32)) (fun (i, cA, vA) => [(1, .pointer (some ⟨b1, 0, none⟩)), (3, .pointer (some ⟨b3, 0, none⟩)), (7, .pointer (some ⟨b7, 0, none⟩)), (9, I ((i : Nat) : Int))]) (fun (i, cA, vA) => [own vA (((tapeL b cA).drop (16 * i)).length) (((tapeL b cA).drop (16 * i)).map B) 5 1, cel b7 (hk.map B ++ (mk.map B ++ (nk.map B))) 49, cel b4 (hk.map B ++ (mk.map B ++ (nk.map B))) 54, cel b3 (hk.map B ++ (mk.map B ++ (nk.map B ++ ([Value.pointer (some ⟨tb21, 0, none⟩)])))) 52, cel tb21 ([vb21, .int .u64 ((cA : Nat) : Int), vA]) 160, own vb21 b.length (b.map B) 5 1, cel b1 ([wv, I (z), bv, pv, B kind, Str nm]) 47]) (fun (i, cA, vA) => 5 - i) ((0, 0, (.slice none 0 0))) (⟨by omega, by omega, by omega⟩) (by repeat (first | exact trivial | refine ⟨rfl, ?_⟩)) ((List.Sublist.refl _)) ?_
      rintro ⟨i, cA, vA⟩ hI
      try dsimp only at hI ⊢
      refine tk_seq ?_
      refine tk_seq ?_
      refine tk_region ?_
      refine tk_q rfl rfl rfl (y_move rfl) ?_
      refine tk_q rfl rfl rfl (y_fldN (o := 0) 3 rfl (by kernel_rfl)) ?_
      refine tk_q rfl rfl rfl (y_load rfl rfl (hc (o := 3) (.tail _ (.tail _ (.tail _ (.tail _ (.tail _ (.tail _ (.head _))))))) (rfl))) ?_
      refine tk_q rfl rfl rfl (y_lenRN (n' := ps.length) rfl hv.1 rfl (by first | rfl | (rw [List.length_map]; omega) | simp)) ?_
      refine tk_qs rfl rfl rfl (y_lss rfl rfl) (fun hs7_4 => ?_) (fun hs7_4 => ?_)
      · skip
        refine tk_q rfl rfl rfl (y_move rfl) ?_
        refine tk_gq rfl rfl rfl (y_move rfl) ?_
        refine tk_gq rfl rfl rfl (y_lss rfl rfl) ?_
        refine tk_q rfl rfl rfl (y_pick1 rfl rfl) ?_
        refine tk_nil ?_
        refine tk_then ?_
        refine tk_condP rfl (fun ht76 => ?_) (fun ht76 => ?_)
        · skip
          refine tk_skip ?_
          refine tk_then ?_
          refine tk_seq ?_
          refine tk_block ?_
          refine tk_seq ?_
          refine tk_drawH [own vA (((tapeL b cA).drop (16 * i)).length) (((tapeL b cA).drop (16 * i)).map B) 5 1, cel b7 (hk.map B ++ (mk.map B ++ (nk.map B))) 49, cel b4 (hk.map B ++ (mk.map B ++ (nk.map B))) 54, cel b3 (hk.map B ++ (mk.map B ++ (nk.map B ++ ([Value.pointer (some ⟨tb21, 0, none⟩)])))) 52, cel tb21 ([vb21, .int .u64 ((cA : Nat) : Int), vA]) 160, own vb21 b.length (b.map B) 5 1, cel b1 ([wv, I (z), bv, pv, B kind, Str nm]) 47] [] (by kernel_rfl) ?_
          refine tx_q 0 rfl (by kernel_rfl) rfl rfl rfl (fun _ _ _ h => h) (y_fldN (o := 0) 3 rfl (by kernel_rfl)) ?_
          refine tx_l 1 rfl (by kernel_rfl) (by kernel_rfl) rfl rfl rfl (fun _ _ _ h => h) (fun _ h => h.sub (List.Sublist.refl _)) (y_load rfl rfl (hc (o := 3) (.tail _ (.tail _ (.tail _ (.tail _ (.tail _ (.tail _ (.head _))))))) (rfl))) ?_
          refine tx_q 2 rfl (by kernel_rfl) rfl rfl rfl (fun _ _ _ h => h) (y_move rfl) ?_
          refine tx_q 3 rfl (by kernel_rfl) rfl rfl rfl (fun _ _ _ h => h) (y_ixR (j := i) rfl rfl hv.1 lenP (by kernel_rfl)) ?_
          refine tx_l 4 rfl (by kernel_rfl) (by kernel_rfl) rfl rfl rfl (fun _ _ _ h => h) (fun _ h => h.sub (List.Sublist.refl _)) (y_load rfl rfl (fun w hw => ((fun w hw => Ro.rd hv hw) w hw).cell (gM (f := Prod.fst) (d := dP) lenP))) ?_
          refine tx_q 5 rfl (by kernel_rfl) rfl rfl rfl (fun _ _ _ h => h) (y_fldN (o := 0) 3 rfl (by kernel_rfl)) ?_
          refine tx_l 6 rfl (by kernel_rfl) (by kernel_rfl) rfl rfl rfl (fun _ _ _ h => h) (fun _ h => h.sub (List.Sublist.refl _)) (y_load rfl rfl (hc (o := 3) (.tail _ (.tail _ (.tail _ (.tail _ (.tail _ (.tail _ (.head _))))))) (rfl))) ?_
          refine tx_q 7 rfl (by kernel_rfl) rfl rfl rfl (fun _ _ _ h => h) (y_move rfl) ?_
          refine tx_q 8 rfl (by kernel_rfl) rfl rfl rfl (fun _ _ _ h => h) (y_ixR (j := i) rfl rfl hv.1 lenP (by kernel_rfl)) ?_
          refine tx_l 9 rfl (by kernel_rfl) (by kernel_rfl) rfl rfl rfl (fun _ _ _ h => h) (fun _ h => h.sub (List.Sublist.refl _)) (y_load rfl rfl (fun w hw => ((fun w hw => Ro.rd hv hw) w hw).cell (gM (f := Prod.fst) (d := dP) lenP))) ?_
          refine tx_q 10 rfl (by kernel_rfl) rfl rfl rfl (fun _ _ _ h => h) (y_lenRN (n' := ((ps.getD i dP).2).length) rfl (hp _ (getD_mem lenP)).1 rfl (by first | rfl | (rw [List.length_map]; omega) | simp)) ?_
          refine tx_q 11 rfl (by kernel_rfl) rfl rfl rfl (fun _ _ _ h => h) (y_minN (a := ((ps.getD i dP).2).length) (b := 200) rfl rfl) ?_
          refine tx_q 12 rfl (by kernel_rfl) rfl rfl rfl (fun _ _ _ h => h) (y_cutRBh (l := (ps.getD i dP).2) (min (((ps.getD i dP).2).length) 200) rfl rfl (hp _ (getD_mem lenP)).1 (by kernel_rfl) lenP rfl) ?_
          refine tx_q 13 rfl (by kernel_rfl) rfl rfl rfl (fun _ _ _ h => h) (y_assign rfl) ?_
          refine tx_done (by kernel_rfl) ?_
          refine tk_then ?_
          refine tk_seq ?_
          refine tk_region ?_
          have hro : Ro (Fs []) w (rdB (cutR ((ps.getD i dP).1) 0 (min (((ps.getD i dP).2).length) 200)) (((ps.getD i dP).2).take (min (((ps.getD i dP).2).length) 200))) := (Ro.cutBh (hp _ (getD_mem lenP)) (hi := min (((ps.getD i dP).2).length) 200) lenP)
          obtain ⟨x, hx0⟩ : ∃ x, x = ((ps.getD i dP).2).take (min (((ps.getD i dP).2).length) 200) := ⟨_, rfl⟩
          have hxl : x.length ≤ 200 := by rw [hx0]; simp; omega
          rw [← hx0] at hro
          refine tk_q rfl rfl rfl (y_loadA 97 rfl (by kernel_rfl) lenP (hcw (.tail _ (.tail _ (.tail _ (.head _)))))) ?_
          refine tk_q rfl rfl rfl (y_fldN (o := 0) 4 rfl (by kernel_rfl)) ?_
          refine tk_q rfl rfl rfl (y_load rfl rfl (hc (o := 4) (.tail _ (.tail _ (.tail _ (.tail _ (.tail _ (.tail _ (.head _))))))) (rfl))) ?_
          refine tk_q rfl rfl rfl (y_move rfl) ?_
          refine tk_act rfl ?_; refine a_slitN (vs := [cutR ((ps.getD i dP).1) 0 (min (((ps.getD i dP).2).length) 200)]) rfl (List.forall_mem_cons.2 ⟨(RdS.one hro.1), (fun _ h => nomatch h)⟩) (EL45) rfl rfl (by decide) fun b97 => ?_
          refine tk_act rfl ?_
          refine tk_perm _ (.trans (.cons _ (List.Perm.refl _)) (.swap _ _ _)) ?_
          refine tk_perm _ (.trans (.cons _ (.trans (.cons _ (.trans (.cons _ (.trans (.cons _ (.trans (.cons _ (.trans (.cons _ (List.Perm.refl _)) (.swap _ _ _))) (.swap _ _ _))) (.swap _ _ _))) (.swap _ _ _))) (.swap _ _ _))) (.swap _ _ _)) ?_
          refine tk_perm _ (.trans (.cons _ (.trans (.cons _ (.trans (.cons _ (.trans (.cons _ (.trans (.cons _ (.trans (.cons _ (List.Perm.refl _)) (.swap _ _ _))) (.swap _ _ _))) (.swap _ _ _))) (.swap _ _ _))) (.swap _ _ _))) (.swap _ _ _)) ?_
          refine a_callv [] _ rfl (by kernel_rfl) rfl (fun w' hw' => write_spec (hk := hk) (mk := mk) (nk := nk) (name := [110]) (L := x) (kind := kind) (ps := [(cutR ((ps.getD i dP).1) 0 (min (((ps.getD i dP).2).length) 200), x)]) (tb := tb21) (c := cA) (p := (16 * i)) (vb := vb21) (vl := vA) (b := b) ⟨lenP, lenP, lenP⟩ ⟨lenP, lenP⟩ lenP lenP (Ro.cel (vs := [cutR ((ps.getD i dP).1) 0 (min (((ps.getD i dP).2).length) 200)]) hw' (.head _) (by first | rfl | simp) rfl (by decide)) (List.forall_mem_cons.2 ⟨(Ro.call hro hw'), (fun _ h => nomatch h)⟩) (by simp) ⟨lenP, lenP, lenP⟩ (hg.call hw') (St.pre hw')) rfl fun ⟨c98, vl98, v98⟩ hx98 => ?_
          refine tk_H [own v98 ((sealL hk mk kind [110] (tapeN b (16 * i) 16) x).length) ((sealL hk mk kind [110] (tapeN b (16 * i) 16) x).map B) 5 1, cel tb21 ([vb21, .int .u64 ((c98 : Nat) : Int), vl98]) 160, own vb21 b.length (b.map B) 5 1, own vl98 (((tapeL b c98).drop ((16 * i) + 16)).length) (((tapeL b c98).drop ((16 * i) + 16)).map B) 5 1, cel b97 ([cutR ((ps.getD i dP).1) 0 (min (((ps.getD i dP).2).length) 200)]) 26, cel b7 (hk.map B ++ (mk.map B ++ (nk.map B))) 49, cel b4 (hk.map B ++ (mk.map B ++ (nk.map B))) 54, cel b3 (hk.map B ++ (mk.map B ++ (nk.map B ++ ([Value.pointer (some ⟨tb21, 0, none⟩)])))) 52, cel b1 ([wv, I (z), bv, pv, B kind, Str nm]) 47] (congrArg (fun z_ => [z_, cel tb21 ([vb21, .int .u64 ((c98 : Nat) : Int), vl98]) 160, own vb21 b.length (b.map B) 5 1, own vl98 (((tapeL b c98).drop ((16 * i) + 16)).length) (((tapeL b c98).drop ((16 * i) + 16)).map B) 5 1, cel b97 ([cutR ((ps.getD i dP).1) 0 (min (((ps.getD i dP).2).length) 200)]) 26, cel b7 (hk.map B ++ (mk.map B ++ (nk.map B))) 49, cel b4 (hk.map B ++ (mk.map B ++ (nk.map B))) 54, cel b3 (hk.map B ++ (mk.map B ++ (nk.map B ++ ([Value.pointer (some ⟨tb21, 0, none⟩)])))) 52, cel b1 ([wv, I (z), bv, pv, B kind, Str nm]) 47]) (show own v98 (((sealF hk mk kind [110] (tapeN b (16 * i) 16) x).1).length) (((sealF hk mk kind [110] (tapeN b (16 * i) 16) x).1).map B) 5 1 = own v98 ((sealL hk mk kind [110] (tapeN b (16 * i) 16) x).length) ((sealL hk mk kind [110] (tapeN b (16 * i) 16) x).map B) 5 1 from ownM_cast (by rw [sealF_ok lenP lenP]))) ?_
          refine tk_re 98 (.tuple #[v98, I (((sealF hk mk kind [110] (tapeN b (16 * i) 16) x).2 : Nat) : Int)]) (.tuple #[v98, I 0]) rfl (by rw [sealF_ok lenP lenP]; rfl) ?_
          have hslv98 : (sealL hk mk kind [110] (tapeN b (16 * i) 16) x).length = x.length + 48 := sealL_len tapeN_len
          refine tk_own1 (.head _) fun hfv98 => ?_
          refine tk_q rfl rfl rfl (y_move rfl) ?_
          refine tk_q rfl rfl rfl (y_extract rfl rfl) ?_
          refine tk_q rfl rfl rfl (y_extract rfl rfl) ?_
          refine tk_q rfl rfl rfl (y_assign rfl) ?_
          refine tk_q rfl rfl rfl (y_assign rfl) ?_
          refine tk_nil ?_
          refine tk_then ?_
          refine tk_seq ?_
          refine tk_region ?_
          refine tk_q rfl rfl rfl (y_fld0 (o := 0) rfl (by kernel_rfl)) ?_
          refine tk_q rfl rfl rfl (y_loadA (vs := hk.map B ++ (mk.map B)) 64 rfl (by kernel_rfl) lenP (hseg (pre := ([] : List Value)) (post := nk.map B) (.tail _ (.tail _ (.tail _ (.tail _ (.tail _ (.head _)))))) lenP (by simp))) ?_
          refine tk_q rfl rfl rfl (y_fldN (o := 0) 4 rfl (by kernel_rfl)) ?_
          refine tk_q rfl rfl rfl (y_load rfl rfl (hc (o := 4) (.tail _ (.tail _ (.tail _ (.tail _ (.tail _ (.tail _ (.tail _ (.tail _ (.head _))))))))) (rfl))) ?_
          refine tk_q rfl rfl rfl (y_move rfl) ?_
          refine tk_act rfl ?_; refine a_callv [] _ rfl (by kernel_rfl) rfl (fun w' hw' => open_spec (hk := hk) (mk := mk) (kind := kind) (name := [110]) (b := sealL hk mk kind [110] (tapeN b (16 * i) 16) x) ⟨lenP, lenP⟩ (Ro.own (H0 := []) hw' (.head _)) ⟨lenP, lenP⟩ (hg.call hw')) rfl fun v107 _ => ?_
          refine tk_H [own v107 x.length (x.map B) 5 1, own v98 ((sealL hk mk kind [110] (tapeN b (16 * i) 16) x).length) ((sealL hk mk kind [110] (tapeN b (16 * i) 16) x).map B) 5 1, cel tb21 ([vb21, .int .u64 ((c98 : Nat) : Int), vl98]) 160, own vb21 b.length (b.map B) 5 1, own vl98 (((tapeL b c98).drop ((16 * i) + 16)).length) (((tapeL b c98).drop ((16 * i) + 16)).map B) 5 1, cel b97 ([cutR ((ps.getD i dP).1) 0 (min (((ps.getD i dP).2).length) 200)]) 26, cel b7 (hk.map B ++ (mk.map B ++ (nk.map B))) 49, cel b4 (hk.map B ++ (mk.map B ++ (nk.map B))) 54, cel b3 (hk.map B ++ (mk.map B ++ (nk.map B ++ ([Value.pointer (some ⟨tb21, 0, none⟩)])))) 52, cel b1 ([wv, I (z), bv, pv, B kind, Str nm]) 47] (congrArg (fun z_ => [z_, own v98 ((sealL hk mk kind [110] (tapeN b (16 * i) 16) x).length) ((sealL hk mk kind [110] (tapeN b (16 * i) 16) x).map B) 5 1, cel tb21 ([vb21, .int .u64 ((c98 : Nat) : Int), vl98]) 160, own vb21 b.length (b.map B) 5 1, own vl98 (((tapeL b c98).drop ((16 * i) + 16)).length) (((tapeL b c98).drop ((16 * i) + 16)).map B) 5 1, cel b97 ([cutR ((ps.getD i dP).1) 0 (min (((ps.getD i dP).2).length) 200)]) 26, cel b7 (hk.map B ++ (mk.map B ++ (nk.map B))) 49, cel b4 (hk.map B ++ (mk.map B ++ (nk.map B))) 54, cel b3 (hk.map B ++ (mk.map B ++ (nk.map B ++ ([Value.pointer (some ⟨tb21, 0, none⟩)])))) 52, cel b1 ([wv, I (z), bv, pv, B kind, Str nm]) 47]) (show own v107 (((openF hk mk kind [110] (sealL hk mk kind [110] (tapeN b (16 * i) 16) x)).1).length) (((openF hk mk kind [110] (sealL hk mk kind [110] (tapeN b (16 * i) 16) x)).1).map B) 5 1 = own v107 x.length (x.map B) 5 1 from ownM_cast (by rw [open_seal tapeN_len lenP lenP]))) ?_
          refine tk_re 107 (.tuple #[v107, I (((openF hk mk kind [110] (sealL hk mk kind [110] (tapeN b (16 * i) 16) x)).2 : Nat) : Int)]) (.tuple #[v107, I 0]) rfl (by rw [open_seal tapeN_len lenP lenP]; rfl) ?_
          refine tk_own1 (.head _) fun hfo1 => ?_
          refine tk_q rfl rfl rfl (y_move rfl) ?_
          refine tk_q rfl rfl rfl (y_extract rfl rfl) ?_
          refine tk_q rfl rfl rfl (y_extract rfl rfl) ?_
          refine tk_q rfl rfl rfl (y_assign rfl) ?_
          refine tk_q rfl rfl rfl (y_assign rfl) ?_
          refine tk_nil ?_
          refine tk_then ?_
          refine tk_seq ?_
          refine tk_region ?_
          refine tk_q rfl rfl rfl (y_fld0 (o := 0) rfl (by kernel_rfl)) ?_
          refine tk_q rfl rfl rfl (y_loadA (vs := hk.map B ++ (mk.map B)) 64 rfl (by kernel_rfl) lenP (hseg (pre := ([] : List Value)) (post := nk.map B) (.tail _ (.tail _ (.tail _ (.tail _ (.tail _ (.tail _ (.head _))))))) lenP (by simp))) ?_
          refine tk_q rfl rfl rfl (y_fldN (o := 0) 4 rfl (by kernel_rfl)) ?_
          refine tk_q rfl rfl rfl (y_load rfl rfl (hc (o := 4) (.tail _ (.tail _ (.tail _ (.tail _ (.tail _ (.tail _ (.tail _ (.tail _ (.tail _ (.head _)))))))))) (rfl))) ?_
          refine tk_q rfl rfl rfl (y_move rfl) ?_
          refine tk_act rfl ?_; refine a_callv [] _ rfl (by kernel_rfl) rfl (fun w' hw' => open_spec (hk := hk) (mk := mk) (kind := kind) (name := [110]) (b := sealL hk mk kind [110] (tapeN b (16 * i) 16) x) ⟨lenP, lenP⟩ (Ro.own (H0 := []) hw' (.tail _ (.head _))) ⟨lenP, lenP⟩ (hg.call hw')) rfl fun v116 _ => ?_
          refine tk_H [own v116 x.length (x.map B) 5 1, own v107 x.length (x.map B) 5 1, own v98 ((sealL hk mk kind [110] (tapeN b (16 * i) 16) x).length) ((sealL hk mk kind [110] (tapeN b (16 * i) 16) x).map B) 5 1, cel tb21 ([vb21, .int .u64 ((c98 : Nat) : Int), vl98]) 160, own vb21 b.length (b.map B) 5 1, own vl98 (((tapeL b c98).drop ((16 * i) + 16)).length) (((tapeL b c98).drop ((16 * i) + 16)).map B) 5 1, cel b97 ([cutR ((ps.getD i dP).1) 0 (min (((ps.getD i dP).2).length) 200)]) 26, cel b7 (hk.map B ++ (mk.map B ++ (nk.map B))) 49, cel b4 (hk.map B ++ (mk.map B ++ (nk.map B))) 54, cel b3 (hk.map B ++ (mk.map B ++ (nk.map B ++ ([Value.pointer (some ⟨tb21, 0, none⟩)])))) 52, cel b1 ([wv, I (z), bv, pv, B kind, Str nm]) 47] (congrArg (fun z_ => [z_, own v107 x.length (x.map B) 5 1, own v98 ((sealL hk mk kind [110] (tapeN b (16 * i) 16) x).length) ((sealL hk mk kind [110] (tapeN b (16 * i) 16) x).map B) 5 1, cel tb21 ([vb21, .int .u64 ((c98 : Nat) : Int), vl98]) 160, own vb21 b.length (b.map B) 5 1, own vl98 (((tapeL b c98).drop ((16 * i) + 16)).length) (((tapeL b c98).drop ((16 * i) + 16)).map B) 5 1, cel b97 ([cutR ((ps.getD i dP).1) 0 (min (((ps.getD i dP).2).length) 200)]) 26, cel b7 (hk.map B ++ (mk.map B ++ (nk.map B))) 49, cel b4 (hk.map B ++ (mk.map B ++ (nk.map B))) 54, cel b3 (hk.map B ++ (mk.map B ++ (nk.map B ++ ([Value.pointer (some ⟨tb21, 0, none⟩)])))) 52, cel b1 ([wv, I (z), bv, pv, B kind, Str nm]) 47]) (show own v116 (((openF hk mk kind [110] (sealL hk mk kind [110] (tapeN b (16 * i) 16) x)).1).length) (((openF hk mk kind [110] (sealL hk mk kind [110] (tapeN b (16 * i) 16) x)).1).map B) 5 1 = own v116 x.length (x.map B) 5 1 from ownM_cast (by rw [open_seal tapeN_len lenP lenP]))) ?_
          refine tk_re 116 (.tuple #[v116, I (((openF hk mk kind [110] (sealL hk mk kind [110] (tapeN b (16 * i) 16) x)).2 : Nat) : Int)]) (.tuple #[v116, I 0]) rfl (by rw [open_seal tapeN_len lenP lenP]; rfl) ?_
          refine tk_own1 (.head _) fun hfo2 => ?_
          refine tk_q rfl rfl rfl (y_move rfl) ?_
          refine tk_q rfl rfl rfl (y_extract rfl rfl) ?_
          refine tk_q rfl rfl rfl (y_extract rfl rfl) ?_
          refine tk_q rfl rfl rfl (y_assign rfl) ?_
          refine tk_q rfl rfl rfl (y_assign rfl) ?_
          refine tk_nil ?_
          refine tk_then ?_
          refine tk_seq ?_
          refine tk_drawH [own v116 x.length (x.map B) 5 1, own v107 x.length (x.map B) 5 1, own v98 ((sealL hk mk kind [110] (tapeN b (16 * i) 16) x).length) ((sealL hk mk kind [110] (tapeN b (16 * i) 16) x).map B) 5 1, cel tb21 ([vb21, .int .u64 ((c98 : Nat) : Int), vl98]) 160, own vb21 b.length (b.map B) 5 1, own vl98 (((tapeL b c98).drop ((16 * i) + 16)).length) (((tapeL b c98).drop ((16 * i) + 16)).map B) 5 1, cel b97 ([cutR ((ps.getD i dP).1) 0 (min (((ps.getD i dP).2).length) 200)]) 26, cel b7 (hk.map B ++ (mk.map B ++ (nk.map B))) 49, cel b4 (hk.map B ++ (mk.map B ++ (nk.map B))) 54, cel b3 (hk.map B ++ (mk.map B ++ (nk.map B ++ ([Value.pointer (some ⟨tb21, 0, none⟩)])))) 52, cel b1 ([wv, I (z), bv, pv, B kind, Str nm]) 47] [] (by kernel_rfl) ?_
          refine tx_q 0 rfl (by kernel_rfl) rfl rfl rfl (fun _ _ _ h => h) (y_fld0 (o := 0) rfl (by kernel_rfl)) ?_
          refine tx_l 1 rfl (by kernel_rfl) (by kernel_rfl) rfl rfl rfl (fun _ _ _ h => h) (fun _ h => h.sub (List.Sublist.refl _)) (y_loadA (vs := hk.map B ++ (mk.map B)) 64 rfl (by kernel_rfl) lenP (hseg (pre := ([] : List Value)) (post := nk.map B) (.tail _ (.tail _ (.tail _ (.tail _ (.tail _ (.tail _ (.tail _ (.head _)))))))) lenP (by simp))) ?_
          refine tx_q 2 rfl (by kernel_rfl) rfl rfl rfl (fun _ _ _ h => h) (y_fldN (o := 0) 4 rfl (by kernel_rfl)) ?_
          refine tx_l 3 rfl (by kernel_rfl) (by kernel_rfl) rfl rfl rfl (fun _ _ _ h => h) (fun _ h => h.sub (List.Sublist.refl _)) (y_load rfl rfl (hc (o := 4) (.tail _ (.tail _ (.tail _ (.tail _ (.tail _ (.tail _ (.tail _ (.tail _ (.tail _ (.tail _ (.head _))))))))))) (rfl))) ?_
          refine tx_q 4 rfl (by kernel_rfl) rfl rfl rfl (fun _ _ _ h => h) (y_move rfl) ?_
          refine tx_q 5 rfl (by kernel_rfl) rfl rfl rfl (fun _ _ _ h => h) (y_cutRBh (l := sealL hk mk kind [110] (tapeN b (16 * i) 16) x) 47 rfl rfl hfv98.choose_spec (by kernel_rfl) lenP rfl) ?_
          refine tx_a 6 rfl (by kernel_rfl) rfl ?_; refine a_callv [] _ rfl (by kernel_rfl) rfl (fun w' hw' => open_spec (hk := hk) (mk := mk) (kind := kind) (name := [110]) (b := (sealL hk mk kind [110] (tapeN b (16 * i) 16) x).take 47) ⟨lenP, lenP⟩ (Ro.cutBh (Ro.own (H0 := []) hw' (.tail _ (.tail _ (.head _)))) (hi := 47) lenP) ⟨lenP, lenP⟩ (hg.call hw')) rfl fun v126 _ => ?_
          refine tk_S (fun _ h => h.sub (.cons _ (List.Sublist.refl _))) ?_
          refine tk_H [own v126 (([] : List UInt8).length) (([] : List UInt8).map B) 5 1, own v116 x.length (x.map B) 5 1, own v107 x.length (x.map B) 5 1, own v98 ((sealL hk mk kind [110] (tapeN b (16 * i) 16) x).length) ((sealL hk mk kind [110] (tapeN b (16 * i) 16) x).map B) 5 1, cel tb21 ([vb21, .int .u64 ((c98 : Nat) : Int), vl98]) 160, own vb21 b.length (b.map B) 5 1, own vl98 (((tapeL b c98).drop ((16 * i) + 16)).length) (((tapeL b c98).drop ((16 * i) + 16)).map B) 5 1, cel b97 ([cutR ((ps.getD i dP).1) 0 (min (((ps.getD i dP).2).length) 200)]) 26, cel b7 (hk.map B ++ (mk.map B ++ (nk.map B))) 49, cel b4 (hk.map B ++ (mk.map B ++ (nk.map B))) 54, cel b3 (hk.map B ++ (mk.map B ++ (nk.map B ++ ([Value.pointer (some ⟨tb21, 0, none⟩)])))) 52, cel b1 ([wv, I (z), bv, pv, B kind, Str nm]) 47] (congrArg (fun z_ => [z_, own v116 x.length (x.map B) 5 1, own v107 x.length (x.map B) 5 1, own v98 ((sealL hk mk kind [110] (tapeN b (16 * i) 16) x).length) ((sealL hk mk kind [110] (tapeN b (16 * i) 16) x).map B) 5 1, cel tb21 ([vb21, .int .u64 ((c98 : Nat) : Int), vl98]) 160, own vb21 b.length (b.map B) 5 1, own vl98 (((tapeL b c98).drop ((16 * i) + 16)).length) (((tapeL b c98).drop ((16 * i) + 16)).map B) 5 1, cel b97 ([cutR ((ps.getD i dP).1) 0 (min (((ps.getD i dP).2).length) 200)]) 26, cel b7 (hk.map B ++ (mk.map B ++ (nk.map B))) 49, cel b4 (hk.map B ++ (mk.map B ++ (nk.map B))) 54, cel b3 (hk.map B ++ (mk.map B ++ (nk.map B ++ ([Value.pointer (some ⟨tb21, 0, none⟩)])))) 52, cel b1 ([wv, I (z), bv, pv, B kind, Str nm]) 47]) (show own v126 (((openF hk mk kind [110] ((sealL hk mk kind [110] (tapeN b (16 * i) 16) x).take 47)).1).length) (((openF hk mk kind [110] ((sealL hk mk kind [110] (tapeN b (16 * i) 16) x).take 47)).1).map B) 5 1 = own v126 (([] : List UInt8).length) (([] : List UInt8).map B) 5 1 from ownM_cast (by rw [openF_len (by decide) (.inl (by rw [List.length_take]; omega))]))) ?_
          refine tk_re 126 (.tuple #[v126, I (((openF hk mk kind [110] ((sealL hk mk kind [110] (tapeN b (16 * i) 16) x).take 47)).2 : Nat) : Int)]) (.tuple #[v126, I 10]) rfl (by rw [openF_len (by decide) (.inl (by rw [List.length_take]; omega))]; rfl) ?_
          refine tx_q 7 rfl (by kernel_rfl) rfl rfl rfl (fun _ _ _ h => h) (y_move rfl) ?_
          refine tx_q 8 rfl (by kernel_rfl) rfl rfl rfl (fun _ _ _ h => h) (y_extract rfl rfl) ?_
          refine tx_q 9 rfl (by kernel_rfl) rfl rfl rfl (fun _ _ _ h => h) (y_extract rfl rfl) ?_
          refine tx_q 10 rfl (by kernel_rfl) rfl rfl rfl (fun _ _ _ h => h) (y_assign rfl) ?_
          refine tx_q 11 rfl (by kernel_rfl) rfl rfl rfl (fun _ _ _ h => h) (y_assign rfl) ?_
          refine tx_done (by kernel_rfl) ?_
          refine tk_then ?_
          refine tk_seq ?_
          refine tk_region ?_
          refine tk_q rfl rfl rfl (y_move rfl) ?_
          refine tk_q rfl rfl rfl ((y_neq rfl rfl).cast (bool_f (by decide))) ?_
          refine tk_q rfl rfl rfl (y_move rfl) ?_
          refine tk_gq rfl rfl rfl (y_move rfl) ?_
          refine tk_gq rfl rfl rfl ((y_neq rfl rfl).cast (bool_f (by decide))) ?_
          refine tk_q rfl rfl rfl (y_pick0 rfl rfl) ?_
          refine tk_q rfl rfl rfl (y_move rfl) ?_
          refine tk_gq rfl rfl rfl (y_move rfl) ?_
          refine tk_gq rfl rfl rfl ((y_neq rfl rfl).cast (bool_f (by decide))) ?_
          refine tk_q rfl rfl rfl (y_pick0 rfl rfl) ?_
          refine tk_q rfl rfl rfl (y_move rfl) ?_
          refine tk_gq rfl rfl rfl (y_move rfl) ?_
          refine tk_gq rfl rfl rfl (y_str (l := x) rfl rfl rfl rfl (fun w hw => own_rdS (hw.mem (.tail _ (.tail _ (.head _)))))) ?_
          refine tk_gq rfl rfl rfl (y_move rfl) ?_
          refine tk_gq rfl rfl rfl (y_str (l := x) rfl rfl rfl rfl (fun w hw => Ro.rd hro hw)) ?_
          refine tk_gq rfl rfl rfl ((y_strNe (l := x) (m := x) rfl rfl).cast (bool_f (fun h => h rfl))) ?_
          refine tk_q rfl rfl rfl (y_pick0 rfl rfl) ?_
          refine tk_q rfl rfl rfl (y_move rfl) ?_
          refine tk_gq rfl rfl rfl (y_move rfl) ?_
          refine tk_gq rfl rfl rfl (y_str (l := x) rfl rfl rfl rfl (fun w hw => own_rdS (hw.mem (.tail _ (.head _))))) ?_
          refine tk_gq rfl rfl rfl (y_move rfl) ?_
          refine tk_gq rfl rfl rfl (y_str (l := x) rfl rfl rfl rfl (fun w hw => Ro.rd hro hw)) ?_
          refine tk_gq rfl rfl rfl ((y_strNe (l := x) (m := x) rfl rfl).cast (bool_f (fun h => h rfl))) ?_
          refine tk_q rfl rfl rfl (y_pick0 rfl rfl) ?_
          refine tk_q rfl rfl rfl (y_move rfl) ?_
          refine tk_gq rfl rfl rfl (y_move rfl) ?_
          refine tk_gq rfl rfl rfl ((y_neq rfl rfl).cast (bool_f (by decide))) ?_
          refine tk_q rfl rfl rfl (y_pick0 rfl rfl) ?_
          refine tk_nil ?_
          refine tk_then ?_
          refine tk_cond0 rfl ?_
          refine tk_skip ?_
          refine tk_in_normal ?_
          refine tk_then ?_
          refine tk_region ?_
          refine tk_q rfl rfl rfl (y_move rfl) ?_
          refine tk_q rfl rfl rfl (y_addN (a := i) (b := 1) rfl rfl (by omega)) ?_
          refine tk_q rfl rfl rfl (y_assign rfl) ?_
          refine tk_nil ?_
          refine tk_H [own v126 (([] : List UInt8).length) (([] : List UInt8).map B) 5 1, own v116 x.length (x.map B) 5 1, own v107 x.length (x.map B) 5 1, own v98 ((sealL hk mk kind [110] (tapeN b (16 * i) 16) x).length) ((sealL hk mk kind [110] (tapeN b (16 * i) 16) x).map B) 5 1, cel tb21 ([vb21, .int .u64 ((c98 : Nat) : Int), vl98]) 160, own vb21 b.length (b.map B) 5 1, own vl98 (((tapeL b c98).drop (16 * (i + 1))).length) (((tapeL b c98).drop (16 * (i + 1))).map B) 5 1, cel b97 ([cutR ((ps.getD i dP).1) 0 (min (((ps.getD i dP).2).length) 200)]) 26, cel b7 (hk.map B ++ (mk.map B ++ (nk.map B))) 49, cel b4 (hk.map B ++ (mk.map B ++ (nk.map B))) 54, cel b3 (hk.map B ++ (mk.map B ++ (nk.map B ++ ([Value.pointer (some ⟨tb21, 0, none⟩)])))) 52, cel b1 ([wv, I (z), bv, pv, B kind, Str nm]) 47] (congrArg (fun z_ => [own v126 (([] : List UInt8).length) (([] : List UInt8).map B) 5 1, own v116 x.length (x.map B) 5 1, own v107 x.length (x.map B) 5 1, own v98 ((sealL hk mk kind [110] (tapeN b (16 * i) 16) x).length) ((sealL hk mk kind [110] (tapeN b (16 * i) 16) x).map B) 5 1, cel tb21 ([vb21, .int .u64 ((c98 : Nat) : Int), vl98]) 160, own vb21 b.length (b.map B) 5 1, z_, cel b97 ([cutR ((ps.getD i dP).1) 0 (min (((ps.getD i dP).2).length) 200)]) 26, cel b7 (hk.map B ++ (mk.map B ++ (nk.map B))) 49, cel b4 (hk.map B ++ (mk.map B ++ (nk.map B))) 54, cel b3 (hk.map B ++ (mk.map B ++ (nk.map B ++ ([Value.pointer (some ⟨tb21, 0, none⟩)])))) 52, cel b1 ([wv, I (z), bv, pv, B kind, Str nm]) 47]) (show own vl98 (((tapeL b c98).drop ((16 * i) + 16)).length) (((tapeL b c98).drop ((16 * i) + 16)).map B) 5 1 = own vl98 (((tapeL b c98).drop (16 * (i + 1))).length) (((tapeL b c98).drop (16 * (i + 1))).map B) 5 1 from ownM_cast (congrArg (fun k => List.drop k _) (by omega)))) ?_
          refine tk_perm _ (.trans (.cons _ (.trans (.cons _ (.trans (.cons _ (.trans (.cons _ (.trans (.cons _ (.trans (.cons _ (.trans (.cons _ (.trans (.cons _ (.trans (.cons _ (.trans (.cons _ (.trans (.cons _ (List.Perm.refl _)) (.swap _ _ _))) (.swap _ _ _))) (.swap _ _ _))) (.swap _ _ _))) (.swap _ _ _))) (.swap _ _ _))) (.swap _ _ _))) (.swap _ _ _))) (.swap _ _ _))) (.swap _ _ _))) (.swap _ _ _)) ?_
          refine tk_perm _ (.trans (.cons _ (.trans (.cons _ (.trans (.cons _ (.trans (.cons _ (.trans (.cons _ (.trans (.cons _ (List.Perm.refl _)) (.swap _ _ _))) (.swap _ _ _))) (.swap _ _ _))) (.swap _ _ _))) (.swap _ _ _))) (.swap _ _ _)) ?_
          refine tk_perm _ (.trans (.cons _ (.trans (.cons _ (.trans (.cons _ (.trans (.cons _ (.trans (.cons _ (.trans (.cons _ (List.Perm.refl _)) (.swap _ _ _))) (.swap _ _ _))) (.swap _ _ _))) (.swap _ _ _))) (.swap _ _ _))) (.swap _ _ _)) ?_
          refine tk_perm _ (.trans (.cons _ (.trans (.cons _ (.trans (.cons _ (.trans (.cons _ (.trans (.cons _ (.trans (.cons _ (.trans (.cons _ (.trans (.cons _ (.trans (.cons _ (.trans (.cons _ (.trans (.cons _ (List.Perm.refl _)) (.swap _ _ _))) (.swap _ _ _))) (.swap _ _ _))) (.swap _ _ _))) (.swap _ _ _))) (.swap _ _ _))) (.swap _ _ _))) (.swap _ _ _))) (.swap _ _ _))) (.swap _ _ _))) (.swap _ _ _)) ?_
          refine tk_perm _ (.trans (.cons _ (.trans (.cons _ (.trans (.cons _ (.trans (.cons _ (.trans (.cons _ (.trans (.cons _ (.trans (.cons _ (.trans (.cons _ (.trans (.cons _ (.trans (.cons _ (.trans (.cons _ (List.Perm.refl _)) (.swap _ _ _))) (.swap _ _ _))) (.swap _ _ _))) (.swap _ _ _))) (.swap _ _ _))) (.swap _ _ _))) (.swap _ _ _))) (.swap _ _ _))) (.swap _ _ _))) (.swap _ _ _))) (.swap _ _ _)) ?_
          refine tk_perm _ (.trans (.cons _ (.trans (.cons _ (.trans (.cons _ (.trans (.cons _ (.trans (.cons _ (.trans (.cons _ (.trans (.cons _ (.trans (.cons _ (.trans (.cons _ (.trans (.cons _ (.trans (.cons _ (List.Perm.refl _)) (.swap _ _ _))) (.swap _ _ _))) (.swap _ _ _))) (.swap _ _ _))) (.swap _ _ _))) (.swap _ _ _))) (.swap _ _ _))) (.swap _ _ _))) (.swap _ _ _))) (.swap _ _ _))) (.swap _ _ _)) ?_
          refine tk_perm _ (.trans (.cons _ (.trans (.cons _ (.trans (.cons _ (.trans (.cons _ (.trans (.cons _ (.trans (.cons _ (.trans (.cons _ (.trans (.cons _ (.trans (.cons _ (.trans (.cons _ (List.Perm.refl _)) (.swap _ _ _))) (.swap _ _ _))) (.swap _ _ _))) (.swap _ _ _))) (.swap _ _ _))) (.swap _ _ _))) (.swap _ _ _))) (.swap _ _ _))) (.swap _ _ _))) (.swap _ _ _)) ?_
          exact tk_again ((i + 1, c98, vl98)) (⟨by dsimp only; omega, by dsimp only; omega, by dsimp only; omega⟩) (by dsimp only; omega) (by repeat (first | exact trivial | refine ⟨rfl, ?_⟩)) (.cons_cons _ (.cons_cons _ (.cons_cons _ (.cons_cons _ (.cons_cons _ (.cons_cons _ (.cons_cons _ (List.nil_sublist _))))))))
        · skip
          refine tk_exit ?_
          refine tk_then_exit ?_
          refine tk_then_exit ?_
          refine tk_in_hit ?_
          refine tk_then ?_
          refine tk_seq ?_
          refine tk_region ?_
          refine tk_q rfl rfl rfl (y_assign rfl) ?_
          refine tk_nil ?_
          refine tk_then ?_
          refine tk_retc ?_
          exact tk_ret (()) (trivial) (.inl rfl) (r1 rfl rfl) (List.nil_sublist _)
      · skip
        refine tk_q rfl rfl rfl (y_move rfl) ?_
        refine tk_gno rfl rfl rfl ?_
        refine tk_gno rfl rfl rfl ?_
        refine tk_q rfl rfl rfl (y_pick0 rfl rfl) ?_
        refine tk_nil ?_
        refine tk_then ?_
        refine tk_cond0 rfl ?_
        refine tk_exit ?_
        refine tk_then_exit ?_
        refine tk_then_exit ?_
        refine tk_in_hit ?_
        refine tk_then ?_
        refine tk_seq ?_
        refine tk_region ?_
        refine tk_q rfl rfl rfl (y_assign rfl) ?_
        refine tk_nil ?_
        refine tk_then ?_
        refine tk_retc ?_
        exact tk_ret (()) (trivial) (.inl rfl) (r1 rfl rfl) (List.nil_sublist _)
    · skip
      skip; refine a_allocL (cs := (List.replicate 32 0).map B ++ ((List.replicate 32 0).map B ++ ((List.replicate 32 0).map B))) (by kernel_rfl) rfl fun b7 => ?_
      refine tk_S (fun _ h => h.sub (.cons _ (List.Sublist.refl _))) ?_
      refine tx_a 7 rfl (by kernel_rfl) rfl ?_; refine a_callv [] _ rfl (by kernel_rfl) rfl (fun w' hw' => make_spec (k := [119] ++ (wl.take (min wl.length 100))) (s := [48, 49, 50, 51, 52, 53, 54, 55, 56, 57, 97, 98, 99, 100, 101, 102]) (n := m) (Ro.own (H0 := []) hw' (.tail _ (.tail _ (.head _)))) (Ro.cel (H0 := []) (b := b37) (o := 0) (m := 16) (cp := 16) (vs := [48, 49, 50, 51, 52, 53, 54, 55, 56, 57, 97, 98, 99, 100, 101, 102].map B) hw' (.tail _ (.head _)) (rfl) (by first | rfl | (simp; done) | (simp; omega)) (by first | omega | (simp; done) | (simp; omega))) ⟨lenP, lenP⟩ lenP lenP (hg.call hw')) rfl fun _ _ => ?_
      refine tk_S (fun _ h => h.sub (.cons _ (List.Sublist.refl _))) ?_
      refine tk_re 43 (.tuple #[.agg ((keyedL (strL ([119] ++ (wl.take (min wl.length 100))) [48, 49, 50, 51, 52, 53, 54, 55, 56, 57, 97, 98, 99, 100, 101, 102] m) [104, 105, 100, 101]).map B ++ ((keyedL (strL ([119] ++ (wl.take (min wl.length 100))) [48, 49, 50, 51, 52, 53, 54, 55, 56, 57, 97, 98, 99, 100, 101, 102] m) [109, 97, 114, 107]).map B ++ ((keyedL (strL ([119] ++ (wl.take (min wl.length 100))) [48, 49, 50, 51, 52, 53, 54, 55, 56, 57, 97, 98, 99, 100, 101, 102] m) [110, 97, 109, 101]).map B))).toArray, I 0]) (.tuple #[.agg (hk.map B ++ (mk.map B ++ (nk.map B))).toArray, I 0]) rfl (by rw [kyL_def, kyL_def, kyL_def, hkE, mkE, nkE]) ?_
      refine tx_q 8 rfl (by kernel_rfl) rfl rfl rfl (fun _ _ _ h => h) (y_move rfl) ?_
      refine tx_q 9 rfl (by kernel_rfl) rfl rfl rfl (fun _ _ _ h => h) (y_extract rfl rfl) ?_
      refine tx_q 10 rfl (by kernel_rfl) rfl rfl rfl (fun _ _ _ h => h) (y_extract rfl rfl) ?_
      refine tx_a 12 rfl (by kernel_rfl) rfl ?_; refine a_storeW (H1 := []) (vs := hk.map B ++ (mk.map B ++ (nk.map B))) 96 rfl rfl (by kernel_rfl) rfl ⟨lenP, lenP⟩ (List.forall_mem_append.2 ⟨oneB, (List.forall_mem_append.2 ⟨oneB, oneB⟩)⟩) ?_
      refine tk_S (fun _ h => h.sub (.cons _ (List.Sublist.refl _))) ?_
      refine tx_q 13 rfl (by kernel_rfl) rfl rfl rfl (fun _ _ _ h => h) (y_assign rfl) ?_
      refine tx_done (by kernel_rfl) ?_
      refine tk_then ?_
      refine tk_seq ?_
      refine tk_seq ?_
      refine tk_drawH [cel b7 (hk.map B ++ (mk.map B ++ (nk.map B))) 49, cel b37 ([B 48, B 49, B 50, B 51, B 52, B 53, B 54, B 55, B 56, B 57, B 97, B 98, B 99, B 100, B 101, B 102]) 5, own v34 (([119] ++ (wl.take (min wl.length 100))).length) (([119] ++ (wl.take (min wl.length 100))).map B) 5 1, cel b4 (hk.map B ++ (mk.map B ++ (nk.map B))) 54, cel b3 (hk.map B ++ (mk.map B ++ (nk.map B ++ ([Value.pointer (some ⟨tb21, 0, none⟩)])))) 52, cel tb21 ([vb21, .int .u64 (((0 : Nat) : Nat) : Int), .slice none 0 0]) 160, own vb21 b.length (b.map B) 5 1, cel b1 ([wv, I (z), bv, pv, B kind, Str nm]) 47] [] (by kernel_rfl) ?_
      refine tx_a 0 rfl (by kernel_rfl) rfl ?_; refine a_callv [] _ rfl (by kernel_rfl) rfl (fun w' hw' => rings_spec (hg.call hw')) rfl fun _ _ => ?_
      refine tk_S (fun _ h => h.sub (List.Sublist.refl _)) ?_
      refine tx_q 1 rfl (by kernel_rfl) rfl rfl rfl (fun _ _ _ h => h) (y_not rfl) ?_
      refine tx_q 2 rfl (by kernel_rfl) rfl rfl rfl (fun _ _ _ h => h) (y_move rfl) ?_
      refine tx_q 3 rfl (by kernel_rfl) rfl rfl rfl (fun _ _ _ h => h) (y_move rfl) ?_
      refine tx_q 4 rfl (by kernel_rfl) rfl rfl rfl (fun _ _ _ h => h) (y_not rfl) ?_
      refine tx_q 5 rfl (by kernel_rfl) rfl rfl rfl (fun _ _ _ h => h) (y_pick0 rfl rfl) ?_
      refine tx_q 6 rfl (by kernel_rfl) rfl rfl rfl (fun _ _ _ h => h) (y_move rfl) ?_
      refine tx_q 7 rfl (by kernel_rfl) rfl rfl rfl (fun _ _ _ h => h) (y_move rfl) ?_
      refine tx_q 8 rfl (by kernel_rfl) rfl rfl rfl (fun _ _ _ h => h) ((y_neq rfl rfl).cast (bool_f (by decide))) ?_
      refine tx_q 9 rfl (by kernel_rfl) rfl rfl rfl (fun _ _ _ h => h) (y_pick0 rfl rfl) ?_
      refine tx_q 10 rfl (by kernel_rfl) rfl rfl rfl (fun _ _ _ h => h) (y_move rfl) ?_
      refine tx_l 11 rfl (by kernel_rfl) (by kernel_rfl) rfl rfl rfl (fun _ _ _ h => h) (fun _ h => h.sub (List.Sublist.refl _)) (y_loadA 96 rfl (by kernel_rfl) lenP (hcw (.head _))) ?_
      refine tx_q 12 rfl (by kernel_rfl) rfl rfl rfl (fun _ _ _ h => h) (y_fld0 (o := 0) rfl (by kernel_rfl)) ?_
      refine tx_l 13 rfl (by kernel_rfl) (by kernel_rfl) rfl rfl rfl (fun _ _ _ h => h) (fun _ h => h.sub (List.Sublist.refl _)) (y_loadA (vs := hk.map B ++ (mk.map B ++ (nk.map B))) 96 rfl (by kernel_rfl) lenP (hseg (pre := ([] : List Value)) (post := [Value.pointer (some ⟨tb21, 0, none⟩)]) (.tail _ (.tail _ (.tail _ (.tail _ (.head _))))) lenP (by simp))) ?_
      refine tx_q 14 rfl (by kernel_rfl) rfl rfl rfl (fun _ _ _ h => h) ((y_stNe (p := True) rfl rfl (by kernel_rfl) eqc_ring ⟨isRing.of hk32 mk32 nk32, isRing.of hk32 mk32 nk32, ring_len hk32 mk32 nk32, ring_len hk32 mk32 nk32⟩ (by kernel_rfl) (iff_true_intro rfl)).cast (v := _) (u := .bool false) (bool_f (fun h => h trivial))) ?_
      refine tx_q 15 rfl (by kernel_rfl) rfl rfl rfl (fun _ _ _ h => h) (y_pick0 rfl rfl) ?_
      refine tx_q 16 rfl (by kernel_rfl) rfl rfl rfl (fun _ _ _ h => h) (y_move rfl) ?_
      refine tx_l 17 rfl (by kernel_rfl) (by kernel_rfl) rfl rfl rfl (fun _ _ _ h => h) (fun _ h => h.sub (List.Sublist.refl _)) (y_loadA 96 rfl (by kernel_rfl) lenP (hcw (.head _))) ?_
      refine tx_l 19 rfl (by kernel_rfl) (by kernel_rfl) rfl rfl rfl (fun _ _ _ h => h) (fun _ h => h.sub (List.Sublist.refl _)) (y_loadA 96 rfl (by kernel_rfl) lenP (hcw (.tail _ (.tail _ (.tail _ (.head _)))))) ?_
      refine tx_a 18 rfl (by kernel_rfl) rfl ?_; refine a_callv [] _ rfl (by kernel_rfl) rfl (fun w' hw' => from_spec (hk := hk) (mk := mk) (nk := nk) ⟨lenP, lenP, lenP⟩) rfl fun _ _ => ?_
      refine tk_S (fun _ h => h.sub (List.Sublist.refl _)) ?_
      refine tx_q 20 rfl (by kernel_rfl) rfl rfl rfl (fun _ _ _ h => h) ((y_stNe (p := True) rfl rfl (by kernel_rfl) eqc_rring ⟨isRing.of hk32 mk32 nk32, isRing.of hk32 mk32 nk32, ring_len hk32 mk32 nk32, ring_len hk32 mk32 nk32⟩ (by kernel_rfl) (iff_true_intro rfl)).cast (v := _) (u := .bool false) (bool_f (fun h => h trivial))) ?_
      refine tx_q 21 rfl (by kernel_rfl) rfl rfl rfl (fun _ _ _ h => h) (y_pick0 rfl rfl) ?_
      refine tx_done (by kernel_rfl) ?_
      refine tk_then ?_
      refine tk_cond0 rfl ?_
      refine tk_skip ?_
      refine tk_then ?_
      refine tk_seq ?_
      refine tk_seq ?_
      refine tk_region ?_
      refine tk_drop (.cons_cons _ (.cons _ (.cons _ (List.Sublist.refl _)))) ?_
      refine tk_ownM0 (f := B) 5 ?_
      refine tk_H [own (.slice none 0 0) (((tapeL b 0).drop (16 * 0)).length) (((tapeL b 0).drop (16 * 0)).map B) 5 1, cel b7 (hk.map B ++ (mk.map B ++ (nk.map B))) 49, cel b4 (hk.map B ++ (mk.map B ++ (nk.map B))) 54, cel b3 (hk.map B ++ (mk.map B ++ (nk.map B ++ ([Value.pointer (some ⟨tb21, 0, none⟩)])))) 52, cel tb21 ([vb21, .int .u64 (((0 : Nat) : Nat) : Int), .slice none 0 0]) 160, own vb21 b.length (b.map B) 5 1, cel b1 ([wv, I (z), bv, pv, B kind, Str nm]) 47] (congrArg (fun z_ => [z_, cel b7 (hk.map B ++ (mk.map B ++ (nk.map B))) 49, cel b4 (hk.map B ++ (mk.map B ++ (nk.map B))) 54, cel b3 (hk.map B ++ (mk.map B ++ (nk.map B ++ ([Value.pointer (some ⟨tb21, 0, none⟩)])))) 52, cel tb21 ([vb21, .int .u64 (((0 : Nat) : Nat) : Int), .slice none 0 0]) 160, own vb21 b.length (b.map B) 5 1, cel b1 ([wv, I (z), bv, pv, B kind, Str nm]) 47]) (show own (.slice none 0 0) (([] : List UInt8).length) (([] : List UInt8).map B) 5 1 = own (.slice none 0 0) (((tapeL b 0).drop (16 * 0)).length) (((tapeL b 0).drop (16 * 0)).map B) 5 1 from ownM_cast (by simp [tapeL_0]))) ?_
      skip
      refine tk_q rfl rfl rfl (y_assign rfl) ?_
      refine tk_nil ?_
      refine tk_then ?_
      refine tk_block ?_
      refine tk_loop (X := Nat × Nat × Value) (fun (i, cA, vA) => i ≤ 5 ∧ i ≤ ps.length ∧ (16 * i ≤ 32 * cA ∧ 32 * cA < 16 * i + 32)) (fun (i, cA, vA) => [(1, .pointer (some ⟨b1, 0, none⟩)), (3, .pointer (some ⟨b3, 0, none⟩)), (7, .pointer (some ⟨b7, 0, none⟩)), (9, I ((i : Nat) : Int))]) (fun (i, cA, vA) => [own vA (((tapeL b cA).drop (16 * i)).length) (((tapeL b cA).drop (16 * i)).map B) 5 1, cel b7 (hk.map B ++ (mk.map B ++ (nk.map B))) 49, cel b4 (hk.map B ++ (mk.map B ++ (nk.map B))) 54, cel b3 (hk.map B ++ (mk.map B ++ (nk.map B ++ ([Value.pointer (some ⟨tb21, 0, none⟩)])))) 52, cel tb21 ([vb21, .int .u64 ((cA : Nat) : Int), vA]) 160, own vb21 b.length (b.map B) 5 1, cel b1 ([wv, I (z), bv, pv, B kind, Str nm]) 47]) (fun (i, cA, vA) => 5 - i) ((0, 0, (.slice none 0 0))) (⟨by omega, by omega, by omega⟩) (by repeat (first | exact trivial | refine ⟨rfl, ?_⟩)) ((List.Sublist.refl _)) ?_
      rintro ⟨i, cA, vA⟩ hI
      try dsimp only at hI ⊢
      refine tk_seq ?_
      refine tk_seq ?_
      refine tk_region ?_
      refine tk_q rfl rfl rfl (y_move rfl) ?_
      refine tk_q rfl rfl rfl (y_fldN (o := 0) 3 rfl (by kernel_rfl)) ?_
      refine tk_q rfl rfl rfl (y_load rfl rfl (hc (o := 3) (.tail _ (.tail _ (.tail _ (.tail _ (.tail _ (.tail _ (.head _))))))) (rfl))) ?_
      refine tk_q rfl rfl rfl (y_lenRN (n' := ps.length) rfl hv.1 rfl (by first | rfl | (rw [List.length_map]; omega) | simp)) ?_
      refine tk_qs rfl rfl rfl (y_lss rfl rfl) (fun hs7_4 => ?_) (fun hs7_4 => ?_)
      · skip
        refine tk_q rfl rfl rfl (y_move rfl) ?_
        refine tk_gq rfl rfl rfl (y_move rfl) ?_
        refine tk_gq rfl rfl rfl (y_lss rfl rfl) ?_
        refine tk_q rfl rfl rfl (y_pick1 rfl rfl) ?_
        refine tk_nil ?_
        refine tk_then ?_
        refine tk_condP rfl (fun ht76 => ?_) (fun ht76 => ?_)
        · skip
          refine tk_skip ?_
          refine tk_then ?_
          refine tk_seq ?_
          refine tk_block ?_
          refine tk_seq ?_
          refine tk_drawH [own vA (((tapeL b cA).drop (16 * i)).length) (((tapeL b cA).drop (16 * i)).map B) 5 1, cel b7 (hk.map B ++ (mk.map B ++ (nk.map B))) 49, cel b4 (hk.map B ++ (mk.map B ++ (nk.map B))) 54, cel b3 (hk.map B ++ (mk.map B ++ (nk.map B ++ ([Value.pointer (some ⟨tb21, 0, none⟩)])))) 52, cel tb21 ([vb21, .int .u64 ((cA : Nat) : Int), vA]) 160, own vb21 b.length (b.map B) 5 1, cel b1 ([wv, I (z), bv, pv, B kind, Str nm]) 47] [] (by kernel_rfl) ?_
          refine tx_q 0 rfl (by kernel_rfl) rfl rfl rfl (fun _ _ _ h => h) (y_fldN (o := 0) 3 rfl (by kernel_rfl)) ?_
          refine tx_l 1 rfl (by kernel_rfl) (by kernel_rfl) rfl rfl rfl (fun _ _ _ h => h) (fun _ h => h.sub (List.Sublist.refl _)) (y_load rfl rfl (hc (o := 3) (.tail _ (.tail _ (.tail _ (.tail _ (.tail _ (.tail _ (.head _))))))) (rfl))) ?_
          refine tx_q 2 rfl (by kernel_rfl) rfl rfl rfl (fun _ _ _ h => h) (y_move rfl) ?_
          refine tx_q 3 rfl (by kernel_rfl) rfl rfl rfl (fun _ _ _ h => h) (y_ixR (j := i) rfl rfl hv.1 lenP (by kernel_rfl)) ?_
          refine tx_l 4 rfl (by kernel_rfl) (by kernel_rfl) rfl rfl rfl (fun _ _ _ h => h) (fun _ h => h.sub (List.Sublist.refl _)) (y_load rfl rfl (fun w hw => ((fun w hw => Ro.rd hv hw) w hw).cell (gM (f := Prod.fst) (d := dP) lenP))) ?_
          refine tx_q 5 rfl (by kernel_rfl) rfl rfl rfl (fun _ _ _ h => h) (y_fldN (o := 0) 3 rfl (by kernel_rfl)) ?_
          refine tx_l 6 rfl (by kernel_rfl) (by kernel_rfl) rfl rfl rfl (fun _ _ _ h => h) (fun _ h => h.sub (List.Sublist.refl _)) (y_load rfl rfl (hc (o := 3) (.tail _ (.tail _ (.tail _ (.tail _ (.tail _ (.tail _ (.head _))))))) (rfl))) ?_
          refine tx_q 7 rfl (by kernel_rfl) rfl rfl rfl (fun _ _ _ h => h) (y_move rfl) ?_
          refine tx_q 8 rfl (by kernel_rfl) rfl rfl rfl (fun _ _ _ h => h) (y_ixR (j := i) rfl rfl hv.1 lenP (by kernel_rfl)) ?_
          refine tx_l 9 rfl (by kernel_rfl) (by kernel_rfl) rfl rfl rfl (fun _ _ _ h => h) (fun _ h => h.sub (List.Sublist.refl _)) (y_load rfl rfl (fun w hw => ((fun w hw => Ro.rd hv hw) w hw).cell (gM (f := Prod.fst) (d := dP) lenP))) ?_
          refine tx_q 10 rfl (by kernel_rfl) rfl rfl rfl (fun _ _ _ h => h) (y_lenRN (n' := ((ps.getD i dP).2).length) rfl (hp _ (getD_mem lenP)).1 rfl (by first | rfl | (rw [List.length_map]; omega) | simp)) ?_
          refine tx_q 11 rfl (by kernel_rfl) rfl rfl rfl (fun _ _ _ h => h) (y_minN (a := ((ps.getD i dP).2).length) (b := 200) rfl rfl) ?_
          refine tx_q 12 rfl (by kernel_rfl) rfl rfl rfl (fun _ _ _ h => h) (y_cutRBh (l := (ps.getD i dP).2) (min (((ps.getD i dP).2).length) 200) rfl rfl (hp _ (getD_mem lenP)).1 (by kernel_rfl) lenP rfl) ?_
          refine tx_q 13 rfl (by kernel_rfl) rfl rfl rfl (fun _ _ _ h => h) (y_assign rfl) ?_
          refine tx_done (by kernel_rfl) ?_
          refine tk_then ?_
          refine tk_seq ?_
          refine tk_region ?_
          have hro : Ro (Fs []) w (rdB (cutR ((ps.getD i dP).1) 0 (min (((ps.getD i dP).2).length) 200)) (((ps.getD i dP).2).take (min (((ps.getD i dP).2).length) 200))) := (Ro.cutBh (hp _ (getD_mem lenP)) (hi := min (((ps.getD i dP).2).length) 200) lenP)
          obtain ⟨x, hx0⟩ : ∃ x, x = ((ps.getD i dP).2).take (min (((ps.getD i dP).2).length) 200) := ⟨_, rfl⟩
          have hxl : x.length ≤ 200 := by rw [hx0]; simp; omega
          rw [← hx0] at hro
          refine tk_q rfl rfl rfl (y_loadA 97 rfl (by kernel_rfl) lenP (hcw (.tail _ (.tail _ (.tail _ (.head _)))))) ?_
          refine tk_q rfl rfl rfl (y_fldN (o := 0) 4 rfl (by kernel_rfl)) ?_
          refine tk_q rfl rfl rfl (y_load rfl rfl (hc (o := 4) (.tail _ (.tail _ (.tail _ (.tail _ (.tail _ (.tail _ (.head _))))))) (rfl))) ?_
          refine tk_q rfl rfl rfl (y_move rfl) ?_
          refine tk_act rfl ?_; refine a_slitN (vs := [cutR ((ps.getD i dP).1) 0 (min (((ps.getD i dP).2).length) 200)]) rfl (List.forall_mem_cons.2 ⟨(RdS.one hro.1), (fun _ h => nomatch h)⟩) (EL45) rfl rfl (by decide) fun b97 => ?_
          refine tk_act rfl ?_
          refine tk_perm _ (.trans (.cons _ (List.Perm.refl _)) (.swap _ _ _)) ?_
          refine tk_perm _ (.trans (.cons _ (.trans (.cons _ (.trans (.cons _ (.trans (.cons _ (.trans (.cons _ (.trans (.cons _ (List.Perm.refl _)) (.swap _ _ _))) (.swap _ _ _))) (.swap _ _ _))) (.swap _ _ _))) (.swap _ _ _))) (.swap _ _ _)) ?_
          refine tk_perm _ (.trans (.cons _ (.trans (.cons _ (.trans (.cons _ (.trans (.cons _ (.trans (.cons _ (.trans (.cons _ (List.Perm.refl _)) (.swap _ _ _))) (.swap _ _ _))) (.swap _ _ _))) (.swap _ _ _))) (.swap _ _ _))) (.swap _ _ _)) ?_
          refine a_callv [] _ rfl (by kernel_rfl) rfl (fun w' hw' => write_spec (hk := hk) (mk := mk) (nk := nk) (name := [110]) (L := x) (kind := kind) (ps := [(cutR ((ps.getD i dP).1) 0 (min (((ps.getD i dP).2).length) 200), x)]) (tb := tb21) (c := cA) (p := (16 * i)) (vb := vb21) (vl := vA) (b := b) ⟨lenP, lenP, lenP⟩ ⟨lenP, lenP⟩ lenP lenP (Ro.cel (vs := [cutR ((ps.getD i dP).1) 0 (min (((ps.getD i dP).2).length) 200)]) hw' (.head _) (by first | rfl | simp) rfl (by decide)) (List.forall_mem_cons.2 ⟨(Ro.call hro hw'), (fun _ h => nomatch h)⟩) (by simp) ⟨lenP, lenP, lenP⟩ (hg.call hw') (St.pre hw')) rfl fun ⟨c98, vl98, v98⟩ hx98 => ?_
          refine tk_H [own v98 ((sealL hk mk kind [110] (tapeN b (16 * i) 16) x).length) ((sealL hk mk kind [110] (tapeN b (16 * i) 16) x).map B) 5 1, cel tb21 ([vb21, .int .u64 ((c98 : Nat) : Int), vl98]) 160, own vb21 b.length (b.map B) 5 1, own vl98 (((tapeL b c98).drop ((16 * i) + 16)).length) (((tapeL b c98).drop ((16 * i) + 16)).map B) 5 1, cel b97 ([cutR ((ps.getD i dP).1) 0 (min (((ps.getD i dP).2).length) 200)]) 26, cel b7 (hk.map B ++ (mk.map B ++ (nk.map B))) 49, cel b4 (hk.map B ++ (mk.map B ++ (nk.map B))) 54, cel b3 (hk.map B ++ (mk.map B ++ (nk.map B ++ ([Value.pointer (some ⟨tb21, 0, none⟩)])))) 52, cel b1 ([wv, I (z), bv, pv, B kind, Str nm]) 47] (congrArg (fun z_ => [z_, cel tb21 ([vb21, .int .u64 ((c98 : Nat) : Int), vl98]) 160, own vb21 b.length (b.map B) 5 1, own vl98 (((tapeL b c98).drop ((16 * i) + 16)).length) (((tapeL b c98).drop ((16 * i) + 16)).map B) 5 1, cel b97 ([cutR ((ps.getD i dP).1) 0 (min (((ps.getD i dP).2).length) 200)]) 26, cel b7 (hk.map B ++ (mk.map B ++ (nk.map B))) 49, cel b4 (hk.map B ++ (mk.map B ++ (nk.map B))) 54, cel b3 (hk.map B ++ (mk.map B ++ (nk.map B ++ ([Value.pointer (some ⟨tb21, 0, none⟩)])))) 52, cel b1 ([wv, I (z), bv, pv, B kind, Str nm]) 47]) (show own v98 (((sealF hk mk kind [110] (tapeN b (16 * i) 16) x).1).length) (((sealF hk mk kind [110] (tapeN b (16 * i) 16) x).1).map B) 5 1 = own v98 ((sealL hk mk kind [110] (tapeN b (16 * i) 16) x).length) ((sealL hk mk kind [110] (tapeN b (16 * i) 16) x).map B) 5 1 from ownM_cast (by rw [sealF_ok lenP lenP]))) ?_
          refine tk_re 98 (.tuple #[v98, I (((sealF hk mk kind [110] (tapeN b (16 * i) 16) x).2 : Nat) : Int)]) (.tuple #[v98, I 0]) rfl (by rw [sealF_ok lenP lenP]; rfl) ?_
          have hslv98 : (sealL hk mk kind [110] (tapeN b (16 * i) 16) x).length = x.length + 48 := sealL_len tapeN_len
          refine tk_own1 (.head _) fun hfv98 => ?_
          refine tk_q rfl rfl rfl (y_move rfl) ?_
          refine tk_q rfl rfl rfl (y_extract rfl rfl) ?_
          refine tk_q rfl rfl rfl (y_extract rfl rfl) ?_
          refine tk_q rfl rfl rfl (y_assign rfl) ?_
          refine tk_q rfl rfl rfl (y_assign rfl) ?_
          refine tk_nil ?_
          refine tk_then ?_
          refine tk_seq ?_
          refine tk_region ?_
          refine tk_q rfl rfl rfl (y_fld0 (o := 0) rfl (by kernel_rfl)) ?_
          refine tk_q rfl rfl rfl (y_loadA (vs := hk.map B ++ (mk.map B)) 64 rfl (by kernel_rfl) lenP (hseg (pre := ([] : List Value)) (post := nk.map B) (.tail _ (.tail _ (.tail _ (.tail _ (.tail _ (.head _)))))) lenP (by simp))) ?_
          refine tk_q rfl rfl rfl (y_fldN (o := 0) 4 rfl (by kernel_rfl)) ?_
          refine tk_q rfl rfl rfl (y_load rfl rfl (hc (o := 4) (.tail _ (.tail _ (.tail _ (.tail _ (.tail _ (.tail _ (.tail _ (.tail _ (.head _))))))))) (rfl))) ?_
          refine tk_q rfl rfl rfl (y_move rfl) ?_
          refine tk_act rfl ?_; refine a_callv [] _ rfl (by kernel_rfl) rfl (fun w' hw' => open_spec (hk := hk) (mk := mk) (kind := kind) (name := [110]) (b := sealL hk mk kind [110] (tapeN b (16 * i) 16) x) ⟨lenP, lenP⟩ (Ro.own (H0 := []) hw' (.head _)) ⟨lenP, lenP⟩ (hg.call hw')) rfl fun v107 _ => ?_
          refine tk_H [own v107 x.length (x.map B) 5 1, own v98 ((sealL hk mk kind [110] (tapeN b (16 * i) 16) x).length) ((sealL hk mk kind [110] (tapeN b (16 * i) 16) x).map B) 5 1, cel tb21 ([vb21, .int .u64 ((c98 : Nat) : Int), vl98]) 160, own vb21 b.length (b.map B) 5 1, own vl98 (((tapeL b c98).drop ((16 * i) + 16)).length) (((tapeL b c98).drop ((16 * i) + 16)).map B) 5 1, cel b97 ([cutR ((ps.getD i dP).1) 0 (min (((ps.getD i dP).2).length) 200)]) 26, cel b7 (hk.map B ++ (mk.map B ++ (nk.map B))) 49, cel b4 (hk.map B ++ (mk.map B ++ (nk.map B))) 54, cel b3 (hk.map B ++ (mk.map B ++ (nk.map B ++ ([Value.pointer (some ⟨tb21, 0, none⟩)])))) 52, cel b1 ([wv, I (z), bv, pv, B kind, Str nm]) 47] (congrArg (fun z_ => [z_, own v98 ((sealL hk mk kind [110] (tapeN b (16 * i) 16) x).length) ((sealL hk mk kind [110] (tapeN b (16 * i) 16) x).map B) 5 1, cel tb21 ([vb21, .int .u64 ((c98 : Nat) : Int), vl98]) 160, own vb21 b.length (b.map B) 5 1, own vl98 (((tapeL b c98).drop ((16 * i) + 16)).length) (((tapeL b c98).drop ((16 * i) + 16)).map B) 5 1, cel b97 ([cutR ((ps.getD i dP).1) 0 (min (((ps.getD i dP).2).length) 200)]) 26, cel b7 (hk.map B ++ (mk.map B ++ (nk.map B))) 49, cel b4 (hk.map B ++ (mk.map B ++ (nk.map B))) 54, cel b3 (hk.map B ++ (mk.map B ++ (nk.map B ++ ([Value.pointer (some ⟨tb21, 0, none⟩)])))) 52, cel b1 ([wv, I (z), bv, pv, B kind, Str nm]) 47]) (show own v107 (((openF hk mk kind [110] (sealL hk mk kind [110] (tapeN b (16 * i) 16) x)).1).length) (((openF hk mk kind [110] (sealL hk mk kind [110] (tapeN b (16 * i) 16) x)).1).map B) 5 1 = own v107 x.length (x.map B) 5 1 from ownM_cast (by rw [open_seal tapeN_len lenP lenP]))) ?_
          refine tk_re 107 (.tuple #[v107, I (((openF hk mk kind [110] (sealL hk mk kind [110] (tapeN b (16 * i) 16) x)).2 : Nat) : Int)]) (.tuple #[v107, I 0]) rfl (by rw [open_seal tapeN_len lenP lenP]; rfl) ?_
          refine tk_own1 (.head _) fun hfo1 => ?_
          refine tk_q rfl rfl rfl (y_move rfl) ?_
          refine tk_q rfl rfl rfl (y_extract rfl rfl) ?_
          refine tk_q rfl rfl rfl (y_extract rfl rfl) ?_
          refine tk_q rfl rfl rfl (y_assign rfl) ?_
          refine tk_q rfl rfl rfl (y_assign rfl) ?_
          refine tk_nil ?_
          refine tk_then ?_
          refine tk_seq ?_
          refine tk_region ?_
          refine tk_q rfl rfl rfl (y_fld0 (o := 0) rfl (by kernel_rfl)) ?_
          refine tk_q rfl rfl rfl (y_loadA (vs := hk.map B ++ (mk.map B)) 64 rfl (by kernel_rfl) lenP (hseg (pre := ([] : List Value)) (post := nk.map B) (.tail _ (.tail _ (.tail _ (.tail _ (.tail _ (.tail _ (.head _))))))) lenP (by simp))) ?_
          refine tk_q rfl rfl rfl (y_fldN (o := 0) 4 rfl (by kernel_rfl)) ?_
          refine tk_q rfl rfl rfl (y_load rfl rfl (hc (o := 4) (.tail _ (.tail _ (.tail _ (.tail _ (.tail _ (.tail _ (.tail _ (.tail _ (.tail _ (.head _)))))))))) (rfl))) ?_
          refine tk_q rfl rfl rfl (y_move rfl) ?_
          refine tk_act rfl ?_; refine a_callv [] _ rfl (by kernel_rfl) rfl (fun w' hw' => open_spec (hk := hk) (mk := mk) (kind := kind) (name := [110]) (b := sealL hk mk kind [110] (tapeN b (16 * i) 16) x) ⟨lenP, lenP⟩ (Ro.own (H0 := []) hw' (.tail _ (.head _))) ⟨lenP, lenP⟩ (hg.call hw')) rfl fun v116 _ => ?_
          refine tk_H [own v116 x.length (x.map B) 5 1, own v107 x.length (x.map B) 5 1, own v98 ((sealL hk mk kind [110] (tapeN b (16 * i) 16) x).length) ((sealL hk mk kind [110] (tapeN b (16 * i) 16) x).map B) 5 1, cel tb21 ([vb21, .int .u64 ((c98 : Nat) : Int), vl98]) 160, own vb21 b.length (b.map B) 5 1, own vl98 (((tapeL b c98).drop ((16 * i) + 16)).length) (((tapeL b c98).drop ((16 * i) + 16)).map B) 5 1, cel b97 ([cutR ((ps.getD i dP).1) 0 (min (((ps.getD i dP).2).length) 200)]) 26, cel b7 (hk.map B ++ (mk.map B ++ (nk.map B))) 49, cel b4 (hk.map B ++ (mk.map B ++ (nk.map B))) 54, cel b3 (hk.map B ++ (mk.map B ++ (nk.map B ++ ([Value.pointer (some ⟨tb21, 0, none⟩)])))) 52, cel b1 ([wv, I (z), bv, pv, B kind, Str nm]) 47] (congrArg (fun z_ => [z_, own v107 x.length (x.map B) 5 1, own v98 ((sealL hk mk kind [110] (tapeN b (16 * i) 16) x).length) ((sealL hk mk kind [110] (tapeN b (16 * i) 16) x).map B) 5 1, cel tb21 ([vb21, .int .u64 ((c98 : Nat) : Int), vl98]) 160, own vb21 b.length (b.map B) 5 1, own vl98 (((tapeL b c98).drop ((16 * i) + 16)).length) (((tapeL b c98).drop ((16 * i) + 16)).map B) 5 1, cel b97 ([cutR ((ps.getD i dP).1) 0 (min (((ps.getD i dP).2).length) 200)]) 26, cel b7 (hk.map B ++ (mk.map B ++ (nk.map B))) 49, cel b4 (hk.map B ++ (mk.map B ++ (nk.map B))) 54, cel b3 (hk.map B ++ (mk.map B ++ (nk.map B ++ ([Value.pointer (some ⟨tb21, 0, none⟩)])))) 52, cel b1 ([wv, I (z), bv, pv, B kind, Str nm]) 47]) (show own v116 (((openF hk mk kind [110] (sealL hk mk kind [110] (tapeN b (16 * i) 16) x)).1).length) (((openF hk mk kind [110] (sealL hk mk kind [110] (tapeN b (16 * i) 16) x)).1).map B) 5 1 = own v116 x.length (x.map B) 5 1 from ownM_cast (by rw [open_seal tapeN_len lenP lenP]))) ?_
          refine tk_re 116 (.tuple #[v116, I (((openF hk mk kind [110] (sealL hk mk kind [110] (tapeN b (16 * i) 16) x)).2 : Nat) : Int)]) (.tuple #[v116, I 0]) rfl (by rw [open_seal tapeN_len lenP lenP]; rfl) ?_
          refine tk_own1 (.head _) fun hfo2 => ?_
          refine tk_q rfl rfl rfl (y_move rfl) ?_
          refine tk_q rfl rfl rfl (y_extract rfl rfl) ?_
          refine tk_q rfl rfl rfl (y_extract rfl rfl) ?_
          refine tk_q rfl rfl rfl (y_assign rfl) ?_
          refine tk_q rfl rfl rfl (y_assign rfl) ?_
          refine tk_nil ?_
          refine tk_then ?_
          refine tk_seq ?_
          refine tk_drawH [own v116 x.length (x.map B) 5 1, own v107 x.length (x.map B) 5 1, own v98 ((sealL hk mk kind [110] (tapeN b (16 * i) 16) x).length) ((sealL hk mk kind [110] (tapeN b (16 * i) 16) x).map B) 5 1, cel tb21 ([vb21, .int .u64 ((c98 : Nat) : Int), vl98]) 160, own vb21 b.length (b.map B) 5 1, own vl98 (((tapeL b c98).drop ((16 * i) + 16)).length) (((tapeL b c98).drop ((16 * i) + 16)).map B) 5 1, cel b97 ([cutR ((ps.getD i dP).1) 0 (min (((ps.getD i dP).2).length) 200)]) 26, cel b7 (hk.map B ++ (mk.map B ++ (nk.map B))) 49, cel b4 (hk.map B ++ (mk.map B ++ (nk.map B))) 54, cel b3 (hk.map B ++ (mk.map B ++ (nk.map B ++ ([Value.pointer (some ⟨tb21, 0, none⟩)])))) 52, cel b1 ([wv, I (z), bv, pv, B kind, Str nm]) 47] [] (by kernel_rfl) ?_
          refine tx_q 0 rfl (by kernel_rfl) rfl rfl rfl (fun _ _ _ h => h) (y_fld0 (o := 0) rfl (by kernel_rfl)) ?_
          refine tx_l 1 rfl (by kernel_rfl) (by kernel_rfl) rfl rfl rfl (fun _ _ _ h => h) (fun _ h => h.sub (List.Sublist.refl _)) (y_loadA (vs := hk.map B ++ (mk.map B)) 64 rfl (by kernel_rfl) lenP (hseg (pre := ([] : List Value)) (post := nk.map B) (.tail _ (.tail _ (.tail _ (.tail _ (.tail _ (.tail _ (.tail _ (.head _)))))))) lenP (by simp))) ?_
          refine tx_q 2 rfl (by kernel_rfl) rfl rfl rfl (fun _ _ _ h => h) (y_fldN (o := 0) 4 rfl (by kernel_rfl)) ?_
          refine tx_l 3 rfl (by kernel_rfl) (by kernel_rfl) rfl rfl rfl (fun _ _ _ h => h) (fun _ h => h.sub (List.Sublist.refl _)) (y_load rfl rfl (hc (o := 4) (.tail _ (.tail _ (.tail _ (.tail _ (.tail _ (.tail _ (.tail _ (.tail _ (.tail _ (.tail _ (.head _))))))))))) (rfl))) ?_
          refine tx_q 4 rfl (by kernel_rfl) rfl rfl rfl (fun _ _ _ h => h) (y_move rfl) ?_
          refine tx_q 5 rfl (by kernel_rfl) rfl rfl rfl (fun _ _ _ h => h) (y_cutRBh (l := sealL hk mk kind [110] (tapeN b (16 * i) 16) x) 47 rfl rfl hfv98.choose_spec (by kernel_rfl) lenP rfl) ?_
          refine tx_a 6 rfl (by kernel_rfl) rfl ?_; refine a_callv [] _ rfl (by kernel_rfl) rfl (fun w' hw' => open_spec (hk := hk) (mk := mk) (kind := kind) (name := [110]) (b := (sealL hk mk kind [110] (tapeN b (16 * i) 16) x).take 47) ⟨lenP, lenP⟩ (Ro.cutBh (Ro.own (H0 := []) hw' (.tail _ (.tail _ (.head _)))) (hi := 47) lenP) ⟨lenP, lenP⟩ (hg.call hw')) rfl fun v126 _ => ?_
          refine tk_S (fun _ h => h.sub (.cons _ (List.Sublist.refl _))) ?_
          refine tk_H [own v126 (([] : List UInt8).length) (([] : List UInt8).map B) 5 1, own v116 x.length (x.map B) 5 1, own v107 x.length (x.map B) 5 1, own v98 ((sealL hk mk kind [110] (tapeN b (16 * i) 16) x).length) ((sealL hk mk kind [110] (tapeN b (16 * i) 16) x).map B) 5 1, cel tb21 ([vb21, .int .u64 ((c98 : Nat) : Int), vl98]) 160, own vb21 b.length (b.map B) 5 1, own vl98 (((tapeL b c98).drop ((16 * i) + 16)).length) (((tapeL b c98).drop ((16 * i) + 16)).map B) 5 1, cel b97 ([cutR ((ps.getD i dP).1) 0 (min (((ps.getD i dP).2).length) 200)]) 26, cel b7 (hk.map B ++ (mk.map B ++ (nk.map B))) 49, cel b4 (hk.map B ++ (mk.map B ++ (nk.map B))) 54, cel b3 (hk.map B ++ (mk.map B ++ (nk.map B ++ ([Value.pointer (some ⟨tb21, 0, none⟩)])))) 52, cel b1 ([wv, I (z), bv, pv, B kind, Str nm]) 47] (congrArg (fun z_ => [z_, own v116 x.length (x.map B) 5 1, own v107 x.length (x.map B) 5 1, own v98 ((sealL hk mk kind [110] (tapeN b (16 * i) 16) x).length) ((sealL hk mk kind [110] (tapeN b (16 * i) 16) x).map B) 5 1, cel tb21 ([vb21, .int .u64 ((c98 : Nat) : Int), vl98]) 160, own vb21 b.length (b.map B) 5 1, own vl98 (((tapeL b c98).drop ((16 * i) + 16)).length) (((tapeL b c98).drop ((16 * i) + 16)).map B) 5 1, cel b97 ([cutR ((ps.getD i dP).1) 0 (min (((ps.getD i dP).2).length) 200)]) 26, cel b7 (hk.map B ++ (mk.map B ++ (nk.map B))) 49, cel b4 (hk.map B ++ (mk.map B ++ (nk.map B))) 54, cel b3 (hk.map B ++ (mk.map B ++ (nk.map B ++ ([Value.pointer (some ⟨tb21, 0, none⟩)])))) 52, cel b1 ([wv, I (z), bv, pv, B kind, Str nm]) 47]) (show own v126 (((openF hk mk kind [110] ((sealL hk mk kind [110] (tapeN b (16 * i) 16) x).take 47)).1).length) (((openF hk mk kind [110] ((sealL hk mk kind [110] (tapeN b (16 * i) 16) x).take 47)).1).map B) 5 1 = own v126 (([] : List UInt8).length) (([] : List UInt8).map B) 5 1 from ownM_cast (by rw [openF_len (by decide) (.inl (by rw [List.length_take]; omega))]))) ?_
          refine tk_re 126 (.tuple #[v126, I (((openF hk mk kind [110] ((sealL hk mk kind [110] (tapeN b (16 * i) 16) x).take 47)).2 : Nat) : Int)]) (.tuple #[v126, I 10]) rfl (by rw [openF_len (by decide) (.inl (by rw [List.length_take]; omega))]; rfl) ?_
          refine tx_q 7 rfl (by kernel_rfl) rfl rfl rfl (fun _ _ _ h => h) (y_move rfl) ?_
          refine tx_q 8 rfl (by kernel_rfl) rfl rfl rfl (fun _ _ _ h => h) (y_extract rfl rfl) ?_
          refine tx_q 9 rfl (by kernel_rfl) rfl rfl rfl (fun _ _ _ h => h) (y_extract rfl rfl) ?_
          refine tx_q 10 rfl (by kernel_rfl) rfl rfl rfl (fun _ _ _ h => h) (y_assign rfl) ?_
          refine tx_q 11 rfl (by kernel_rfl) rfl rfl rfl (fun _ _ _ h => h) (y_assign rfl) ?_
          refine tx_done (by kernel_rfl) ?_
          refine tk_then ?_
          refine tk_seq ?_
          refine tk_region ?_
          refine tk_q rfl rfl rfl (y_move rfl) ?_
          refine tk_q rfl rfl rfl ((y_neq rfl rfl).cast (bool_f (by decide))) ?_
          refine tk_q rfl rfl rfl (y_move rfl) ?_
          refine tk_gq rfl rfl rfl (y_move rfl) ?_
          refine tk_gq rfl rfl rfl ((y_neq rfl rfl).cast (bool_f (by decide))) ?_
          refine tk_q rfl rfl rfl (y_pick0 rfl rfl) ?_
          refine tk_q rfl rfl rfl (y_move rfl) ?_
          refine tk_gq rfl rfl rfl (y_move rfl) ?_
          refine tk_gq rfl rfl rfl ((y_neq rfl rfl).cast (bool_f (by decide))) ?_
          refine tk_q rfl rfl rfl (y_pick0 rfl rfl) ?_
          refine tk_q rfl rfl rfl (y_move rfl) ?_
          refine tk_gq rfl rfl rfl (y_move rfl) ?_
          refine tk_gq rfl rfl rfl (y_str (l := x) rfl rfl rfl rfl (fun w hw => own_rdS (hw.mem (.tail _ (.tail _ (.head _)))))) ?_
          refine tk_gq rfl rfl rfl (y_move rfl) ?_
          refine tk_gq rfl rfl rfl (y_str (l := x) rfl rfl rfl rfl (fun w hw => Ro.rd hro hw)) ?_
          refine tk_gq rfl rfl rfl ((y_strNe (l := x) (m := x) rfl rfl).cast (bool_f (fun h => h rfl))) ?_
          refine tk_q rfl rfl rfl (y_pick0 rfl rfl) ?_
          refine tk_q rfl rfl rfl (y_move rfl) ?_
          refine tk_gq rfl rfl rfl (y_move rfl) ?_
          refine tk_gq rfl rfl rfl (y_str (l := x) rfl rfl rfl rfl (fun w hw => own_rdS (hw.mem (.tail _ (.head _))))) ?_
          refine tk_gq rfl rfl rfl (y_move rfl) ?_
          refine tk_gq rfl rfl rfl (y_str (l := x) rfl rfl rfl rfl (fun w hw => Ro.rd hro hw)) ?_
          refine tk_gq rfl rfl rfl ((y_strNe (l := x) (m := x) rfl rfl).cast (bool_f (fun h => h rfl))) ?_
          refine tk_q rfl rfl rfl (y_pick0 rfl rfl) ?_
          refine tk_q rfl rfl rfl (y_move rfl) ?_
          refine tk_gq rfl rfl rfl (y_move rfl) ?_
          refine tk_gq rfl rfl rfl ((y_neq rfl rfl).cast (bool_f (by decide))) ?_
          refine tk_q rfl rfl rfl (y_pick0 rfl rfl) ?_
          refine tk_nil ?_
          refine tk_then ?_
          refine tk_cond0 rfl ?_
          refine tk_skip ?_
          refine tk_in_normal ?_
          refine tk_then ?_
          refine tk_region ?_
          refine tk_q rfl rfl rfl (y_move rfl) ?_
          refine tk_q rfl rfl rfl (y_addN (a := i) (b := 1) rfl rfl (by omega)) ?_
          refine tk_q rfl rfl rfl (y_assign rfl) ?_
          refine tk_nil ?_
          refine tk_H [own v126 (([] : List UInt8).length) (([] : List UInt8).map B) 5 1, own v116 x.length (x.map B) 5 1, own v107 x.length (x.map B) 5 1, own v98 ((sealL hk mk kind [110] (tapeN b (16 * i) 16) x).length) ((sealL hk mk kind [110] (tapeN b (16 * i) 16) x).map B) 5 1, cel tb21 ([vb21, .int .u64 ((c98 : Nat) : Int), vl98]) 160, own vb21 b.length (b.map B) 5 1, own vl98 (((tapeL b c98).drop (16 * (i + 1))).length) (((tapeL b c98).drop (16 * (i + 1))).map B) 5 1, cel b97 ([cutR ((ps.getD i dP).1) 0 (min (((ps.getD i dP).2).length) 200)]) 26, cel b7 (hk.map B ++ (mk.map B ++ (nk.map B))) 49, cel b4 (hk.map B ++ (mk.map B ++ (nk.map B))) 54, cel b3 (hk.map B ++ (mk.map B ++ (nk.map B ++ ([Value.pointer (some ⟨tb21, 0, none⟩)])))) 52, cel b1 ([wv, I (z), bv, pv, B kind, Str nm]) 47] (congrArg (fun z_ => [own v126 (([] : List UInt8).length) (([] : List UInt8).map B) 5 1, own v116 x.length (x.map B) 5 1, own v107 x.length (x.map B) 5 1, own v98 ((sealL hk mk kind [110] (tapeN b (16 * i) 16) x).length) ((sealL hk mk kind [110] (tapeN b (16 * i) 16) x).map B) 5 1, cel tb21 ([vb21, .int .u64 ((c98 : Nat) : Int), vl98]) 160, own vb21 b.length (b.map B) 5 1, z_, cel b97 ([cutR ((ps.getD i dP).1) 0 (min (((ps.getD i dP).2).length) 200)]) 26, cel b7 (hk.map B ++ (mk.map B ++ (nk.map B))) 49, cel b4 (hk.map B ++ (mk.map B ++ (nk.map B))) 54, cel b3 (hk.map B ++ (mk.map B ++ (nk.map B ++ ([Value.pointer (some ⟨tb21, 0, none⟩)])))) 52, cel b1 ([wv, I (z), bv, pv, B kind, Str nm]) 47]) (show own vl98 (((tapeL b c98).drop ((16 * i) + 16)).length) (((tapeL b c98).drop ((16 * i) + 16)).map B) 5 1 = own vl98 (((tapeL b c98).drop (16 * (i + 1))).length) (((tapeL b c98).drop (16 * (i + 1))).map B) 5 1 from ownM_cast (congrArg (fun k => List.drop k _) (by omega)))) ?_
          refine tk_perm _ (.trans (.cons _ (.trans (.cons _ (.trans (.cons _ (.trans (.cons _ (.trans (.cons _ (.trans (.cons _ (.trans (.cons _ (.trans (.cons _ (.trans (.cons _ (.trans (.cons _ (.trans (.cons _ (List.Perm.refl _)) (.swap _ _ _))) (.swap _ _ _))) (.swap _ _ _))) (.swap _ _ _))) (.swap _ _ _))) (.swap _ _ _))) (.swap _ _ _))) (.swap _ _ _))) (.swap _ _ _))) (.swap _ _ _))) (.swap _ _ _)) ?_
          refine tk_perm _ (.trans (.cons _ (.trans (.cons _ (.trans (.cons _ (.trans (.cons _ (.trans (.cons _ (.trans (.cons _ (List.Perm.refl _)) (.swap _ _ _))) (.swap _ _ _))) (.swap _ _ _))) (.swap _ _ _))) (.swap _ _ _))) (.swap _ _ _)) ?_
          refine tk_perm _ (.trans (.cons _ (.trans (.cons _ (.trans (.cons _ (.trans (.cons _ (.trans (.cons _ (.trans (.cons _ (List.Perm.refl _)) (.swap _ _ _))) (.swap _ _ _))) (.swap _ _ _))) (.swap _ _ _))) (.swap _ _ _))) (.swap _ _ _)) ?_
          refine tk_perm _ (.trans (.cons _ (.trans (.cons _ (.trans (.cons _ (.trans (.cons _ (.trans (.cons _ (.trans (.cons _ (.trans (.cons _ (.trans (.cons _ (.trans (.cons _ (.trans (.cons _ (.trans (.cons _ (List.Perm.refl _)) (.swap _ _ _))) (.swap _ _ _))) (.swap _ _ _))) (.swap _ _ _))) (.swap _ _ _))) (.swap _ _ _))) (.swap _ _ _))) (.swap _ _ _))) (.swap _ _ _))) (.swap _ _ _))) (.swap _ _ _)) ?_
          refine tk_perm _ (.trans (.cons _ (.trans (.cons _ (.trans (.cons _ (.trans (.cons _ (.trans (.cons _ (.trans (.cons _ (.trans (.cons _ (.trans (.cons _ (.trans (.cons _ (.trans (.cons _ (.trans (.cons _ (List.Perm.refl _)) (.swap _ _ _))) (.swap _ _ _))) (.swap _ _ _))) (.swap _ _ _))) (.swap _ _ _))) (.swap _ _ _))) (.swap _ _ _))) (.swap _ _ _))) (.swap _ _ _))) (.swap _ _ _))) (.swap _ _ _)) ?_
          refine tk_perm _ (.trans (.cons _ (.trans (.cons _ (.trans (.cons _ (.trans (.cons _ (.trans (.cons _ (.trans (.cons _ (.trans (.cons _ (.trans (.cons _ (.trans (.cons _ (.trans (.cons _ (.trans (.cons _ (List.Perm.refl _)) (.swap _ _ _))) (.swap _ _ _))) (.swap _ _ _))) (.swap _ _ _))) (.swap _ _ _))) (.swap _ _ _))) (.swap _ _ _))) (.swap _ _ _))) (.swap _ _ _))) (.swap _ _ _))) (.swap _ _ _)) ?_
          refine tk_perm _ (.trans (.cons _ (.trans (.cons _ (.trans (.cons _ (.trans (.cons _ (.trans (.cons _ (.trans (.cons _ (.trans (.cons _ (.trans (.cons _ (.trans (.cons _ (.trans (.cons _ (List.Perm.refl _)) (.swap _ _ _))) (.swap _ _ _))) (.swap _ _ _))) (.swap _ _ _))) (.swap _ _ _))) (.swap _ _ _))) (.swap _ _ _))) (.swap _ _ _))) (.swap _ _ _))) (.swap _ _ _)) ?_
          exact tk_again ((i + 1, c98, vl98)) (⟨by dsimp only; omega, by dsimp only; omega, by dsimp only; omega⟩) (by dsimp only; omega) (by repeat (first | exact trivial | refine ⟨rfl, ?_⟩)) (.cons_cons _ (.cons_cons _ (.cons_cons _ (.cons_cons _ (.cons_cons _ (.cons_cons _ (.cons_cons _ (List.nil_sublist _))))))))
        · skip
          refine tk_exit ?_
          refine tk_then_exit ?_
          refine tk_then_exit ?_
          refine tk_in_hit ?_
          refine tk_then ?_
          refine tk_seq ?_
          refine tk_region ?_
          refine tk_q rfl rfl rfl (y_assign rfl) ?_
          refine tk_nil ?_
          refine tk_then ?_
          refine tk_retc ?_
          exact tk_ret (()) (trivial) (.inl rfl) (r1 rfl rfl) (List.nil_sublist _)
      · skip
        refine tk_q rfl rfl rfl (y_move rfl) ?_
        refine tk_gno rfl rfl rfl ?_
        refine tk_gno rfl rfl rfl ?_
        refine tk_q rfl rfl rfl (y_pick0 rfl rfl) ?_
        refine tk_nil ?_
        refine tk_then ?_
        refine tk_cond0 rfl ?_
        refine tk_exit ?_
        refine tk_then_exit ?_
        refine tk_then_exit ?_
        refine tk_in_hit ?_
        refine tk_then ?_
        refine tk_seq ?_
        refine tk_region ?_
        refine tk_q rfl rfl rfl (y_assign rfl) ?_
        refine tk_nil ?_
        refine tk_then ?_
        refine tk_retc ?_
        exact tk_ret (()) (trivial) (.inl rfl) (r1 rfl rfl) (List.nil_sublist _)
  · skip
    skip; refine a_allocL (cs := (List.replicate 32 0).map B ++ ((List.replicate 32 0).map B ++ ((List.replicate 32 0).map B))) (by kernel_rfl) rfl fun b7 => ?_
    refine tk_S (fun _ h => h.sub (.cons _ (List.Sublist.refl _))) ?_
    refine tx_a 1 rfl (by kernel_rfl) rfl ?_; refine a_callv [] _ rfl (by kernel_rfl) rfl (fun w' hw' => salt_spec) rfl fun b37 _ => ?_
    refine tk_S (fun _ h => h.sub (.cons _ (.cons _ (List.Sublist.refl _)))) ?_
    refine tx_more [cel b37 ([B 48, B 49, B 50, B 51, B 52, B 53, B 54, B 55, B 56, B 57, B 97, B 98, B 99, B 100, B 101, B 102]) 5, own v34 (([119] ++ (wl.take (min wl.length 100))).length) (([119] ++ (wl.take (min wl.length 100))).map B) 5 1, cel b4 (hk.map B ++ (mk.map B ++ (nk.map B))) 54, cel b3 (hk.map B ++ (mk.map B ++ (nk.map B ++ ([Value.pointer (some ⟨tb21, 0, none⟩)])))) 52, cel tb21 ([vb21, .int .u64 (((0 : Nat) : Nat) : Int), .slice none 0 0]) 160, own vb21 b.length (b.map B) 5 1, cel b1 ([wv, I (z), bv, pv, B kind, Str nm]) 47] (fun _ h => h.sub (.cons _ (List.Sublist.refl _))) (fun _ h => h.sub (.cons_cons _ (.cons _ (List.Sublist.refl _)))) ?_
    refine tx_a 7 rfl (by kernel_rfl) rfl ?_; refine a_callv [] _ rfl (by kernel_rfl) rfl (fun w' hw' => make_spec (k := [119] ++ (wl.take (min wl.length 100))) (s := [48, 49, 50, 51, 52, 53, 54, 55, 56, 57, 97, 98, 99, 100, 101, 102]) (n := m) (Ro.own (H0 := []) hw' (.tail _ (.tail _ (.head _)))) (Ro.cel (H0 := []) (b := b37) (o := 0) (m := 16) (cp := 16) (vs := [48, 49, 50, 51, 52, 53, 54, 55, 56, 57, 97, 98, 99, 100, 101, 102].map B) hw' (.head _) (rfl) (by first | rfl | (simp; done) | (simp; omega)) (by first | omega | (simp; done) | (simp; omega))) ⟨lenP, lenP⟩ lenP lenP (hg.call hw')) rfl fun _ _ => ?_
    refine tk_S (fun _ h => h.sub (.cons_cons _ (.cons _ (List.Sublist.refl _)))) ?_
    refine tk_re 43 (.tuple #[.agg ((keyedL (strL ([119] ++ (wl.take (min wl.length 100))) [48, 49, 50, 51, 52, 53, 54, 55, 56, 57, 97, 98, 99, 100, 101, 102] m) [104, 105, 100, 101]).map B ++ ((keyedL (strL ([119] ++ (wl.take (min wl.length 100))) [48, 49, 50, 51, 52, 53, 54, 55, 56, 57, 97, 98, 99, 100, 101, 102] m) [109, 97, 114, 107]).map B ++ ((keyedL (strL ([119] ++ (wl.take (min wl.length 100))) [48, 49, 50, 51, 52, 53, 54, 55, 56, 57, 97, 98, 99, 100, 101, 102] m) [110, 97, 109, 101]).map B))).toArray, I 0]) (.tuple #[.agg (hk.map B ++ (mk.map B ++ (nk.map B))).toArray, I 0]) rfl (by rw [kyL_def, kyL_def, kyL_def, hkE, mkE, nkE]) ?_
    refine tx_q 8 rfl (by kernel_rfl) rfl rfl rfl (fun _ _ _ h => h) (y_move rfl) ?_
    refine tx_q 9 rfl (by kernel_rfl) rfl rfl rfl (fun _ _ _ h => h) (y_extract rfl rfl) ?_
    refine tx_q 10 rfl (by kernel_rfl) rfl rfl rfl (fun _ _ _ h => h) (y_extract rfl rfl) ?_
    refine tx_a 12 rfl (by kernel_rfl) rfl ?_; refine a_storeW (H1 := [_]) (vs := hk.map B ++ (mk.map B ++ (nk.map B))) 96 rfl rfl (by kernel_rfl) rfl ⟨lenP, lenP⟩ (List.forall_mem_append.2 ⟨oneB, (List.forall_mem_append.2 ⟨oneB, oneB⟩)⟩) ?_
    refine tk_S (fun _ h => h.sub (.cons_cons _ (.cons _ (List.Sublist.refl _)))) ?_
    refine tx_q 13 rfl (by kernel_rfl) rfl rfl rfl (fun _ _ _ h => h) (y_assign rfl) ?_
    refine tx_done (by kernel_rfl) ?_
    refine tk_then ?_
    refine tk_seq ?_
    refine tk_seq ?_
    refine tk_drawH [cel b37 ([B 48, B 49, B 50, B 51, B 52, B 53, B 54, B 55, B 56, B 57, B 97, B 98, B 99, B 100, B 101, B 102]) 5, cel b7 (hk.map B ++ (mk.map B ++ (nk.map B))) 49, own v34 (([119] ++ (wl.take (min wl.length 100))).length) (([119] ++ (wl.take (min wl.length 100))).map B) 5 1, cel b4 (hk.map B ++ (mk.map B ++ (nk.map B))) 54, cel b3 (hk.map B ++ (mk.map B ++ (nk.map B ++ ([Value.pointer (some ⟨tb21, 0, none⟩)])))) 52, cel tb21 ([vb21, .int .u64 (((0 : Nat) : Nat) : Int), .slice none 0 0]) 160, own vb21 b.length (b.map B) 5 1, cel b1 ([wv, I (z), bv, pv, B kind, Str nm]) 47] [] (by kernel_rfl) ?_
    refine tx_a 0 rfl (by kernel_rfl) rfl ?_; refine a_callv [] _ rfl (by kernel_rfl) rfl (fun w' hw' => rings_spec (hg.call hw')) rfl fun _ _ => ?_
    refine tk_S (fun _ h => h.sub (List.Sublist.refl _)) ?_
    refine tx_q 1 rfl (by kernel_rfl) rfl rfl rfl (fun _ _ _ h => h) (y_not rfl) ?_
    refine tx_q 2 rfl (by kernel_rfl) rfl rfl rfl (fun _ _ _ h => h) (y_move rfl) ?_
    refine tx_q 3 rfl (by kernel_rfl) rfl rfl rfl (fun _ _ _ h => h) (y_move rfl) ?_
    refine tx_q 4 rfl (by kernel_rfl) rfl rfl rfl (fun _ _ _ h => h) (y_not rfl) ?_
    refine tx_q 5 rfl (by kernel_rfl) rfl rfl rfl (fun _ _ _ h => h) (y_pick0 rfl rfl) ?_
    refine tx_q 6 rfl (by kernel_rfl) rfl rfl rfl (fun _ _ _ h => h) (y_move rfl) ?_
    refine tx_q 7 rfl (by kernel_rfl) rfl rfl rfl (fun _ _ _ h => h) (y_move rfl) ?_
    refine tx_q 8 rfl (by kernel_rfl) rfl rfl rfl (fun _ _ _ h => h) ((y_neq rfl rfl).cast (bool_f (by decide))) ?_
    refine tx_q 9 rfl (by kernel_rfl) rfl rfl rfl (fun _ _ _ h => h) (y_pick0 rfl rfl) ?_
    refine tx_q 10 rfl (by kernel_rfl) rfl rfl rfl (fun _ _ _ h => h) (y_move rfl) ?_
    refine tx_l 11 rfl (by kernel_rfl) (by kernel_rfl) rfl rfl rfl (fun _ _ _ h => h) (fun _ h => h.sub (List.Sublist.refl _)) (y_loadA 96 rfl (by kernel_rfl) lenP (hcw (.tail _ (.head _)))) ?_
    refine tx_q 12 rfl (by kernel_rfl) rfl rfl rfl (fun _ _ _ h => h) (y_fld0 (o := 0) rfl (by kernel_rfl)) ?_
    refine tx_l 13 rfl (by kernel_rfl) (by kernel_rfl) rfl rfl rfl (fun _ _ _ h => h) (fun _ h => h.sub (List.Sublist.refl _)) (y_loadA (vs := hk.map B ++ (mk.map B ++ (nk.map B))) 96 rfl (by kernel_rfl) lenP (hseg (pre := ([] : List Value)) (post := [Value.pointer (some ⟨tb21, 0, none⟩)]) (.tail _ (.tail _ (.tail _ (.tail _ (.head _))))) lenP (by simp))) ?_
    refine tx_q 14 rfl (by kernel_rfl) rfl rfl rfl (fun _ _ _ h => h) ((y_stNe (p := True) rfl rfl (by kernel_rfl) eqc_ring ⟨isRing.of hk32 mk32 nk32, isRing.of hk32 mk32 nk32, ring_len hk32 mk32 nk32, ring_len hk32 mk32 nk32⟩ (by kernel_rfl) (iff_true_intro rfl)).cast (v := _) (u := .bool false) (bool_f (fun h => h trivial))) ?_
    refine tx_q 15 rfl (by kernel_rfl) rfl rfl rfl (fun _ _ _ h => h) (y_pick0 rfl rfl) ?_
    refine tx_q 16 rfl (by kernel_rfl) rfl rfl rfl (fun _ _ _ h => h) (y_move rfl) ?_
    refine tx_l 17 rfl (by kernel_rfl) (by kernel_rfl) rfl rfl rfl (fun _ _ _ h => h) (fun _ h => h.sub (List.Sublist.refl _)) (y_loadA 96 rfl (by kernel_rfl) lenP (hcw (.tail _ (.head _)))) ?_
    refine tx_l 19 rfl (by kernel_rfl) (by kernel_rfl) rfl rfl rfl (fun _ _ _ h => h) (fun _ h => h.sub (List.Sublist.refl _)) (y_loadA 96 rfl (by kernel_rfl) lenP (hcw (.tail _ (.tail _ (.tail _ (.head _)))))) ?_
    refine tx_a 18 rfl (by kernel_rfl) rfl ?_; refine a_callv [] _ rfl (by kernel_rfl) rfl (fun w' hw' => from_spec (hk := hk) (mk := mk) (nk := nk) ⟨lenP, lenP, lenP⟩) rfl fun _ _ => ?_
    refine tk_S (fun _ h => h.sub (List.Sublist.refl _)) ?_
    refine tx_q 20 rfl (by kernel_rfl) rfl rfl rfl (fun _ _ _ h => h) ((y_stNe (p := True) rfl rfl (by kernel_rfl) eqc_rring ⟨isRing.of hk32 mk32 nk32, isRing.of hk32 mk32 nk32, ring_len hk32 mk32 nk32, ring_len hk32 mk32 nk32⟩ (by kernel_rfl) (iff_true_intro rfl)).cast (v := _) (u := .bool false) (bool_f (fun h => h trivial))) ?_
    refine tx_q 21 rfl (by kernel_rfl) rfl rfl rfl (fun _ _ _ h => h) (y_pick0 rfl rfl) ?_
    refine tx_done (by kernel_rfl) ?_
    refine tk_then ?_
    refine tk_cond0 rfl ?_
    refine tk_skip ?_
    refine tk_then ?_
    refine tk_seq ?_
    refine tk_seq ?_
    refine tk_region ?_
    refine tk_drop (.cons _ (.cons_cons _ (.cons _ (List.Sublist.refl _)))) ?_
    refine tk_ownM0 (f := B) 5 ?_
    refine tk_H [own (.slice none 0 0) (((tapeL b 0).drop (16 * 0)).length) (((tapeL b 0).drop (16 * 0)).map B) 5 1, cel b7 (hk.map B ++ (mk.map B ++ (nk.map B))) 49, cel b4 (hk.map B ++ (mk.map B ++ (nk.map B))) 54, cel b3 (hk.map B ++ (mk.map B ++ (nk.map B ++ ([Value.pointer (some ⟨tb21, 0, none⟩)])))) 52, cel tb21 ([vb21, .int .u64 (((0 : Nat) : Nat) : Int), .slice none 0 0]) 160, own vb21 b.length (b.map B) 5 1, cel b1 ([wv, I (z), bv, pv, B kind, Str nm]) 47] (congrArg (fun z_ => [z_, cel b7 (hk.map B ++ (mk.map B ++ (nk.map B))) 49, cel b4 (hk.map B ++ (mk.map B ++ (nk.map B))) 54, cel b3 (hk.map B ++ (mk.map B ++ (nk.map B ++ ([Value.pointer (some ⟨tb21, 0, none⟩)])))) 52, cel tb21 ([vb21, .int .u64 (((0 : Nat) : Nat) : Int), .slice none 0 0]) 160, own vb21 b.length (b.map B) 5 1, cel b1 ([wv, I (z), bv, pv, B kind, Str nm]) 47]) (show own (.slice none 0 0) (([] : List UInt8).length) (([] : List UInt8).map B) 5 1 = own (.slice none 0 0) (((tapeL b 0).drop (16 * 0)).length) (((tapeL b 0).drop (16 * 0)).map B) 5 1 from ownM_cast (by simp [tapeL_0]))) ?_
    skip
    refine tk_q rfl rfl rfl (y_assign rfl) ?_
    refine tk_nil ?_
    refine tk_then ?_
    refine tk_block ?_
    refine tk_loop (X := Nat × Nat × Value) (fun (i, cA, vA) => i ≤ 5 ∧ i ≤ ps.length ∧ (16 * i ≤ 32 * cA ∧ 32 * cA < 16 * i + 32)) (fun (i, cA, vA) => [(1, .pointer (some ⟨b1, 0, none⟩)), (3, .pointer (some ⟨b3, 0, none⟩)), (7, .pointer (some ⟨b7, 0, none⟩)), (9, I ((i : Nat) : Int))]) (fun (i, cA, vA) => [own vA (((tapeL b cA).drop (16 * i)).length) (((tapeL b cA).drop (16 * i)).map B) 5 1, cel b7 (hk.map B ++ (mk.map B ++ (nk.map B))) 49, cel b4 (hk.map B ++ (mk.map B ++ (nk.map B))) 54, cel b3 (hk.map B ++ (mk.map B ++ (nk.map B ++ ([Value.pointer (some ⟨tb21, 0, none⟩)])))) 52, cel tb21 ([vb21, .int .u64 ((cA : Nat) : Int), vA]) 160, own vb21 b.length (b.map B) 5 1, cel b1 ([wv, I (z), bv, pv, B kind, Str nm]) 47]) (fun (i, cA, vA) => 5 - i) ((0, 0, (.slice none 0 0))) (⟨by omega, by omega, by omega⟩) (by repeat (first | exact trivial | refine ⟨rfl, ?_⟩)) ((List.Sublist.refl _)) ?_
    rintro ⟨i, cA, vA⟩ hI
    try dsimp only at hI ⊢
    refine tk_seq ?_
    refine tk_seq ?_
    refine tk_region ?_
    refine tk_q rfl rfl rfl (y_move rfl) ?_
    refine tk_q rfl rfl rfl (y_fldN (o := 0) 3 rfl (by kernel_rfl)) ?_
    refine tk_q rfl rfl rfl (y_load rfl rfl (hc (o := 3) (.tail _ (.tail _ (.tail _ (.tail _ (.tail _ (.tail _ (.head _))))))) (rfl))) ?_
    refine tk_q rfl rfl rfl (y_lenRN (n' := ps.length) rfl hv.1 rfl (by first | rfl | (rw [List.length_map]; omega) | simp)) ?_
    refine tk_qs rfl rfl rfl (y_lss rfl rfl) (fun hs7_4 => ?_) (fun hs7_4 => ?_)
    · skip
      refine tk_q rfl rfl rfl (y_move rfl) ?_
      refine tk_gq rfl rfl rfl (y_move rfl) ?_
      refine tk_gq rfl rfl rfl (y_lss rfl rfl) ?_
      refine tk_q rfl rfl rfl (y_pick1 rfl rfl) ?_
      refine tk_nil ?_
      refine tk_then ?_
      refine tk_condP rfl (fun ht76 => ?_) (fun ht76 => ?_)
      · skip
        refine tk_skip ?_
        refine tk_then ?_
        refine tk_seq ?_
        refine tk_block ?_
        refine tk_seq ?_
        refine tk_drawH [own vA (((tapeL b cA).drop (16 * i)).length) (((tapeL b cA).drop (16 * i)).map B) 5 1, cel b7 (hk.map B ++ (mk.map B ++ (nk.map B))) 49, cel b4 (hk.map B ++ (mk.map B ++ (nk.map B))) 54, cel b3 (hk.map B ++ (mk.map B ++ (nk.map B ++ ([Value.pointer (some ⟨tb21, 0, none⟩)])))) 52, cel tb21 ([vb21, .int .u64 ((cA : Nat) : Int), vA]) 160, own vb21 b.length (b.map B) 5 1, cel b1 ([wv, I (z), bv, pv, B kind, Str nm]) 47] [] (by kernel_rfl) ?_
        refine tx_q 0 rfl (by kernel_rfl) rfl rfl rfl (fun _ _ _ h => h) (y_fldN (o := 0) 3 rfl (by kernel_rfl)) ?_
        refine tx_l 1 rfl (by kernel_rfl) (by kernel_rfl) rfl rfl rfl (fun _ _ _ h => h) (fun _ h => h.sub (List.Sublist.refl _)) (y_load rfl rfl (hc (o := 3) (.tail _ (.tail _ (.tail _ (.tail _ (.tail _ (.tail _ (.head _))))))) (rfl))) ?_
        refine tx_q 2 rfl (by kernel_rfl) rfl rfl rfl (fun _ _ _ h => h) (y_move rfl) ?_
        refine tx_q 3 rfl (by kernel_rfl) rfl rfl rfl (fun _ _ _ h => h) (y_ixR (j := i) rfl rfl hv.1 lenP (by kernel_rfl)) ?_
        refine tx_l 4 rfl (by kernel_rfl) (by kernel_rfl) rfl rfl rfl (fun _ _ _ h => h) (fun _ h => h.sub (List.Sublist.refl _)) (y_load rfl rfl (fun w hw => ((fun w hw => Ro.rd hv hw) w hw).cell (gM (f := Prod.fst) (d := dP) lenP))) ?_
        refine tx_q 5 rfl (by kernel_rfl) rfl rfl rfl (fun _ _ _ h => h) (y_fldN (o := 0) 3 rfl (by kernel_rfl)) ?_
        refine tx_l 6 rfl (by kernel_rfl) (by kernel_rfl) rfl rfl rfl (fun _ _ _ h => h) (fun _ h => h.sub (List.Sublist.refl _)) (y_load rfl rfl (hc (o := 3) (.tail _ (.tail _ (.tail _ (.tail _ (.tail _ (.tail _ (.head _))))))) (rfl))) ?_
        refine tx_q 7 rfl (by kernel_rfl) rfl rfl rfl (fun _ _ _ h => h) (y_move rfl) ?_
        refine tx_q 8 rfl (by kernel_rfl) rfl rfl rfl (fun _ _ _ h => h) (y_ixR (j := i) rfl rfl hv.1 lenP (by kernel_rfl)) ?_
        refine tx_l 9 rfl (by kernel_rfl) (by kernel_rfl) rfl rfl rfl (fun _ _ _ h => h) (fun _ h => h.sub (List.Sublist.refl _)) (y_load rfl rfl (fun w hw => ((fun w hw => Ro.rd hv hw) w hw).cell (gM (f := Prod.fst) (d := dP) lenP))) ?_
        refine tx_q 10 rfl (by kernel_rfl) rfl rfl rfl (fun _ _ _ h => h) (y_lenRN (n' := ((ps.getD i dP).2).length) rfl (hp _ (getD_mem lenP)).1 rfl (by first | rfl | (rw [List.length_map]; omega) | simp)) ?_
        refine tx_q 11 rfl (by kernel_rfl) rfl rfl rfl (fun _ _ _ h => h) (y_minN (a := ((ps.getD i dP).2).length) (b := 200) rfl rfl) ?_
        refine tx_q 12 rfl (by kernel_rfl) rfl rfl rfl (fun _ _ _ h => h) (y_cutRBh (l := (ps.getD i dP).2) (min (((ps.getD i dP).2).length) 200) rfl rfl (hp _ (getD_mem lenP)).1 (by kernel_rfl) lenP rfl) ?_
        refine tx_q 13 rfl (by kernel_rfl) rfl rfl rfl (fun _ _ _ h => h) (y_assign rfl) ?_
        refine tx_done (by kernel_rfl) ?_
        refine tk_then ?_
        refine tk_seq ?_
        refine tk_region ?_
        have hro : Ro (Fs []) w (rdB (cutR ((ps.getD i dP).1) 0 (min (((ps.getD i dP).2).length) 200)) (((ps.getD i dP).2).take (min (((ps.getD i dP).2).length) 200))) := (Ro.cutBh (hp _ (getD_mem lenP)) (hi := min (((ps.getD i dP).2).length) 200) lenP)
        obtain ⟨x, hx0⟩ : ∃ x, x = ((ps.getD i dP).2).take (min (((ps.getD i dP).2).length) 200) := ⟨_, rfl⟩
        have hxl : x.length ≤ 200 := by rw [hx0]; simp; omega
        rw [← hx0] at hro
        refine tk_q rfl rfl rfl (y_loadA 97 rfl (by kernel_rfl) lenP (hcw (.tail _ (.tail _ (.tail _ (.head _)))))) ?_
        refine tk_q rfl rfl rfl (y_fldN (o := 0) 4 rfl (by kernel_rfl)) ?_
        refine tk_q rfl rfl rfl (y_load rfl rfl (hc (o := 4) (.tail _ (.tail _ (.tail _ (.tail _ (.tail _ (.tail _ (.head _))))))) (rfl))) ?_
        refine tk_q rfl rfl rfl (y_move rfl) ?_
        refine tk_act rfl ?_; refine a_slitN (vs := [cutR ((ps.getD i dP).1) 0 (min (((ps.getD i dP).2).length) 200)]) rfl (List.forall_mem_cons.2 ⟨(RdS.one hro.1), (fun _ h => nomatch h)⟩) (EL45) rfl rfl (by decide) fun b97 => ?_
        refine tk_act rfl ?_
        refine tk_perm _ (.trans (.cons _ (List.Perm.refl _)) (.swap _ _ _)) ?_
        refine tk_perm _ (.trans (.cons _ (.trans (.cons _ (.trans (.cons _ (.trans (.cons _ (.trans (.cons _ (.trans (.cons _ (List.Perm.refl _)) (.swap _ _ _))) (.swap _ _ _))) (.swap _ _ _))) (.swap _ _ _))) (.swap _ _ _))) (.swap _ _ _)) ?_
        refine tk_perm _ (.trans (.cons _ (.trans (.cons _ (.trans (.cons _ (.trans (.cons _ (.trans (.cons _ (.trans (.cons _ (List.Perm.refl _)) (.swap _ _ _))) (.swap _ _ _))) (.swap _ _ _))) (.swap _ _ _))) (.swap _ _ _))) (.swap _ _ _)) ?_
        refine a_callv [] _ rfl (by kernel_rfl) rfl (fun w' hw' => write_spec (hk := hk) (mk := mk) (nk := nk) (name := [110]) (L := x) (kind := kind) (ps := [(cutR ((ps.getD i dP).1) 0 (min (((ps.getD i dP).2).length) 200), x)]) (tb := tb21) (c := cA) (p := (16 * i)) (vb := vb21) (vl := vA) (b := b) ⟨lenP, lenP, lenP⟩ ⟨lenP, lenP⟩ lenP lenP (Ro.cel (vs := [cutR ((ps.getD i dP).1) 0 (min (((ps.getD i dP).2).length) 200)]) hw' (.head _) (by first | rfl | simp) rfl (by decide)) (List.forall_mem_cons.2 ⟨(Ro.call hro hw'), (fun _ h => nomatch h)⟩) (by simp) ⟨lenP, lenP, lenP⟩ (hg.call hw') (St.pre hw')) rfl fun ⟨c98, vl98, v98⟩ hx98 => ?_
        refine tk_H [own v98 ((sealL hk mk kind [110] (tapeN b (16 * i) 16) x).length) ((sealL hk mk kind [110] (tapeN b (16 * i) 16) x).map B) 5 1, cel tb21 ([vb21, .int .u64 ((c98 : Nat) : Int), vl98]) 160, own vb21 b.length (b.map B) 5 1, own vl98 (((tapeL b c98).drop ((16 * i) + 16)).length) (((tapeL b c98).drop ((16 * i) + 16)).map B) 5 1, cel b97 ([cutR ((ps.getD i dP).1) 0 (min (((ps.getD i dP).2).length) 200)]) 26, cel b7 (hk.map B ++ (mk.map B ++ (nk.map B))) 49, cel b4 (hk.map B ++ (mk.map B ++ (nk.map B))) 54, cel b3 (hk.map B ++ (mk.map B ++ (nk.map B ++ ([Value.pointer (some ⟨tb21, 0, none⟩)])))) 52, cel b1 ([wv, I (z), bv, pv, B kind, Str nm]) 47] (congrArg (fun z_ => [z_, cel tb21 ([vb21, .int .u64 ((c98 : Nat) : Int), vl98]) 160, own vb21 b.length (b.map B) 5 1, own vl98 (((tapeL b c98).drop ((16 * i) + 16)).length) (((tapeL b c98).drop ((16 * i) + 16)).map B) 5 1, cel b97 ([cutR ((ps.getD i dP).1) 0 (min (((ps.getD i dP).2).length) 200)]) 26, cel b7 (hk.map B ++ (mk.map B ++ (nk.map B))) 49, cel b4 (hk.map B ++ (mk.map B ++ (nk.map B))) 54, cel b3 (hk.map B ++ (mk.map B ++ (nk.map B ++ ([Value.pointer (some ⟨tb21, 0, none⟩)])))) 52, cel b1 ([wv, I (z), bv, pv, B kind, Str nm]) 47]) (show own v98 (((sealF hk mk kind [110] (tapeN b (16 * i) 16) x).1).length) (((sealF hk mk kind [110] (tapeN b (16 * i) 16) x).1).map B) 5 1 = own v98 ((sealL hk mk kind [110] (tapeN b (16 * i) 16) x).length) ((sealL hk mk kind [110] (tapeN b (16 * i) 16) x).map B) 5 1 from ownM_cast (by rw [sealF_ok lenP lenP]))) ?_
        refine tk_re 98 (.tuple #[v98, I (((sealF hk mk kind [110] (tapeN b (16 * i) 16) x).2 : Nat) : Int)]) (.tuple #[v98, I 0]) rfl (by rw [sealF_ok lenP lenP]; rfl) ?_
        have hslv98 : (sealL hk mk kind [110] (tapeN b (16 * i) 16) x).length = x.length + 48 := sealL_len tapeN_len
        refine tk_own1 (.head _) fun hfv98 => ?_
        refine tk_q rfl rfl rfl (y_move rfl) ?_
        refine tk_q rfl rfl rfl (y_extract rfl rfl) ?_
        refine tk_q rfl rfl rfl (y_extract rfl rfl) ?_
        refine tk_q rfl rfl rfl (y_assign rfl) ?_
        refine tk_q rfl rfl rfl (y_assign rfl) ?_
        refine tk_nil ?_
        refine tk_then ?_
        refine tk_seq ?_
        refine tk_region ?_
        refine tk_q rfl rfl rfl (y_fld0 (o := 0) rfl (by kernel_rfl)) ?_
        refine tk_q rfl rfl rfl (y_loadA (vs := hk.map B ++ (mk.map B)) 64 rfl (by kernel_rfl) lenP (hseg (pre := ([] : List Value)) (post := nk.map B) (.tail _ (.tail _ (.tail _ (.tail _ (.tail _ (.head _)))))) lenP (by simp))) ?_
        refine tk_q rfl rfl rfl (y_fldN (o := 0) 4 rfl (by kernel_rfl)) ?_
        refine tk_q rfl rfl rfl (y_load rfl rfl (hc (o := 4) (.tail _ (.tail _ (.tail _ (.tail _ (.tail _ (.tail _ (.tail _ (.tail _ (.head _))))))))) (rfl))) ?_
        refine tk_q rfl rfl rfl (y_move rfl) ?_
        refine tk_act rfl ?_; refine a_callv [] _ rfl (by kernel_rfl) rfl (fun w' hw' => open_spec (hk := hk) (mk := mk) (kind := kind) (name := [110]) (b := sealL hk mk kind [110] (tapeN b (16 * i) 16) x) ⟨lenP, lenP⟩ (Ro.own (H0 := []) hw' (.head _)) ⟨lenP, lenP⟩ (hg.call hw')) rfl fun v107 _ => ?_
        refine tk_H [own v107 x.length (x.map B) 5 1, own v98 ((sealL hk mk kind [110] (tapeN b (16 * i) 16) x).length) ((sealL hk mk kind [110] (tapeN b (16 * i) 16) x).map B) 5 1, cel tb21 ([vb21, .int .u64 ((c98 : Nat) : Int), vl98]) 160, own vb21 b.length (b.map B) 5 1, own vl98 (((tapeL b c98).drop ((16 * i) + 16)).length) (((tapeL b c98).drop ((16 * i) + 16)).map B) 5 1, cel b97 ([cutR ((ps.getD i dP).1) 0 (min (((ps.getD i dP).2).length) 200)]) 26, cel b7 (hk.map B ++ (mk.map B ++ (nk.map B))) 49, cel b4 (hk.map B ++ (mk.map B ++ (nk.map B))) 54, cel b3 (hk.map B ++ (mk.map B ++ (nk.map B ++ ([Value.pointer (some ⟨tb21, 0, none⟩)])))) 52, cel b1 ([wv, I (z), bv, pv, B kind, Str nm]) 47] (congrArg (fun z_ => [z_, own v98 ((sealL hk mk kind [110] (tapeN b (16 * i) 16) x).length) ((sealL hk mk kind [110] (tapeN b (16 * i) 16) x).map B) 5 1, cel tb21 ([vb21, .int .u64 ((c98 : Nat) : Int), vl98]) 160, own vb21 b.length (b.map B) 5 1, own vl98 (((tapeL b c98).drop ((16 * i) + 16)).length) (((tapeL b c98).drop ((16 * i) + 16)).map B) 5 1, cel b97 ([cutR ((ps.getD i dP).1) 0 (min (((ps.getD i dP).2).length) 200)]) 26, cel b7 (hk.map B ++ (mk.map B ++ (nk.map B))) 49, cel b4 (hk.map B ++ (mk.map B ++ (nk.map B))) 54, cel b3 (hk.map B ++ (mk.map B ++ (nk.map B ++ ([Value.pointer (some ⟨tb21, 0, none⟩)])))) 52, cel b1 ([wv, I (z), bv, pv, B kind, Str nm]) 47]) (show own v107 (((openF hk mk kind [110] (sealL hk mk kind [110] (tapeN b (16 * i) 16) x)).1).length) (((openF hk mk kind [110] (sealL hk mk kind [110] (tapeN b (16 * i) 16) x)).1).map B) 5 1 = own v107 x.length (x.map B) 5 1 from ownM_cast (by rw [open_seal tapeN_len lenP lenP]))) ?_
        refine tk_re 107 (.tuple #[v107, I (((openF hk mk kind [110] (sealL hk mk kind [110] (tapeN b (16 * i) 16) x)).2 : Nat) : Int)]) (.tuple #[v107, I 0]) rfl (by rw [open_seal tapeN_len lenP lenP]; rfl) ?_
        refine tk_own1 (.head _) fun hfo1 => ?_
        refine tk_q rfl rfl rfl (y_move rfl) ?_
        refine tk_q rfl rfl rfl (y_extract rfl rfl) ?_
        refine tk_q rfl rfl rfl (y_extract rfl rfl) ?_
        refine tk_q rfl rfl rfl (y_assign rfl) ?_
        refine tk_q rfl rfl rfl (y_assign rfl) ?_
        refine tk_nil ?_
        refine tk_then ?_
        refine tk_seq ?_
        refine tk_region ?_
        refine tk_q rfl rfl rfl (y_fld0 (o := 0) rfl (by kernel_rfl)) ?_
        refine tk_q rfl rfl rfl (y_loadA (vs := hk.map B ++ (mk.map B)) 64 rfl (by kernel_rfl) lenP (hseg (pre := ([] : List Value)) (post := nk.map B) (.tail _ (.tail _ (.tail _ (.tail _ (.tail _ (.tail _ (.head _))))))) lenP (by simp))) ?_
        refine tk_q rfl rfl rfl (y_fldN (o := 0) 4 rfl (by kernel_rfl)) ?_
        refine tk_q rfl rfl rfl (y_load rfl rfl (hc (o := 4) (.tail _ (.tail _ (.tail _ (.tail _ (.tail _ (.tail _ (.tail _ (.tail _ (.tail _ (.head _)))))))))) (rfl))) ?_
        refine tk_q rfl rfl rfl (y_move rfl) ?_
        refine tk_act rfl ?_; refine a_callv [] _ rfl (by kernel_rfl) rfl (fun w' hw' => open_spec (hk := hk) (mk := mk) (kind := kind) (name := [110]) (b := sealL hk mk kind [110] (tapeN b (16 * i) 16) x) ⟨lenP, lenP⟩ (Ro.own (H0 := []) hw' (.tail _ (.head _))) ⟨lenP, lenP⟩ (hg.call hw')) rfl fun v116 _ => ?_
        refine tk_H [own v116 x.length (x.map B) 5 1, own v107 x.length (x.map B) 5 1, own v98 ((sealL hk mk kind [110] (tapeN b (16 * i) 16) x).length) ((sealL hk mk kind [110] (tapeN b (16 * i) 16) x).map B) 5 1, cel tb21 ([vb21, .int .u64 ((c98 : Nat) : Int), vl98]) 160, own vb21 b.length (b.map B) 5 1, own vl98 (((tapeL b c98).drop ((16 * i) + 16)).length) (((tapeL b c98).drop ((16 * i) + 16)).map B) 5 1, cel b97 ([cutR ((ps.getD i dP).1) 0 (min (((ps.getD i dP).2).length) 200)]) 26, cel b7 (hk.map B ++ (mk.map B ++ (nk.map B))) 49, cel b4 (hk.map B ++ (mk.map B ++ (nk.map B))) 54, cel b3 (hk.map B ++ (mk.map B ++ (nk.map B ++ ([Value.pointer (some ⟨tb21, 0, none⟩)])))) 52, cel b1 ([wv, I (z), bv, pv, B kind, Str nm]) 47] (congrArg (fun z_ => [z_, own v107 x.length (x.map B) 5 1, own v98 ((sealL hk mk kind [110] (tapeN b (16 * i) 16) x).length) ((sealL hk mk kind [110] (tapeN b (16 * i) 16) x).map B) 5 1, cel tb21 ([vb21, .int .u64 ((c98 : Nat) : Int), vl98]) 160, own vb21 b.length (b.map B) 5 1, own vl98 (((tapeL b c98).drop ((16 * i) + 16)).length) (((tapeL b c98).drop ((16 * i) + 16)).map B) 5 1, cel b97 ([cutR ((ps.getD i dP).1) 0 (min (((ps.getD i dP).2).length) 200)]) 26, cel b7 (hk.map B ++ (mk.map B ++ (nk.map B))) 49, cel b4 (hk.map B ++ (mk.map B ++ (nk.map B))) 54, cel b3 (hk.map B ++ (mk.map B ++ (nk.map B ++ ([Value.pointer (some ⟨tb21, 0, none⟩)])))) 52, cel b1 ([wv, I (z), bv, pv, B kind, Str nm]) 47]) (show own v116 (((openF hk mk kind [110] (sealL hk mk kind [110] (tapeN b (16 * i) 16) x)).1).length) (((openF hk mk kind [110] (sealL hk mk kind [110] (tapeN b (16 * i) 16) x)).1).map B) 5 1 = own v116 x.length (x.map B) 5 1 from ownM_cast (by rw [open_seal tapeN_len lenP lenP]))) ?_
        refine tk_re 116 (.tuple #[v116, I (((openF hk mk kind [110] (sealL hk mk kind [110] (tapeN b (16 * i) 16) x)).2 : Nat) : Int)]) (.tuple #[v116, I 0]) rfl (by rw [open_seal tapeN_len lenP lenP]; rfl) ?_
        refine tk_own1 (.head _) fun hfo2 => ?_
        refine tk_q rfl rfl rfl (y_move rfl) ?_
        refine tk_q rfl rfl rfl (y_extract rfl rfl) ?_
        refine tk_q rfl rfl rfl (y_extract rfl rfl) ?_
        refine tk_q rfl rfl rfl (y_assign rfl) ?_
        refine tk_q rfl rfl rfl (y_assign rfl) ?_
        refine tk_nil ?_
        refine tk_then ?_
        refine tk_seq ?_
        refine tk_drawH [own v116 x.length (x.map B) 5 1, own v107 x.length (x.map B) 5 1, own v98 ((sealL hk mk kind [110] (tapeN b (16 * i) 16) x).length) ((sealL hk mk kind [110] (tapeN b (16 * i) 16) x).map B) 5 1, cel tb21 ([vb21, .int .u64 ((c98 : Nat) : Int), vl98]) 160, own vb21 b.length (b.map B) 5 1, own vl98 (((tapeL b c98).drop ((16 * i) + 16)).length) (((tapeL b c98).drop ((16 * i) + 16)).map B) 5 1, cel b97 ([cutR ((ps.getD i dP).1) 0 (min (((ps.getD i dP).2).length) 200)]) 26, cel b7 (hk.map B ++ (mk.map B ++ (nk.map B))) 49, cel b4 (hk.map B ++ (mk.map B ++ (nk.map B))) 54, cel b3 (hk.map B ++ (mk.map B ++ (nk.map B ++ ([Value.pointer (some ⟨tb21, 0, none⟩)])))) 52, cel b1 ([wv, I (z), bv, pv, B kind, Str nm]) 47] [] (by kernel_rfl) ?_
        refine tx_q 0 rfl (by kernel_rfl) rfl rfl rfl (fun _ _ _ h => h) (y_fld0 (o := 0) rfl (by kernel_rfl)) ?_
        refine tx_l 1 rfl (by kernel_rfl) (by kernel_rfl) rfl rfl rfl (fun _ _ _ h => h) (fun _ h => h.sub (List.Sublist.refl _)) (y_loadA (vs := hk.map B ++ (mk.map B)) 64 rfl (by kernel_rfl) lenP (hseg (pre := ([] : List Value)) (post := nk.map B) (.tail _ (.tail _ (.tail _ (.tail _ (.tail _ (.tail _ (.tail _ (.head _)))))))) lenP (by simp))) ?_
        refine tx_q 2 rfl (by kernel_rfl) rfl rfl rfl (fun _ _ _ h => h) (y_fldN (o := 0) 4 rfl (by kernel_rfl)) ?_
        refine tx_l 3 rfl (by kernel_rfl) (by kernel_rfl) rfl rfl rfl (fun _ _ _ h => h) (fun _ h => h.sub (List.Sublist.refl _)) (y_load rfl rfl (hc (o := 4) (.tail _ (.tail _ (.tail _ (.tail _ (.tail _ (.tail _ (.tail _ (.tail _ (.tail _ (.tail _ (.head _))))))))))) (rfl))) ?_
        refine tx_q 4 rfl (by kernel_rfl) rfl rfl rfl (fun _ _ _ h => h) (y_move rfl) ?_
        refine tx_q 5 rfl (by kernel_rfl) rfl rfl rfl (fun _ _ _ h => h) (y_cutRBh (l := sealL hk mk kind [110] (tapeN b (16 * i) 16) x) 47 rfl rfl hfv98.choose_spec (by kernel_rfl) lenP rfl) ?_
        refine tx_a 6 rfl (by kernel_rfl) rfl ?_; refine a_callv [] _ rfl (by kernel_rfl) rfl (fun w' hw' => open_spec (hk := hk) (mk := mk) (kind := kind) (name := [110]) (b := (sealL hk mk kind [110] (tapeN b (16 * i) 16) x).take 47) ⟨lenP, lenP⟩ (Ro.cutBh (Ro.own (H0 := []) hw' (.tail _ (.tail _ (.head _)))) (hi := 47) lenP) ⟨lenP, lenP⟩ (hg.call hw')) rfl fun v126 _ => ?_
        refine tk_S (fun _ h => h.sub (.cons _ (List.Sublist.refl _))) ?_
        refine tk_H [own v126 (([] : List UInt8).length) (([] : List UInt8).map B) 5 1, own v116 x.length (x.map B) 5 1, own v107 x.length (x.map B) 5 1, own v98 ((sealL hk mk kind [110] (tapeN b (16 * i) 16) x).length) ((sealL hk mk kind [110] (tapeN b (16 * i) 16) x).map B) 5 1, cel tb21 ([vb21, .int .u64 ((c98 : Nat) : Int), vl98]) 160, own vb21 b.length (b.map B) 5 1, own vl98 (((tapeL b c98).drop ((16 * i) + 16)).length) (((tapeL b c98).drop ((16 * i) + 16)).map B) 5 1, cel b97 ([cutR ((ps.getD i dP).1) 0 (min (((ps.getD i dP).2).length) 200)]) 26, cel b7 (hk.map B ++ (mk.map B ++ (nk.map B))) 49, cel b4 (hk.map B ++ (mk.map B ++ (nk.map B))) 54, cel b3 (hk.map B ++ (mk.map B ++ (nk.map B ++ ([Value.pointer (some ⟨tb21, 0, none⟩)])))) 52, cel b1 ([wv, I (z), bv, pv, B kind, Str nm]) 47] (congrArg (fun z_ => [z_, own v116 x.length (x.map B) 5 1, own v107 x.length (x.map B) 5 1, own v98 ((sealL hk mk kind [110] (tapeN b (16 * i) 16) x).length) ((sealL hk mk kind [110] (tapeN b (16 * i) 16) x).map B) 5 1, cel tb21 ([vb21, .int .u64 ((c98 : Nat) : Int), vl98]) 160, own vb21 b.length (b.map B) 5 1, own vl98 (((tapeL b c98).drop ((16 * i) + 16)).length) (((tapeL b c98).drop ((16 * i) + 16)).map B) 5 1, cel b97 ([cutR ((ps.getD i dP).1) 0 (min (((ps.getD i dP).2).length) 200)]) 26, cel b7 (hk.map B ++ (mk.map B ++ (nk.map B))) 49, cel b4 (hk.map B ++ (mk.map B ++ (nk.map B))) 54, cel b3 (hk.map B ++ (mk.map B ++ (nk.map B ++ ([Value.pointer (some ⟨tb21, 0, none⟩)])))) 52, cel b1 ([wv, I (z), bv, pv, B kind, Str nm]) 47]) (show own v126 (((openF hk mk kind [110] ((sealL hk mk kind [110] (tapeN b (16 * i) 16) x).take 47)).1).length) (((openF hk mk kind [110] ((sealL hk mk kind [110] (tapeN b (16 * i) 16) x).take 47)).1).map B) 5 1 = own v126 (([] : List UInt8).length) (([] : List UInt8).map B) 5 1 from ownM_cast (by rw [openF_len (by decide) (.inl (by rw [List.length_take]; omega))]))) ?_
        refine tk_re 126 (.tuple #[v126, I (((openF hk mk kind [110] ((sealL hk mk kind [110] (tapeN b (16 * i) 16) x).take 47)).2 : Nat) : Int)]) (.tuple #[v126, I 10]) rfl (by rw [openF_len (by decide) (.inl (by rw [List.length_take]; omega))]; rfl) ?_
        refine tx_q 7 rfl (by kernel_rfl) rfl rfl rfl (fun _ _ _ h => h) (y_move rfl) ?_
        refine tx_q 8 rfl (by kernel_rfl) rfl rfl rfl (fun _ _ _ h => h) (y_extract rfl rfl) ?_
        refine tx_q 9 rfl (by kernel_rfl) rfl rfl rfl (fun _ _ _ h => h) (y_extract rfl rfl) ?_
        refine tx_q 10 rfl (by kernel_rfl) rfl rfl rfl (fun _ _ _ h => h) (y_assign rfl) ?_
        refine tx_q 11 rfl (by kernel_rfl) rfl rfl rfl (fun _ _ _ h => h) (y_assign rfl) ?_
        refine tx_done (by kernel_rfl) ?_
        refine tk_then ?_
        refine tk_seq ?_
        refine tk_region ?_
        refine tk_q rfl rfl rfl (y_move rfl) ?_
        refine tk_q rfl rfl rfl ((y_neq rfl rfl).cast (bool_f (by decide))) ?_
        refine tk_q rfl rfl rfl (y_move rfl) ?_
        refine tk_gq rfl rfl rfl (y_move rfl) ?_
        refine tk_gq rfl rfl rfl ((y_neq rfl rfl).cast (bool_f (by decide))) ?_
        refine tk_q rfl rfl rfl (y_pick0 rfl rfl) ?_
        refine tk_q rfl rfl rfl (y_move rfl) ?_
        refine tk_gq rfl rfl rfl (y_move rfl) ?_
        refine tk_gq rfl rfl rfl ((y_neq rfl rfl).cast (bool_f (by decide))) ?_
        refine tk_q rfl rfl rfl (y_pick0 rfl rfl) ?_
        refine tk_q rfl rfl rfl (y_move rfl) ?_
        refine tk_gq rfl rfl rfl (y_move rfl) ?_
        refine tk_gq rfl rfl rfl (y_str (l := x) rfl rfl rfl rfl (fun w hw => own_rdS (hw.mem (.tail _ (.tail _ (.head _)))))) ?_
        refine tk_gq rfl rfl rfl (y_move rfl) ?_
        refine tk_gq rfl rfl rfl (y_str (l := x) rfl rfl rfl rfl (fun w hw => Ro.rd hro hw)) ?_
        refine tk_gq rfl rfl rfl ((y_strNe (l := x) (m := x) rfl rfl).cast (bool_f (fun h => h rfl))) ?_
        refine tk_q rfl rfl rfl (y_pick0 rfl rfl) ?_
        refine tk_q rfl rfl rfl (y_move rfl) ?_
        refine tk_gq rfl rfl rfl (y_move rfl) ?_
        refine tk_gq rfl rfl rfl (y_str (l := x) rfl rfl rfl rfl (fun w hw => own_rdS (hw.mem (.tail _ (.head _))))) ?_
        refine tk_gq rfl rfl rfl (y_move rfl) ?_
        refine tk_gq rfl rfl rfl (y_str (l := x) rfl rfl rfl rfl (fun w hw => Ro.rd hro hw)) ?_
        refine tk_gq rfl rfl rfl ((y_strNe (l := x) (m := x) rfl rfl).cast (bool_f (fun h => h rfl))) ?_
        refine tk_q rfl rfl rfl (y_pick0 rfl rfl) ?_
        refine tk_q rfl rfl rfl (y_move rfl) ?_
        refine tk_gq rfl rfl rfl (y_move rfl) ?_
        refine tk_gq rfl rfl rfl ((y_neq rfl rfl).cast (bool_f (by decide))) ?_
        refine tk_q rfl rfl rfl (y_pick0 rfl rfl) ?_
        refine tk_nil ?_
        refine tk_then ?_
        refine tk_cond0 rfl ?_
        refine tk_skip ?_
        refine tk_in_normal ?_
        refine tk_then ?_
        refine tk_region ?_
        refine tk_q rfl rfl rfl (y_move rfl) ?_
        refine tk_q rfl rfl rfl (y_addN (a := i) (b := 1) rfl rfl (by omega)) ?_
        refine tk_q rfl rfl rfl (y_assign rfl) ?_
        refine tk_nil ?_
        refine tk_H [own v126 (([] : List UInt8).length) (([] : List UInt8).map B) 5 1, own v116 x.length (x.map B) 5 1, own v107 x.length (x.map B) 5 1, own v98 ((sealL hk mk kind [110] (tapeN b (16 * i) 16) x).length) ((sealL hk mk kind [110] (tapeN b (16 * i) 16) x).map B) 5 1, cel tb21 ([vb21, .int .u64 ((c98 : Nat) : Int), vl98]) 160, own vb21 b.length (b.map B) 5 1, own vl98 (((tapeL b c98).drop (16 * (i + 1))).length) (((tapeL b c98).drop (16 * (i + 1))).map B) 5 1, cel b97 ([cutR ((ps.getD i dP).1) 0 (min (((ps.getD i dP).2).length) 200)]) 26, cel b7 (hk.map B ++ (mk.map B ++ (nk.map B))) 49, cel b4 (hk.map B ++ (mk.map B ++ (nk.map B))) 54, cel b3 (hk.map B ++ (mk.map B ++ (nk.map B ++ ([Value.pointer (some ⟨tb21, 0, none⟩)])))) 52, cel b1 ([wv, I (z), bv, pv, B kind, Str nm]) 47] (congrArg (fun z_ => [own v126 (([] : List UInt8).length) (([] : List UInt8).map B) 5 1, own v116 x.length (x.map B) 5 1, own v107 x.length (x.map B) 5 1, own v98 ((sealL hk mk kind [110] (tapeN b (16 * i) 16) x).length) ((sealL hk mk kind [110] (tapeN b (16 * i) 16) x).map B) 5 1, cel tb21 ([vb21, .int .u64 ((c98 : Nat) : Int), vl98]) 160, own vb21 b.length (b.map B) 5 1, z_, cel b97 ([cutR ((ps.getD i dP).1) 0 (min (((ps.getD i dP).2).length) 200)]) 26, cel b7 (hk.map B ++ (mk.map B ++ (nk.map B))) 49, cel b4 (hk.map B ++ (mk.map B ++ (nk.map B))) 54, cel b3 (hk.map B ++ (mk.map B ++ (nk.map B ++ ([Value.pointer (some ⟨tb21, 0, none⟩)])))) 52, cel b1 ([wv, I (z), bv, pv, B kind, Str nm]) 47]) (show own vl98 (((tapeL b c98).drop ((16 * i) + 16)).length) (((tapeL b c98).drop ((16 * i) + 16)).map B) 5 1 = own vl98 (((tapeL b c98).drop (16 * (i + 1))).length) (((tapeL b c98).drop (16 * (i + 1))).map B) 5 1 from ownM_cast (congrArg (fun k => List.drop k _) (by omega)))) ?_
        refine tk_perm _ (.trans (.cons _ (.trans (.cons _ (.trans (.cons _ (.trans (.cons _ (.trans (.cons _ (.trans (.cons _ (.trans (.cons _ (.trans (.cons _ (.trans (.cons _ (.trans (.cons _ (.trans (.cons _ (List.Perm.refl _)) (.swap _ _ _))) (.swap _ _ _))) (.swap _ _ _))) (.swap _ _ _))) (.swap _ _ _))) (.swap _ _ _))) (.swap _ _ _))) (.swap _ _ _))) (.swap _ _ _))) (.swap _ _ _))) (.swap _ _ _)) ?_
        refine tk_perm _ (.trans (.cons _ (.trans (.cons _ (.trans (.cons _ (.trans (.cons _ (.trans (.cons _ (.trans (.cons _ (List.Perm.refl _)) (.swap _ _ _))) (.swap _ _ _))) (.swap _ _ _))) (.swap _ _ _))) (.swap _ _ _))) (.swap _ _ _)) ?_
        refine tk_perm _ (.trans (.cons _ (.trans (.cons _ (.trans (.cons _ (.trans (.cons _ (.trans (.cons _ (.trans (.cons _ (List.Perm.refl _)) (.swap _ _ _))) (.swap _ _ _))) (.swap _ _ _))) (.swap _ _ _))) (.swap _ _ _))) (.swap _ _ _)) ?_
        refine tk_perm _ (.trans (.cons _ (.trans (.cons _ (.trans (.cons _ (.trans (.cons _ (.trans (.cons _ (.trans (.cons _ (.trans (.cons _ (.trans (.cons _ (.trans (.cons _ (.trans (.cons _ (.trans (.cons _ (List.Perm.refl _)) (.swap _ _ _))) (.swap _ _ _))) (.swap _ _ _))) (.swap _ _ _))) (.swap _ _ _))) (.swap _ _ _))) (.swap _ _ _))) (.swap _ _ _))) (.swap _ _ _))) (.swap _ _ _))) (.swap _ _ _)) ?_
        refine tk_perm _ (.trans (.cons _ (.trans (.cons _ (.trans (.cons _ (.trans (.cons _ (.trans (.cons _ (.trans (.cons _ (.trans (.cons _ (.trans (.cons _ (.trans (.cons _ (.trans (.cons _ (.trans (.cons _ (List.Perm.refl _)) (.swap _ _ _))) (.swap _ _ _))) (.swap _ _ _))) (.swap _ _ _))) (.swap _ _ _))) (.swap _ _ _))) (.swap _ _ _))) (.swap _ _ _))) (.swap _ _ _))) (.swap _ _ _))) (.swap _ _ _)) ?_
        refine tk_perm _ (.trans (.cons _ (.trans (.cons _ (.trans (.cons _ (.trans (.cons _ (.trans (.cons _ (.trans (.cons _ (.trans (.cons _ (.trans (.cons _ (.trans (.cons _ (.trans (.cons _ (.trans (.cons _ (List.Perm.refl _)) (.swap _ _ _))) (.swap _ _ _))) (.swap _ _ _))) (.swap _ _ _))) (.swap _ _ _))) (.swap _ _ _))) (.swap _ _ _))) (.swap _ _ _))) (.swap _ _ _))) (.swap _ _ _))) (.swap _ _ _)) ?_
        refine tk_perm _ (.trans (.cons _ (.trans (.cons _ (.trans (.cons _ (.trans (.cons _ (.trans (.cons _ (.trans (.cons _ (.trans (.cons _ (.trans (.cons _ (.trans (.cons _ (.trans (.cons _ (List.Perm.refl _)) (.swap _ _ _))) (.swap _ _ _))) (.swap _ _ _))) (.swap _ _ _))) (.swap _ _ _))) (.swap _ _ _))) (.swap _ _ _))) (.swap _ _ _))) (.swap _ _ _))) (.swap _ _ _)) ?_
        exact tk_again ((i + 1, c98, vl98)) (⟨by dsimp only; omega, by dsimp only; omega, by dsimp only; omega⟩) (by dsimp only; omega) (by repeat (first | exact trivial | refine ⟨rfl, ?_⟩)) (.cons_cons _ (.cons_cons _ (.cons_cons _ (.cons_cons _ (.cons_cons _ (.cons_cons _ (.cons_cons _ (List.nil_sublist _))))))))
      · skip
        refine tk_exit ?_
        refine tk_then_exit ?_
        refine tk_then_exit ?_
        refine tk_in_hit ?_
        refine tk_then ?_
        refine tk_seq ?_
        refine tk_region ?_
        refine tk_q rfl rfl rfl (y_assign rfl) ?_
        refine tk_nil ?_
        refine tk_then ?_
        refine tk_retc ?_
        exact tk_ret (()) (trivial) (.inl rfl) (r1 rfl rfl) (List.nil_sublist _)
    · skip
      refine tk_q rfl rfl rfl (y_move rfl) ?_
      refine tk_gno rfl rfl rfl ?_
      refine tk_gno rfl rfl rfl ?_
      refine tk_q rfl rfl rfl (y_pick0 rfl rfl) ?_
      refine tk_nil ?_
      refine tk_then ?_
      refine tk_cond0 rfl ?_
      refine tk_exit ?_
      refine tk_then_exit ?_
      refine tk_then_exit ?_
      refine tk_in_hit ?_
      refine tk_then ?_
      refine tk_seq ?_
      refine tk_region ?_
      refine tk_q rfl rfl rfl (y_assign rfl) ?_
      refine tk_nil ?_
      refine tk_then ?_
      refine tk_retc ?_
      exact tk_ret (()) (trivial) (.inl rfl) (r1 rfl rfl) (List.nil_sublist _)
end Go.Proofs.YtfofkjajlfphjaaDoor
