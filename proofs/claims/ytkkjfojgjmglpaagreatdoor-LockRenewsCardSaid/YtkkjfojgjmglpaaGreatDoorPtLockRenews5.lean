/- Texts of the claim LockRenews, part 5 of 5: LockH, LockCalm, LockTake, LogD, LogE, LockI, LockJ, LockLst, LockK, LockWd, LockM. Own work. -/
import Derived.Test.YtkkjfojgjmglpaaGreatDoorPtLockRenews4
set_option linter.unusedSimpArgs false
set_option linter.unusedVariables false
namespace Go.Proofs.YtkkjfojgjmglpaaGreatDoor
open Go Go.RowKit
set_option maxRecDepth 100000
set_option maxHeartbeats 1000000
attribute [local irreducible] sumL keyedL hexL strL sealF sealL tapeL tapeN
/-- a store, a hand, a tape -/
structure St5 where
  s : Sh
  x : Lk
  c : Nat
  p : Nat
  vl : Value
def after (z : Stp) : St5 := ⟨stepT z, stepY z, z.c, z.p, z.vl⟩
/-- so many steps, none of them the last -/
def Run (hk mk tl : List UInt8) (now : Nat) (u : St5) : Nat → St5 → Nat → Prop
  | 0, q, e => q = u ∧ e = 0
  | i + 1, q, e => ∃ r z e0, Run hk mk tl now u i r e0 ∧ StepR hk mk tl (moOf hk mk r.s now) r.s r.x now r.c r.p r.vl z ∧ fin z = false ∧ q = after z ∧ e = z.e
/-- all steps, to the last -/
def Took (hk mk tl : List UInt8) (now : Nat) (u q : St5) (e : Nat) : Prop := ∃ i r z e0, i ≤ 3 ∧ Run hk mk tl now u i r e0 ∧ StepR hk mk tl (moOf hk mk r.s now) r.s r.x now r.c r.p r.vl z ∧ fin z = true ∧ q = after z ∧ e = z.e
def TkI (hk mk tl : List UInt8) (now : Nat) (u : St5) (k : Int) (j : Nat) (q : St5) (d : Bool) (e : Nat) : Prop :=
  (d = false ∧ ∃ i : Nat, i ≤ 3 ∧ Run hk mk tl now u i q e ∧ q.x.asks = i + 1 ∧ LI hk mk q.s q.x now (k + 2005 * i) (j + i) ∧ q.p ≤ u.p + 16 * i ∧ q.p ≤ 32 * q.c ∧ 32 * q.c < q.p + 32) ∨
  (d = true ∧ Took hk mk tl now u q e ∧ LI hk mk q.s q.x now (k + 8020) (j + 4) ∧ q.p ≤ u.p + 64 ∧ q.p ≤ 32 * q.c ∧ 32 * q.c < q.p + 32)
theorem tki_go {hk mk tl : List UInt8} {now : Nat} {u : St5} {k : Int} {j : Nat} {q : St5} {e : Nat} (h : TkI hk mk tl now u k j q false e) : ∃ i : Nat, i ≤ 3 ∧ Run hk mk tl now u i q e ∧ q.x.asks = i + 1 ∧ LI hk mk q.s q.x now (k + 2005 * i) (j + i) ∧ q.p ≤ u.p + 16 * i ∧ q.p ≤ 32 * q.c ∧ 32 * q.c < q.p + 32 := by
  rcases h with h | h
  · exact h.2
  · cases h.1
def tkMu (q : St5) (d : Bool) : Nat := if d = true then 0 else 6 - q.x.asks
theorem tki_0 {hk mk tl : List UInt8} {now c p : Nat} {s : Sh} {x : Lk} {b : Bool} {vl : Value} {k : Int} {j : Nat} (h : LI hk mk s x now k j) (hI0 : p ≤ 32 * c ∧ 32 * c < p + 32) : TkI hk mk tl now ⟨s, x.asked b, c, p, vl⟩ k j ⟨s, x.asked b, c, p, vl⟩ false 0 :=
  .inl ⟨rfl, 0, by omega, ⟨rfl, rfl⟩, rfl, ⟨h.at_.mono sI, h.ok, h.cl, h.md, h.nx, fun q => by cases q⟩, Nat.le_refl _, hI0⟩
theorem stepY_asks {z : Stp} (h : fin z = false) : (stepY z).asks = z.y.asks + 1 ∧ z.e = 0 := by
  have h1 : ¬ (¬ z.e = 0 ∨ 4 < z.y.asks + 1) := of_decide_eq_false h
  rw [stepY, if_neg h1]
  exact ⟨rfl, Classical.not_not.1 (fun q => h1 (.inl q))⟩
theorem LI.mono {hk mk : List UInt8} {s : Sh} {x : Lk} {now : Nat} {k k' : Int} {j j' : Nat} (h : LI hk mk s x now k j) (hk' : k ≤ k') (hj : j ≤ j') : LI hk mk s x now k' j' := ⟨h.at_.mono hk', h.ok, h.cl, Nat.le_trans h.md hj, h.nx, h.dr⟩
theorem tki_step {hk mk tl : List UInt8} {now : Nat} {u : St5} {k : Int} {j : Nat} {q : St5} {e : Nat} {z : Stp} (h : TkI hk mk tl now u k j q false e) (hj : j < 90) (hz : StepR hk mk tl (moOf hk mk q.s now) q.s q.x now q.c q.p q.vl z) : TkI hk mk tl now u k j (after z) (fin z) z.e := by
  obtain ⟨i, hi3, hrun, hai, hLI, hpp, hcc⟩ := tki_go h
  have hx := stepR_x hz
  have hc2 := stepR_c hcc hz
  have hL2 := hLI.step ⟨by omega, by omega⟩ oM hz
  cases hf : fin z with
  | true =>
    refine .inr ⟨rfl, ⟨i, q, z, e, hi3, hrun, hz, hf, rfl, rfl⟩, hL2.mono oM oM, ?_, hc2⟩
    show z.p ≤ _; omega
  | false =>
    have h5 := stepY_asks hf
    have hi2 : i ≤ 2 := by
      have h1 : ¬ (¬ z.e = 0 ∨ 4 < z.y.asks + 1) := of_decide_eq_false hf
      rw [hx.1, hai] at h1; omega
    refine .inl ⟨rfl, i + 1, by omega, ⟨q, z, e, hrun, hz, hf, rfl, rfl⟩, ?_, hL2.mono oM oM, ?_, hc2⟩
    · show (stepY z).asks = _; rw [h5.1, hx.1, hai]
    · show z.p ≤ _; omega
theorem tkMu_lt {hk mk tl : List UInt8} {now i : Nat} {q : St5} {z : Stp} (hai : q.x.asks = i + 1) (hz : StepR hk mk tl (moOf hk mk q.s now) q.s q.x now q.c q.p q.vl z) (hi : i ≤ 3) : tkMu (after z) (fin z) < tkMu q false := by
  have hx := stepR_x hz
  unfold tkMu
  rw [if_neg (by decide : ¬ false = true)]
  cases hf : fin z with
  | true => rw [if_pos rfl]; omega
  | false =>
    rw [if_neg dC]
    have h5 := (stepY_asks hf).1
    show 6 - (stepY z).asks < _
    rw [h5, hx.1]; omega
theorem ltake_spec {x : Lk} {hk mk nk : List UInt8} {tb sb kb lb : Nat} {b : Bool} {s : Sh} {k : Int} {now mb c p j : Nat} {tl : List UInt8} {vb vl : Value} {w : World} (h3 : hk.length = 32 ∧ mk.length = 32 ∧ nk.length = 32) (h0 : x.own = [] ∧ x.asks = 0) (hLI : LI hk mk s x now k j) (hj : j < 90) (hkk : k < 4611686018426000000) (hnow : now ≤ 1099511627776) (hI0 : p ≤ 32 * c ∧ 32 * c < p + 32) (hp0 : p < 90000000000) (hlb : tl.length < 1099511627776) (hg : Ro (Fs [cel lb (hk.map B ++ (mk.map B ++ (nk.map B ++ ([PT tb, PT sb, PT kb, IN x.cl, IN x.made, Str x.own, IN x.asks, .bool x.want, Str x.next, .bool x.shown, IN x.m.c, .bool x.m.a, IN x.m.t])))) 182, cel kb ([IN now]) 178, cel sb ([Value.map (some mb), I (s.left), .bool s.off, I (s.made), I (s.room)]) 192, mapS mb (kvO s.obs), bag (s.obs.map (obR 5)), cel tb ([vb, .int .u64 ((c : Nat) : Int), vl]) 201, ownB vb tl 5, ownB vl ((tapeL tl c).drop p) 5]) w glob) (hh : Pre w [cel lb (hk.map B ++ (mk.map B ++ (nk.map B ++ ([PT tb, PT sb, PT kb, IN x.cl, IN x.made, Str x.own, IN x.asks, .bool x.want, Str x.next, .bool x.shown, IN x.m.c, .bool x.m.a, IN x.m.t])))) 182, cel kb ([IN now]) 178, cel sb ([Value.map (some mb), I (s.left), .bool s.off, I (s.made), I (s.room)]) 192, mapS mb (kvO s.obs), bag (s.obs.map (obR 5)), cel tb ([vb, .int .u64 ((c : Nat) : Int), vl]) 201, ownB vb tl 5, ownB vl ((tapeL tl c).drop p) 5]) :
    Spec Tryz.prog 43 [PT lb, .bool b] w [cel lb (hk.map B ++ (mk.map B ++ (nk.map B ++ ([PT tb, PT sb, PT kb, IN x.cl, IN x.made, Str x.own, IN x.asks, .bool x.want, Str x.next, .bool x.shown, IN x.m.c, .bool x.m.a, IN x.m.t])))) 182, cel kb ([IN now]) 178, cel sb ([Value.map (some mb), I (s.left), .bool s.off, I (s.made), I (s.room)]) 192, mapS mb (kvO s.obs), bag (s.obs.map (obR 5)), cel tb ([vb, .int .u64 ((c : Nat) : Int), vl]) 201, ownB vb tl 5, ownB vl ((tapeL tl c).drop p) 5] (fun z : St5 × Nat => TkI hk mk tl now ⟨s, x.asked b, c, p, vl⟩ k j z.1 true z.2) (fun z => IN z.2) (fun z => [cel lb (hk.map B ++ (mk.map B ++ (nk.map B ++ ([PT tb, PT sb, PT kb, IN z.1.x.cl, IN z.1.x.made, Str z.1.x.own, IN z.1.x.asks, .bool z.1.x.want, Str z.1.x.next, .bool z.1.x.shown, IN z.1.x.m.c, .bool z.1.x.m.a, IN z.1.x.m.t])))) 182, cel kb ([IN now]) 178, cel sb ([Value.map (some mb), I (z.1.s.left), .bool z.1.s.off, I (z.1.s.made), I (z.1.s.room)]) 192, mapS mb (kvO z.1.s.obs), bag (z.1.s.obs.map (obR 5)), cel tb ([vb, .int .u64 ((z.1.c : Nat) : Int), z.1.vl]) 201, ownB vb tl 5, ownB z.1.vl ((tapeL tl z.1.c).drop z.1.p) 5]) := by
  refine spec_of (n := 20) Tryz.func43 rfl rfl hh.1 hh.2 rfl ?_
  obtain ⟨hk32, mk32, nk32⟩ := h3
  refine tk_own1 (by repeat (first | exact .head _ | refine .tail _ ?_)) fun hfb => ?_; refine tk_own1 (by repeat (first | exact .head _ | refine .tail _ ?_)) fun hfl0 => ?_; refine s_r <| q_a rfl rfl <| s_n <| s_r <| q_m rfl rfl <| q_m rfl rfl <| tk_act rfl <| a_callv [] _ rfl kR rfl (fun w' hw' => ask_spec (b := b) (x := x) (hk := hk) (mk := mk) (nk := nk) (tb := tb) (sb := sb) (kb := kb) (lb := lb) ⟨lenP, lenP, lenP⟩ h0 (St.pre hw')) rfl fun _ _ => q_a rfl rfl <| s_n <| s_r <| q_m rfl rfl <| s_q rfl ((y_neq rfl rfl).cast (bool_f dC)) <| q_a rfl rfl <| s_n <| tk_seq <| tk_block <| tk_re 6 (.bool false) (.bool false) rfl (rfl) <| tk_R (H1 := [_, _, _, _, _, _, _]) rfl (show ownB vl ((tapeL tl c).drop p) 5 = ownB vl ((tapeL tl c).drop p) 5 from rfl) <| tk_loop (X := St5 × Bool × Nat) (fun (q, d, e) => TkI hk mk tl now ⟨s, x.asked b, c, p, vl⟩ k j q d e) (fun (q, d, e) => [(0, PT lb), (4, I 0), (5, IN e), (6, .bool d)]) (fun (q, d, e) => [cel lb (hk.map B ++ (mk.map B ++ (nk.map B ++ ([PT tb, PT sb, PT kb, IN q.x.cl, IN q.x.made, Str q.x.own, IN q.x.asks, .bool q.x.want, Str q.x.next, .bool q.x.shown, IN q.x.m.c, .bool q.x.m.a, IN q.x.m.t])))) 182, cel kb ([IN now]) 178, cel sb ([Value.map (some mb), I (q.s.left), .bool q.s.off, I (q.s.made), I (q.s.room)]) 192, mapS mb (kvO q.s.obs), bag (q.s.obs.map (obR 5)), cel tb ([vb, .int .u64 ((q.c : Nat) : Int), q.vl]) 201, ownB vb tl 5, ownB q.vl ((tapeL tl q.c).drop q.p) 5]) (fun (q, d, e) => tkMu q d) ((⟨s, x.asked b, c, p, vl⟩, false, 0)) (tki_0 hLI hI0) sB ((List.Sublist.refl _)) ?_
  rintro ⟨q, d, e⟩ hI
  dsimp only at hI ⊢
  refine tk_own1 (mm 7 rfl) fun hfl => tk_seq <| s_r <| q_m rfl rfl <| s_q rfl (y_not rfl) <| s_n <| tk_cond rfl (fun ht13 => ?_) (fun ht13 => ?_)
  · obtain rfl : d = false := by cases d <;> simp_all
    obtain ⟨i, hi3, hrun, hai, hLI, hpp, hcc⟩ := tki_go hI
    have hmd := hLI.md
    have hpp2 : q.p ≤ p + 16 * i := hpp
    exact tk_skip <| tk_then <| tk_block <| tk_region <| q_m rfl rfl <| tk_act rfl <| a_callv [] _ rfl kR rfl (fun w' hw' => sstep_spec (mo := (moOf hk mk q.s now)) (s := q.s) (k := (k + 2005 * i)) (now := now) (mb := mb) (c := q.c) (p := q.p) (tl := tl) (vb := vb) (vl := q.vl) (x := q.x) (hk := hk) (mk := mk) (nk := nk) (tb := tb) (sb := sb) (kb := kb) (lb := lb) ⟨lenP, lenP, lenP⟩ hLI.cl oM hLI.at_ oM (hLI.ok.all hnow) hnow hcc oM hlb hLI.nx oM (hg.call hw') (St.pre hw')) rfl fun z16 hz16 => tk_own1 (mm 7 rfl) fun hfz16 => q_m rfl rfl <| s_q rfl (y_extract rfl rfl) <| s_q rfl (y_extract rfl rfl) <| q_a rfl rfl <| q_a rfl rfl <| tk_nil <| tk_in_normal <| tk_again ((⟨stepT z16, stepY z16, z16.c, z16.p, z16.vl⟩, fin z16, z16.e)) (tki_step hI oM hz16) (tkMu_lt hai hz16 oM) sB (List.Sublist.refl _)
  · exact tk_exit <| tk_then_exit <| tk_then_exit <| tk_in_hit <| tk_then <| s_r <| q_m rfl rfl <| q_a rfl rfl <| s_n <| tk_retc <| tk_ret ((q, e)) ((by have hd : d = true := (by cases d <;> simp_all); subst hd; exact hI)) (.inl rfl) (r1 rfl rfl) (List.Sublist.refl _)
def Lk.lost (x : Lk) : Lk := { x with own := [] }
def Lk.rnw (x : Lk) (now : Nat) : Lk := { x with made := x.made + 1, own := lkName x.cl x.made, m := ⟨x.cl, x.m.a, now⟩ }
def relE (e : Nat) : Nat := if e = 6 then 0 else e
/-- what Renew may do -/
def RenR (hk mk tl : List UInt8) (s : Sh) (x : Lk) (now c p : Nat) (vl : Value) (z : Stp) : Prop :=
  ((¬ holdsP now x.m ∨ (s.get x.own).1 = 6) ∧ z = ⟨s, x.lost, 13, c, p, vl⟩) ∨ (¬ (s.get x.own).1 = 0 ∧ ¬ (s.get x.own).1 = 6 ∧ z = ⟨s, x, (s.get x.own).1, c, p, vl⟩) ∨
  (holdsP now x.m ∧ (s.get x.own).1 = 0 ∧ ∃ (c55 : Nat) (vl55 v55 : Value), (p + 16 ≤ 32 * c55 ∧ 32 * c55 < p + 16 + 32) ∧ ((¬ (writeF s (dfName x.cl) v55 (sealL hk mk 108 (lkName x.cl x.made) (tapeN tl p 16) (mkY (⟨x.cl, x.m.a, now⟩ : Mk)))).2 = 0 ∧ z = ⟨(writeF s (dfName x.cl) v55 (sealL hk mk 108 (lkName x.cl x.made) (tapeN tl p 16) (mkY (⟨x.cl, x.m.a, now⟩ : Mk)))).1, x, (writeF s (dfName x.cl) v55 (sealL hk mk 108 (lkName x.cl x.made) (tapeN tl p 16) (mkY (⟨x.cl, x.m.a, now⟩ : Mk)))).2, c55, p + 16, vl55⟩) ∨ ((writeF s (dfName x.cl) v55 (sealL hk mk 108 (lkName x.cl x.made) (tapeN tl p 16) (mkY (⟨x.cl, x.m.a, now⟩ : Mk)))).2 = 0 ∧
    ((¬ (showF (writeF s (dfName x.cl) v55 (sealL hk mk 108 (lkName x.cl x.made) (tapeN tl p 16) (mkY (⟨x.cl, x.m.a, now⟩ : Mk)))).1 (dfName x.cl) (lkName x.cl x.made)).2 = 0 ∧ z = ⟨(showF (writeF s (dfName x.cl) v55 (sealL hk mk 108 (lkName x.cl x.made) (tapeN tl p 16) (mkY (⟨x.cl, x.m.a, now⟩ : Mk)))).1 (dfName x.cl) (lkName x.cl x.made)).1, x, (showF (writeF s (dfName x.cl) v55 (sealL hk mk 108 (lkName x.cl x.made) (tapeN tl p 16) (mkY (⟨x.cl, x.m.a, now⟩ : Mk)))).1 (dfName x.cl) (lkName x.cl x.made)).2, c55, p + 16, vl55⟩) ∨ ((showF (writeF s (dfName x.cl) v55 (sealL hk mk 108 (lkName x.cl x.made) (tapeN tl p 16) (mkY (⟨x.cl, x.m.a, now⟩ : Mk)))).1 (dfName x.cl) (lkName x.cl x.made)).2 = 0 ∧ z = ⟨((showF (writeF s (dfName x.cl) v55 (sealL hk mk 108 (lkName x.cl x.made) (tapeN tl p 16) (mkY (⟨x.cl, x.m.a, now⟩ : Mk)))).1 (dfName x.cl) (lkName x.cl x.made)).1.del x.own).1, x.rnw now, relE ((showF (writeF s (dfName x.cl) v55 (sealL hk mk 108 (lkName x.cl x.made) (tapeN tl p 16) (mkY (⟨x.cl, x.m.a, now⟩ : Mk)))).1 (dfName x.cl) (lkName x.cl x.made)).1.del x.own).2, c55, p + 16, vl55⟩)))))
theorem renew_spec {x : Lk} {hk mk nk : List UInt8} {tb sb kb lb : Nat} {s : Sh} {k : Int} {now mb c p : Nat} {tl : List UInt8} {vb vl : Value} {w : World} (h3 : hk.length = 32 ∧ mk.length = 32 ∧ nk.length = 32) (hown : ¬ x.own = []) (hcl : x.cl < 100) (hmd : x.made < 100) (hmt : x.m.t ≤ now) (hat : ShAt s k) (hkk : k < 4611686018426000000) (hnow : now ≤ 1099511627776) (hI0 : p ≤ 32 * c ∧ 32 * c < p + 32) (hp0 : p < 90000000000) (hlb : tl.length < 1099511627776) (hg : Ro (Fs [cel lb (hk.map B ++ (mk.map B ++ (nk.map B ++ ([PT tb, PT sb, PT kb, IN x.cl, IN x.made, Str x.own, IN x.asks, .bool x.want, Str x.next, .bool x.shown, IN x.m.c, .bool x.m.a, IN x.m.t])))) 182, cel kb ([IN now]) 178, cel sb ([Value.map (some mb), I (s.left), .bool s.off, I (s.made), I (s.room)]) 192, mapS mb (kvO s.obs), bag (s.obs.map (obR 5)), cel tb ([vb, .int .u64 ((c : Nat) : Int), vl]) 201, ownB vb tl 5, ownB vl ((tapeL tl c).drop p) 5]) w glob) (hh : Pre w [cel lb (hk.map B ++ (mk.map B ++ (nk.map B ++ ([PT tb, PT sb, PT kb, IN x.cl, IN x.made, Str x.own, IN x.asks, .bool x.want, Str x.next, .bool x.shown, IN x.m.c, .bool x.m.a, IN x.m.t])))) 182, cel kb ([IN now]) 178, cel sb ([Value.map (some mb), I (s.left), .bool s.off, I (s.made), I (s.room)]) 192, mapS mb (kvO s.obs), bag (s.obs.map (obR 5)), cel tb ([vb, .int .u64 ((c : Nat) : Int), vl]) 201, ownB vb tl 5, ownB vl ((tapeL tl c).drop p) 5]) :
    Spec Tryz.prog 45 [PT lb] w [cel lb (hk.map B ++ (mk.map B ++ (nk.map B ++ ([PT tb, PT sb, PT kb, IN x.cl, IN x.made, Str x.own, IN x.asks, .bool x.want, Str x.next, .bool x.shown, IN x.m.c, .bool x.m.a, IN x.m.t])))) 182, cel kb ([IN now]) 178, cel sb ([Value.map (some mb), I (s.left), .bool s.off, I (s.made), I (s.room)]) 192, mapS mb (kvO s.obs), bag (s.obs.map (obR 5)), cel tb ([vb, .int .u64 ((c : Nat) : Int), vl]) 201, ownB vb tl 5, ownB vl ((tapeL tl c).drop p) 5] (RenR hk mk tl s x now c p vl) (fun z => IN z.e) (fun z => [cel lb (hk.map B ++ (mk.map B ++ (nk.map B ++ ([PT tb, PT sb, PT kb, IN z.y.cl, IN z.y.made, Str z.y.own, IN z.y.asks, .bool z.y.want, Str z.y.next, .bool z.y.shown, IN z.y.m.c, .bool z.y.m.a, IN z.y.m.t])))) 182, cel kb ([IN now]) 178, cel sb ([Value.map (some mb), I (z.t.left), .bool z.t.off, I (z.t.made), I (z.t.room)]) 192, mapS mb (kvO z.t.obs), bag (z.t.obs.map (obR 5)), cel tb ([vb, .int .u64 ((z.c : Nat) : Int), z.vl]) 201, ownB vb tl 5, ownB z.vl ((tapeL tl z.c).drop z.p) 5]) := by
  refine spec_of (n := 93) Tryz.func45 rfl rfl hh.1 hh.2 rfl ?_
  obtain ⟨hk32, mk32, nk32⟩ := h3
  have hok := hat.ok oM
  refine tk_own1 (by repeat (first | exact .head _ | refine .tail _ ?_)) fun hfb => ?_; refine tk_own1 (by repeat (first | exact .head _ | refine .tail _ ?_)) fun hfl => ?_
  have hln := lkName_len (n := x.made) hcl
  have hd2 := dec2_len (n := x.made)
  refine s_r <| q_a rfl rfl <| s_n <| tk_seq <| tk_block <| s_r <| q_m rfl rfl <| s_q rfl (y_pnil rfl rfl rfl) <| q_a rfl rfl <| s_n <| tk_cond0 rfl <| s_r <| q_m rfl rfl <| s_q rfl (y_nilCheck rfl) <| s_q rfl (y_fldN (o := 0) 101 rfl kR) <| s_q rfl (y_load rfl rfl (hc (o := 101) (.head _) (gA (k := 32) (i := 69) (by rw [List.length_map]; exact hk32) oM (gA (k := 32) (i := 37) (by rw [List.length_map]; exact mk32) oM (gA (k := 32) (i := 5) (by rw [List.length_map]; exact nk32) oM (rfl)))))) <| tk_qe (.bool false) rfl rfl rfl (y_strEq (l := x.own) (m := []) rfl rfl) (bool_f (hown)) <| q_a rfl rfl <| s_n <| tk_cond0 rfl <| tk_skip <| tk_in_normal <| tk_then <| tk_seq ?_; refine tk_drawH [cel lb (hk.map B ++ (mk.map B ++ (nk.map B ++ ([PT tb, PT sb, PT kb, IN x.cl, IN x.made, Str x.own, IN x.asks, .bool x.want, Str x.next, .bool x.shown, IN x.m.c, .bool x.m.a, IN x.m.t])))) 182, cel kb ([IN now]) 178, cel sb ([Value.map (some mb), I (s.left), .bool s.off, I (s.made), I (s.room)]) 192, mapS mb (kvO s.obs), bag (s.obs.map (obR 5)), cel tb ([vb, .int .u64 ((c : Nat) : Int), vl]) 201, ownB vb tl 5, ownB vl ((tapeL tl c).drop p) 5] [] kR <| s_x 0 rfl (y_move rfl) <| s_x 1 rfl (y_nilCheck rfl) <| s_x 2 rfl (y_fldN (o := 0) 97 rfl kR) <| s_l 3 rfl (fun _ h => h) (y_load rfl rfl (hc (o := 97) (.head _) (gA (k := 32) (i := 65) (by rw [List.length_map]; exact hk32) oM (gA (k := 32) (i := 33) (by rw [List.length_map]; exact mk32) oM (gA (k := 32) (i := 1) (by rw [List.length_map]; exact nk32) oM (rfl)))))) <| s_x 4 rfl (y_move rfl) <| s_x 5 rfl (y_nilCheck rfl) <| s_x 6 rfl (y_fldN (o := 0) 101 rfl kR) <| s_l 7 rfl (fun _ h => h) (y_load rfl rfl (hc (o := 101) (.head _) (gA (k := 32) (i := 69) (by rw [List.length_map]; exact hk32) oM (gA (k := 32) (i := 37) (by rw [List.length_map]; exact mk32) oM (gA (k := 32) (i := 5) (by rw [List.length_map]; exact nk32) oM (rfl)))))) <| tx_a 8 rfl kR rfl <| tk_ps [4, 4, 4] rfl <| a_callv [] _ rfl kR rfl (fun w' hw' => get_spec (s := s) (sb := sb) (mb := mb) (na := x.own) hok (St.pre hw')) rfl fun v28 _ => tk_S (fun _ h => ((((((((h.perm (pk 8 rfl)).perm (pk 8 rfl)).perm (pk 8 rfl)).perm (pk 6 rfl)).perm (pk 6 rfl)).perm (pk 6 rfl)).perm (pk 8 rfl)).perm (pk 8 rfl)).sub (.cons_cons _ (.cons_cons _ (.cons_cons _ (.cons_cons _ (.cons_cons _ (.cons_cons _ (.cons_cons _ (.cons_cons _ (List.nil_sublist _)))))))))) <| s_x 9 rfl (y_move rfl) <| s_x 10 rfl (y_extract rfl rfl) <| s_x 11 rfl (y_extract rfl rfl) <| s_x 12 rfl (y_assign rfl) <| s_x 13 rfl (y_assign rfl) <| tx_done kR <| tk_then <| tk_seq <| s_r <| q_m rfl rfl <| q_m rfl rfl ?_; refine s_q rfl (y_nilCheck rfl) <| s_q rfl (y_fldN (o := 0) 106 rfl kR) <| s_q rfl (y_loadA (vs := [IN x.m.c, .bool x.m.a, IN x.m.t]) 3 rfl kR lenP (hseg (pre := hk.map B ++ (mk.map B ++ (nk.map B ++ ([PT tb, PT sb, PT kb, IN x.cl, IN x.made, Str x.own, IN x.asks, .bool x.want, Str x.next, .bool x.shown])))) (post := ([] : List Value)) (mm 4 rfl) lenP sI)) <| tk_act rfl <| tk_ps [5, 5] rfl <| a_callv [] _ rfl kR rfl (fun w' hw' => holds_spec (m := x.m) (now := now) (x := x) (hk := hk) (mk := mk) (nk := nk) (tb := tb) (sb := sb) (kb := kb) (lb := lb) ⟨lenP, lenP, lenP⟩ ⟨hmt, by omega⟩ (St.pre hw')) rfl fun _ _ => tk_qs rfl rfl rfl ((y_not rfl).cast (notdec _)) (fun hs6_6 => ?_) (fun hs6_6 => ?_)
  · exact q_m rfl rfl <| tk_gno rfl rfl rfl <| tk_gno rfl rfl rfl <| s_q rfl (y_pick1 rfl rfl) <| s_n <| tk_cond1 rfl <| s_r <| q_m rfl rfl <| s_q rfl (y_nilCheck rfl) <| s_q rfl (y_fldN (o := 0) 101 rfl kR) <| tk_act rfl <| a_storeE (H1 := []) (o := 101) (v := Str []) (cs' := hk.map B ++ (mk.map B ++ (nk.map B ++ ([PT tb, PT sb, PT kb, IN x.cl, IN x.made, Str [], IN x.asks, .bool x.want, Str x.next, .bool x.shown, IN x.m.c, .bool x.m.a, IN x.m.t])))) rfl rfl kR rfl rfl sW (sA (k := 32) (i := 69) (by rw [List.length_map]; exact hk32) oM (sA (k := 32) (i := 37) (by rw [List.length_map]; exact mk32) oM (sA (k := 32) (i := 5) (by rw [List.length_map]; exact nk32) oM (rfl)))) <| s_n <| s_r <| q_a rfl rfl <| s_n <| tk_retc <| tk_then_ret <| tk_R (H1 := []) rfl (congrArg (fun z_ => cel lb z_ 182) (show hk.map B ++ (mk.map B ++ (nk.map B ++ ([PT tb, PT sb, PT kb, IN x.cl, IN x.made, Str [], IN x.asks, .bool x.want, Str x.next, .bool x.shown, IN x.m.c, .bool x.m.a, IN x.m.t]))) = hk.map B ++ (mk.map B ++ (nk.map B ++ ([PT tb, PT sb, PT kb, IN x.lost.cl, IN x.lost.made, Str x.lost.own, IN x.lost.asks, .bool x.lost.want, Str x.lost.next, .bool x.lost.shown, IN x.lost.m.c, .bool x.lost.m.a, IN x.lost.m.t]))) from rfl)) <| tk_ret (⟨s, x.lost, 13, c, p, vl⟩) (.inl ⟨.inl hs6_6, rfl⟩) (.inl rfl) (r1 rfl rfl) (.cons_cons _ (.cons_cons _ (.cons _ (List.Sublist.refl _))))
  · refine q_m rfl rfl <| s_g rfl (y_move rfl) <| s_g rfl (y_eql rfl rfl) <| s_q rfl (y_pick0 rfl rfl) <| s_n <| tk_condP rfl (fun ht41 => ?_) (fun ht41 => ?_)
    · exact s_r <| q_m rfl rfl <| s_q rfl (y_nilCheck rfl) <| s_q rfl (y_fldN (o := 0) 101 rfl kR) <| tk_act rfl <| a_storeE (H1 := []) (o := 101) (v := Str []) (cs' := hk.map B ++ (mk.map B ++ (nk.map B ++ ([PT tb, PT sb, PT kb, IN x.cl, IN x.made, Str [], IN x.asks, .bool x.want, Str x.next, .bool x.shown, IN x.m.c, .bool x.m.a, IN x.m.t])))) rfl rfl kR rfl rfl sW (sA (k := 32) (i := 69) (by rw [List.length_map]; exact hk32) oM (sA (k := 32) (i := 37) (by rw [List.length_map]; exact mk32) oM (sA (k := 32) (i := 5) (by rw [List.length_map]; exact nk32) oM (rfl)))) <| s_n <| s_r <| q_a rfl rfl <| s_n <| tk_retc <| tk_then_ret <| tk_R (H1 := []) rfl (congrArg (fun z_ => cel lb z_ 182) (show hk.map B ++ (mk.map B ++ (nk.map B ++ ([PT tb, PT sb, PT kb, IN x.cl, IN x.made, Str [], IN x.asks, .bool x.want, Str x.next, .bool x.shown, IN x.m.c, .bool x.m.a, IN x.m.t]))) = hk.map B ++ (mk.map B ++ (nk.map B ++ ([PT tb, PT sb, PT kb, IN x.lost.cl, IN x.lost.made, Str x.lost.own, IN x.lost.asks, .bool x.lost.want, Str x.lost.next, .bool x.lost.shown, IN x.lost.m.c, .bool x.lost.m.a, IN x.lost.m.t]))) from rfl)) <| tk_ret (⟨s, x.lost, 13, c, p, vl⟩) (.inl ⟨.inr oM, rfl⟩) (.inl rfl) (r1 rfl rfl) (.cons_cons _ (.cons_cons _ (.cons _ (List.Sublist.refl _))))
    · refine tk_skip <| tk_then <| tk_seq <| s_r <| q_m rfl rfl <| s_q rfl (y_neq rfl rfl) <| s_n <| tk_condP rfl (fun ht46 => ?_) (fun ht46 => ?_)
      · exact s_r <| q_m rfl rfl <| q_a rfl rfl <| s_n <| tk_retc <| tk_then_ret <| tk_ret (⟨s, x, (s.get x.own).1, c, p, vl⟩) (.inr (.inl ⟨by omega, by omega, rfl⟩)) (.inl rfl) (r1 rfl rfl) (.cons_cons _ (.cons_cons _ (.cons _ (List.Sublist.refl _))))
      · refine tk_skip <| tk_then <| s_r <| q_m rfl rfl <| q_m rfl rfl <| s_q rfl (y_nilCheck rfl) <| s_q rfl (y_fldN (o := 0) 106 rfl kR) <| s_q rfl (y_fldN (o := 106) 1 rfl kR) <| s_q rfl (y_load rfl rfl (hc (o := 107) (.head _) (gA (k := 32) (i := 75) (by rw [List.length_map]; exact hk32) oM (gA (k := 32) (i := 43) (by rw [List.length_map]; exact mk32) oM (gA (k := 32) (i := 11) (by rw [List.length_map]; exact nk32) oM (rfl)))))) <| tk_act rfl <| tk_ps [8, 8, 8, 8, 8, 8, 7, 7] rfl <| a_callv [] _ rfl kR rfl (fun w' hw' => lwrite_spec (al := x.m.a) (s := s) (k := k) (now := now) (mb := mb) (c := c) (p := p) (tl := tl) (vb := vb) (vl := vl) (x := x) (hk := hk) (mk := mk) (nk := nk) (tb := tb) (sb := sb) (kb := kb) (lb := lb) ⟨lenP, lenP, lenP⟩ hcl hmd hat oM hnow hI0 oM hlb (hg.call hw') (St.pre hw')) rfl fun ⟨c55, vl55, v55⟩ hx55 => ?_
        dsimp only at hx55 ⊢
        refine tk_own1 (mm 7 rfl) fun hfvl55 => ?_
        have hat1 := at_write (d := (dfName x.cl)) (v := v55) (b := sealL hk mk 108 (lkName x.cl x.made) (tapeN tl p 16) (mkY (⟨x.cl, x.m.a, now⟩ : Mk))) hat
        have hat2 := at_show (d := (dfName x.cl)) (n := (lkName x.cl x.made)) hat1
        have hokq : ShOk (showF (writeF s (dfName x.cl) v55 (sealL hk mk 108 (lkName x.cl x.made) (tapeN tl p 16) (mkY (⟨x.cl, x.m.a, now⟩ : Mk)))).1 (dfName x.cl) (lkName x.cl x.made)).1 := hat2.ok oM
        refine q_m rfl rfl <| s_q rfl (y_extract rfl rfl) <| s_q rfl (y_extract rfl rfl) <| s_q rfl (y_extract rfl rfl) <| tk_act rfl <| a_allocL (cs := [I 0, .bool false, I 0]) kR rfl fun b6 => q_a rfl rfl <| tk_act rfl <| a_storeW (H1 := []) (vs := [I (((wrM (writeF s (dfName x.cl) v55 (sealL hk mk 108 (lkName x.cl x.made) (tapeN tl p 16) (mkY (⟨x.cl, x.m.a, now⟩ : Mk)))).2 (⟨x.cl, x.m.a, now⟩ : Mk)).c : Nat) : Int), .bool ((wrM (writeF s (dfName x.cl) v55 (sealL hk mk 108 (lkName x.cl x.made) (tapeN tl p 16) (mkY (⟨x.cl, x.m.a, now⟩ : Mk)))).2 (⟨x.cl, x.m.a, now⟩ : Mk)).a), I (((wrM (writeF s (dfName x.cl) v55 (sealL hk mk 108 (lkName x.cl x.made) (tapeN tl p 16) (mkY (⟨x.cl, x.m.a, now⟩ : Mk)))).2 (⟨x.cl, x.m.a, now⟩ : Mk)).t : Nat) : Int)]) 3 rfl rfl kR rfl ⟨lenP, lenP⟩ (List.forall_mem_cons.2 ⟨rfl, (List.forall_mem_cons.2 ⟨rfl, (List.forall_mem_cons.2 ⟨rfl, (fun _ h => nomatch h)⟩)⟩)⟩) <| q_a rfl rfl <| s_n <| tk_seq <| s_r <| q_m rfl rfl <| s_q rfl (y_neq rfl rfl) <| s_n <| tk_condP rfl (fun ht60 => ?_) (fun ht60 => ?_)
        · exact s_r <| q_m rfl rfl <| q_a rfl rfl <| s_n <| tk_retc <| tk_then_ret <| tk_ret (⟨(writeF s (dfName x.cl) v55 (sealL hk mk 108 (lkName x.cl x.made) (tapeN tl p 16) (mkY (⟨x.cl, x.m.a, now⟩ : Mk)))).1, x, (writeF s (dfName x.cl) v55 (sealL hk mk 108 (lkName x.cl x.made) (tapeN tl p 16) (mkY (⟨x.cl, x.m.a, now⟩ : Mk)))).2, c55, (p + 16), vl55⟩) (.inr (.inr ⟨Classical.not_not.1 hs6_6, by omega, c55, vl55, v55, by simpa using hx55, .inl ⟨by omega, rfl⟩⟩)) (.inl rfl) (r1 rfl rfl) (.cons _ (.cons_cons _ (.cons_cons _ (.cons_cons _ (.cons_cons _ (.cons_cons _ (.cons_cons _ (.cons_cons _ (.cons_cons _ (List.nil_sublist _))))))))))
        · have hw0 : (writeF s (dfName x.cl) v55 (sealL hk mk 108 (lkName x.cl x.made) (tapeN tl p 16) (mkY (⟨x.cl, x.m.a, now⟩ : Mk)))).2 = 0 := by omega
          refine tk_re 5 (Str (wrN (writeF s (dfName x.cl) v55 (sealL hk mk 108 (lkName x.cl x.made) (tapeN tl p 16) (mkY (⟨x.cl, x.m.a, now⟩ : Mk)))).2 (lkName x.cl x.made))) (Str (lkName x.cl x.made)) rfl (by rw [hw0]; rfl) <| tk_R (H1 := []) rfl (congrArg (fun z_ => cel b6 z_ 180) (show [I (((wrM (writeF s (dfName x.cl) v55 (sealL hk mk 108 (lkName x.cl x.made) (tapeN tl p 16) (mkY (⟨x.cl, x.m.a, now⟩ : Mk)))).2 (⟨x.cl, x.m.a, now⟩ : Mk)).c : Nat) : Int), .bool ((wrM (writeF s (dfName x.cl) v55 (sealL hk mk 108 (lkName x.cl x.made) (tapeN tl p 16) (mkY (⟨x.cl, x.m.a, now⟩ : Mk)))).2 (⟨x.cl, x.m.a, now⟩ : Mk)).a), I (((wrM (writeF s (dfName x.cl) v55 (sealL hk mk 108 (lkName x.cl x.made) (tapeN tl p 16) (mkY (⟨x.cl, x.m.a, now⟩ : Mk)))).2 (⟨x.cl, x.m.a, now⟩ : Mk)).t : Nat) : Int)] = [I (((⟨x.cl, x.m.a, now⟩ : Mk).c : Nat) : Int), .bool ((⟨x.cl, x.m.a, now⟩ : Mk).a), I (((⟨x.cl, x.m.a, now⟩ : Mk).t : Nat) : Int)] from by rw [hw0]; rfl)) <| tk_skip <| tk_then <| tk_seq <| s_r <| q_m rfl rfl <| q_m rfl rfl <| tk_act rfl <| tk_ps [5, 5, 5, 4] rfl <| a_callv [] _ rfl kR rfl (fun w' hw' => show_spec (s := (writeF s (dfName x.cl) v55 (sealL hk mk 108 (lkName x.cl x.made) (tapeN tl p 16) (mkY (⟨x.cl, x.m.a, now⟩ : Mk)))).1) (k := (k + 4)) (mb := mb) (n := (lkName x.cl x.made)) (x := x) (hk := hk) (mk := mk) (nk := nk) (tb := tb) (sb := sb) (kb := kb) (lb := lb) ⟨lenP, lenP, lenP⟩ hcl hmd oM hat1 oM (St.pre hw')) rfl fun _ _ => q_a rfl rfl <| s_n <| s_r <| q_m rfl rfl <| s_q rfl (y_neq rfl rfl) <| s_n <| tk_condP rfl (fun ht66 => ?_) (fun ht66 => ?_)
          · exact s_r <| q_m rfl rfl <| q_a rfl rfl <| s_n <| tk_retc <| tk_then_ret <| tk_R (H1 := []) rfl (congrArg (fun z_ => cel lb z_ 182) (show hk.map B ++ (mk.map B ++ (nk.map B ++ ([PT tb, PT sb, PT kb, I (((x.up (showF ((writeF s (dfName x.cl) v55 (sealL hk mk 108 (lkName x.cl x.made) (tapeN tl p 16) (mkY (⟨x.cl, x.m.a, now⟩ : Mk)))).1) (dfName x.cl) (lkName x.cl x.made)).2).cl : Nat) : Int), I (((x.up (showF ((writeF s (dfName x.cl) v55 (sealL hk mk 108 (lkName x.cl x.made) (tapeN tl p 16) (mkY (⟨x.cl, x.m.a, now⟩ : Mk)))).1) (dfName x.cl) (lkName x.cl x.made)).2).made : Nat) : Int), Str ((x.up (showF ((writeF s (dfName x.cl) v55 (sealL hk mk 108 (lkName x.cl x.made) (tapeN tl p 16) (mkY (⟨x.cl, x.m.a, now⟩ : Mk)))).1) (dfName x.cl) (lkName x.cl x.made)).2).own), I (((x.up (showF ((writeF s (dfName x.cl) v55 (sealL hk mk 108 (lkName x.cl x.made) (tapeN tl p 16) (mkY (⟨x.cl, x.m.a, now⟩ : Mk)))).1) (dfName x.cl) (lkName x.cl x.made)).2).asks : Nat) : Int), .bool ((x.up (showF ((writeF s (dfName x.cl) v55 (sealL hk mk 108 (lkName x.cl x.made) (tapeN tl p 16) (mkY (⟨x.cl, x.m.a, now⟩ : Mk)))).1) (dfName x.cl) (lkName x.cl x.made)).2).want), Str ((x.up (showF ((writeF s (dfName x.cl) v55 (sealL hk mk 108 (lkName x.cl x.made) (tapeN tl p 16) (mkY (⟨x.cl, x.m.a, now⟩ : Mk)))).1) (dfName x.cl) (lkName x.cl x.made)).2).next), .bool ((x.up (showF ((writeF s (dfName x.cl) v55 (sealL hk mk 108 (lkName x.cl x.made) (tapeN tl p 16) (mkY (⟨x.cl, x.m.a, now⟩ : Mk)))).1) (dfName x.cl) (lkName x.cl x.made)).2).shown), I (((x.up (showF ((writeF s (dfName x.cl) v55 (sealL hk mk 108 (lkName x.cl x.made) (tapeN tl p 16) (mkY (⟨x.cl, x.m.a, now⟩ : Mk)))).1) (dfName x.cl) (lkName x.cl x.made)).2).m.c : Nat) : Int), .bool ((x.up (showF ((writeF s (dfName x.cl) v55 (sealL hk mk 108 (lkName x.cl x.made) (tapeN tl p 16) (mkY (⟨x.cl, x.m.a, now⟩ : Mk)))).1) (dfName x.cl) (lkName x.cl x.made)).2).m.a), I (((x.up (showF ((writeF s (dfName x.cl) v55 (sealL hk mk 108 (lkName x.cl x.made) (tapeN tl p 16) (mkY (⟨x.cl, x.m.a, now⟩ : Mk)))).1) (dfName x.cl) (lkName x.cl x.made)).2).m.t : Nat) : Int)]))) = hk.map B ++ (mk.map B ++ (nk.map B ++ ([PT tb, PT sb, PT kb, IN x.cl, IN x.made, Str x.own, IN x.asks, .bool x.want, Str x.next, .bool x.shown, IN x.m.c, .bool x.m.a, IN x.m.t]))) from by rw [up_1 oM])) <| tk_ps [8, 8, 8, 6, 6, 6, 8, 7] rfl <| tk_ret (⟨(showF (writeF s (dfName x.cl) v55 (sealL hk mk 108 (lkName x.cl x.made) (tapeN tl p 16) (mkY (⟨x.cl, x.m.a, now⟩ : Mk)))).1 (dfName x.cl) (lkName x.cl x.made)).1, x, (showF (writeF s (dfName x.cl) v55 (sealL hk mk 108 (lkName x.cl x.made) (tapeN tl p 16) (mkY (⟨x.cl, x.m.a, now⟩ : Mk)))).1 (dfName x.cl) (lkName x.cl x.made)).2, c55, (p + 16), vl55⟩) (.inr (.inr ⟨Classical.not_not.1 hs6_6, by omega, c55, vl55, v55, by simpa using hx55, .inr ⟨hw0, .inl ⟨by omega, rfl⟩⟩⟩)) (.inl rfl) (r1 rfl rfl) (.cons_cons _ (.cons_cons _ (.cons_cons _ (.cons_cons _ (.cons_cons _ (.cons_cons _ (.cons_cons _ (.cons_cons _ (List.nil_sublist _)))))))))
          · have hs0 : (showF (writeF s (dfName x.cl) v55 (sealL hk mk 108 (lkName x.cl x.made) (tapeN tl p 16) (mkY (⟨x.cl, x.m.a, now⟩ : Mk)))).1 (dfName x.cl) (lkName x.cl x.made)).2 = 0 := by omega
            refine tk_R (H1 := []) rfl (congrArg (fun z_ => cel lb z_ 182) (show hk.map B ++ (mk.map B ++ (nk.map B ++ ([PT tb, PT sb, PT kb, I (((x.up (showF ((writeF s (dfName x.cl) v55 (sealL hk mk 108 (lkName x.cl x.made) (tapeN tl p 16) (mkY (⟨x.cl, x.m.a, now⟩ : Mk)))).1) (dfName x.cl) (lkName x.cl x.made)).2).cl : Nat) : Int), I (((x.up (showF ((writeF s (dfName x.cl) v55 (sealL hk mk 108 (lkName x.cl x.made) (tapeN tl p 16) (mkY (⟨x.cl, x.m.a, now⟩ : Mk)))).1) (dfName x.cl) (lkName x.cl x.made)).2).made : Nat) : Int), Str ((x.up (showF ((writeF s (dfName x.cl) v55 (sealL hk mk 108 (lkName x.cl x.made) (tapeN tl p 16) (mkY (⟨x.cl, x.m.a, now⟩ : Mk)))).1) (dfName x.cl) (lkName x.cl x.made)).2).own), I (((x.up (showF ((writeF s (dfName x.cl) v55 (sealL hk mk 108 (lkName x.cl x.made) (tapeN tl p 16) (mkY (⟨x.cl, x.m.a, now⟩ : Mk)))).1) (dfName x.cl) (lkName x.cl x.made)).2).asks : Nat) : Int), .bool ((x.up (showF ((writeF s (dfName x.cl) v55 (sealL hk mk 108 (lkName x.cl x.made) (tapeN tl p 16) (mkY (⟨x.cl, x.m.a, now⟩ : Mk)))).1) (dfName x.cl) (lkName x.cl x.made)).2).want), Str ((x.up (showF ((writeF s (dfName x.cl) v55 (sealL hk mk 108 (lkName x.cl x.made) (tapeN tl p 16) (mkY (⟨x.cl, x.m.a, now⟩ : Mk)))).1) (dfName x.cl) (lkName x.cl x.made)).2).next), .bool ((x.up (showF ((writeF s (dfName x.cl) v55 (sealL hk mk 108 (lkName x.cl x.made) (tapeN tl p 16) (mkY (⟨x.cl, x.m.a, now⟩ : Mk)))).1) (dfName x.cl) (lkName x.cl x.made)).2).shown), I (((x.up (showF ((writeF s (dfName x.cl) v55 (sealL hk mk 108 (lkName x.cl x.made) (tapeN tl p 16) (mkY (⟨x.cl, x.m.a, now⟩ : Mk)))).1) (dfName x.cl) (lkName x.cl x.made)).2).m.c : Nat) : Int), .bool ((x.up (showF ((writeF s (dfName x.cl) v55 (sealL hk mk 108 (lkName x.cl x.made) (tapeN tl p 16) (mkY (⟨x.cl, x.m.a, now⟩ : Mk)))).1) (dfName x.cl) (lkName x.cl x.made)).2).m.a), I (((x.up (showF ((writeF s (dfName x.cl) v55 (sealL hk mk 108 (lkName x.cl x.made) (tapeN tl p 16) (mkY (⟨x.cl, x.m.a, now⟩ : Mk)))).1) (dfName x.cl) (lkName x.cl x.made)).2).m.t : Nat) : Int)]))) = hk.map B ++ (mk.map B ++ (nk.map B ++ ([PT tb, PT sb, PT kb, IN x.cl, I ((x.made + 1 : Nat) : Int), Str x.own, IN x.asks, .bool x.want, Str x.next, .bool x.shown, IN x.m.c, .bool x.m.a, IN x.m.t]))) from by rw [up_0 hs0])) <| tk_skip <| tk_then <| s_r <| q_m rfl rfl <| s_q rfl (y_nilCheck rfl) <| s_q rfl (y_fldN (o := 0) 101 rfl kR) <| s_q rfl (y_load rfl rfl (hc (o := 101) (.head _) (gA (k := 32) (i := 69) (by rw [List.length_map]; exact hk32) oM (gA (k := 32) (i := 37) (by rw [List.length_map]; exact mk32) oM (gA (k := 32) (i := 5) (by rw [List.length_map]; exact nk32) oM (rfl)))))) ?_; refine q_a rfl rfl <| s_n <| tk_seq <| tk_drawH [cel sb ([Value.map (some mb), I ((showF ((writeF s (dfName x.cl) v55 (sealL hk mk 108 (lkName x.cl x.made) (tapeN tl p 16) (mkY (⟨x.cl, x.m.a, now⟩ : Mk)))).1) (dfName x.cl) (lkName x.cl x.made)).1.left), .bool ((showF ((writeF s (dfName x.cl) v55 (sealL hk mk 108 (lkName x.cl x.made) (tapeN tl p 16) (mkY (⟨x.cl, x.m.a, now⟩ : Mk)))).1) (dfName x.cl) (lkName x.cl x.made)).1.off), I ((showF ((writeF s (dfName x.cl) v55 (sealL hk mk 108 (lkName x.cl x.made) (tapeN tl p 16) (mkY (⟨x.cl, x.m.a, now⟩ : Mk)))).1) (dfName x.cl) (lkName x.cl x.made)).1.made), I ((showF ((writeF s (dfName x.cl) v55 (sealL hk mk 108 (lkName x.cl x.made) (tapeN tl p 16) (mkY (⟨x.cl, x.m.a, now⟩ : Mk)))).1) (dfName x.cl) (lkName x.cl x.made)).1.room)]) 192, mapS mb (kvO ((showF ((writeF s (dfName x.cl) v55 (sealL hk mk 108 (lkName x.cl x.made) (tapeN tl p 16) (mkY (⟨x.cl, x.m.a, now⟩ : Mk)))).1) (dfName x.cl) (lkName x.cl x.made)).1.obs)), bag (((showF ((writeF s (dfName x.cl) v55 (sealL hk mk 108 (lkName x.cl x.made) (tapeN tl p 16) (mkY (⟨x.cl, x.m.a, now⟩ : Mk)))).1) (dfName x.cl) (lkName x.cl x.made)).1.obs).map (obR 5)), cel b6 ([I (((⟨x.cl, x.m.a, now⟩ : Mk).c : Nat) : Int), .bool ((⟨x.cl, x.m.a, now⟩ : Mk).a), I (((⟨x.cl, x.m.a, now⟩ : Mk).t : Nat) : Int)]) 180, cel kb ([IN now]) 178, cel tb ([vb, .int .u64 ((c55 : Nat) : Int), vl55]) 201, ownB vb tl 5, ownB vl55 ((tapeL tl c55).drop (p + 16)) 5, ownB v28 ((s.get x.own).2) 5] [] kR <| s_x 0 rfl (y_move rfl) <| s_x 1 rfl (y_move rfl) <| s_x 2 rfl (y_move rfl) <| s_l 3 rfl (fun _ h => kD 1 rfl h) (y_loadA 3 rfl kR lenP (hcw (mm 3 rfl))) <| s_x 4 rfl (y_nilCheck rfl) <| s_x 5 rfl (y_fldN (o := 0) 101 rfl kR) <| tx_a 6 rfl kR rfl <| a_storeE (H1 := []) (o := 101) (v := Str (lkName x.cl x.made)) (cs' := hk.map B ++ (mk.map B ++ (nk.map B ++ ([PT tb, PT sb, PT kb, IN x.cl, I ((x.made + 1 : Nat) : Int), Str (lkName x.cl x.made), IN x.asks, .bool x.want, Str x.next, .bool x.shown, IN x.m.c, .bool x.m.a, IN x.m.t])))) rfl rfl kR rfl rfl sW (sA (k := 32) (i := 69) (by rw [List.length_map]; exact hk32) oM (sA (k := 32) (i := 37) (by rw [List.length_map]; exact mk32) oM (sA (k := 32) (i := 5) (by rw [List.length_map]; exact nk32) oM (rfl)))) <| tk_S (fun _ h => kD 1 rfl h) <| s_x 7 rfl (y_nilCheck rfl) <| s_x 8 rfl (y_fldN (o := 0) 106 rfl kR) <| tx_a 9 rfl kR rfl <| a_storeLE (H1 := []) (pre := hk.map B ++ (mk.map B ++ (nk.map B ++ ([PT tb, PT sb, PT kb, IN x.cl, I ((x.made + 1 : Nat) : Int), Str (lkName x.cl x.made), IN x.asks, .bool x.want, Str x.next, .bool x.shown])))) (mid := [IN x.m.c, .bool x.m.a, IN x.m.t]) (post := ([] : List Value)) (vs := [I (((⟨x.cl, x.m.a, now⟩ : Mk).c : Nat) : Int), .bool ((⟨x.cl, x.m.a, now⟩ : Mk).a), I (((⟨x.cl, x.m.a, now⟩ : Mk).t : Nat) : Int)]) (cs' := hk.map B ++ (mk.map B ++ (nk.map B ++ ([PT tb, PT sb, PT kb, IN x.cl, I ((x.made + 1 : Nat) : Int), Str (lkName x.cl x.made), IN x.asks, .bool x.want, Str x.next, .bool x.shown, I (((⟨x.cl, x.m.a, now⟩ : Mk).c : Nat) : Int), .bool ((⟨x.cl, x.m.a, now⟩ : Mk).a), I (((⟨x.cl, x.m.a, now⟩ : Mk).t : Nat) : Int)])))) 3 rfl rfl kR rfl ⟨lenP, lenP, lenP⟩ (List.forall_mem_cons.2 ⟨rfl, (List.forall_mem_cons.2 ⟨rfl, (List.forall_mem_cons.2 ⟨rfl, (fun _ h => nomatch h)⟩)⟩)⟩) sI sI ?_; refine tk_S (fun _ h => kD 1 rfl h) <| tx_done kR <| tk_then <| tk_seq <| s_r <| q_m rfl rfl <| s_q rfl (y_nilCheck rfl) <| s_q rfl (y_fldN (o := 0) 97 rfl kR) <| s_q rfl (y_load rfl rfl (hc (o := 97) (.head _) (gA (k := 32) (i := 65) (by rw [List.length_map]; exact hk32) oM (gA (k := 32) (i := 33) (by rw [List.length_map]; exact mk32) oM (gA (k := 32) (i := 1) (by rw [List.length_map]; exact nk32) oM (rfl)))))) <| q_m rfl rfl <| tk_act rfl <| tk_ps [3, 3, 3] rfl <| a_callv [] _ rfl kR rfl (fun w' hw' => del_spec (s := (showF ((writeF s (dfName x.cl) v55 (sealL hk mk 108 (lkName x.cl x.made) (tapeN tl p 16) (mkY (⟨x.cl, x.m.a, now⟩ : Mk)))).1) (dfName x.cl) (lkName x.cl x.made)).1) (sb := sb) (mb := mb) (na := x.own) hokq  (St.pre hw')) rfl fun _ _ => q_a rfl rfl <| s_n <| s_r <| q_m rfl rfl <| tk_qs rfl rfl rfl (y_neq rfl rfl) (fun hs20_1 => ?_) (fun hs20_1 => ?_)
            · refine q_m rfl rfl <| s_g rfl (y_move rfl) <| s_g rfl (y_neq rfl rfl) <| s_q rfl (y_pick1 rfl rfl) <| s_n <| tk_condP rfl (fun ht91 => ?_) (fun ht91 => ?_)
              · exact s_r <| q_m rfl rfl <| q_a rfl rfl <| s_n <| tk_retc <| tk_then_ret <| tk_R (H1 := [_, _, _]) rfl (congrArg (fun z_ => cel lb z_ 182) (show hk.map B ++ (mk.map B ++ (nk.map B ++ ([PT tb, PT sb, PT kb, IN x.cl, I ((x.made + 1 : Nat) : Int), Str (lkName x.cl x.made), IN x.asks, .bool x.want, Str x.next, .bool x.shown, I (((⟨x.cl, x.m.a, now⟩ : Mk).c : Nat) : Int), .bool ((⟨x.cl, x.m.a, now⟩ : Mk).a), I (((⟨x.cl, x.m.a, now⟩ : Mk).t : Nat) : Int)]))) = hk.map B ++ (mk.map B ++ (nk.map B ++ ([PT tb, PT sb, PT kb, I (((x.rnw now).cl : Nat) : Int), I (((x.rnw now).made : Nat) : Int), Str ((x.rnw now).own), I (((x.rnw now).asks : Nat) : Int), .bool ((x.rnw now).want), Str ((x.rnw now).next), .bool ((x.rnw now).shown), I (((x.rnw now).m.c : Nat) : Int), .bool ((x.rnw now).m.a), I (((x.rnw now).m.t : Nat) : Int)]))) from rfl)) <| tk_re 2 (I (((((showF ((writeF s (dfName x.cl) v55 (sealL hk mk 108 (lkName x.cl x.made) (tapeN tl p 16) (mkY (⟨x.cl, x.m.a, now⟩ : Mk)))).1) (dfName x.cl) (lkName x.cl x.made)).1).del x.own).2 : Nat) : Int)) (I (((relE ((showF (writeF s (dfName x.cl) v55 (sealL hk mk 108 (lkName x.cl x.made) (tapeN tl p 16) (mkY (⟨x.cl, x.m.a, now⟩ : Mk)))).1 (dfName x.cl) (lkName x.cl x.made)).1.del x.own).2) : Nat) : Int)) rfl (congrArg I (by unfold relE; split <;> omega)) <| tk_ps [8, 8, 8, 5, 5, 5, 8, 7] rfl <| tk_ret (⟨((showF (writeF s (dfName x.cl) v55 (sealL hk mk 108 (lkName x.cl x.made) (tapeN tl p 16) (mkY (⟨x.cl, x.m.a, now⟩ : Mk)))).1 (dfName x.cl) (lkName x.cl x.made)).1.del x.own).1, (x.rnw now), (relE ((showF (writeF s (dfName x.cl) v55 (sealL hk mk 108 (lkName x.cl x.made) (tapeN tl p 16) (mkY (⟨x.cl, x.m.a, now⟩ : Mk)))).1 (dfName x.cl) (lkName x.cl x.made)).1.del x.own).2), c55, (p + 16), vl55⟩) (.inr (.inr ⟨Classical.not_not.1 hs6_6, by omega, c55, vl55, v55, by simpa using hx55, .inr ⟨hw0, .inr ⟨hs0, rfl⟩⟩⟩)) (.inl rfl) (r1 rfl rfl) (.cons_cons _ (.cons_cons _ (.cons_cons _ (.cons_cons _ (.cons_cons _ (.cons_cons _ (.cons_cons _ (.cons_cons _ (List.nil_sublist _)))))))))
              · exact tk_skip <| tk_then <| s_r <| q_a rfl rfl <| s_n <| tk_retc <| tk_R (H1 := [_, _, _]) rfl (congrArg (fun z_ => cel lb z_ 182) (show hk.map B ++ (mk.map B ++ (nk.map B ++ ([PT tb, PT sb, PT kb, IN x.cl, I ((x.made + 1 : Nat) : Int), Str (lkName x.cl x.made), IN x.asks, .bool x.want, Str x.next, .bool x.shown, I (((⟨x.cl, x.m.a, now⟩ : Mk).c : Nat) : Int), .bool ((⟨x.cl, x.m.a, now⟩ : Mk).a), I (((⟨x.cl, x.m.a, now⟩ : Mk).t : Nat) : Int)]))) = hk.map B ++ (mk.map B ++ (nk.map B ++ ([PT tb, PT sb, PT kb, I (((x.rnw now).cl : Nat) : Int), I (((x.rnw now).made : Nat) : Int), Str ((x.rnw now).own), I (((x.rnw now).asks : Nat) : Int), .bool ((x.rnw now).want), Str ((x.rnw now).next), .bool ((x.rnw now).shown), I (((x.rnw now).m.c : Nat) : Int), .bool ((x.rnw now).m.a), I (((x.rnw now).m.t : Nat) : Int)]))) from rfl)) <| tk_re 2 (I 0) (I (((relE ((showF (writeF s (dfName x.cl) v55 (sealL hk mk 108 (lkName x.cl x.made) (tapeN tl p 16) (mkY (⟨x.cl, x.m.a, now⟩ : Mk)))).1 (dfName x.cl) (lkName x.cl x.made)).1.del x.own).2) : Nat) : Int)) rfl (congrArg I (by unfold relE; split <;> omega)) <| tk_ps [8, 8, 8, 5, 5, 5, 8, 7] rfl <| tk_ret (⟨((showF (writeF s (dfName x.cl) v55 (sealL hk mk 108 (lkName x.cl x.made) (tapeN tl p 16) (mkY (⟨x.cl, x.m.a, now⟩ : Mk)))).1 (dfName x.cl) (lkName x.cl x.made)).1.del x.own).1, (x.rnw now), (relE ((showF (writeF s (dfName x.cl) v55 (sealL hk mk 108 (lkName x.cl x.made) (tapeN tl p 16) (mkY (⟨x.cl, x.m.a, now⟩ : Mk)))).1 (dfName x.cl) (lkName x.cl x.made)).1.del x.own).2), c55, (p + 16), vl55⟩) (.inr (.inr ⟨Classical.not_not.1 hs6_6, by omega, c55, vl55, v55, by simpa using hx55, .inr ⟨hw0, .inr ⟨hs0, rfl⟩⟩⟩)) (.inl rfl) (r1 rfl rfl) (.cons_cons _ (.cons_cons _ (.cons_cons _ (.cons_cons _ (.cons_cons _ (.cons_cons _ (.cons_cons _ (.cons_cons _ (List.nil_sublist _)))))))))
            · exact q_m rfl rfl <| tk_gno rfl rfl rfl <| tk_gno rfl rfl rfl <| s_q rfl (y_pick0 rfl rfl) <| s_n <| tk_cond0 rfl <| tk_skip <| tk_then <| s_r <| q_a rfl rfl <| s_n <| tk_retc <| tk_R (H1 := [_, _, _]) rfl (congrArg (fun z_ => cel lb z_ 182) (show hk.map B ++ (mk.map B ++ (nk.map B ++ ([PT tb, PT sb, PT kb, IN x.cl, I ((x.made + 1 : Nat) : Int), Str (lkName x.cl x.made), IN x.asks, .bool x.want, Str x.next, .bool x.shown, I (((⟨x.cl, x.m.a, now⟩ : Mk).c : Nat) : Int), .bool ((⟨x.cl, x.m.a, now⟩ : Mk).a), I (((⟨x.cl, x.m.a, now⟩ : Mk).t : Nat) : Int)]))) = hk.map B ++ (mk.map B ++ (nk.map B ++ ([PT tb, PT sb, PT kb, I (((x.rnw now).cl : Nat) : Int), I (((x.rnw now).made : Nat) : Int), Str ((x.rnw now).own), I (((x.rnw now).asks : Nat) : Int), .bool ((x.rnw now).want), Str ((x.rnw now).next), .bool ((x.rnw now).shown), I (((x.rnw now).m.c : Nat) : Int), .bool ((x.rnw now).m.a), I (((x.rnw now).m.t : Nat) : Int)]))) from rfl)) <| tk_re 2 (I 0) (I (((relE ((showF (writeF s (dfName x.cl) v55 (sealL hk mk 108 (lkName x.cl x.made) (tapeN tl p 16) (mkY (⟨x.cl, x.m.a, now⟩ : Mk)))).1 (dfName x.cl) (lkName x.cl x.made)).1.del x.own).2) : Nat) : Int)) rfl (congrArg I (by unfold relE; split <;> omega)) <| tk_ps [8, 8, 8, 5, 5, 5, 8, 7] rfl <| tk_ret (⟨((showF (writeF s (dfName x.cl) v55 (sealL hk mk 108 (lkName x.cl x.made) (tapeN tl p 16) (mkY (⟨x.cl, x.m.a, now⟩ : Mk)))).1 (dfName x.cl) (lkName x.cl x.made)).1.del x.own).1, (x.rnw now), (relE ((showF (writeF s (dfName x.cl) v55 (sealL hk mk 108 (lkName x.cl x.made) (tapeN tl p 16) (mkY (⟨x.cl, x.m.a, now⟩ : Mk)))).1 (dfName x.cl) (lkName x.cl x.made)).1.del x.own).2), c55, (p + 16), vl55⟩) (.inr (.inr ⟨Classical.not_not.1 hs6_6, by omega, c55, vl55, v55, by simpa using hx55, .inr ⟨hw0, .inr ⟨hs0, rfl⟩⟩⟩)) (.inl rfl) (r1 rfl rfl) (.cons_cons _ (.cons_cons _ (.cons_cons _ (.cons_cons _ (.cons_cons _ (.cons_cons _ (.cons_cons _ (.cons_cons _ (List.nil_sublist _)))))))))
theorem release_spec {x : Lk} {hk mk nk : List UInt8} {tb sb kb lb : Nat} {s : Sh} {mb : Nat} {w : World} (h3 : hk.length = 32 ∧ mk.length = 32 ∧ nk.length = 32) (hown : ¬ x.own = []) (hok : ShOk s) (hh : Pre w [cel lb (hk.map B ++ (mk.map B ++ (nk.map B ++ ([PT tb, PT sb, PT kb, IN x.cl, IN x.made, Str x.own, IN x.asks, .bool x.want, Str x.next, .bool x.shown, IN x.m.c, .bool x.m.a, IN x.m.t])))) 182, cel sb ([Value.map (some mb), I (s.left), .bool s.off, I (s.made), I (s.room)]) 192, mapS mb (kvO s.obs), bag (s.obs.map (obR 5))]) : Spec Tryz.prog 46 [PT lb] w [cel lb (hk.map B ++ (mk.map B ++ (nk.map B ++ ([PT tb, PT sb, PT kb, IN x.cl, IN x.made, Str x.own, IN x.asks, .bool x.want, Str x.next, .bool x.shown, IN x.m.c, .bool x.m.a, IN x.m.t])))) 182, cel sb ([Value.map (some mb), I (s.left), .bool s.off, I (s.made), I (s.room)]) 192, mapS mb (kvO s.obs), bag (s.obs.map (obR 5))] (fun _ : Unit => True) (fun _ => IN (relE (s.del x.own).2)) (fun _ => [cel lb (hk.map B ++ (mk.map B ++ (nk.map B ++ ([PT tb, PT sb, PT kb, IN x.lost.cl, IN x.lost.made, Str x.lost.own, IN x.lost.asks, .bool x.lost.want, Str x.lost.next, .bool x.lost.shown, IN x.lost.m.c, .bool x.lost.m.a, IN x.lost.m.t])))) 182, cel sb ([Value.map (some mb), I ((s.del x.own).1.left), .bool ((s.del x.own).1.off), I ((s.del x.own).1.made), I ((s.del x.own).1.room)]) 192, mapS mb (kvO ((s.del x.own).1.obs)), bag (((s.del x.own).1.obs).map (obR 5))]) := by
  refine spec_of (n := 34) Tryz.func46 rfl rfl hh.1 hh.2 rfl ?_
  obtain ⟨hk32, mk32, nk32⟩ := h3
  refine s_r <| q_a rfl rfl <| s_n <| tk_seq <| tk_block <| s_r <| q_m rfl rfl <| s_q rfl (y_pnil rfl rfl rfl) <| q_a rfl rfl <| s_n <| tk_cond0 rfl <| s_r <| q_m rfl rfl <| s_q rfl (y_nilCheck rfl) <| s_q rfl (y_fldN (o := 0) 101 rfl kR) <| s_q rfl (y_load rfl rfl (hc (o := 101) (.head _) (gA (k := 32) (i := 69) (by rw [List.length_map]; exact hk32) oM (gA (k := 32) (i := 37) (by rw [List.length_map]; exact mk32) oM (gA (k := 32) (i := 5) (by rw [List.length_map]; exact nk32) oM (rfl)))))) <| tk_qe (.bool false) rfl rfl rfl (y_strEq (l := x.own) (m := []) rfl rfl) (bool_f (hown)) <| q_a rfl rfl <| s_n <| tk_cond0 rfl <| tk_skip <| tk_in_normal <| tk_then <| s_r ?_; refine q_m rfl rfl <| s_q rfl (y_nilCheck rfl) <| s_q rfl (y_fldN (o := 0) 101 rfl kR) <| s_q rfl (y_load rfl rfl (hc (o := 101) (.head _) (gA (k := 32) (i := 69) (by rw [List.length_map]; exact hk32) oM (gA (k := 32) (i := 37) (by rw [List.length_map]; exact mk32) oM (gA (k := 32) (i := 5) (by rw [List.length_map]; exact nk32) oM (rfl)))))) <| q_a rfl rfl <| s_n <| s_r <| q_m rfl rfl <| s_q rfl (y_nilCheck rfl) <| s_q rfl (y_fldN (o := 0) 101 rfl kR) <| tk_act rfl <| a_storeE (H1 := []) (o := 101) (v := Str []) (cs' := hk.map B ++ (mk.map B ++ (nk.map B ++ ([PT tb, PT sb, PT kb, IN x.cl, IN x.made, Str [], IN x.asks, .bool x.want, Str x.next, .bool x.shown, IN x.m.c, .bool x.m.a, IN x.m.t])))) rfl rfl kR rfl rfl sW (sA (k := 32) (i := 69) (by rw [List.length_map]; exact hk32) oM (sA (k := 32) (i := 37) (by rw [List.length_map]; exact mk32) oM (sA (k := 32) (i := 5) (by rw [List.length_map]; exact nk32) oM (rfl)))) <| s_n <| tk_seq <| s_r <| q_m rfl rfl <| s_q rfl (y_nilCheck rfl) <| s_q rfl (y_fldN (o := 0) 97 rfl kR) <| s_q rfl (y_load rfl rfl (hc (o := 97) (.head _) (gA (k := 32) (i := 65) (by rw [List.length_map]; exact hk32) oM (gA (k := 32) (i := 33) (by rw [List.length_map]; exact mk32) oM (gA (k := 32) (i := 1) (by rw [List.length_map]; exact nk32) oM (rfl)))))) <| q_m rfl rfl <| tk_act rfl <| tk_ps [3, 3, 3] rfl <| a_callv [] _ rfl kR rfl (fun w' hw' => del_spec (s := s) (sb := sb) (mb := mb) (na := x.own) hok  (St.pre hw')) rfl fun _ _ => q_a rfl rfl ?_; refine s_n <| s_r <| q_m rfl rfl <| tk_qs rfl rfl rfl (y_neq rfl rfl) (fun hs8_1 => ?_) (fun hs8_1 => ?_)
  · refine q_m rfl rfl <| s_g rfl (y_move rfl) <| s_g rfl (y_neq rfl rfl) <| s_q rfl (y_pick1 rfl rfl) <| s_n <| tk_condP rfl (fun ht32 => ?_) (fun ht32 => ?_)
    · exact s_r <| q_m rfl rfl <| q_a rfl rfl <| s_n <| tk_retc <| tk_then_ret <| tk_R (H1 := [_, _, _]) rfl (congrArg (fun z_ => cel lb z_ 182) (show hk.map B ++ (mk.map B ++ (nk.map B ++ ([PT tb, PT sb, PT kb, IN x.cl, IN x.made, Str [], IN x.asks, .bool x.want, Str x.next, .bool x.shown, IN x.m.c, .bool x.m.a, IN x.m.t]))) = hk.map B ++ (mk.map B ++ (nk.map B ++ ([PT tb, PT sb, PT kb, IN x.lost.cl, IN x.lost.made, Str x.lost.own, IN x.lost.asks, .bool x.lost.want, Str x.lost.next, .bool x.lost.shown, IN x.lost.m.c, .bool x.lost.m.a, IN x.lost.m.t]))) from rfl)) <| tk_re 2 (I (((s.del x.own).2 : Nat) : Int)) (I (((relE (s.del x.own).2) : Nat) : Int)) rfl (congrArg I (by unfold relE; split <;> omega)) <| tk_ps [2, 2, 2, 3] rfl <| tk_ret (()) (trivial) (.inl rfl) (r1 rfl rfl) (List.Sublist.refl _)
    · exact tk_skip <| tk_then <| s_r <| q_a rfl rfl <| s_n <| tk_retc <| tk_R (H1 := [_, _, _]) rfl (congrArg (fun z_ => cel lb z_ 182) (show hk.map B ++ (mk.map B ++ (nk.map B ++ ([PT tb, PT sb, PT kb, IN x.cl, IN x.made, Str [], IN x.asks, .bool x.want, Str x.next, .bool x.shown, IN x.m.c, .bool x.m.a, IN x.m.t]))) = hk.map B ++ (mk.map B ++ (nk.map B ++ ([PT tb, PT sb, PT kb, IN x.lost.cl, IN x.lost.made, Str x.lost.own, IN x.lost.asks, .bool x.lost.want, Str x.lost.next, .bool x.lost.shown, IN x.lost.m.c, .bool x.lost.m.a, IN x.lost.m.t]))) from rfl)) <| tk_re 2 (I 0) (I (((relE (s.del x.own).2) : Nat) : Int)) rfl (congrArg I (by unfold relE; split <;> omega)) <| tk_ps [2, 2, 2, 3] rfl <| tk_ret (()) (trivial) (.inl rfl) (r1 rfl rfl) (List.Sublist.refl _)
  · exact q_m rfl rfl <| tk_gno rfl rfl rfl <| tk_gno rfl rfl rfl <| s_q rfl (y_pick0 rfl rfl) <| s_n <| tk_cond0 rfl <| tk_skip <| tk_then <| s_r <| q_a rfl rfl <| s_n <| tk_retc <| tk_R (H1 := [_, _, _]) rfl (congrArg (fun z_ => cel lb z_ 182) (show hk.map B ++ (mk.map B ++ (nk.map B ++ ([PT tb, PT sb, PT kb, IN x.cl, IN x.made, Str [], IN x.asks, .bool x.want, Str x.next, .bool x.shown, IN x.m.c, .bool x.m.a, IN x.m.t]))) = hk.map B ++ (mk.map B ++ (nk.map B ++ ([PT tb, PT sb, PT kb, IN x.lost.cl, IN x.lost.made, Str x.lost.own, IN x.lost.asks, .bool x.lost.want, Str x.lost.next, .bool x.lost.shown, IN x.lost.m.c, .bool x.lost.m.a, IN x.lost.m.t]))) from rfl)) <| tk_re 2 (I 0) (I (((relE (s.del x.own).2) : Nat) : Int)) rfl (congrArg I (by unfold relE; split <;> omega)) <| tk_ps [2, 2, 2, 3] rfl <| tk_ret (()) (trivial) (.inl rfl) (r1 rfl rfl) (List.Sublist.refl _)
end Go.Proofs.YtkkjfojgjmglpaaGreatDoor
set_option linter.unusedSimpArgs false
set_option linter.unusedVariables false
namespace Go.Proofs.YtkkjfojgjmglpaaGreatDoor
open Go
structure Qt (s : Sh) (N : Nat) : Prop where
  calm : Calm s
  room : s.room = 100000
  small : ∀ o ∈ s.obs, o.b.length ≤ 200
  len : s.obs.length ≤ N
theorem Qt.mono {s : Sh} {N M : Nat} (h : Qt s N) (hM : N ≤ M) : Qt s M := ⟨h.calm, h.room, h.small, Nat.le_trans h.len hM⟩
theorem Qt.off {s : Sh} {N : Nat} (h : Qt s N) : ¬ s.off = true := by rw [h.calm.off]; decide
theorem sumO_le200 {l : List Ob} (h : ∀ o ∈ l, o.b.length ≤ 200) : sumO l ≤ 200 * l.length := by
  induction l with
  | nil => exact Nat.zero_le _
  | cons o l ih =>
    have h1 := h o (List.mem_cons_self ..)
    have h2 := ih (fun o ho => h o (List.mem_cons_of_mem _ ho))
    unfold sumO at h2 ⊢
    rw [List.map_cons, List.sum_cons, List.length_cons]; omega
theorem del_q {s : Sh} {N : Nat} {a : List UInt8} (h : Qt s N) : ((s.del a).2 = 0 ∨ (s.del a).2 = 6) ∧ (hasO s.obs a → (s.del a).2 = 0) ∧ Qt (s.del a).1 N := by
  by_cases ha : hasO s.obs a
  · have e : s.del a = (s.tick.obsTo (delO s.obs a), 0) := by
      have : delC s a = 0 := by rw [delC, if_neg (fun q => q ha)]
      rw [Sh.del, this, change_calm h.calm]; rfl
    rw [e]
    refine ⟨.inl rfl, fun _ => rfl, ⟨⟨h.calm.off, h.calm.left⟩, h.room, fun o ho => h.small o (List.mem_filter.1 ho).1, ?_⟩⟩
    exact Nat.le_trans (List.length_filter_le _ _) h.len
  · have e : s.del a = (s, 6) := by rw [Sh.del, delC, if_pos ha, change_calmNo h.calm (by decide)]
    rw [e]
    exact ⟨.inr rfl, fun q => (ha q).elim, h⟩
theorem put_q {s : Sh} {N : Nat} {a b : List UInt8} {v : Value} (h : Qt s N) (ha : isNm a) (hn : ¬ hasO s.obs a) (hb : b.length ≤ 200) (hN : N < 400) : (s.put a v b).2 = 0 ∧ Qt (s.put a v b).1 (N + 1) := by
  have h1 := sumO_le200 h.small
  have h2 := h.len
  have h3 := h.room
  have e : s.put a v b = (s.tick.obsTo (s.obs ++ [⟨a, v, b, false⟩]), 0) := by
    have : putC s a b = 0 := by rw [putC, if_neg (fun q => q ha), if_neg hn, if_neg (by omega), if_neg (by omega)]
    rw [Sh.put, this, change_calm h.calm]; rfl
  rw [e]
  refine ⟨rfl, ⟨⟨h.calm.off, h.calm.left⟩, h.room, fun o ho => ?_, ?_⟩⟩
  · rcases List.mem_append.1 ho with ho | ho
    · exact h.small o ho
    · rw [List.mem_singleton.1 ho]; exact hb
  · show (s.obs ++ [_]).length ≤ _
    rw [List.length_append]; simp; exact h2
theorem nudge_q {s : Sh} {N : Nat} (h : Qt s N) : s.nudge = (s.tick, 0) := by rw [Sh.nudge, change_calm h.calm]; rfl
theorem sync_q2 {s : Sh} {N : Nat} {a : List UInt8} (h : Qt s N) (ha : hasO s.obs a) : (s.sync1 a).2 = 0 ∧ Qt (s.sync1 a).1 N := by
  have e : s.sync1 a = (s.tick.obsTo (syncO s.obs a), 0) := by rw [sync1_ok (by rw [nudge_q h]) (by rw [nudge_q h]; exact ha), nudge_q h]; rfl
  rw [e]
  refine ⟨rfl, ⟨⟨h.calm.off, h.calm.left⟩, h.room, fun o ho => ?_, ?_⟩⟩
  · obtain ⟨u, hu, e2⟩ := List.mem_map.1 (show o ∈ s.obs.map _ from ho)
    have := h.small u hu
    rw [← e2]; split <;> exact this
  · show (syncO s.obs a).length ≤ N
    unfold syncO; rw [List.length_map]; exact h.len
theorem ren_q {s : Sh} {N : Nat} {a b : List UInt8} (h : Qt s N) (ha : hasO s.obs a) (hb : isNm b) (hab : a ≠ b) : ((s.ren a b).2 = if hasO s.obs b then 7 else 0) ∧ Qt (s.ren a b).1 N := by
  by_cases hh : hasO s.obs b
  · have e : s.ren a b = (s, 7) := by
      have : renC s a b = 7 := by rw [renC, if_neg (fun q => q hb), if_neg (fun q => q ha), if_pos ⟨hh, hab⟩]
      rw [Sh.ren, this, change_calmNo h.calm (by decide)]
    rw [e, if_pos hh]; exact ⟨rfl, h⟩
  · have e : s.ren a b = (s.tick.obsTo (delO s.obs a ++ [nameTo (lkO s.obs a) b]), 0) := by
      have : renC s a b = 0 := by rw [renC, if_neg (fun q => q hb), if_neg (fun q => q ha), if_neg (fun q => hh q.1)]
      rw [Sh.ren, this, change_calm h.calm]; rfl
    rw [e, if_neg hh]
    refine ⟨rfl, ⟨⟨h.calm.off, h.calm.left⟩, h.room, fun o ho => ?_, ?_⟩⟩
    · rcases List.mem_append.1 ho with ho | ho
      · exact h.small o (List.mem_filter.1 ho).1
      · rw [List.mem_singleton.1 ho]; have h9 := h.small _ (lkO_name ha).2; exact h9
    · show (delO s.obs a ++ [_]).length ≤ N
      have h1 : (delO s.obs a).length < s.obs.length := by
        unfold delO
        rw [← List.countP_eq_length_filter]
        refine Nat.lt_of_le_of_ne (List.countP_le_length) (fun q => ?_)
        have := List.countP_eq_length.1 q _ (lkO_name ha).2
        rw [(lkO_name ha).1] at this; simp at this
      have := h.len
      rw [List.length_append]; simp; omega
theorem write_q {s : Sh} {N : Nat} {d b : List UInt8} {v : Value} (h : Qt s N) (hd : isNm d) (hb : b.length ≤ 200) (hN : N < 400) : (writeF s d v b).2 = 0 ∧ Qt (writeF s d v b).1 (N + 1) := by
  obtain ⟨h1, h1b, h2⟩ := del_q (a := d) h
  have hn : ¬ hasO (s.del d).1.obs d := by
    rw [← vw_none, vw_del]
    split
    · rfl
    · next q => rw [vw_none]; exact fun r => q ⟨h1b r, rfl⟩
  obtain ⟨h3, h4⟩ := put_q (v := v) h2 hd hn hb hN
  have hx : hasO ((s.del d).1.put d v b).1.obs d := ((vw_some (b := b)).1 (by rw [vw_put, if_pos ⟨h3, rfl⟩])).1
  obtain ⟨h5, h6⟩ := sync_q2 (a := d) h4 hx
  rw [wr_4 h1 h3 h5]
  exact ⟨rfl, h6⟩
theorem show_q {s : Sh} {N : Nat} {d n : List UInt8} (h : Qt s N) (hd : hasO s.obs d) (hn : isNm n) (hdn : d ≠ n) : (showF s d n).2 = 0 ∧ Qt (showF s d n).1 N ∧ vw (showF s d n).1 n = vw s d ∧ vw (showF s d n).1 d = none := by
  obtain ⟨h1, h2⟩ := ren_q h hd hn hdn
  by_cases hh : hasO s.obs n
  · rw [if_pos hh] at h1
    have h8 : (s.ren d n).1 = s := by
      have : renC s d n = 7 := by rw [renC, if_neg (fun q => q hn), if_neg (fun q => q hd), if_pos ⟨hh, hdn⟩]
      rw [Sh.ren, this, change_calmNo h.calm (by decide)]
    obtain ⟨_, h3, h4⟩ := del_q (a := n) h
    have h3 := h3 hh
    have hd2 : hasO (s.del n).1.obs d := by
      have : vw (s.del n).1 d = vw s d := by rw [vw_del, if_neg (fun q => hdn q.2)]
      rw [(vw_some (b := (lkO s.obs d).b)).2 ⟨hd, rfl⟩] at this
      exact (vw_some.1 this).1
    obtain ⟨h5, h6⟩ := ren_q h4 hd2 hn hdn
    have hn2 : ¬ hasO (s.del n).1.obs n := by rw [← vw_none, vw_del, if_pos ⟨h3, rfl⟩]
    rw [if_neg hn2] at h5
    have e : showR s d n = ((s.del n).1.ren d n) := by rw [sh_3 h1 (by rw [h8]; exact h3), h8]
    rw [sf_0 (show showR s d n = (((s.del n).1.ren d n).1, ((s.del n).1.ren d n).2) from e) h5]
    refine ⟨rfl, h6, ?_, ?_⟩
    · show vw ((s.del n).1.ren d n).1 n = _
      rw [vw_ren hdn, if_pos h5, if_pos rfl, vw_del, if_neg (fun q => hdn q.2)]
    · show vw ((s.del n).1.ren d n).1 d = _
      rw [vw_ren hdn, if_pos h5, if_neg hdn, if_pos rfl]
  · rw [if_neg hh] at h1
    rw [sf_0 (show showR s d n = ((s.ren d n).1, (s.ren d n).2) from sh_1 (by omega)) h1]
    refine ⟨rfl, h2, ?_, ?_⟩
    · show vw (s.ren d n).1 n = _
      rw [vw_ren hdn, if_pos h1, if_pos rfl]
    · show vw (s.ren d n).1 d = _
      rw [vw_ren hdn, if_pos h1, if_neg hdn, if_pos rfl]
theorem sw_q {del : List UInt8 → Bool} {N : Nat} {l : List (List UInt8)} : ∀ {q : Sh × Nat}, Qt q.1 N → q.2 = 0 → Qt (l.foldl (swQ del) q).1 N ∧ (l.foldl (swQ del) q).2 = 0 ∧ ∀ m, vw (l.foldl (swQ del) q).1 m = if m ∈ l ∧ del m = true then none else vw q.1 m := by
  induction l with
  | nil => intro q h h0; exact ⟨h, h0, fun m => by rw [if_neg (fun r => nomatch r.1)]; rfl⟩
  | cons n l ih =>
    intro q h h0
    by_cases hd : del n = true
    · have e : swQ del q n = ((q.1.del n).1, if (q.1.del n).2 = 6 then 0 else (q.1.del n).2) := by rw [swQ, if_pos ⟨h0, hd⟩]
      obtain ⟨h1, h1b, h2⟩ := del_q (a := n) h
      have e0 : (swQ del q n).2 = 0 := by rw [e]; dsimp only; split <;> omega
      have e1 : (swQ del q n).1 = (q.1.del n).1 := by rw [e]
      obtain ⟨i1, i2, i3⟩ := ih (q := swQ del q n) (by rw [e1]; exact h2) e0
      refine ⟨i1, i2, fun m => ?_⟩
      rw [List.foldl_cons, i3 m, e1]
      by_cases hm : m ∈ l ∧ del m = true
      · rw [if_pos hm, if_pos ⟨List.mem_cons_of_mem _ hm.1, hm.2⟩]
      · rw [if_neg hm]
        by_cases hmn : m = n
        · subst hmn
          rw [if_pos ⟨List.mem_cons_self .., hd⟩, vw_del]
          by_cases hh : hasO q.1.obs m
          · rw [if_pos ⟨h1b hh, rfl⟩]
          · split
            · rfl
            · exact vw_none.2 hh
        · rw [vw_del, if_neg (fun r => hmn r.2), if_neg (fun r => by
            rcases List.mem_cons.1 r.1 with r1 | r1
            · exact hmn r1
            · exact hm ⟨r1, r.2⟩)]
    · have e : swQ del q n = q := by rw [swQ, if_neg (fun r => hd r.2)]
      obtain ⟨i1, i2, i3⟩ := ih (q := swQ del q n) (by rw [e]; exact h) (by rw [e]; exact h0)
      refine ⟨i1, i2, fun m => ?_⟩
      rw [List.foldl_cons, i3 m, e]
      by_cases hm : m ∈ l ∧ del m = true
      · rw [if_pos hm, if_pos ⟨List.mem_cons_of_mem _ hm.1, hm.2⟩]
      · rw [if_neg hm, if_neg (fun r => by
          rcases List.mem_cons.1 r.1 with r1 | r1
          · rw [r1] at r; exact hd r.2
          · exact hm ⟨r1, r.2⟩)]
/-- a lock of these words lies by this name -/
def HasL (hk mk : List UInt8) (s : Sh) (now : Nat) (n : List UInt8) (m : Mk) : Prop := n.length < 256 ∧ preB [108, 47] n = true ∧ ∃ b, vw s n = some b ∧ MkAt hk mk now n b m
/-- is there one that a client would meet? -/
def Conf (hk mk : List UInt8) (s : Sh) (now cl : Nat) (b : Bool) : Prop := ∃ n m, HasL hk mk s now n m ∧ ¬ m.c = cl ∧ holdsP now m ∧ (b = true ∨ m.a = true)
theorem free_q {hk mk : List UInt8} {s : Sh} {now cl N : Nat} {b : Bool} (hW : LkW hk mk s now) (hnow : now ≤ 1099511627776) (h : Qt s N) :
    (Conf hk mk s now cl b → (if s.off = true then 9 else freeE (moOf hk mk s now) now b (othN (moOf hk mk s now) cl (lsN s [108, 47]))) = 12) ∧ (¬ Conf hk mk s now cl b → (if s.off = true then 9 else freeE (moOf hk mk s now) now b (othN (moOf hk mk s now) cl (lsN s [108, 47]))) = 0) := by
  rw [if_neg h.off]
  have key : (∃ n ∈ othN (moOf hk mk s now) cl (lsN s [108, 47]), meets (moOf hk mk s now) now b n) ↔ Conf hk mk s now cl b := by
    constructor
    · rintro ⟨n, hn, hm⟩
      obtain ⟨h1, h2⟩ := List.mem_filter.1 hn
      obtain ⟨h3, h4⟩ := lsN_mem.1 h1
      obtain ⟨h5, m, h6⟩ := hW n _ (vw_some.2 ⟨h3, rfl⟩) h4
      have e := mo_at h5 hnow (vw_some.2 ⟨h3, rfl⟩) h6
      rw [e] at h2
      unfold meets at hm
      rw [e] at hm
      exact ⟨n, m, ⟨h5, h4, _, vw_some.2 ⟨h3, rfl⟩, h6⟩, by simpa using h2, hm⟩
    · rintro ⟨n, m, ⟨h1, h2, bb, h3, h4⟩, h5, h6⟩
      have e := mo_at h1 hnow h3 h4
      refine ⟨n, List.mem_filter.2 ⟨lsN_mem.2 ⟨(vw_some.1 h3).1, h2⟩, by rw [e]; simpa using h5⟩, ?_⟩
      unfold meets
      rw [e]; exact h6
  constructor
  · intro q; rw [freeE, if_pos (key.2 q)]
  · intro q; rw [freeE, if_neg (fun r => q (key.1 r))]
theorem seal_small {hk mk tl : List UInt8} {n : List UInt8} {p : Nat} {m : Mk} (hm : m.c < 100 ∧ m.t ≤ 1099511627776) : (sealL hk mk 108 n (tapeN tl p 16) (mkY m)).length ≤ 200 := by
  have := mkY_len hm
  rw [sealL_len tapeN_len]; omega
section
variable {hk mk tl : List UInt8} {s : Sh} {x : Lk} {now c p N : Nat} {vl : Value} {z : Stp}
theorem step1_q (hW : LkW hk mk s now) (hnow : now ≤ 1099511627776) (h : Qt s N) (h1 : x.asks = 1) (hz : StepR hk mk tl (moOf hk mk s now) s x now c p vl z) :
    z.t = s ∧ z.y = x ∧ (Conf hk mk s now x.cl x.want → z.e = 12) ∧ (¬ Conf hk mk s now x.cl x.want → z.e = 0) := by
  rcases hz with ⟨_, rfl⟩ | ⟨q, _⟩ | ⟨q, _⟩ | ⟨q, _⟩
  · exact ⟨rfl, rfl, (free_q hW hnow h).1, (free_q hW hnow h).2⟩
  · omega
  · omega
  · omega
theorem step2_q (hcl : x.cl < 100) (hnow : now ≤ 1099511627776) (h : Qt s N) (hN : N < 400) (h1 : x.asks = 2) (hz : StepR hk mk tl (moOf hk mk s now) s x now c p vl z) :
    z.e = 0 ∧ Qt z.t (N + 1) ∧ z.y = { x with next := lkName x.cl x.made, m := ⟨x.cl, x.want, now⟩ } ∧ (∃ b, vw z.t (dfName x.cl) = some b ∧ MkAt hk mk now (lkName x.cl x.made) b ⟨x.cl, x.want, now⟩) ∧ ∀ n, n ≠ dfName x.cl → vw z.t n = vw s n := by
  rcases hz with ⟨q, _⟩ | ⟨_, c', vl', v, _, rfl⟩ | ⟨q, _⟩ | ⟨q, _⟩
  · omega
  · obtain ⟨h2, h3⟩ := write_q (v := v) h (dfName_nm hcl).1 (seal_small (hk := hk) (mk := mk) (tl := tl) (n := lkName x.cl x.made) (p := p) (m := ⟨x.cl, x.want, now⟩) ⟨hcl, hnow⟩) hN
    refine ⟨h2, h3, ?_, ⟨_, write_ok h2, hcl, Nat.le_refl _, _, tapeN_len, rfl⟩, fun n hn => vw_write hn⟩
    show x.wrote _ _ _ = _
    rw [h2]; rfl
  · omega
  · omega
theorem step3_q (hcl : x.cl < 100) (hmd : x.made < 100) (hn : x.next = lkName x.cl x.made) (hd : hasO s.obs (dfName x.cl)) (h : Qt s N) (h1 : x.asks = 3) (hz : StepR hk mk tl (moOf hk mk s now) s x now c p vl z) :
    z.e = 0 ∧ Qt z.t N ∧ z.y = { x with made := x.made + 1, shown := true } ∧ vw z.t x.next = vw s (dfName x.cl) ∧ vw z.t (dfName x.cl) = none ∧ ∀ n, n ≠ dfName x.cl → n ≠ x.next → vw z.t n = vw s n := by
  rcases hz with ⟨q, _⟩ | ⟨q, _⟩ | ⟨_, rfl⟩ | ⟨q, _⟩
  · omega
  · omega
  · have hne : dfName x.cl ≠ x.next := by rw [hn]; exact df_lk
    obtain ⟨h2, h3, h4, h5⟩ := show_q h hd (by rw [hn]; exact lkName_nm hcl hmd) hne
    refine ⟨h2, h3, ?_, h4, h5, fun n q1 q2 => vw_show hne q1 q2⟩
    show x.shw _ = _
    rw [h2]; rfl
  · omega
theorem step4_q (hW : LkW hk mk s now) (hnow : now ≤ 1099511627776) (h : Qt s N) (h1 : x.asks = 4) (hz : StepR hk mk tl (moOf hk mk s now) s x now c p vl z) :
    (Conf hk mk s now x.cl x.want → z.e = 12 ∧ z.t = s ∧ z.y = x) ∧ (¬ Conf hk mk s now x.cl x.want → z.e = 0 ∧ Qt z.t N ∧ z.y = { x with own := x.next } ∧
      ∀ n, vw z.t n = vw s n ∨ (vw z.t n = none ∧ x.want = true ∧ ∃ m, HasL hk mk s now n m ∧ ¬ m.c = x.cl ∧ ¬ holdsP now m)) ∧
      (¬ Conf hk mk s now x.cl x.want → x.want = true → ∀ n m, HasL hk mk s now n m → ¬ m.c = x.cl → vw z.t n = none) := by
  rcases hz with ⟨q, _⟩ | ⟨q, _⟩ | ⟨q, _⟩ | ⟨_, rfl⟩
  · omega
  · omega
  · omega
  · have hf := free_q (b := x.want) (cl := x.cl) hW hnow h
    refine ⟨fun hc => ?_, fun hc => ?_, fun hc hw n m hl hmc => ?_⟩
    · have he := hf.1 hc
      have e1 : st4 (moOf hk mk s now) s x now = (s, 12) := by rw [st4_e (by rw [he]; decide), he]
      rw [e1]
      exact ⟨rfl, rfl, took_1 (show ¬ (12 : Nat) = 0 by omega)⟩
    · have he := hf.2 hc
      by_cases hw : x.want = true
      · have e1 := st4_w (mo := moOf hk mk s now) he hw
        obtain ⟨i1, i2, i3⟩ := sw_q (del := delB (moOf hk mk s now) x.cl now) (l := lsN s [108, 47]) (q := (s, 0)) h rfl
        rw [e1]
        refine ⟨i2, i1, ?_, fun n => ?_⟩
        · show x.took _ = _
          exact took_0 i2
        · have hv := i3 n
          by_cases hd : n ∈ lsN s [108, 47] ∧ delB (moOf hk mk s now) x.cl now n = true
          · rw [if_pos hd] at hv
            obtain ⟨h3, h4⟩ := lsN_mem.1 hd.1
            obtain ⟨h5, m, h6⟩ := hW n _ (vw_some.2 ⟨h3, rfl⟩) h4
            have e := mo_at h5 hnow (vw_some.2 ⟨h3, rfl⟩) h6
            have h7 := of_decide_eq_true hd.2
            rw [e] at h7
            exact .inr ⟨hv, hw, m, ⟨h5, h4, _, vw_some.2 ⟨h3, rfl⟩, h6⟩, h7⟩
          · rw [if_neg hd] at hv; exact .inl hv
      · rw [st4_0 he (by simpa using hw)]
        exact ⟨rfl, h, took_0 rfl, fun n => .inl rfl⟩
    · have he := hf.2 hc
      have e1 := st4_w (mo := moOf hk mk s now) he hw
      obtain ⟨i1, i2, i3⟩ := sw_q (del := delB (moOf hk mk s now) x.cl now) (l := lsN s [108, 47]) (q := (s, 0)) h rfl
      rw [e1]
      show vw ((lsN s [108, 47]).foldl (swQ (delB (moOf hk mk s now) x.cl now)) (s, 0)).1 n = _
      obtain ⟨h1, h2, bb, h3, h4⟩ := hl
      have e := mo_at h1 hnow h3 h4
      have hh : ¬ holdsP now m := fun hh => hc ⟨n, m, ⟨h1, h2, bb, h3, h4⟩, hmc, hh, .inl hw⟩
      rw [i3 n, if_pos ⟨lsN_mem.2 ⟨(vw_some.1 h3).1, h2⟩, decide_eq_true (by rw [e]; exact ⟨hmc, hh⟩)⟩]
end
end Go.Proofs.YtkkjfojgjmglpaaGreatDoor
set_option linter.unusedSimpArgs false
set_option linter.unusedVariables false
namespace Go.Proofs.YtkkjfojgjmglpaaGreatDoor
open Go
set_option maxHeartbeats 2000000
attribute [local irreducible] sealL tapeN tapeL lkName dfName preB
variable {hk mk tl : List UInt8} {s : Sh} {x : Lk} {now c p N : Nat} {vl : Value}
/-- a hand that has taken a lock; one that was refused -/
def Lk.has (x : Lk) (b : Bool) (now : Nat) : Lk := { x with made := x.made + 1, own := lkName x.cl x.made, asks := 0, want := b, next := [], shown := false, m := ⟨x.cl, b, now⟩ }
def Lk.not (x : Lk) (b : Bool) : Lk := { x with asks := 0, want := b, next := [], shown := false }
theorem HasL.one {n : List UInt8} {m m' : Mk} (hnow : now ≤ 1099511627776) (h : HasL hk mk s now n m) (h' : HasL hk mk s now n m') : m = m' := by
  obtain ⟨h1, _, b, h2, h3⟩ := h
  obtain ⟨_, _, b', h2', h3'⟩ := h'
  rw [h2] at h2'; cases h2'
  exact h3.one h1 hnow h3'
theorem HasL.vw {t : Sh} {n : List UInt8} {m : Mk} (h : HasL hk mk s now n m) (e : vw t n = vw s n) : HasL hk mk t now n m := ⟨h.1, h.2.1, by rw [e]; exact h.2.2⟩
theorem LkW.has {n : List UInt8} (h : LkW hk mk s now) (hn : hasO s.obs n) (hp : preB [108, 47] n = true) : ∃ m, HasL hk mk s now n m := by
  obtain ⟨h1, m, h2⟩ := h n _ (vw_some.2 ⟨hn, rfl⟩) hp
  exact ⟨m, h1, hp, _, vw_some.2 ⟨hn, rfl⟩, h2⟩
/-- what a store says when a client has its lock -/
structure TkQ (hk mk : List UInt8) (s t : Sh) (now : Nat) (cl n : Nat) (b : Bool) : Prop where
  mine : HasL hk mk t now (lkName cl n) ⟨cl, b, now⟩
  keep : ∀ m, m ≠ dfName cl → m ≠ lkName cl n → vw t m = vw s m ∨ (vw t m = none ∧ b = true ∧ ∃ q, HasL hk mk s now m q ∧ ¬ q.c = cl ∧ ¬ holdsP now q)
  df : vw t (dfName cl) = none
  alone : b = true → ∀ m q, HasL hk mk s now m q → ¬ q.c = cl → m ≠ lkName cl n → vw t m = none
theorem stepT_no {z : Stp} (h : z.e = 0) : stepT z = z.t := by rw [stepT, if_neg (fun q => q.1 h)]
theorem stepY_on {z : Stp} (h : z.e = 0) (h2 : z.y.asks < 4) : stepY z = z.y.on := by rw [stepY, if_neg (fun q => by omega)]
theorem stepY_end {z : Stp} (h : ¬ z.e = 0 ∨ 4 < z.y.asks + 1) : stepY z = z.y.done := by rw [stepY, if_pos h]
theorem fin_no {z : Stp} (h : z.e = 0) (h2 : z.y.asks < 4) : fin z = false := decide_eq_false (fun q => by omega)
/-- the first three steps -/
structure Up3 (hk mk : List UInt8) (s t : Sh) (x y : Lk) (now N : Nat) (b : Bool) : Prop where
  hand : y = { x with made := x.made + 1, asks := 4, want := b, next := lkName x.cl x.made, shown := true, m := ⟨x.cl, b, now⟩ }
  qt : Qt t (N + 1)
  mine : HasL hk mk t now (lkName x.cl x.made) ⟨x.cl, b, now⟩
  keep : ∀ m, m ≠ dfName x.cl → m ≠ lkName x.cl x.made → vw t m = vw s m
  df : vw t (dfName x.cl) = none
theorem name_small {c n : Nat} (h : c < 100) : (lkName c n).length < 256 := by
  have h5 := lkName_len (n := n) h
  have h6 := dec2_len (n := n)
  omega
theorem run_li {u r : St5} {k : Int} {j i e : Nat} (hL : LI hk mk u.s u.x now k j) (h1 : u.x.asks = 1) (hj : j < 90) (hI0 : u.p ≤ 32 * u.c ∧ 32 * u.c < u.p + 32) (hi : i ≤ 3) (hR : Run hk mk tl now u i r e) : LI hk mk r.s r.x now (k + 2005 * i) (j + i) ∧ r.x.asks = i + 1 := by
  induction i generalizing r e with
  | zero => obtain ⟨rfl, _⟩ := hR; exact ⟨hL.mono (by simp) (by omega), h1⟩
  | succ i ih =>
    obtain ⟨r0, z, e0, hR0, hz, hf, rfl, rfl⟩ := hR
    obtain ⟨h2, h3⟩ := ih (by omega) hR0
    have hx := stepR_x hz
    refine ⟨(h2.step ⟨by omega, by omega⟩ (by omega) hz).mono (by omega) (by omega), ?_⟩
    show (stepY z).asks = _
    rw [(stepY_asks hf).1, hx.1, h3]
theorem take_q {k : Int} {j : Nat} {q : St5} {e : Nat} (hL : LI hk mk s x now k j) (hj : j < 90) (hnow : now ≤ 1099511627776) (h : Qt s N) (hN : N < 400) (hI0 : p ≤ 32 * c ∧ 32 * c < p + 32) {b : Bool} (hsh : x.shown = false)
    (hT : Took hk mk tl now ⟨s, x.asked b, c, p, vl⟩ q e) :
    (Conf hk mk s now x.cl b ∧ e = 12 ∧ q.s = s ∧ q.x = x.not b) ∨ (¬ Conf hk mk s now x.cl b ∧ e = 0 ∧ Qt q.s (N + 1) ∧ q.x = x.has b now ∧ TkQ hk mk s q.s now x.cl x.made b) := by
  have hcl := hL.cl
  have hmd := hL.md
  have h0 : LI hk mk s (x.asked b) now k j := ⟨hL.at_, hL.ok, hL.cl, hL.md, hL.nx, fun q => by cases q⟩
  obtain ⟨i, r, z, e0, hi, hR, hz, hf, rfl, rfl⟩ := hT
  have first : ∀ z1, StepR hk mk tl (moOf hk mk s now) s (x.asked b) now c p vl z1 → (z1.t = s ∧ z1.y = x.asked b ∧ (Conf hk mk s now x.cl b → z1.e = 12) ∧ (¬ Conf hk mk s now x.cl b → z1.e = 0)) :=
    fun z1 h1 => step1_q hL.ok hnow h rfl h1
  -- after one step
  have one : ∀ r e, Run hk mk tl now ⟨s, x.asked b, c, p, vl⟩ 1 r e → ¬ Conf hk mk s now x.cl b ∧ r.s = s ∧ r.x = { x with asks := 2, want := b } := fun r e hr => by
    obtain ⟨r0, z1, e1, ⟨rfl, _⟩, hz1, hf1, rfl, rfl⟩ := hr
    obtain ⟨f1, f2, f3, f4⟩ := first z1 hz1
    have he := (stepY_asks hf1).2
    refine ⟨fun hc => (by rw [f3 hc] at he; cases he), ?_, ?_⟩
    · show stepT z1 = s; rw [stepT_no he, f1]
    · show stepY z1 = _; rw [stepY_on he (by rw [f2]; exact (by decide : 1 < 4)), f2]; rfl
  have two : ∀ r e, Run hk mk tl now ⟨s, x.asked b, c, p, vl⟩ 2 r e → ¬ Conf hk mk s now x.cl b ∧ Qt r.s (N + 1) ∧ r.x = { x with asks := 3, want := b, next := lkName x.cl x.made, m := ⟨x.cl, b, now⟩ } ∧ (∃ bb, vw r.s (dfName x.cl) = some bb ∧ MkAt hk mk now (lkName x.cl x.made) bb ⟨x.cl, b, now⟩) ∧ ∀ n, n ≠ dfName x.cl → vw r.s n = vw s n := fun r e hr => by
    obtain ⟨r0, z2, e1, hr0, hz2, hf2, rfl, rfl⟩ := hr
    obtain ⟨g1, g2, g3⟩ := one r0 e1 hr0
    obtain ⟨rs, rx, rc, rp, rv⟩ := r0
    dsimp only at g2 g3 hz2
    subst g2 g3
    obtain ⟨f1, f2, f3, f4, f5⟩ := step2_q (x := { x with asks := 2, want := b }) hcl hnow h hN rfl hz2
    refine ⟨g1, ?_, ?_, ?_, ?_⟩
    · show Qt (stepT z2) _; rw [stepT_no f1]; exact f2
    · show stepY z2 = _; rw [stepY_on f1 (by rw [f3]; exact (by decide : 2 < 4)), f3]; rfl
    · show ∃ bb, vw (stepT z2) _ = _ ∧ _; rw [stepT_no f1]; exact f4
    · show ∀ n, n ≠ _ → vw (stepT z2) n = _; rw [stepT_no f1]; exact f5
  have three : ∀ r e, Run hk mk tl now ⟨s, x.asked b, c, p, vl⟩ 3 r e → ¬ Conf hk mk s now x.cl b ∧ Up3 hk mk s r.s x r.x now N b := fun r e hr => by
    obtain ⟨r0, z3, e1, hr0, hz3, hf3, rfl, rfl⟩ := hr
    obtain ⟨g1, g2, g3, ⟨bb, g4, g4b⟩, g5⟩ := two r0 e1 hr0
    obtain ⟨rs, rx, rc, rp, rv⟩ := r0
    dsimp only at g2 g3 g4 g5 hz3
    subst g3
    obtain ⟨f1, f2, f3, f4, f5, f6⟩ := step3_q (x := { x with asks := 3, want := b, next := lkName x.cl x.made, m := ⟨x.cl, b, now⟩ }) hcl (by show x.made < 100; omega) rfl (vw_some.1 g4).1 g2 rfl hz3
    refine ⟨g1, ?_, ?_, ?_, ?_, ?_⟩
    · show stepY z3 = _; rw [stepY_on f1 (by rw [f3]; exact (by decide : 3 < 4)), f3]; rfl
    · show Qt (stepT z3) _; rw [stepT_no f1]; exact f2
    · show HasL hk mk (stepT z3) _ _ _
      rw [stepT_no f1]
      exact ⟨name_small hcl, lkName_pre, bb, by rw [show vw z3.t (lkName x.cl x.made) = _ from f4]; exact g4, g4b⟩
    · intro m q1 q2
      show vw (stepT z3) m = _
      rw [stepT_no f1, f6 m q1 q2, g5 m q1]
    · show vw (stepT z3) _ = none; rw [stepT_no f1]; exact f5
  rcases (show i = 0 ∨ i = 1 ∨ i = 2 ∨ i = 3 by omega) with rfl | rfl | rfl | rfl
  · obtain ⟨rfl, _⟩ := hR
    obtain ⟨f1, f2, f3, f4⟩ := first z hz
    have hc : Conf hk mk s now x.cl b := Classical.not_not.1 fun hc => by
      rw [fin_no (f4 hc) (by rw [f2]; exact (by decide : 1 < 4))] at hf; cases hf
    have e12 := f3 hc
    refine .inl ⟨hc, e12, ?_, ?_⟩
    · show stepT z = s
      rw [stepT, f2, if_neg (fun q => by have : (x.asked b).shown = x.shown := rfl; rw [this, hsh] at q; cases q.2), f1]
    · show stepY z = _
      rw [stepY_end (.inl (by rw [e12]; omega)), f2]; rfl
  · obtain ⟨g1, g2, g3⟩ := one r e0 hR
    obtain ⟨rs, rx, rc, rp, rv⟩ := r
    dsimp only at g2 g3 hz
    subst g2 g3
    obtain ⟨f1, f2, f3, f4, f5⟩ := step2_q (x := { x with asks := 2, want := b }) hcl hnow h hN rfl hz
    rw [fin_no f1 (by rw [f3]; exact (by decide : 2 < 4))] at hf; cases hf
  · obtain ⟨g1, g2, g3, ⟨bb, g4, g4b⟩, g5⟩ := two r e0 hR
    obtain ⟨rs, rx, rc, rp, rv⟩ := r
    dsimp only at g2 g3 g4 g5 hz
    subst g3
    obtain ⟨f1, f2, f3, f4, f5, f6⟩ := step3_q (x := { x with asks := 3, want := b, next := lkName x.cl x.made, m := ⟨x.cl, b, now⟩ }) hcl (by show x.made < 100; omega) rfl (vw_some.1 g4).1 g2 rfl hz
    rw [fin_no f1 (by rw [f3]; exact (by decide : 3 < 4))] at hf; cases hf
  · obtain ⟨g1, g2⟩ := three r e0 hR
    have hli := (run_li (u := ⟨s, x.asked b, c, p, vl⟩) h0 rfl hj hI0 (by omega) hR).1
    obtain ⟨rs, rx, rc, rp, rv⟩ := r
    dsimp only at g2 hz hli
    have hw := g2.hand
    subst hw
    -- whom it meets is as it was ahead
    have hc2 : ¬ Conf hk mk rs now x.cl b := fun hc => by
      obtain ⟨n, m, h1, h2, h3⟩ := hc
      have hn1 : n ≠ dfName x.cl := fun e => by rw [e] at h1; have := h1.2.1; rw [dfName_pre] at this; cases this
      have hn2 : n ≠ lkName x.cl x.made := fun e => by
        rw [e] at h1
        have := h1.one hnow g2.mine
        rw [this] at h2; exact h2 rfl
      exact g1 ⟨n, m, h1.vw (g2.keep n hn1 hn2).symm, h2, h3⟩
    obtain ⟨_, f2, f3⟩ := step4_q hli.ok hnow g2.qt rfl hz
    obtain ⟨e1, e2, e3, e4⟩ := f2 hc2
    have hT : stepT z = z.t := stepT_no e1
    have hasY : (stepY z) = x.has b now := by rw [stepY_end (.inr (by rw [e3]; exact (by decide : 4 < 4 + 1))), e3]; rfl
    have mine2 : HasL hk mk z.t now (lkName x.cl x.made) ⟨x.cl, b, now⟩ := by
      refine g2.mine.vw ?_
      rcases e4 (lkName x.cl x.made) with q | ⟨_, _, m, q1, q2, _⟩
      · exact q
      · rw [q1.one hnow g2.mine] at q2; exact (q2 rfl).elim
    have back : ∀ m q, HasL hk mk rs now m q → ¬ q.c = x.cl → HasL hk mk s now m q := fun m q h1 h2 => by
      have hn1 : m ≠ dfName x.cl := fun e => by rw [e] at h1; have := h1.2.1; rw [dfName_pre] at this; cases this
      have hn2 : m ≠ lkName x.cl x.made := fun e => by
        rw [e] at h1; rw [h1.one hnow g2.mine] at h2; exact h2 rfl
      exact h1.vw (g2.keep m hn1 hn2).symm
    refine .inr ⟨g1, e1, ?_, hasY, ?_, ?_, ?_, ?_⟩
    · show Qt (stepT z) _; rw [hT]; exact e2
    · show HasL hk mk (stepT z) _ _ _; rw [hT]; exact mine2
    · intro m q1 q2
      show vw (stepT z) m = _ ∨ vw (stepT z) m = _ ∧ _
      rw [hT]
      rcases e4 m with q | ⟨q, hb, mm, r1, r2, r3⟩
      · exact .inl (q.trans (g2.keep m q1 q2))
      · exact .inr ⟨q, hb, mm, back m mm r1 r2, r2, r3⟩
    · show vw (stepT z) _ = none
      rw [hT]
      rcases e4 (dfName x.cl) with q | ⟨q, _⟩
      · rw [q]; exact g2.df
      · exact q
    · intro hb m q r1 r2 r3
      show vw (stepT z) m = none
      rw [hT]
      have hn1 : m ≠ dfName x.cl := fun e => by rw [e] at r1; have := r1.2.1; rw [dfName_pre] at this; cases this
      exact f3 hc2 hb m q (r1.vw (g2.keep m hn1 r3)) r2
end Go.Proofs.YtkkjfojgjmglpaaGreatDoor
set_option linter.unusedSimpArgs false
set_option linter.unusedVariables false
namespace Go.Proofs.YtkkjfojgjmglpaaGreatDoor
open Go Go.RowKit
set_option maxRecDepth 100000
attribute [local irreducible] sumL keyedL hexL strL sealF sealL tapeL tapeN
end Go.Proofs.YtkkjfojgjmglpaaGreatDoor
set_option linter.unusedSimpArgs false
set_option linter.unusedVariables false
namespace Go.Proofs.YtkkjfojgjmglpaaGreatDoor
open Go Go.RowKit
set_option maxRecDepth 100000
attribute [local irreducible] sumL keyedL hexL strL sealF sealL tapeL tapeN
def rq (k : UInt8) : List UInt8 := [k, 0, 0, 0, 0, 0, 0, 0, 0, 0, 0, 0, 0, 0, 0, 0, 0, 0, 0, 0, 0, 0, 0, 0, 0, 0, 0, 0, 0, 0, 0, 0]
@[simp] theorem rq_len {k : UInt8} : (rq k).length = 32 := rfl
end Go.Proofs.YtkkjfojgjmglpaaGreatDoor
set_option linter.unusedSimpArgs false
set_option linter.unusedVariables false
namespace Go.Proofs.YtkkjfojgjmglpaaGreatDoor
open Go Go.RowKit
set_option maxRecDepth 100000
attribute [local irreducible] sumL keyedL hexL strL sealF sealL tapeL tapeN
theorem fill_lk0 {Z R l : List Value} {x y z u p q r : Value} {pl : List (Nat × Nat)} (hZ : Z.length = 97) (hR : R.length = 97) (hu : u = u) : fillL ((0, 97) :: (97, 1) :: (98, 1) :: (99, 1) :: pl) (Z ++ (x :: y :: z :: l)) [(0, R), (1, [p]), (2, [q]), (3, [r])] = some (R ++ (p :: q :: r :: l)) := by
  have e1 : (Z ++ x :: y :: z :: l).drop 97 = x :: y :: z :: l := by rw [← hZ, List.drop_left]
  have e2 : (R ++ x :: y :: z :: l).take 97 = R := by rw [← hR, List.take_left]
  have e3 : (R ++ x :: y :: z :: l).drop 98 = y :: z :: l := by rw [show 98 = R.length + 1 by omega, ← List.drop_drop, List.drop_left]; rfl
  have e4 : (R ++ p :: y :: z :: l).take 98 = R ++ [p] := by rw [show 98 = R.length + 1 by omega, List.take_length_add_append]; rfl
  have e5 : (R ++ p :: y :: z :: l).drop 99 = z :: l := by rw [show 99 = R.length + 2 by omega, ← List.drop_drop, List.drop_left]; rfl
  have e6 : (R ++ p :: q :: z :: l).take 99 = R ++ [p, q] := by rw [show 99 = R.length + 2 by omega, List.take_length_add_append]; rfl
  have e7 : (R ++ p :: q :: z :: l).drop 100 = l := by rw [show 100 = R.length + 3 by omega, ← List.drop_drop, List.drop_left]; rfl
  simp [fillL, hZ, hR, e1, e2, e3, e4, e5, e6, e7]
  omega
theorem fill_lk {hk mk nk : List UInt8} {tv p q : Value} {cl : Nat} (h1 : hk.length = 32) (h2 : mk.length = 32) (h3 : nk.length = 32) : fillL [(0, 97), (97, 1), (98, 1), (99, 1), (100, 1), (101, 1), (102, 1), (103, 1), (104, 1), (105, 1), (106, 3)] ((List.replicate 32 0).map B ++ ((List.replicate 32 0).map B ++ ((List.replicate 32 0).map B ++ ([Value.pointer none, .pointer none, .pointer none, I 0, I 0, Str [], I 0, .bool false, Str [], .bool false, I 0, .bool false, I 0])))) [(0, hk.map B ++ (mk.map B ++ (nk.map B ++ ([tv])))), (1, [p]), (2, [q]), (3, [IN cl])] = some (hk.map B ++ (mk.map B ++ (nk.map B ++ [tv, p, q, IN cl, I 0, Str [], I 0, .bool false, Str [], .bool false, I 0, .bool false, I 0]))) := by
  have e := fill_lk0 (Z := (List.replicate 32 0).map B ++ ((List.replicate 32 0).map B ++ ((List.replicate 32 0).map B ++ [Value.pointer none]))) (R := hk.map B ++ (mk.map B ++ (nk.map B ++ ([tv])))) (l := [I 0, Str [], I 0, .bool false, Str [], .bool false, I 0, .bool false, I 0]) (x := .pointer none) (y := .pointer none) (z := I 0) (u := I 0) (p := p) (q := q) (r := IN cl) (pl := [(100, 1), (101, 1), (102, 1), (103, 1), (104, 1), (105, 1), (106, 3)]) sI (by simp [h1, h2, h3]) rfl
  simpa using e
theorem lnew_spec {hk mk nk : List UInt8} {tv : Value} {sb kb cl : Nat} {w : World} (h3 : hk.length = 32 ∧ mk.length = 32 ∧ nk.length = 32) (htv : tv.oneCell' = true) (hcl : cl < 100) : Spec Tryz.prog 38 [PT sb, .agg (hk.map B ++ (mk.map B ++ (nk.map B ++ ([tv])))).toArray, PT kb, IN cl] w [] (fun _ : Nat => True) (fun b => .tuple #[PT b, I 0]) (fun b => [cel b (hk.map B ++ (mk.map B ++ (nk.map B ++ ([tv, PT sb, PT kb, IN cl, I 0, Str [], I 0, .bool false, Str [], .bool false, I 0, .bool false, I 0])))) 182]) := by
  refine spec_of (n := 30) Tryz.func38 rfl rfl trivial trivial rfl ?_
  obtain ⟨hk32, mk32, nk32⟩ := h3
  refine s_r <| tk_act rfl <| a_boxL (cs := hk.map B ++ (mk.map B ++ (nk.map B ++ ([tv])))) rfl rfl fun b5 => q_a rfl rfl <| q_a rfl rfl <| s_n <| tk_seq <| s_r <| q_m rfl rfl <| s_q rfl (y_pnil rfl rfl rfl) <| q_m rfl rfl <| s_g rfl (y_move rfl) <| s_g rfl (y_pnil rfl rfl rfl) <| s_q rfl (y_pick0 rfl rfl) <| q_m rfl rfl <| s_g rfl (y_move rfl) <| tk_gqe (.bool false) rfl rfl rfl (y_lss rfl rfl) (bool_f oM) <| s_q rfl (y_pick0 rfl rfl) <| q_m rfl rfl <| s_g rfl (y_move rfl) <| tk_gqe (.bool false) rfl rfl rfl (y_gtr rfl rfl) (bool_f oM) <| s_q rfl (y_pick0 rfl rfl) <| s_n <| tk_cond0 rfl ?_; exact tk_skip <| tk_then <| s_r <| s_q rfl (y_loadA 97 rfl kR lenP (hcw (.head _))) <| q_m rfl rfl <| q_m rfl rfl <| q_m rfl rfl <| s_q rfl (y_build (v := .agg (hk.map B ++ (mk.map B ++ (nk.map B ++ ([tv, PT sb, PT kb, IN cl, I 0, Str [], I 0, .bool false, Str [], .bool false, I 0, .bool false, I 0])))).toArray) (vs := [(0, .agg (hk.map B ++ (mk.map B ++ (nk.map B ++ ([tv])))).toArray), (1, PT sb), (2, PT kb), (3, IN cl)]) rfl (run_build (zs := (List.replicate 32 0).map B ++ ((List.replicate 32 0).map B ++ ((List.replicate 32 0).map B ++ ([Value.pointer none, .pointer none, .pointer none, I 0, I 0, Str [], I 0, .bool false, Str [], .bool false, I 0, .bool false, I 0])))) (pl := [(0, 97), (97, 1), (98, 1), (99, 1), (100, 1), (101, 1), (102, 1), (103, 1), (104, 1), (105, 1), (106, 3)]) Tryz.underlying182 (fun _ => kR) (fun _ => kR) (fill_lk hk32 mk32 nk32))) <| tk_act rfl <| a_boxL (cs := hk.map B ++ (mk.map B ++ (nk.map B ++ ([tv, PT sb, PT kb, IN cl, I 0, Str [], I 0, .bool false, Str [], .bool false, I 0, .bool false, I 0])))) rfl rfl fun b29 => q_a rfl rfl <| q_a rfl rfl <| s_n <| tk_retc <| tk_ret (b29) (trivial) (.inl rfl) (r2 rfl rfl rfl) (.cons_cons _ (List.nil_sublist _))
end Go.Proofs.YtkkjfojgjmglpaaGreatDoor
set_option linter.unusedSimpArgs false
set_option linter.unusedVariables false
namespace Go.Proofs.YtkkjfojgjmglpaaGreatDoor
open Go Go.RowKit
set_option maxRecDepth 100000
attribute [local irreducible] sumL keyedL hexL strL sealF sealL tapeL tapeN
/-- a client: where its hand lies, its tape; what they hold -/
structure Cl where
  lb : Nat
  tb : Nat
  vb : Value
  x : Lk
  tl : List UInt8
  c : Nat
  p : Nat
  vl : Value
def lk0 (cl : Nat) : Lk := ⟨cl, 0, [], 0, false, [], false, ⟨0, false, 0⟩⟩
def dCl : Cl := ⟨0, 0, .slice none 0 0, lk0 0, [], 0, 0, .slice none 0 0⟩
/-- many pieces, apart from each other, as one -/
def team (ps : List Res) : Res where
  fp := Fs ps
  holds w := Hs w ps ∧ Dj ps
  loc _ _ h hr := ⟨Hs.loc h hr.1, hr.2⟩
  bnd _ hr k hk := Fs.bnd hr.1 k hk
section
variable {c : Cx} {L : Sl} {H : List Res} {K : Act → World → Prop} {ps qs : List Res}
theorem tk_team0 (h : TK c K L (team [] :: H)) : TK c K L H := fun a w ha hw => h a w ha ⟨hw.fr, ⟨⟨trivial, trivial⟩, hw.hs⟩, ⟨fun _ h => h.elim, hw.dj⟩, fun k hk => hw.own k (hk.resolve_left (fun h => h.elim))⟩
theorem tk_teamIn (h : TK c K L (team ps :: H)) : TK c K L (ps ++ H) := fun a w ha hw => by
  have h1 := Hs_append.1 hw.hs
  have h2 := Dj_append.1 hw.dj
  refine h a w ha ⟨hw.fr, ⟨⟨h1.1, h2.1⟩, h1.2⟩, ⟨fun k hk hf => h2.2.2 k hk hf, h2.2.1⟩, fun k hk => hw.own k (Fs_append.2 hk)⟩
theorem tk_teamOut (h : TK c K L (ps ++ H)) : TK c K L (team ps :: H) := fun a w ha hw => by
  refine h a w ha ⟨hw.fr, Hs_append.2 ⟨hw.hs.1.1, hw.hs.2⟩, Dj_append.2 ⟨hw.hs.1.2, hw.dj.2, fun k hk hf => hw.dj.1 k hk hf⟩, fun k hk => hw.own k (Fs_append.1 hk)⟩
end
def clP (sb kb : Nat) (k : Cl) : List Res := [cel k.lb ((rq 1).map B ++ ((rq 2).map B ++ ((List.replicate 32 0).map B ++ ([PT k.tb, PT sb, PT kb, IN k.x.cl, IN k.x.made, Str k.x.own, IN k.x.asks, .bool k.x.want, Str k.x.next, .bool k.x.shown, IN k.x.m.c, .bool k.x.m.a, IN k.x.m.t])))) 182, cel k.tb ([k.vb, .int .u64 ((k.c : Nat) : Int), k.vl]) 201, ownB k.vb k.tl 5, ownB k.vl ((tapeL k.tl k.c).drop k.p) 5]
section
variable {c : Cx} {L : Sl} {H : List Res} {K : Act → World → Prop} {cs : List Cl} {k : Cl} {sb kb : Nat} {r1 r2 r3 r4 : Res}
theorem tk_teamAdd (hp : clP sb kb k = [r1, r2, r3, r4]) (h : TK c K L (team ((cs ++ [k]).flatMap (clP sb kb)) :: H)) : TK c K L (r1 :: r2 :: r3 :: r4 :: team (cs.flatMap (clP sb kb)) :: H) := by
  have e : (cs ++ [k]).flatMap (clP sb kb) = cs.flatMap (clP sb kb) ++ [r1, r2, r3, r4] := by rw [List.flatMap_append, ← hp]; simp
  rw [e] at h
  refine tk_perm (team (cs.flatMap (clP sb kb)) :: ([r1, r2, r3, r4] ++ H)) (List.perm_middle (l₁ := [r1, r2, r3, r4])) (tk_teamOut ?_)
  rw [← List.append_assoc]
  exact tk_teamIn h
end
def Fresh (cs : List Cl) : Prop := ∀ i, i < cs.length → (cs.getD i dCl).x = lk0 i ∧ (cs.getD i dCl).tl = [UInt8.ofNat i] ∧ (cs.getD i dCl).c = 0 ∧ (cs.getD i dCl).p = 0
theorem fresh_add {cs : List Cl} {i lb tb : Nat} {vb vl : Value} (h : Fresh cs) (hi : cs.length = i) : Fresh (cs ++ [⟨lb, tb, vb, lk0 i, [UInt8.ofNat i], 0, 0, vl⟩]) := fun j hj => by
  rw [List.length_append] at hj
  by_cases e : j < cs.length
  · have := h j e
    have e3 : (cs ++ [(⟨lb, tb, vb, lk0 i, [UInt8.ofNat i], 0, 0, vl⟩ : Cl)]).getD j dCl = cs.getD j dCl := by simp [List.getD_eq_getElem?_getD, List.getElem?_append_left e]
    rwa [e3]
  · have ej : j = cs.length := by simp at hj; omega
    subst ej
    have e2 : (cs ++ [(⟨lb, tb, vb, lk0 i, [UInt8.ofNat i], 0, 0, vl⟩ : Cl)]).getD cs.length dCl = ⟨lb, tb, vb, lk0 i, [UInt8.ofNat i], 0, 0, vl⟩ := by simp [List.getD_eq_getElem?_getD]
    rw [e2, hi]; exact ⟨rfl, rfl, rfl, rfl⟩
/-- a town: where store, map, clock, town lie; the row; the clients -/
structure Tw where
  sb : Nat
  mb : Nat
  kb : Nat
  tw : Nat
  vo : Value
  cs : List Cl
theorem found_spec {n : Nat} {w : World} (hn : n ≤ 100) : Spec Tryz.prog 36 [IN n] w [] (fun z : Tw => z.cs.length = n ∧ Fresh z.cs) (fun z => .tuple #[PT z.tw, .bool true]) (fun z => [cel z.tw ([PT z.sb, PT z.kb, z.vo]) 97, ownM PT z.vo (z.cs.map Cl.lb) 91, cel z.kb ([I 0]) 178, cel z.sb ([Value.map (some z.mb), I ((newS 100000).left), .bool ((newS 100000).off), I ((newS 100000).made), I ((newS 100000).room)]) 192, mapS z.mb (kvO ((newS 100000).obs)), bag (((newS 100000).obs).map (obR 5)), team (z.cs.flatMap (clP z.sb z.kb))]) := by
  refine spec_of (n := 60) Tryz.func36 rfl rfl trivial trivial rfl <| s_r <| q_a rfl rfl <| q_a rfl rfl <| s_n <| s_r <| tk_act rfl <| a_callv [] _ rfl kR rfl (fun w' hw' => shNew_spec (room := 100000) (by first | decide | omega)) rfl fun ⟨sb, mb⟩ _ => q_m rfl rfl <| s_q rfl (y_extract rfl rfl) <| s_q rfl (y_extract rfl rfl) <| q_a rfl rfl <| q_a rfl rfl <| s_n <| s_r <| q_m rfl rfl <| s_q rfl (y_build (v := .agg ([I 0]).toArray) (vs := []) rfl (fun _ => kR)) <| tk_act rfl <| a_boxL (cs := [I 0]) rfl rfl fun b17 => s_q rfl (y_build (v := .agg ([PT sb, PT b17, .slice none 0 0]).toArray) (vs := [(0, PT sb), (1, PT b17)]) rfl (run_build (zs := [Value.pointer none, .pointer none, .slice none 0 0]) (pl := [(0, 1), (1, 1), (2, 1)]) Tryz.underlying97 (fun _ => kR) (fun _ => kR) (by simp [fillL, Value.cells]))) <| tk_act rfl <| a_boxL (cs := [PT sb, PT b17, .slice none 0 0]) rfl rfl fun b19 => q_a rfl rfl <| s_n ?_; refine tk_seq <| s_r <| q_a rfl rfl <| s_n <| tk_block <| tk_ownM0 (f := PT) 91 <| tk_R (H1 := []) rfl (show own (.slice none 0 0) (([] : List Nat).length) (([] : List Nat).map PT) 91 1 = own (.slice none 0 0) ((([] : List Cl).map Cl.lb).length) ((([] : List Cl).map Cl.lb).map PT) 91 1 from rfl) <| tk_team0 <| tk_loop (X := Nat × Value × List Cl) (fun (i, vo, cs) => i ≤ n ∧ cs.length = i ∧ Fresh cs) (fun (i, vo, cs) => [(0, IN n), (4, PT sb), (5, I 0), (6, PT b19), (7, IN i)]) (fun (i, vo, cs) => [team (cs.flatMap (clP sb b17)), own vo ((cs.map Cl.lb).length) ((cs.map Cl.lb).map PT) 91 1, cel b19 ([PT sb, PT b17, vo]) 97, cel b17 ([I 0]) 178, cel sb ([Value.map (some mb), I ((newS 100000).left), .bool ((newS 100000).off), I ((newS 100000).made), I ((newS 100000).room)]) 192, mapS mb (kvO ((newS 100000).obs)), bag (((newS 100000).obs).map (obR 5))]) (fun (i, vo, cs) => n - i) ((0, .slice none 0 0, [])) (⟨Nat.zero_le _, rfl, fun _ h => absurd h sI⟩) sB ((List.Sublist.refl _)) ?_
  rintro ⟨i, vo, cs⟩ hI
  try dsimp only at hI ⊢
  refine tk_own1 (mm 1 rfl) fun hfo => ?_
  have hlc : (cs.map Cl.lb).length = i := by rw [List.length_map]; exact hI.2.1
  refine tk_seq <| s_r <| q_m rfl rfl <| q_m rfl rfl <| s_q rfl (y_lss rfl rfl) <| s_n <| tk_condP rfl (fun ht22 => ?_) (fun ht22 => ?_)
  · refine tk_skip <| tk_then <| tk_seq <| tk_block <| s_r <| s_q rfl (y_build (v := .agg (([1, 0, 0, 0, 0, 0, 0, 0, 0, 0, 0, 0, 0, 0, 0, 0, 0, 0, 0, 0, 0, 0, 0, 0, 0, 0, 0, 0, 0, 0, 0, 0] : List UInt8).map B).toArray) (vs := [(0, B 1)]) rfl (fun _ => kR)) <| tk_re 25 (.agg (([1, 0, 0, 0, 0, 0, 0, 0, 0, 0, 0, 0, 0, 0, 0, 0, 0, 0, 0, 0, 0, 0, 0, 0, 0, 0, 0, 0, 0, 0, 0, 0] : List UInt8).map B).toArray) (.agg ((rq 1).map B).toArray) rfl (rfl) <| s_q rfl (y_build (v := .agg (([2, 0, 0, 0, 0, 0, 0, 0, 0, 0, 0, 0, 0, 0, 0, 0, 0, 0, 0, 0, 0, 0, 0, 0, 0, 0, 0, 0, 0, 0, 0, 0] : List UInt8).map B).toArray) (vs := [(0, B 2)]) rfl (fun _ => kR)) <| tk_re 26 (.agg (([2, 0, 0, 0, 0, 0, 0, 0, 0, 0, 0, 0, 0, 0, 0, 0, 0, 0, 0, 0, 0, 0, 0, 0, 0, 0, 0, 0, 0, 0, 0, 0] : List UInt8).map B).toArray) (.agg ((rq 2).map B).toArray) rfl (rfl) <| s_q rfl (y_build (v := .agg ((rq 1).map B ++ ((rq 2).map B)).toArray) (vs := [(0, .agg ((rq 1).map B).toArray), (1, .agg ((rq 2).map B).toArray)]) rfl (run_build (zs := (List.replicate 32 0).map B ++ ((List.replicate 32 0).map B)) (pl := [(0, 32), (32, 32)]) Tryz.underlying29 (fun _ => kR) (fun _ => kR) (fillP2 (a := (rq 1).map B) (b := (rq 2).map B) lenP sI sI sI))) <| s_q rfl (y_build (v := .agg ((rq 1).map B ++ ((rq 2).map B ++ ((List.replicate 32 0).map B))).toArray) (vs := [(0, .agg ((rq 1).map B ++ ((rq 2).map B)).toArray)]) rfl (run_build (zs := (List.replicate 32 0).map B ++ ((List.replicate 32 0).map B ++ ((List.replicate 32 0).map B))) (pl := [(0, 64), (64, 32)]) Tryz.underlying31 (fun _ => kR) (fun _ => kR) (fillP1 (a := (rq 1).map B ++ ((rq 2).map B)) lenP sI sI))) <| q_m rfl rfl <| s_q rfl (y_convi8 (m := i) rfl rfl rfl) <| tk_act rfl <| a_slitN (vs := [B (UInt8.ofNat i)]) rfl (List.forall_mem_cons.2 ⟨rfl, (fun _ h => nomatch h)⟩) (EL42) rfl rfl dC fun b31 => tk_act rfl <| a_callv [] _ rfl kR rfl (fun w' hw' => wind_spec (b := [UInt8.ofNat i]) (Ro.cel (H0 := []) (b := b31) (o := 0) (m := 1) (cp := 1) (vs := [UInt8.ofNat i].map B) hw' (.head _) (rfl) lQ lenP) lenP) rfl fun ⟨tb32, vb32⟩ _ => s_q rfl (y_build (v := .agg ((rq 1).map B ++ ((rq 2).map B ++ ((List.replicate 32 0).map B ++ ([PT tb32])))).toArray) (vs := [(0, .agg ((rq 1).map B ++ ((rq 2).map B ++ ((List.replicate 32 0).map B))).toArray), (1, PT tb32)]) rfl (run_build (zs := (List.replicate 32 0).map B ++ ((List.replicate 32 0).map B ++ ((List.replicate 32 0).map B ++ ([Value.pointer none])))) (pl := [(0, 96), (96, 1)]) Tryz.underlying34 (fun _ => kR) (fun _ => kR) (fillP2 (a := (rq 1).map B ++ ((rq 2).map B ++ ((List.replicate 32 0).map B))) (b := [PT tb32]) lenP rfl sI sI))) ?_; refine tk_act rfl <| a_allocL (cs := (List.replicate 32 0).map B ++ ((List.replicate 32 0).map B ++ ((List.replicate 32 0).map B ++ ([Value.pointer none])))) kR rfl fun b8 => tk_act rfl <| a_storeW (H1 := []) (vs := (rq 1).map B ++ ((rq 2).map B ++ ((List.replicate 32 0).map B ++ ([PT tb32])))) 97 rfl rfl kR rfl ⟨lenP, lenP⟩ (List.forall_mem_append.2 ⟨oneB, (List.forall_mem_append.2 ⟨oneB, (List.forall_mem_append.2 ⟨oneB, (List.forall_mem_cons.2 ⟨rfl, (fun _ h => nomatch h)⟩)⟩)⟩)⟩) <| s_n <| tk_seq <| tk_drawH [cel b8 ((rq 1).map B ++ ((rq 2).map B ++ ((List.replicate 32 0).map B ++ ([PT tb32])))) 34, cel tb32 ([vb32, .int .u64 (((0 : Nat) : Nat) : Int), .slice none 0 0]) 201, ownB vb32 [UInt8.ofNat i] 5, cel b31 ([B (UInt8.ofNat i)]) 5, team (cs.flatMap (clP sb b17)), own vo ((cs.map Cl.lb).length) ((cs.map Cl.lb).map PT) 91 1, cel b19 ([PT sb, PT b17, vo]) 97, cel b17 ([I 0]) 178, cel sb ([Value.map (some mb), I ((newS 100000).left), .bool ((newS 100000).off), I ((newS 100000).made), I ((newS 100000).room)]) 192, mapS mb (kvO ((newS 100000).obs)), bag (((newS 100000).obs).map (obR 5))] [] kR <| s_x 0 rfl (y_move rfl) <| s_l 1 rfl (fun _ h => h) (y_loadA 97 rfl kR lenP (hcw (.head _))) <| s_x 2 rfl (y_move rfl) <| s_x 3 rfl (y_nilCheck rfl) <| s_x 4 rfl (y_fldN (o := 0) 1 rfl kR) <| s_l 5 rfl (fun _ h => h) (y_load rfl rfl (hc (o := 1) (mm 6 rfl) (rfl))) <| s_x 6 rfl (y_move rfl) <| tx_a 7 rfl kR rfl <| a_callv [] _ rfl kR rfl (fun w' hw' => lnew_spec (hk := rq 1) (mk := rq 2) (nk := List.replicate 32 0) (tv := PT tb32) (sb := sb) (kb := b17) (cl := i) ⟨lenP, lenP, lenP⟩ rfl lenP) rfl fun lb42 _ => tk_S (fun _ h => kD 1 rfl h) <| s_x 8 rfl (y_move rfl) <| s_x 9 rfl (y_extract rfl rfl) <| s_x 10 rfl (y_extract rfl rfl) <| s_x 11 rfl (y_assign rfl) <| s_x 12 rfl (y_assign rfl) <| tx_done kR <| tk_then ?_; refine tk_seq <| s_r <| q_m rfl rfl <| s_q rfl ((y_neq rfl rfl).cast (bool_f dC)) <| s_n <| tk_cond0 rfl <| tk_skip <| tk_then <| tk_region <| q_m rfl rfl <| q_m rfl rfl <| s_q rfl (y_nilCheck rfl) <| s_q rfl (y_fldN (o := 0) 2 rfl kR) <| s_q rfl (y_load rfl rfl (hc (o := 2) (mm 7 rfl) (rfl))) <| q_m rfl rfl <| tk_act rfl <| a_slitN (vs := [PT lb42]) rfl (List.forall_mem_cons.2 ⟨rfl, (fun _ h => nomatch h)⟩) (EL95) rfl rfl dC fun b53 => tk_act rfl <| a_appM (H1 := [_, _, _, _, _, _, _]) (f := PT) (l := cs.map Cl.lb) (m := [lb42]) rfl rfl EL95 rfl rfl (fun w hw => cel_rdE (o := 0) (m := 1) (cp := 1) (vs := [lb42].map PT) (hw.mem (.head _)) (rfl) lQ lenP) (fun _ => rfl) ⟨lenP, lenP⟩ fun v54 => tk_own1 (mm 7 rfl) fun hfv54 => s_q rfl (y_nilCheck rfl) <| s_q rfl (y_fldN (o := 0) 2 rfl kR) <| tk_act rfl <| a_storeE (H1 := [_, _, _, _, _, _, _, _]) (o := 2) (v := v54) (cs' := [PT sb, PT b17, v54]) rfl rfl kR (RdS.one hfv54.choose_spec) rfl sW (rfl) ?_; exact tk_nil <| tk_in_normal <| tk_then <| tk_region <| q_m rfl rfl <| s_q rfl (y_addN (a := i) (b := 1) rfl rfl oM) <| q_a rfl rfl <| tk_nil <| tk_R (H1 := [_, _, _, _, _, _, _]) rfl (show own v54 (((cs.map Cl.lb) ++ [lb42]).length) (((cs.map Cl.lb) ++ [lb42]).map PT) 91 1 = own v54 (((cs ++ [(⟨lb42, tb32, vb32, lk0 i, [UInt8.ofNat i], 0, 0, .slice none 0 0⟩ : Cl)]).map Cl.lb).length) (((cs ++ [(⟨lb42, tb32, vb32, lk0 i, [UInt8.ofNat i], 0, 0, .slice none 0 0⟩ : Cl)]).map Cl.lb).map PT) 91 1 from ownM_cast sI) <| tk_ownM0 (f := B) 5 <| tk_R (H1 := []) rfl (show ownB (.slice none 0 0) ([] : List UInt8) 5 = ownB (.slice none 0 0) ((tapeL [UInt8.ofNat i] 0).drop 0) 5 from ownM_cast (by simp [tapeL_0])) <| tk_ps [7, 1, 6, 6, 5] rfl <| tk_teamAdd (k := (⟨lb42, tb32, vb32, lk0 i, [UInt8.ofNat i], 0, 0, .slice none 0 0⟩ : Cl)) rfl <| tk_again ((i + 1, v54, cs ++ [(⟨lb42, tb32, vb32, lk0 i, [UInt8.ofNat i], 0, 0, .slice none 0 0⟩ : Cl)])) (⟨by dsimp only; omega, by simp [hI.2.1], fresh_add hI.2.2 hI.2.1⟩) (by dsimp only; omega) sB (.cons_cons _ (.cons _ (.cons _ (.cons _ (List.Sublist.refl _)))))
  · exact tk_exit <| tk_then_exit <| tk_then_exit <| tk_in_hit <| tk_then <| s_r <| q_m rfl rfl <| q_m rfl rfl <| s_q rfl ((y_eql rfl rfl).cast (bool_t dC)) <| q_a rfl rfl <| q_a rfl rfl <| s_n <| tk_retc <| tk_ps [6, 6, 6, 6, 5, 6] rfl <| tk_ret (⟨sb, mb, b17, b19, vo, cs⟩) (⟨by dsimp only; omega, hI.2.2⟩) (.inl rfl) (r2 rfl rfl rfl) (List.Sublist.refl _)
end Go.Proofs.YtkkjfojgjmglpaaGreatDoor
set_option linter.unusedSimpArgs false
set_option linter.unusedVariables false
namespace Go.Proofs.YtkkjfojgjmglpaaGreatDoor
open Go
attribute [local irreducible] sealL tapeN tapeL lkName dfName preB
variable {hk mk tl : List UInt8} {s t : Sh} {x : Lk} {now c p N : Nat} {vl : Value}
def Lst (hk mk : List UInt8) (s : Sh) (now : Nat) (L : List (List UInt8 × Mk)) : Prop := ∀ n m, HasL hk mk s now n m ↔ (n, m) ∈ L
theorem vw_new {r : Nat} {n : List UInt8} : vw (newS r) n = none := vw_none.2 (fun h => nomatch h)
theorem lst_new {r : Nat} : Lst hk mk (newS r) now [] := fun n m => ⟨fun h => (by obtain ⟨_, _, b, h, _⟩ := h; rw [vw_new] at h; cases h), fun h => nomatch h⟩
theorem lkw_new {r : Nat} : LkW hk mk (newS r) now := fun n b h => by rw [vw_new] at h; cases h
theorem qt_new : Qt (newS 100000) 0 := ⟨⟨rfl, rfl⟩, rfl, (fun _ h => nomatch h), Nat.le_refl _⟩
theorem at_new {r : Nat} (hr : r ≤ 1073741824) : ShAt (newS r) 0 :=
  ⟨List.nodup_nil, ⟨by show -1 ≤ (-1 : Int); omega, by show (-1 : Int) < _; omega⟩, ⟨Int.le_refl _, Int.le_refl _⟩, ⟨by show (0 : Int) ≤ (r : Int); omega, by show (r : Int) ≤ _; omega⟩, by show ((0 : Nat) : Int) ≤ (r : Int); omega, Nat.zero_le _, (fun _ h => nomatch h), (fun _ h => nomatch h)⟩
theorem HasL.later {d : Nat} {n : List UInt8} {m : Mk} (h : HasL hk mk s now n m) : HasL hk mk s (now + d) n m := by
  obtain ⟨h1, h2, b, h3, h4, h5, h6⟩ := h
  exact ⟨h1, h2, b, h3, h4, by omega, h6⟩
theorem Lst.later {L : List (List UInt8 × Mk)} {d : Nat} (h : Lst hk mk s now L) (hW : LkW hk mk s now) (hd : now + d ≤ 1099511627776) : Lst hk mk s (now + d) L := fun n m => by
  refine ⟨fun q => ?_, fun q => ((h n m).2 q).later⟩
  obtain ⟨h1, h2, b, h3, h4⟩ := q
  obtain ⟨m', h5⟩ := hW.has (vw_some.1 h3).1 h2
  have : m = m' := HasL.one hd ⟨h1, h2, b, h3, h4⟩ h5.later
  rw [this]; exact (h n m').1 h5
theorem conf_lst {L : List (List UInt8 × Mk)} {cl : Nat} {b : Bool} (h : Lst hk mk s now L) : Conf hk mk s now cl b ↔ ∃ q ∈ L, ¬ q.2.c = cl ∧ holdsP now q.2 ∧ (b = true ∨ q.2.a = true) :=
  ⟨fun ⟨n, m, h1, h2⟩ => ⟨(n, m), (h n m).1 h1, h2⟩, fun ⟨q, h1, h2⟩ => ⟨q.1, q.2, (h q.1 q.2).2 h1, h2⟩⟩
theorem HasL.ne_df {n : List UInt8} {m : Mk} {cl : Nat} (h : HasL hk mk s now n m) : n ≠ dfName cl := fun e => by
  have := h.2.1
  rw [e, dfName_pre] at this; cases this
theorem lst_f {L : List (List UInt8 × Mk)} {cl j : Nat} (hnow : now ≤ 1099511627776) (h : Lst hk mk s now L) (hn : ∀ q ∈ L, q.1 ≠ lkName cl j) (hq : TkQ hk mk s t now cl j false) : Lst hk mk t now ((lkName cl j, ⟨cl, false, now⟩) :: L) := fun n m => by
  constructor
  · intro q
    by_cases e : n = lkName cl j
    · subst e; rw [q.one hnow hq.mine]; exact List.mem_cons_self ..
    · rcases hq.keep n q.ne_df e with r | r
      · exact List.mem_cons_of_mem _ ((h n m).1 (q.vw r.symm))
      · cases r.2.1
  · intro q
    rcases List.mem_cons.1 q with q | q
    · cases q; exact hq.mine
    · have h1 := (h n m).2 q
      rcases hq.keep n h1.ne_df (hn _ q) with r | r
      · exact h1.vw r
      · cases r.2.1
theorem lst_t {L : List (List UInt8 × Mk)} {cl j : Nat} (hnow : now ≤ 1099511627776) (h : Lst hk mk s now L) (hn : ∀ q ∈ L, q.1 ≠ lkName cl j → ¬ q.2.c = cl) (hq : TkQ hk mk s t now cl j true) : Lst hk mk t now [(lkName cl j, ⟨cl, true, now⟩)] := fun n m => by
  constructor
  · intro q
    by_cases e : n = lkName cl j
    · subst e; rw [q.one hnow hq.mine]; exact List.mem_cons_self ..
    · exfalso
      have h2 : HasL hk mk s now n m := by
        rcases hq.keep n q.ne_df e with r | r
        · exact q.vw r.symm
        · obtain ⟨_, _, b, h3, _⟩ := q; rw [r.1] at h3; cases h3
      have h3 := hq.alone rfl n m h2 (hn _ ((h n m).1 h2) e) e
      obtain ⟨_, _, b, h4, _⟩ := q
      rw [h3] at h4; cases h4
  · intro q
    rw [List.mem_singleton] at q; cases q; exact hq.mine
/-- another hand at the same store -/
theorem li_other {k : Int} {j j' : Nat} {y : Lk} (h : LI hk mk s x now k j) (h1 : y.cl < 100) (h2 : y.made ≤ j') (h3 : y.asks = 0) (h4 : y.next = []) : LI hk mk s y now k j' := ⟨h.at_, h.ok, h1, h2, by rw [h4]; exact Nat.zero_lt_succ _, fun q => by omega⟩
theorem three_of {α : Type} : ∀ {l : List α}, l.length = 3 → ∃ a b c, l = [a, b, c]
  | [a, b, c], _ => ⟨a, b, c, rfl⟩
end Go.Proofs.YtkkjfojgjmglpaaGreatDoor
set_option linter.unusedSimpArgs false
set_option linter.unusedVariables false
namespace Go.Proofs.YtkkjfojgjmglpaaGreatDoor
open Go Go.RowKit
set_option maxRecDepth 100000
set_option maxHeartbeats 1000000
attribute [local irreducible] sumL keyedL hexL strL sealF sealL tapeL tapeN lkName dfName preB
section
variable {s : Sh} {c p e : Nat} {vl : Value} {q : St5}
theorem TkI.took {hk mk tl : List UInt8} {now : Nat} {u q : St5} {k : Int} {j e : Nat} (h : TkI hk mk tl now u k j q true e) : Took hk mk tl now u q e ∧ LI hk mk q.s q.x now (k + 8020) (j + 4) := by
  rcases h with h | h
  · cases h.1
  · exact ⟨h.2.1, h.2.2.1⟩
theorem TkI.tape {hk mk tl : List UInt8} {now : Nat} {u q : St5} {k : Int} {j e : Nat} (h : TkI hk mk tl now u k j q true e) : q.p ≤ u.p + 64 ∧ q.p ≤ 32 * q.c ∧ 32 * q.c < q.p + 32 := by
  rcases h with h | h
  · cases h.1
  · exact h.2.2.2
abbrev L00 : List UInt8 × Mk := (lkName 0 0, ⟨0, false, 0⟩)
abbrev L10 : List UInt8 × Mk := (lkName 1 0, ⟨1, false, 0⟩)
theorem bars1 (hL : LI (rq 1) (rq 2) (newS 100000) (lk0 0) 0 0 0) (hz : TkI (rq 1) (rq 2) [0] 0 ⟨newS 100000, (lk0 0).asked false, 0, 0, vl⟩ 0 0 q true e) : e = 0 ∧ Qt q.s 1 ∧ q.x = (lk0 0).has false 0 ∧ Lst (rq 1) (rq 2) q.s 0 [L00] ∧ LI (rq 1) (rq 2) q.s (lk0 1) 0 8020 0 := by
  obtain ⟨h1, h2⟩ := hz.took
  rcases take_q hL oM oM qt_new oM ⟨Nat.le_refl _, by omega⟩ rfl h1 with ⟨hc, _⟩ | ⟨_, h3, h4, h5, h6⟩
  · obtain ⟨_, h, _⟩ := (conf_lst lst_new).1 hc; cases h
  · exact ⟨h3, h4, h5, lst_f oM lst_new (fun _ h => nomatch h) h6, li_other h2 dC (Nat.le_refl _) rfl rfl⟩
theorem bars2 (hL : LI (rq 1) (rq 2) s (lk0 1) 0 8020 0) (hQ : Qt s 1) (hS : Lst (rq 1) (rq 2) s 0 [L00]) (hz : TkI (rq 1) (rq 2) [1] 0 ⟨s, (lk0 1).asked false, 0, 0, vl⟩ 8020 0 q true e) : e = 0 ∧ Qt q.s 2 ∧ q.x = (lk0 1).has false 0 ∧ Lst (rq 1) (rq 2) q.s 0 [L10, L00] ∧ LI (rq 1) (rq 2) q.s (lk0 2) 0 16040 0 := by
  obtain ⟨h1, h2⟩ := hz.took
  rcases take_q hL oM oM hQ oM ⟨Nat.le_refl _, by omega⟩ rfl h1 with ⟨hc, _⟩ | ⟨_, h3, h4, h5, h6⟩
  · obtain ⟨r, h, _, _, h7⟩ := (conf_lst hS).1 hc
    rw [List.mem_singleton] at h; subst h
    rcases h7 with h7 | h7 <;> cases h7
  · refine ⟨h3, h4, h5, lst_f oM hS (fun r h => ?_) h6, li_other h2 dC (Nat.le_refl _) rfl rfl⟩
    rw [List.mem_singleton] at h; subst h
    exact fun e => absurd (lkName_inj oM dC oM dC e).1 dC
theorem bars3 (hL : LI (rq 1) (rq 2) s (lk0 2) 0 16040 0) (hQ : Qt s 2) (hS : Lst (rq 1) (rq 2) s 0 [L10, L00]) (hz : TkI (rq 1) (rq 2) [2] 0 ⟨s, (lk0 2).asked true, 0, 0, vl⟩ 16040 0 q true e) : e = 12 ∧ Qt q.s 2 ∧ q.x = (lk0 2).not true ∧ Lst (rq 1) (rq 2) q.s 1001 [L10, L00] ∧ LI (rq 1) (rq 2) q.s q.x 1001 24060 4 := by
  obtain ⟨h1, h2⟩ := hz.took
  rcases take_q hL oM oM hQ oM ⟨Nat.le_refl _, by omega⟩ rfl h1 with ⟨_, h3, h4, h5⟩ | ⟨hc, _⟩
  · refine ⟨h3, by rw [h4]; exact hQ, h5, by rw [h4]; exact hS.later (d := 1001) hL.ok oM, ⟨h2.at_, h2.ok.later (d := 1001), h2.cl, h2.md, h2.nx, fun q => by rw [h5] at q; cases q⟩⟩
  · exact (hc ((conf_lst hS).2 ⟨L00, by simp, by decide, by decide, .inl rfl⟩)).elim
theorem bars4 {x : Lk} (hL : LI (rq 1) (rq 2) s x 1001 24060 4) (hQ : Qt s 2) (hS : Lst (rq 1) (rq 2) s 1001 [L10, L00]) (hx : x = (lk0 2).not true) (hI0 : p ≤ 32 * c ∧ 32 * c < p + 32) (hz : TkI (rq 1) (rq 2) [2] 1001 ⟨s, x.asked true, c, p, vl⟩ 24060 4 q true e) : e = 0 := by
  obtain ⟨h1, h2⟩ := hz.took
  subst hx
  rcases take_q hL oM oM hQ oM hI0 rfl h1 with ⟨hc, _⟩ | ⟨_, h3, _⟩
  · obtain ⟨r, h, _, h8, _⟩ := (conf_lst hS).1 hc
    simp only [List.mem_cons, List.not_mem_nil, or_false] at h
    rcases h with rfl | rfl <;> exact absurd h8 dC
  · exact h3
end
theorem bars_spec {w : World} (hg : Ro (Fs []) w glob) : Spec Tryz.prog 37 [] w [] (fun _ : Unit => True) (fun _ => .bool true) (fun _ => []) := by
  refine spec_of (n := 55) Tryz.func37 rfl rfl trivial trivial rfl <| s_r <| q_a rfl rfl <| s_n <| s_r <| tk_act rfl <| a_callv [] _ rfl kR rfl (fun w' hw' => found_spec (n := 3) lenP) rfl fun ⟨sb, mb, kb, tw, vo, cs⟩ hz4 => ?_
  dsimp only at hz4 ⊢
  refine tk_own1 (mm 1 rfl) fun hfo => ?_
  obtain ⟨hcl3, hfr⟩ := hz4
  obtain ⟨k0, k1, k2, rfl⟩ := three_of hcl3
  have f0 := hfr 0 sI
  have f1 := hfr 1 sI
  have f2 := hfr 2 sI
  obtain ⟨lb0, tb0, vb0, xx0, tl0, cc0, pp0, vl0⟩ := k0
  obtain ⟨lb1, tb1, vb1, xx1, tl1, cc1, pp1, vl1⟩ := k1
  obtain ⟨lb2, tb2, vb2, xx2, tl2, cc2, pp2, vl2⟩ := k2
  obtain ⟨rfl, rfl, rfl, rfl⟩ := f0
  obtain ⟨rfl, rfl, rfl, rfl⟩ := f1
  obtain ⟨rfl, rfl, rfl, rfl⟩ := f2
  refine tk_R (H1 := [_]) (r' := own vo ([lb0, lb1, lb2].length) ([lb0, lb1, lb2].map PT) 91 1) rfl rfl ?_
  have hli0 : LI (rq 1) (rq 2) (newS 100000) (lk0 0) 0 0 0 := ⟨at_new oM, lkw_new, by decide, Nat.le_refl _, by decide, fun q => by cases q⟩
  refine tk_ps [6] rfl <| tk_teamOut <| tk_H ([cel lb0 ((rq 1).map B ++ ((rq 2).map B ++ ((List.replicate 32 0).map B ++ ([PT tb0, PT sb, PT kb, I (((lk0 0).cl : Nat) : Int), I (((lk0 0).made : Nat) : Int), Str ((lk0 0).own), I (((lk0 0).asks : Nat) : Int), .bool ((lk0 0).want), Str ((lk0 0).next), .bool ((lk0 0).shown), I (((lk0 0).m.c : Nat) : Int), .bool ((lk0 0).m.a), I (((lk0 0).m.t : Nat) : Int)])))) 182, cel tb0 ([vb0, .int .u64 (((0 : Nat) : Nat) : Int), vl0]) 201, ownB vb0 [0] 5, ownB vl0 ((tapeL [0] (0 : Nat)).drop (0 : Nat)) 5, cel lb1 ((rq 1).map B ++ ((rq 2).map B ++ ((List.replicate 32 0).map B ++ ([PT tb1, PT sb, PT kb, I (((lk0 1).cl : Nat) : Int), I (((lk0 1).made : Nat) : Int), Str ((lk0 1).own), I (((lk0 1).asks : Nat) : Int), .bool ((lk0 1).want), Str ((lk0 1).next), .bool ((lk0 1).shown), I (((lk0 1).m.c : Nat) : Int), .bool ((lk0 1).m.a), I (((lk0 1).m.t : Nat) : Int)])))) 182, cel tb1 ([vb1, .int .u64 (((0 : Nat) : Nat) : Int), vl1]) 201, ownB vb1 [1] 5, ownB vl1 ((tapeL [1] (0 : Nat)).drop (0 : Nat)) 5, cel lb2 ((rq 1).map B ++ ((rq 2).map B ++ ((List.replicate 32 0).map B ++ ([PT tb2, PT sb, PT kb, I (((lk0 2).cl : Nat) : Int), I (((lk0 2).made : Nat) : Int), Str ((lk0 2).own), I (((lk0 2).asks : Nat) : Int), .bool ((lk0 2).want), Str ((lk0 2).next), .bool ((lk0 2).shown), I (((lk0 2).m.c : Nat) : Int), .bool ((lk0 2).m.a), I (((lk0 2).m.t : Nat) : Int)])))) 182, cel tb2 ([vb2, .int .u64 (((0 : Nat) : Nat) : Int), vl2]) 201, ownB vb2 [2] 5, ownB vl2 ((tapeL [2] (0 : Nat)).drop (0 : Nat)) 5, cel tw ([PT sb, PT kb, vo]) 97, own vo ([lb0, lb1, lb2].length) ([lb0, lb1, lb2].map PT) 91 1, cel kb ([I 0]) 178, cel sb ([Value.map (some mb), I ((newS 100000).left), .bool ((newS 100000).off), I ((newS 100000).made), I ((newS 100000).room)]) 192, mapS mb (kvO ((newS 100000).obs)), bag (((newS 100000).obs).map (obR 5))]) rfl <| q_m rfl rfl <| s_q rfl (y_extract rfl rfl) <| s_q rfl (y_extract rfl rfl) <| q_a rfl rfl <| q_a rfl rfl <| s_n <| tk_seq <| s_r <| q_m rfl rfl <| s_q rfl (y_not rfl) <| q_m rfl rfl <| s_g rfl (y_move rfl) <| s_g rfl (y_nilCheck rfl) <| s_g rfl (y_fldN (o := 0) 2 rfl kR) <| s_g rfl (y_load rfl rfl (hc (o := 2) (mm 12 rfl) (rfl))) <| s_g rfl (y_ixR (j := 0) rfl rfl hfo.choose_spec lenP kR) <| s_g rfl (y_load rfl rfl (fun w hw => ((fun w hw => own_rdS (hw.mem (mm 13 rfl))) w hw).cell (gM (f := PT) (d := 0) lenP))) <| tk_re 15 (.pointer (some ⟨[lb0, lb1, lb2].getD 0 0, 0, none⟩)) (PT lb0) rfl (rfl) <| tk_gact rfl <| tk_ps [3, 3, 3, 17, 17, 17, 17, 7] rfl <| a_callv [] _ rfl kR rfl (fun w' hw' => ltake_spec (b := false) (s := (newS 100000)) (k := 0) (now := 0) (mb := mb) (c := (0 : Nat)) (p := (0 : Nat)) (j := 0) (tl := [0]) (vb := vb0) (vl := vl0) (x := (lk0 0)) (hk := rq 1) (mk := rq 2) (nk := List.replicate 32 0) (tb := tb0) (sb := sb) (kb := kb) (lb := lb0) ⟨lenP, lenP, lenP⟩ ⟨rfl, rfl⟩ hli0 oM oM oM ⟨by omega, by omega⟩ oM dC (hg.call hw') (St.pre hw')) rfl fun ⟨⟨s16, x16, c16, p16, vl_16⟩, e16⟩ hz16 => ?_
  dsimp only at hz16 ⊢
  obtain ⟨he16, hq16, hx16, hl16, hli1⟩ := bars1 hli0 hz16
  dsimp only at hq16 hx16 hl16 hli1
  refine tk_gqe (.bool false) rfl rfl rfl (y_neq rfl rfl) (bool_f oM) <| s_q rfl (y_pick0 rfl rfl) <| q_m rfl rfl <| s_g rfl (y_move rfl) <| s_g rfl (y_nilCheck rfl) <| s_g rfl (y_fldN (o := 0) 2 rfl kR) <| s_g rfl (y_load rfl rfl (hc (o := 2) (mm 16 rfl) (rfl))) <| s_g rfl (y_ixR (j := 1) rfl rfl hfo.choose_spec lenP kR) <| s_g rfl (y_load rfl rfl (fun w hw => ((fun w hw => own_rdS (hw.mem (mm 17 rfl))) w hw).cell (gM (f := PT) (d := 0) lenP))) <| tk_re 25 (.pointer (some ⟨[lb0, lb1, lb2].getD 1 0, 0, none⟩)) (PT lb1) rfl (rfl) <| tk_gact rfl <| tk_ps [11, 11, 11, 7, 7, 7, 7, 11] rfl <| a_callv [] _ rfl kR rfl (fun w' hw' => ltake_spec (b := false) (s := s16) (k := 8020) (now := 0) (mb := mb) (c := (0 : Nat)) (p := (0 : Nat)) (j := 0) (tl := [1]) (vb := vb1) (vl := vl1) (x := (lk0 1)) (hk := rq 1) (mk := rq 2) (nk := List.replicate 32 0) (tb := tb1) (sb := sb) (kb := kb) (lb := lb1) ⟨lenP, lenP, lenP⟩ ⟨rfl, rfl⟩ hli1 oM oM oM ⟨by omega, by omega⟩ oM dC (hg.call hw') (St.pre hw')) rfl fun ⟨⟨s26, x26, c26, p26, vl_26⟩, e26⟩ hz26 => ?_
  dsimp only at hz26 ⊢
  obtain ⟨he26, hq26, hx26, hl26, hli2⟩ := bars2 hli1 hq16 hl16 hz26
  dsimp only at hq26 hx26 hl26 hli2
  refine tk_gqe (.bool false) rfl rfl rfl (y_neq rfl rfl) (bool_f oM) <| s_q rfl (y_pick0 rfl rfl) <| q_m rfl rfl <| s_g rfl (y_move rfl) <| s_g rfl (y_nilCheck rfl) <| s_g rfl (y_fldN (o := 0) 2 rfl kR) <| s_g rfl (y_load rfl rfl (hc (o := 2) (mm 16 rfl) (rfl))) <| s_g rfl (y_ixR (j := 2) rfl rfl hfo.choose_spec lenP kR) <| s_g rfl (y_load rfl rfl (fun w hw => ((fun w hw => own_rdS (hw.mem (mm 17 rfl))) w hw).cell (gM (f := PT) (d := 0) lenP))) <| tk_re 35 (.pointer (some ⟨[lb0, lb1, lb2].getD 2 0, 0, none⟩)) (PT lb2) rfl (rfl) <| tk_gact rfl <| tk_ps [15, 15, 15, 7, 7, 7, 7, 15] rfl <| a_callv [] _ rfl kR rfl (fun w' hw' => ltake_spec (b := true) (s := s26) (k := 16040) (now := 0) (mb := mb) (c := (0 : Nat)) (p := (0 : Nat)) (j := 0) (tl := [2]) (vb := vb2) (vl := vl2) (x := (lk0 2)) (hk := rq 1) (mk := rq 2) (nk := List.replicate 32 0) (tb := tb2) (sb := sb) (kb := kb) (lb := lb2) ⟨lenP, lenP, lenP⟩ ⟨rfl, rfl⟩ hli2 oM oM oM ⟨by omega, by omega⟩ oM dC (hg.call hw') (St.pre hw')) rfl fun ⟨⟨s36, x36, c36, p36, vl_36⟩, e36⟩ hz36 => ?_
  dsimp only at hz36 ⊢
  obtain ⟨he36, hq36, hx36, hl36, hli3⟩ := bars3 hli2 hq26 hl26 hz36
  dsimp only at hq36 hx36 hl36 hli3
  have hp36 : p36 ≤ 0 + 64 := hz36.tape.1
  refine tk_gqe (.bool false) rfl rfl rfl (y_neq rfl rfl) (bool_f oM) <| s_q rfl (y_pick0 rfl rfl) <| q_m rfl rfl <| s_g rfl (y_move rfl) <| s_g rfl (y_nilCheck rfl) <| s_g rfl (y_fldN (o := 0) 1 rfl kR) <| s_g rfl (y_load rfl rfl (hc (o := 1) (mm 16 rfl) (rfl))) <| tk_gact rfl <| tk_ps [1] rfl <| a_callv [] _ rfl kR rfl (fun w' hw' => tick_spec (now := 0) (n := 1001) (kb := kb) lenP (St.pre hw')) rfl fun _ _ => s_g rfl ((y_neq rfl rfl).cast (bool_f dC)) <| s_q rfl (y_pick0 rfl rfl) <| s_n <| tk_cond0 rfl <| tk_skip <| tk_then <| s_r <| q_m rfl rfl <| s_q rfl (y_nilCheck rfl) <| s_q rfl (y_fldN (o := 0) 2 rfl kR) <| s_q rfl (y_load rfl rfl (hc (o := 2) (mm 16 rfl) (rfl))) <| s_q rfl (y_ixR (j := 2) rfl rfl hfo.choose_spec lenP kR) <| s_q rfl (y_load rfl rfl (fun w hw => ((fun w hw => own_rdS (hw.mem (mm 17 rfl))) w hw).cell (gM (f := PT) (d := 0) lenP))) <| tk_re 52 (.pointer (some ⟨[lb0, lb1, lb2].getD 2 0, 0, none⟩)) (PT lb2) rfl (rfl) ?_; refine tk_act rfl <| tk_ps [7, 7, 7, 7, 7, 7, 6, 7] rfl <| a_callv [] _ rfl kR rfl (fun w' hw' => ltake_spec (b := true) (s := s36) (k := 24060) (now := 1001) (mb := mb) (c := c36) (p := p36) (j := 4) (tl := [2]) (vb := vb2) (vl := vl_36) (x := x36) (hk := rq 1) (mk := rq 2) (nk := List.replicate 32 0) (tb := tb2) (sb := sb) (kb := kb) (lb := lb2) ⟨lenP, lenP, lenP⟩ ⟨by rw [hx36]; rfl, by rw [hx36]; rfl⟩ hli3 oM oM oM ⟨hz36.tape.2.1, hz36.tape.2.2⟩ oM dC (hg.call hw') (St.pre hw')) rfl fun ⟨⟨s53, x53, c53, p53, vl_53⟩, e53⟩ hz53 => ?_
  dsimp only at hz53 ⊢
  have he53 := bars4 hli3 hq36 hl36 hx36 ⟨hz36.tape.2.1, hz36.tape.2.2⟩ hz53
  exact tk_qe (.bool true) rfl rfl rfl (y_eql rfl rfl) (bool_t oM) <| q_a rfl rfl <| s_n <| tk_retc <| tk_ret (()) (trivial) (.inl rfl) (r1 rfl rfl) (List.nil_sublist _)
end Go.Proofs.YtkkjfojgjmglpaaGreatDoor
set_option linter.unusedSimpArgs false
set_option linter.unusedVariables false
namespace Go.Proofs.YtkkjfojgjmglpaaGreatDoor
open Go
attribute [local irreducible] sealL tapeN tapeL lkName dfName preB
variable {hk mk tl : List UInt8} {s t : Sh} {x : Lk} {now c p N : Nat} {k : Int} {vl : Value} {L : List (List UInt8 × Mk)}
structure Wd (hk mk : List UInt8) (s : Sh) (now : Nat) (k : Int) (N : Nat) (L : List (List UInt8 × Mk)) : Prop where
  at_ : ShAt s k
  ok : LkW hk mk s now
  qt : Qt s N
  lst : Lst hk mk s now L
/-- a hand that asks for nothing -/
structure Rest (x : Lk) : Prop where
  cl : x.cl < 100
  asks : x.asks = 0
  next : x.next = []
  shown : x.shown = false
theorem Wd.mono {k' : Int} {N' : Nat} (h : Wd hk mk s now k N L) (hk' : k ≤ k') (hN : N ≤ N') : Wd hk mk s now k' N' L := ⟨h.at_.mono hk', h.ok, h.qt.mono hN, h.lst⟩
theorem Wd.li {j : Nat} (h : Wd hk mk s now k N L) (r : Rest x) (hm : x.made ≤ j) : LI hk mk s x now k j := ⟨h.at_, h.ok, r.cl, hm, by rw [r.next]; exact Nat.zero_lt_succ _, fun q => by rw [r.asks] at q; cases q⟩
theorem Wd.later {d : Nat} (h : Wd hk mk s now k N L) (hd : now + d ≤ 1099511627776) : Wd hk mk s (now + d) k N L := ⟨h.at_, h.ok.later, h.qt, h.lst.later h.ok hd⟩
theorem wd_new : Wd hk mk (newS 100000) now 0 0 [] := ⟨at_new (by omega), lkw_new, qt_new, lst_new⟩
theorem rest_not {b : Bool} (r : Rest x) : Rest (x.not b) := ⟨r.cl, rfl, rfl, rfl⟩
theorem wd_no {j e : Nat} {b : Bool} {q : St5} (h : Wd hk mk s now k N L) (r : Rest x) (hm : x.made ≤ j) (hj : j < 90) (hnow : now ≤ 1099511627776) (hN : N < 400) (hI0 : p ≤ 32 * c ∧ 32 * c < p + 32) (hc : ∃ q ∈ L, ¬ q.2.c = x.cl ∧ holdsP now q.2 ∧ (b = true ∨ q.2.a = true))
    (hz : TkI hk mk tl now ⟨s, x.asked b, c, p, vl⟩ k j q true e) : e = 12 ∧ q.s = s ∧ q.x = x.not b := by
  obtain ⟨h1, _⟩ := hz.took
  rcases take_q (h.li r hm) hj hnow h.qt hN hI0 r.shown h1 with ⟨_, h2, h3, h4⟩ | ⟨h2, _⟩
  · exact ⟨h2, h3, h4⟩
  · exact (h2 ((conf_lst h.lst).2 hc)).elim
theorem wd_f {j e : Nat} {q : St5} (h : Wd hk mk s now k N L) (r : Rest x) (hm : x.made ≤ j) (hj : j < 90) (hnow : now ≤ 1099511627776) (hN : N < 400) (hI0 : p ≤ 32 * c ∧ 32 * c < p + 32) (hc : ¬ ∃ q ∈ L, ¬ q.2.c = x.cl ∧ holdsP now q.2 ∧ (false = true ∨ q.2.a = true)) (hn : ∀ q ∈ L, q.1 ≠ lkName x.cl x.made)
    (hz : TkI hk mk tl now ⟨s, x.asked false, c, p, vl⟩ k j q true e) : e = 0 ∧ q.x = x.has false now ∧ Wd hk mk q.s now (k + 8020) (N + 1) ((lkName x.cl x.made, ⟨x.cl, false, now⟩) :: L) := by
  obtain ⟨h1, h9⟩ := hz.took
  rcases take_q (h.li r hm) hj hnow h.qt hN hI0 r.shown h1 with ⟨h2, _⟩ | ⟨_, h2, h3, h4, h5⟩
  · exact (hc ((conf_lst h.lst).1 h2)).elim
  · exact ⟨h2, h4, ⟨h9.at_, h9.ok, h3, lst_f hnow h.lst hn h5⟩⟩
theorem wd_t {j e : Nat} {q : St5} (h : Wd hk mk s now k N L) (r : Rest x) (hm : x.made ≤ j) (hj : j < 90) (hnow : now ≤ 1099511627776) (hN : N < 400) (hI0 : p ≤ 32 * c ∧ 32 * c < p + 32) (hc : ¬ ∃ q ∈ L, ¬ q.2.c = x.cl ∧ holdsP now q.2 ∧ (true = true ∨ q.2.a = true)) (hn : ∀ q ∈ L, q.1 ≠ lkName x.cl x.made → ¬ q.2.c = x.cl)
    (hz : TkI hk mk tl now ⟨s, x.asked true, c, p, vl⟩ k j q true e) : e = 0 ∧ q.x = x.has true now ∧ Wd hk mk q.s now (k + 8020) (N + 1) [(lkName x.cl x.made, ⟨x.cl, true, now⟩)] := by
  obtain ⟨h1, h9⟩ := hz.took
  rcases take_q (h.li r hm) hj hnow h.qt hN hI0 r.shown h1 with ⟨h2, _⟩ | ⟨_, h2, h3, h4, h5⟩
  · exact (hc ((conf_lst h.lst).1 h2)).elim
  · exact ⟨h2, h4, ⟨h9.at_, h9.ok, h3, lst_t hnow h.lst hn h5⟩⟩
theorem HasL.has {n : List UInt8} {m : Mk} (h : HasL hk mk s now n m) : hasO s.obs n := by obtain ⟨_, _, b, h, _⟩ := h; exact (vw_some.1 h).1
theorem wd_del {n : List UInt8} (h : Wd hk mk s now k N L) (hn : ∃ m, (n, m) ∈ L) : (s.del n).2 = 0 ∧ Wd hk mk (s.del n).1 now (k + 1) N (L.filter (fun q => !decide (q.1 = n))) := by
  obtain ⟨m, hm⟩ := hn
  obtain ⟨_, h1, h2⟩ := del_q (a := n) h.qt
  have h1 := h1 ((h.lst n m).2 hm).has
  refine ⟨h1, ⟨at_del h.at_, h.ok.sub (fun _ _ => sub_del), h2, fun a b => ?_⟩⟩
  have hv : vw (s.del n).1 a = if a = n then none else vw s a := by rw [vw_del]; simp [h1]
  rw [List.mem_filter]
  constructor
  · intro q
    have hne : a ≠ n := fun e => by obtain ⟨_, _, bb, q, _⟩ := q; rw [hv, if_pos e] at q; cases q
    rw [if_neg hne] at hv
    exact ⟨(h.lst a b).1 (q.vw hv.symm), by simpa using hne⟩
  · rintro ⟨q1, q2⟩
    have hne : a ≠ n := by simpa using q2
    rw [if_neg hne] at hv
    exact ((h.lst a b).2 q1).vw hv
theorem get_has {n : List UInt8} (h : Qt s N) (hn : hasO s.obs n) : (s.get n).1 = 0 := by rw [Sh.get, if_neg h.off, if_neg (fun q => q hn)]
theorem wd_renew {z : Stp} (h : Wd hk mk s now k N L) (r : Rest x) (hm : x.made < 100) (hnow : now ≤ 1099511627776) (hN : N < 400) (hown : ∃ m, (x.own, m) ∈ L) (hne : x.own ≠ lkName x.cl x.made) (hn : ∀ q ∈ L, q.1 ≠ lkName x.cl x.made) (hh : holdsP now x.m) (hz : RenR hk mk tl s x now c p vl z) :
    z.e = 0 ∧ z.y = x.rnw now ∧ Wd hk mk z.t now (k + 9) (N + 1) ((lkName x.cl x.made, ⟨x.cl, x.m.a, now⟩) :: L.filter (fun q => !decide (q.1 = x.own))) ∧ z.p ≤ p + 16 ∧ z.p ≤ 32 * z.c ∧ 32 * z.c < z.p + 32 := by
  obtain ⟨m0, hm0⟩ := hown
  have ho := ((h.lst x.own m0).2 hm0).has
  have hg := get_has h.qt ho
  have hcl := r.cl
  rcases hz with ⟨q, _⟩ | ⟨q, _⟩ | ⟨_, _, c', vl', v, hc', hz⟩
  · rcases q with q | q
    · exact (q hh).elim
    · omega
  · exact (q hg).elim
  · obtain ⟨w1, w2⟩ := write_q (v := v) h.qt (dfName_nm hcl).1 (seal_small (hk := hk) (mk := mk) (tl := tl) (n := lkName x.cl x.made) (p := p) (m := ⟨x.cl, x.m.a, now⟩) ⟨hcl, hnow⟩) hN
    have w3 := write_ok w1
    obtain ⟨u1, u2, u3, u4⟩ := show_q w2 (vw_some.1 w3).1 (lkName_nm hcl hm) (df_lk (c := x.cl) (d := x.cl) (n := x.made))
    rcases hz with ⟨q, _⟩ | ⟨_, ⟨q, _⟩ | ⟨_, rfl⟩⟩
    · exact (q w1).elim
    · exact (q u1).elim
    · -- between: the new lock is there, and all that was
      have v1 : ∀ n, n ≠ dfName x.cl → n ≠ lkName x.cl x.made → vw (showF (writeF s (dfName x.cl) v (sealL hk mk 108 (lkName x.cl x.made) (tapeN tl p 16) (mkY ⟨x.cl, x.m.a, now⟩))).1 (dfName x.cl) (lkName x.cl x.made)).1 n = vw s n := fun n q1 q2 => by rw [vw_show df_lk q1 q2, vw_write q1]
      have mine : HasL hk mk (showF (writeF s (dfName x.cl) v (sealL hk mk 108 (lkName x.cl x.made) (tapeN tl p 16) (mkY ⟨x.cl, x.m.a, now⟩))).1 (dfName x.cl) (lkName x.cl x.made)).1 now (lkName x.cl x.made) ⟨x.cl, x.m.a, now⟩ :=
        ⟨name_small hcl, lkName_pre, _, u3.trans w3, hcl, Nat.le_refl _, _, tapeN_len, rfl⟩
      have wd2 : Wd hk mk (showF (writeF s (dfName x.cl) v (sealL hk mk 108 (lkName x.cl x.made) (tapeN tl p 16) (mkY ⟨x.cl, x.m.a, now⟩))).1 (dfName x.cl) (lkName x.cl x.made)).1 now (k + 8) (N + 1) ((lkName x.cl x.made, ⟨x.cl, x.m.a, now⟩) :: L) := by
        refine ⟨(at_show (at_write h.at_)).mono (by omega), fun n b hb hp => ?_, u2, fun n m => ?_⟩
        · by_cases e : n = lkName x.cl x.made
          · subst e
            obtain ⟨m1, m2, b2, m3, m4⟩ := mine
            rw [hb] at m3; cases m3
            exact ⟨m1, _, m4⟩
          · have hd : n ≠ dfName x.cl := fun e => by rw [e, dfName_pre] at hp; cases hp
            exact h.ok n b (by rw [← v1 n hd e]; exact hb) hp
        · constructor
          · intro q
            by_cases e : n = lkName x.cl x.made
            · subst e; rw [q.one hnow mine]; exact List.mem_cons_self ..
            · exact List.mem_cons_of_mem _ ((h.lst n m).1 (q.vw (v1 n q.ne_df e).symm))
          · intro q
            rcases List.mem_cons.1 q with q | q
            · cases q; exact mine
            · have h1 := (h.lst n m).2 q
              exact h1.vw (v1 n h1.ne_df (hn _ q))
      obtain ⟨d1, d2⟩ := wd_del wd2 ⟨m0, List.mem_cons_of_mem _ hm0⟩
      refine ⟨?_, rfl, ?_, Nat.le_refl _, hc'⟩
      · show relE _ = 0; rw [d1]; rfl
      · have e : ((lkName x.cl x.made, (⟨x.cl, x.m.a, now⟩ : Mk)) :: L).filter (fun q => !decide (q.1 = x.own)) = (lkName x.cl x.made, ⟨x.cl, x.m.a, now⟩) :: L.filter (fun q => !decide (q.1 = x.own)) := by
          rw [List.filter_cons, if_pos (by simpa using fun e => hne e.symm)]
        rw [e] at d2
        exact d2.mono (by omega) (Nat.le_refl _)
end Go.Proofs.YtkkjfojgjmglpaaGreatDoor
set_option linter.unusedSimpArgs false
set_option linter.unusedVariables false
namespace Go.Proofs.YtkkjfojgjmglpaaGreatDoor
open Go Go.RowKit
set_option maxRecDepth 100000
set_option maxHeartbeats 1000000
attribute [local irreducible] sumL keyedL hexL strL sealF sealL tapeL tapeN lkName dfName preB
def modU (z : Int) : Nat := (z % 18446744073709551616).toNat
section
variable {L : Sl} {P : Program} {n : Nat} {S : World → Prop} {dst : Option Tmp} {rty : TypeId} {pos : String} {af : Array Edge} {gd : Option (Nat × Bool)} {t t' : TypeId} {x : Operand}
theorem y_convU {k' : IntKind} {z : Int} (hx : ev L x = some (.int k' z)) (hs : (P.underlying t).isSome = true) (hd : P.underlying t' = some (.int .u64)) : Y P n S L ⟨dst, .convert t t' x, rty, pos, af, gd⟩ (.int .u64 ((modU z : Nat) : Int)) :=
  (y_conv hx hs hd).cast (by rw [IntKind.wrap_u64, modU, Int.toNat_of_nonneg (Int.emod_nonneg _ dC)])
end
theorem two_of {α : Type} : ∀ {l : List α}, l.length = 2 → ∃ a b, l = [a, b]
  | [a, b], _ => ⟨a, b, rfl⟩
/-- a hand, its tape -/
structure Ht where
  x : Lk
  c : Nat
  p : Nat
  vl : Value
theorem lkName_ne {c n : Nat} : lkName c n ≠ [] := fun h => by
  have := congrArg List.length h
  unfold lkName at this
  simp at this
def RnI (i now : Nat) (s : Sh) (a b : Ht) : Prop := i ≤ 20 ∧ now ≤ 2000 * i ∧ Wd (rq 1) (rq 2) s now (16100 * (i + 1)) (i + 1) [(lkName 0 i, ⟨0, false, now⟩)] ∧ a.x = ⟨0, i + 1, lkName 0 i, 0, false, [], false, ⟨0, false, now⟩⟩ ∧ (∃ wv, b.x = ⟨1, 0, [], 0, wv, [], false, ⟨0, false, 0⟩⟩) ∧
  (a.p ≤ 32 * a.c ∧ 32 * a.c < a.p + 32) ∧ (b.p ≤ 32 * b.c ∧ 32 * b.c < b.p + 32) ∧ a.p ≤ 1000 * (i + 1) ∧ b.p ≤ 1000 * (i + 1)
theorem rn_ne {i : Nat} (h : i < 90) : lkName 0 i ≠ lkName 0 (i + 1) := fun e => by
  have := (lkName_inj oM oM oM oM e).2; omega
theorem rn_filt {n o : List UInt8} {m : Mk} (h : o = n) : ([(n, m)]).filter (fun q => !decide (q.1 = o)) = [] := by subst h; simp
theorem rn_conf {t cl : Nat} (h : cl = 0) : ∃ q ∈ [(lkName 1 0, (⟨1, true, t⟩ : Mk))], ¬ q.2.c = cl ∧ holdsP t q.2 ∧ (false = true ∨ q.2.a = true) := ⟨_, List.mem_singleton.2 rfl, by subst h; exact (by decide : ¬ 1 = 0), by unfold holdsP; dsimp only; omega, .inr rfl⟩
theorem rn_none {cl t : Nat} {b : Bool} : ¬ ∃ q ∈ ([] : List (List UInt8 × Mk)), ¬ q.2.c = cl ∧ holdsP t q.2 ∧ (b = true ∨ q.2.a = true) := fun ⟨_, h, _⟩ => nomatch h
theorem rn_old {i now n cl : Nat} {b : Bool} (h : 1000 < n) : ¬ ∃ q ∈ [(lkName 0 i, (⟨0, false, now⟩ : Mk))], ¬ q.2.c = cl ∧ holdsP (now + n) q.2 ∧ (b = true ∨ q.2.a = true) := fun ⟨q, h1, _, h2, _⟩ => by
  rw [List.mem_singleton] at h1; subst h1; unfold holdsP at h2; dsimp only at h2; omega
theorem rn_stale {hk mk tl : List UInt8} {s : Sh} {x : Lk} {now c p N : Nat} {vl : Value} {z : Stp} (hh : ¬ holdsP now x.m) (hq : Qt s N) (hz : RenR hk mk tl s x now c p vl z) : z = ⟨s, x.lost, 13, c, p, vl⟩ := by
  rcases hz with ⟨_, q⟩ | ⟨q1, q2, _⟩ | ⟨q, _⟩
  · exact q
  · exfalso
    rw [Sh.get, if_neg hq.off] at q1 q2
    by_cases e : hasO s.obs x.own
    · rw [if_neg (fun r => r e)] at q1; exact q1 rfl
    · rw [if_pos e] at q2; exact q2 rfl
  · exact (hh q).elim
theorem rn_next {i now n : Nat} {a b : Ht} {z : Stp} {x61 : Lk} {c61 p61 : Nat} {vl61 : Value} {wv : Bool} (hi : i < 20) (hnw : now ≤ 2000 * i) (hn : n < 2000)
    (hw : Wd (rq 1) (rq 2) z.t (now + n) (16100 * (i + 1) + 8020 + 9) (i + 1 + 1) ((lkName a.x.cl a.x.made, ⟨a.x.cl, a.x.m.a, now + n⟩) :: ([(lkName 0 i, (⟨0, false, now⟩ : Mk))]).filter (fun q => !decide (q.1 = a.x.own))))
    (ha : a.x = ⟨0, i + 1, lkName 0 i, 0, false, [], false, ⟨0, false, now⟩⟩) (hy : z.y = a.x.rnw (now + n)) (hb : b.x = ⟨1, 0, [], 0, wv, [], false, ⟨0, false, 0⟩⟩) (hx : x61 = b.x.not true) (hp : z.p ≤ a.p + 16 ∧ z.p ≤ 32 * z.c ∧ 32 * z.c < z.p + 32) (hp6 : p61 ≤ b.p + 64 ∧ p61 ≤ 32 * c61 ∧ 32 * c61 < p61 + 32) (hpa : a.p ≤ 1000 * (i + 1)) (hpb : b.p ≤ 1000 * (i + 1)) :
    RnI (i + 1) (now + n) z.t ⟨z.y, z.c, z.p, z.vl⟩ ⟨x61, c61, p61, vl61⟩ := by
  rw [ha] at hw
  rw [rn_filt rfl] at hw
  refine ⟨by omega, by omega, hw.mono oM (Nat.le_refl _), ?_, ⟨true, ?_⟩, hp.2, hp6.2, ?_, ?_⟩
  · show z.y = _; rw [hy, ha]; rfl
  · show x61 = _; rw [hx, hb]; rfl
  · show z.p ≤ _; omega
  · show p61 ≤ _; omega
theorem renews_spec {rv : Value} {l : List Int} {w : World} (hr : Ro (Fs []) w (rd rv (l.map I))) (hl : l.length < 9223372036854775808) (hg : Ro (Fs []) w glob) : Spec Tryz.prog 8 [rv] w [] (fun _ : Unit => True) (fun _ => .bool true) (fun _ => []) := by
  refine spec_of (n := 151) Tryz.func8 rfl rfl trivial trivial rfl <| s_r <| q_a rfl rfl <| s_n <| s_r <| tk_act rfl <| a_callv [] _ rfl kR rfl (fun w' hw' => found_spec (n := 2) lenP) rfl fun ⟨sb, mb, kb, tw, vo, cs⟩ hz12 => ?_
  dsimp only at hz12 ⊢
  refine tk_own1 (mm 1 rfl) fun hfo => ?_
  obtain ⟨hcl2, hfr⟩ := hz12
  obtain ⟨k0, k1, rfl⟩ := two_of hcl2
  have f0 := hfr 0 sI
  have f1 := hfr 1 sI
  obtain ⟨lb0, tb0, vb0, xx0, tl0, cc0, pp0, vl0⟩ := k0
  obtain ⟨lb1, tb1, vb1, xx1, tl1, cc1, pp1, vl1⟩ := k1
  obtain ⟨rfl, rfl, rfl, rfl⟩ := f0
  obtain ⟨rfl, rfl, rfl, rfl⟩ := f1
  refine tk_R (H1 := [_]) (r' := own vo ([lb0, lb1].length) ([lb0, lb1].map PT) 91 1) rfl rfl ?_
  have hli0 : LI (rq 1) (rq 2) (newS 100000) (lk0 0) 0 0 0 := wd_new.li ⟨by decide, rfl, rfl, rfl⟩ (Nat.le_refl _)
  refine tk_ps [6] rfl <| tk_teamOut <| tk_H ([cel lb0 ((rq 1).map B ++ ((rq 2).map B ++ ((List.replicate 32 0).map B ++ ([PT tb0, PT sb, PT kb, I (((lk0 0).cl : Nat) : Int), I (((lk0 0).made : Nat) : Int), Str ((lk0 0).own), I (((lk0 0).asks : Nat) : Int), .bool ((lk0 0).want), Str ((lk0 0).next), .bool ((lk0 0).shown), I (((lk0 0).m.c : Nat) : Int), .bool ((lk0 0).m.a), I (((lk0 0).m.t : Nat) : Int)])))) 182, cel tb0 ([vb0, .int .u64 (((0 : Nat) : Nat) : Int), vl0]) 201, ownB vb0 [0] 5, ownB vl0 ((tapeL [0] (0 : Nat)).drop (0 : Nat)) 5, cel lb1 ((rq 1).map B ++ ((rq 2).map B ++ ((List.replicate 32 0).map B ++ ([PT tb1, PT sb, PT kb, I (((lk0 1).cl : Nat) : Int), I (((lk0 1).made : Nat) : Int), Str ((lk0 1).own), I (((lk0 1).asks : Nat) : Int), .bool ((lk0 1).want), Str ((lk0 1).next), .bool ((lk0 1).shown), I (((lk0 1).m.c : Nat) : Int), .bool ((lk0 1).m.a), I (((lk0 1).m.t : Nat) : Int)])))) 182, cel tb1 ([vb1, .int .u64 (((0 : Nat) : Nat) : Int), vl1]) 201, ownB vb1 [1] 5, ownB vl1 ((tapeL [1] (0 : Nat)).drop (0 : Nat)) 5, cel tw ([PT sb, PT kb, vo]) 97, own vo ([lb0, lb1].length) ([lb0, lb1].map PT) 91 1, cel kb ([I 0]) 178, cel sb ([Value.map (some mb), I ((newS 100000).left), .bool ((newS 100000).off), I ((newS 100000).made), I ((newS 100000).room)]) 192, mapS mb (kvO ((newS 100000).obs)), bag (((newS 100000).obs).map (obR 5))]) rfl <| q_m rfl rfl <| s_q rfl (y_extract rfl rfl) <| s_q rfl (y_extract rfl rfl) <| q_a rfl rfl <| q_a rfl rfl <| s_n <| tk_seq <| s_r <| tk_act rfl <| a_callv [] _ rfl kR rfl (fun w' hw' => bars_spec (hg.call hw')) rfl fun _ _ => s_q rfl (y_not rfl) <| q_m rfl rfl <| s_g rfl (y_move rfl) <| s_g rfl (y_not rfl) <| s_q rfl (y_pick0 rfl rfl) <| q_m rfl rfl <| s_g rfl (y_move rfl) <| s_g rfl (y_nilCheck rfl) <| s_g rfl (y_fldN (o := 0) 2 rfl kR) <| s_g rfl (y_load rfl rfl (hc (o := 2) (mm 8 rfl) (rfl))) <| s_g rfl (y_ixR (j := 0) rfl rfl hfo.choose_spec lenP kR) ?_; refine s_g rfl (y_load rfl rfl (fun w hw => ((fun w hw => own_rdS (hw.mem (mm 9 rfl))) w hw).cell (gM (f := PT) (d := 0) lenP))) <| tk_re 27 (.pointer (some ⟨[lb0, lb1].getD 0 0, 0, none⟩)) (PT lb0) rfl (rfl) <| tk_gact rfl <| tk_ps [3, 3, 3, 13, 13, 13, 13, 7] rfl <| a_callv [] _ rfl kR rfl (fun w' hw' => ltake_spec (b := false) (s := (newS 100000)) (k := 0) (now := 0) (mb := mb) (c := (0 : Nat)) (p := (0 : Nat)) (j := 0) (tl := [0]) (vb := vb0) (vl := vl0) (x := (lk0 0)) (hk := rq 1) (mk := rq 2) (nk := List.replicate 32 0) (tb := tb0) (sb := sb) (kb := kb) (lb := lb0) ⟨lenP, lenP, lenP⟩ ⟨rfl, rfl⟩ hli0 oM oM oM ⟨by omega, by omega⟩ oM dC (hg.call hw') (St.pre hw')) rfl fun ⟨⟨s28, x28, c28, p28, vl_28⟩, e28⟩ hz28 => ?_
  dsimp only at hz28
  try dsimp only
  obtain ⟨he28, hx28, hwd28⟩ := wd_f wd_new ⟨by decide, rfl, rfl, rfl⟩ (show (lk0 0).made ≤ 0 from Nat.le_refl _) oM oM oM ⟨Nat.le_refl _, by omega⟩ (fun ⟨_, h, _⟩ => nomatch h) (fun _ h => nomatch h) hz28
  dsimp only at he28 hx28 hwd28
  have hp28 := hz28.tape
  dsimp only at hp28
  refine tk_gqe (.bool false) rfl rfl rfl (y_neq rfl rfl) (bool_f oM) <| s_q rfl (y_pick0 rfl rfl) <| s_n <| tk_cond0 rfl <| tk_skip <| tk_then <| tk_seq <| s_r <| q_a rfl rfl <| s_n <| tk_block <| tk_loop (X := Nat × Nat × Sh × Ht × Ht) (fun (i, now, s, a, b) => RnI i now s a b) (fun (i, now, s, a, b) => [(0, rv), (3, PT tw), (5, IN i)]) (fun (i, now, s, a, b) => [cel lb0 ((rq 1).map B ++ ((rq 2).map B ++ ((List.replicate 32 0).map B ++ ([PT tb0, PT sb, PT kb, IN a.x.cl, IN a.x.made, Str a.x.own, IN a.x.asks, .bool a.x.want, Str a.x.next, .bool a.x.shown, IN a.x.m.c, .bool a.x.m.a, IN a.x.m.t])))) 182, cel kb ([IN now]) 178, cel sb ([Value.map (some mb), I (s.left), .bool s.off, I (s.made), I (s.room)]) 192, mapS mb (kvO s.obs), bag (s.obs.map (obR 5)), cel tb0 ([vb0, .int .u64 ((a.c : Nat) : Int), a.vl]) 201, ownB vb0 [0] 5, ownB a.vl ((tapeL [0] a.c).drop a.p) 5, cel lb1 ((rq 1).map B ++ ((rq 2).map B ++ ((List.replicate 32 0).map B ++ ([PT tb1, PT sb, PT kb, IN b.x.cl, IN b.x.made, Str b.x.own, IN b.x.asks, .bool b.x.want, Str b.x.next, .bool b.x.shown, IN b.x.m.c, .bool b.x.m.a, IN b.x.m.t])))) 182, cel tb1 ([vb1, .int .u64 ((b.c : Nat) : Int), b.vl]) 201, ownB vb1 [1] 5, ownB b.vl ((tapeL [1] b.c).drop b.p) 5, cel tw ([PT sb, PT kb, vo]) 97, own vo ([lb0, lb1].length) ([lb0, lb1].map PT) 91 1]) (fun (i, now, s, a, b) => 20 - i) ((0, 0, s28, ⟨x28, c28, p28, vl_28⟩, ⟨lk0 1, 0, 0, vl1⟩)) (⟨by omega, by omega, hwd28.mono oM oM, hx28, ⟨_, rfl⟩, ⟨hp28.2.1, hp28.2.2⟩, ⟨by show 0 ≤ 32 * 0; omega, by show 32 * 0 < 0 + 32; omega⟩, by show p28 ≤ 1000 * (0 + 1); omega, by show 0 ≤ _; omega⟩) sB ((List.Sublist.refl _)) ?_
  rintro ⟨i, now, s, a, b⟩ hI
  dsimp only at hI ⊢
  obtain ⟨hi20, hnw, hwd, hax, ⟨wv, hbx⟩, hap, hbp, hpa, hpb⟩ := hI
  have hra : Rest a.x := by rw [hax]; exact ⟨(by decide : 0 < 100), rfl, rfl, rfl⟩
  have hrb : Rest b.x := by rw [hbx]; exact ⟨(by decide : 1 < 100), rfl, rfl, rfl⟩
  have hao : ¬ a.x.own = [] := by rw [hax]; exact lkName_ne
  have ham : a.x.made = i + 1 := by rw [hax]
  have hat : a.x.m.t = now := by rw [hax]
  have hbo : b.x.own = [] := by rw [hbx]
  have hbm : b.x.made = 0 := by rw [hbx]
  have hacl : a.x.cl = 0 := by rw [hax]
  refine tk_seq <| s_r <| q_m rfl rfl <| q_m rfl rfl <| s_q rfl (y_lenRN (n' := l.length) rfl hr.1 rfl (by first | rfl | (rw [List.length_map]; omega) | simp)) <| tk_qs rfl rfl rfl (y_lss rfl rfl) (fun hs5_3 => ?_) (fun hs5_3 => ?_)
  · refine q_m rfl rfl <| s_g rfl (y_move rfl) <| s_g rfl (y_lss rfl rfl) <| s_q rfl (y_pick1 rfl rfl) <| s_n <| tk_condP rfl (fun ht38 => ?_) (fun ht38 => ?_)
    · refine tk_skip <| tk_then <| tk_seq <| tk_block <| s_r <| q_m rfl rfl <| q_m rfl rfl <| s_q rfl (y_ixR (j := i) rfl rfl hr.1 lenP kR) <| s_q rfl (y_load rfl rfl (fun w hw => ((fun w hw => Ro.rd hr hw) w hw).cell (gM (f := I) (d := 0) lenP))) <| s_q rfl (y_convU (z := l.getD i 0) rfl rfl rfl) <| s_q rfl (y_remU (a := modU (l.getD i 0)) (b := 2000) rfl rfl oM) <| s_q rfl (y_convi64 (m := (modU (l.getD i 0)) % 2000) rfl rfl rfl (wrap_in oM oM)) <| q_a rfl rfl <| s_n <| tk_seq <| s_r <| q_m rfl rfl <| s_q rfl (y_nilCheck rfl) <| s_q rfl (y_fldN (o := 0) 1 rfl kR) <| s_q rfl (y_load rfl rfl (hc (o := 1) (mm 12 rfl) (rfl))) <| q_m rfl rfl <| tk_act rfl <| tk_ps [1] rfl <| a_callv [] _ rfl kR rfl (fun w' hw' => tick_spec (now := now) (n := (modU (l.getD i 0)) % 2000) (kb := kb) oM (St.pre hw')) rfl fun _ _ => ?_; refine s_q rfl ((y_neq rfl rfl).cast (bool_f dC)) <| s_n <| tk_cond0 rfl <| tk_skip <| tk_then <| s_r ?_
      have hwd2 : Wd (rq 1) (rq 2) s (now + (modU (l.getD i 0) % 2000)) (16100 * (i + 1)) (i + 1) [(lkName 0 i, ⟨0, false, now⟩)] := hwd.later oM
      refine q_m rfl rfl <| s_q rfl (y_nilCheck rfl) <| s_q rfl (y_fldN (o := 0) 2 rfl kR) <| s_q rfl (y_load rfl rfl (hc (o := 2) (mm 12 rfl) (rfl))) <| s_q rfl (y_ixR (j := 1) rfl rfl hfo.choose_spec lenP kR) <| s_q rfl (y_load rfl rfl (fun w hw => ((fun w hw => own_rdS (hw.mem (mm 13 rfl))) w hw).cell (gM (f := PT) (d := 0) lenP))) <| tk_re 60 (.pointer (some ⟨[lb0, lb1].getD 1 0, 0, none⟩)) (PT lb1) rfl (rfl) <| tk_act rfl <| tk_ps [11, 11, 11, 7, 7, 7, 6, 11] rfl <| a_callv [] _ rfl kR rfl (fun w' hw' => ltake_spec (b := true) (s := s) (k := (16100 * (i + 1))) (now := now + (modU (l.getD i 0)) % 2000) (mb := mb) (c := b.c) (p := b.p) (j := 0) (tl := [1]) (vb := vb1) (vl := b.vl) (x := b.x) (hk := rq 1) (mk := rq 2) (nk := List.replicate 32 0) (tb := tb1) (sb := sb) (kb := kb) (lb := lb1) ⟨lenP, lenP, lenP⟩ ⟨hbo, hrb.asks⟩ (hwd2.li hrb oM) oM oM oM hbp oM dC (hg.call hw') (St.pre hw')) rfl fun ⟨⟨s61, x61, c61, p61, vl_61⟩, e61⟩ hz61 => ?_
      dsimp only at hz61
      try dsimp only
      have hp61 := hz61.tape
      dsimp only at hp61
      refine q_a rfl rfl <| s_n <| tk_seq <| s_r <| q_m rfl rfl <| s_q rfl (y_leq rfl rfl) <| s_n <| tk_condP rfl (fun ht63 => ?_) (fun ht63 => ?_)
      · obtain ⟨he61, hs61, hx61⟩ := wd_no hwd2 hrb (by omega : b.x.made ≤ 0) oM oM oM hbp ⟨_, List.mem_singleton.2 rfl, by rw [hbx]; exact (by decide : ¬ 0 = 1), by unfold holdsP; dsimp only; omega, .inl rfl⟩ hz61
        dsimp only at he61 hs61 hx61
        have hwd3 : Wd (rq 1) (rq 2) s61 (now + (modU (l.getD i 0) % 2000)) (16100 * (i + 1) + 8020) (i + 1) [(lkName 0 i, ⟨0, false, now⟩)] := hs61 ▸ hwd2.mono oM oM
        refine tk_seq <| s_r <| q_m rfl rfl <| tk_qe (.bool false) rfl rfl rfl (y_neq rfl rfl) (bool_f oM) <| q_m rfl rfl <| s_g rfl (y_move rfl) <| s_g rfl (y_nilCheck rfl) <| s_g rfl (y_fldN (o := 0) 2 rfl kR) <| s_g rfl (y_load rfl rfl (hc (o := 2) (mm 12 rfl) (rfl))) <| s_g rfl (y_ixR (j := 0) rfl rfl hfo.choose_spec lenP kR) <| s_g rfl (y_load rfl rfl (fun w hw => ((fun w hw => own_rdS (hw.mem (mm 13 rfl))) w hw).cell (gM (f := PT) (d := 0) lenP))) <| tk_re 72 (.pointer (some ⟨[lb0, lb1].getD 0 0, 0, none⟩)) (PT lb0) rfl (rfl) <| tk_gact rfl <| tk_ps [11, 11, 11, 7, 7, 7, 7, 11] rfl <| a_callv [] _ rfl kR rfl (fun w' hw' => renew_spec (s := s61) (k := (16100 * (i + 1) + 8020)) (now := now + (modU (l.getD i 0)) % 2000) (mb := mb) (c := a.c) (p := a.p) (tl := [0]) (vb := vb0) (vl := a.vl) (x := a.x) (hk := rq 1) (mk := rq 2) (nk := List.replicate 32 0) (tb := tb0) (sb := sb) (kb := kb) (lb := lb0) ⟨lenP, lenP, lenP⟩ hao oM oM oM hwd3.at_ oM oM hap oM dC (hg.call hw') (St.pre hw')) rfl fun z73 hz73 => ?_
        obtain ⟨he73, hy73, hwd73, hp73⟩ := wd_renew hwd3 hra oM oM oM ⟨⟨0, false, now⟩, by rw [hax]; exact List.mem_singleton.2 rfl⟩ (by rw [hax]; exact rn_ne oM) (fun q h => by rw [List.mem_singleton] at h; subst h; rw [hax]; exact rn_ne oM) (by unfold holdsP; omega) hz73
        exact tk_gqe (.bool false) rfl rfl rfl (y_neq rfl rfl) (bool_f oM) <| s_q rfl (y_pick0 rfl rfl) <| s_n <| tk_cond0 rfl <| tk_skip <| tk_then <| tk_exit <| tk_then_exit <| tk_in_hit <| tk_then <| tk_region <| q_m rfl rfl <| s_q rfl (y_addN (a := i) (b := 1) rfl rfl oM) <| q_a rfl rfl <| tk_nil <| tk_again ((i + 1, now + (modU (l.getD i 0) % 2000), z73.t, ⟨z73.y, z73.c, z73.p, z73.vl⟩, ⟨x61, c61, p61, vl_61⟩)) (rn_next oM hnw oM hwd73 hax hy73 hbx hx61 hp73 hp61 hpa hpb) (by dsimp only; omega) sB (List.Sublist.refl _)
      · obtain ⟨he61, hx61, hwd3⟩ := wd_t hwd2 hrb (by omega : b.x.made ≤ 0) oM oM oM hbp (rn_old oM) (fun q h _ => by rw [List.mem_singleton] at h; subst h; rw [hbx]; exact (by decide : ¬ 0 = 1)) hz61
        dsimp only at he61 hx61 hwd3
        rw [show lkName b.x.cl b.x.made = lkName 1 0 by rw [hbx], show b.x.cl = 1 by rw [hbx]] at hwd3
        have hx61o : x61.own = lkName 1 0 := by rw [hx61]; show lkName b.x.cl b.x.made = _; rw [hbx]
        refine tk_skip <| tk_then <| s_r <| q_m rfl rfl <| s_q rfl (y_nilCheck rfl) <| s_q rfl (y_fldN (o := 0) 2 rfl kR) <| s_q rfl (y_load rfl rfl (hc (o := 2) (mm 12 rfl) (rfl))) <| s_q rfl (y_ixR (j := 0) rfl rfl hfo.choose_spec lenP kR) <| s_q rfl (y_load rfl rfl (fun w hw => ((fun w hw => own_rdS (hw.mem (mm 13 rfl))) w hw).cell (gM (f := PT) (d := 0) lenP))) <| tk_re 81 (.pointer (some ⟨[lb0, lb1].getD 0 0, 0, none⟩)) (PT lb0) rfl (rfl) <| tk_act rfl <| tk_ps [11, 11, 11, 7, 7, 7, 7, 11] rfl <| a_callv [] _ rfl kR rfl (fun w' hw' => renew_spec (s := s61) (k := (16100 * (i + 1) + 8020)) (now := now + (modU (l.getD i 0)) % 2000) (mb := mb) (c := a.c) (p := a.p) (tl := [0]) (vb := vb0) (vl := a.vl) (x := a.x) (hk := rq 1) (mk := rq 2) (nk := List.replicate 32 0) (tb := tb0) (sb := sb) (kb := kb) (lb := lb0) ⟨lenP, lenP, lenP⟩ hao oM oM oM hwd3.at_ oM oM hap oM dC (hg.call hw') (St.pre hw')) rfl fun z82 hz82 => ?_
        have hz82b := rn_stale (by unfold holdsP; omega) hwd3.qt hz82
        have hy82 : z82.y = a.x.lost := by rw [hz82b]
        have ht82 : Wd (rq 1) (rq 2) z82.t (now + (modU (l.getD i 0) % 2000)) (16100 * (i + 1) + 8020) (i + 2) [(lkName 1 0, ⟨1, true, now + (modU (l.getD i 0) % 2000)⟩)] := by rw [hz82b]; exact hwd3
        have hp82 : z82.p ≤ 32 * z82.c ∧ 32 * z82.c < z82.p + 32 := by rw [hz82b]; exact hap
        have he82 : z82.e = 13 := by rw [hz82b]
        have hq82 : z82.p = a.p := by rw [hz82b]
        have hrl : Rest z82.y := by rw [hy82]; exact ⟨hra.cl, hra.asks, hra.next, hra.shown⟩
        have hyo : z82.y.own = [] := by rw [hy82]; rfl
        have hym : z82.y.made = i + 1 := by rw [hy82]; exact ham
        have hyc : z82.y.cl = 0 := by rw [hy82]; exact hacl
        refine q_a rfl rfl <| s_n <| s_r <| q_m rfl rfl <| s_q rfl (y_nilCheck rfl) <| s_q rfl (y_fldN (o := 0) 2 rfl kR) <| s_q rfl (y_load rfl rfl (hc (o := 2) (mm 12 rfl) (rfl))) <| s_q rfl (y_ixR (j := 0) rfl rfl hfo.choose_spec lenP kR) <| s_q rfl (y_load rfl rfl (fun w hw => ((fun w hw => own_rdS (hw.mem (mm 13 rfl))) w hw).cell (gM (f := PT) (d := 0) lenP))) <| tk_re 89 (.pointer (some ⟨[lb0, lb1].getD 0 0, 0, none⟩)) (PT lb0) rfl (rfl) <| tk_act rfl <| a_callv [] _ rfl kR rfl (fun w' hw' => held_spec (x := z82.y) (hk := rq 1) (mk := rq 2) (nk := List.replicate 32 0) (tb := tb0) (sb := sb) (kb := kb) (lb := lb0) ⟨lenP, lenP, lenP⟩ (St.pre hw')) rfl fun _ _ => q_m rfl rfl <| s_q rfl (y_extract rfl rfl) <| s_q rfl (y_extract rfl rfl) <| q_a rfl rfl <| q_a rfl rfl <| s_n <| s_r <| q_m rfl rfl <| tk_qe (.bool true) rfl rfl rfl (y_eql rfl rfl) (bool_t oM) <| q_m rfl rfl <| s_g rfl (y_move rfl) <| tk_gqe (.bool true) rfl rfl rfl (y_eql rfl rfl) (bool_t oM) ?_; refine s_q rfl (y_pick1 rfl rfl) <| q_m rfl rfl <| s_g rfl (y_move rfl) <| tk_gqe (.bool true) rfl rfl rfl ((y_not rfl).cast (notdec _)) (bool_t (fun q => q hyo)) <| s_q rfl (y_pick1 rfl rfl) <| q_m rfl rfl <| s_g rfl (y_move rfl) <| s_g rfl (y_nilCheck rfl) <| s_g rfl (y_fldN (o := 0) 2 rfl kR) <| s_g rfl (y_load rfl rfl (hc (o := 2) (mm 12 rfl) (rfl))) <| s_g rfl (y_ixR (j := 0) rfl rfl hfo.choose_spec lenP kR) <| s_g rfl (y_load rfl rfl (fun w hw => ((fun w hw => own_rdS (hw.mem (mm 13 rfl))) w hw).cell (gM (f := PT) (d := 0) lenP))) <| tk_re 109 (.pointer (some ⟨[lb0, lb1].getD 0 0, 0, none⟩)) (PT lb0) rfl (rfl) <| tk_gact rfl <| a_callv [] _ rfl kR rfl (fun w' hw' => ltake_spec (b := false) (s := z82.t) (k := (16100 * (i + 1) + 8020)) (now := now + (modU (l.getD i 0)) % 2000) (mb := mb) (c := z82.c) (p := z82.p) (j := 21) (tl := [0]) (vb := vb0) (vl := z82.vl) (x := z82.y) (hk := rq 1) (mk := rq 2) (nk := List.replicate 32 0) (tb := tb0) (sb := sb) (kb := kb) (lb := lb0) ⟨lenP, lenP, lenP⟩ ⟨hyo, hrl.asks⟩ (ht82.li hrl oM) oM oM oM hp82 oM dC (hg.call hw') (St.pre hw')) rfl fun ⟨⟨s110, x110, c110, p110, vl_110⟩, e110⟩ hz110 => ?_
        dsimp only at hz110
        try dsimp only
        obtain ⟨he110, hs110, hx110⟩ := wd_no ht82 hrl (by omega : z82.y.made ≤ 21) oM oM oM hp82 (rn_conf hyc) hz110
        try dsimp only at he110 hs110 hx110
        have hwd4 : Wd (rq 1) (rq 2) s110 (now + (modU (l.getD i 0) % 2000)) (16100 * (i + 1) + 8020) (i + 2) [(lkName 1 0, ⟨1, true, now + (modU (l.getD i 0) % 2000)⟩)] := hs110 ▸ ht82
        have hp110 := hz110.tape
        dsimp only at hp110
        refine tk_gqe (.bool true) rfl rfl rfl (y_eql rfl rfl) (bool_t oM) <| s_q rfl (y_pick1 rfl rfl) <| q_m rfl rfl <| s_g rfl (y_move rfl) <| s_g rfl (y_nilCheck rfl) <| s_g rfl (y_fldN (o := 0) 2 rfl kR) <| s_g rfl (y_load rfl rfl (hc (o := 2) (mm 12 rfl) (rfl))) <| s_g rfl (y_ixR (j := 1) rfl rfl hfo.choose_spec lenP kR) <| s_g rfl (y_load rfl rfl (fun w hw => ((fun w hw => own_rdS (hw.mem (mm 13 rfl))) w hw).cell (gM (f := PT) (d := 0) lenP))) <| tk_re 119 (.pointer (some ⟨[lb0, lb1].getD 1 0, 0, none⟩)) (PT lb1) rfl (rfl) <| tk_gact rfl <| tk_ps [4, 4, 4, 8] rfl <| a_callv [] _ rfl kR rfl (fun w' hw' => release_spec (s := s110) (mb := mb) (x := x61) (hk := rq 1) (mk := rq 2) (nk := List.replicate 32 0) (tb := tb1) (sb := sb) (kb := kb) (lb := lb1) ⟨lenP, lenP, lenP⟩ (by rw [hx61o]; exact lkName_ne) (hwd4.at_.ok oM) (St.pre hw')) rfl fun _ _ => ?_
        obtain ⟨hd120, hwd5⟩ := wd_del (n := x61.own) hwd4 ⟨⟨1, true, now + (modU (l.getD i 0) % 2000)⟩, by rw [hx61o]; exact List.mem_singleton.2 rfl⟩
        rw [rn_filt hx61o] at hwd5
        have hrm : Rest x110 := by rw [hx110]; exact rest_not hrl
        have hxm : x110.made = i + 1 := by rw [hx110]; exact hym
        have hxo : x110.own = [] := by rw [hx110]; exact hyo
        refine tk_gqe (.bool true) rfl rfl rfl (y_eql rfl rfl) (bool_t (by rw [hd120]; rfl)) <| s_q rfl (y_pick1 rfl rfl) <| q_m rfl rfl <| s_g rfl (y_move rfl) <| s_g rfl (y_nilCheck rfl) <| s_g rfl (y_fldN (o := 0) 2 rfl kR) <| s_g rfl (y_load rfl rfl (hc (o := 2) (mm 12 rfl) (rfl))) <| s_g rfl (y_ixR (j := 0) rfl rfl hfo.choose_spec lenP kR) <| s_g rfl (y_load rfl rfl (fun w hw => ((fun w hw => own_rdS (hw.mem (mm 13 rfl))) w hw).cell (gM (f := PT) (d := 0) lenP))) <| tk_re 129 (.pointer (some ⟨[lb0, lb1].getD 0 0, 0, none⟩)) (PT lb0) rfl (rfl) <| tk_gact rfl <| tk_ps [8, 8, 8, 6, 6, 6, 8, 8] rfl <| a_callv [] _ rfl kR rfl (fun w' hw' => ltake_spec (b := true) (s := (s110.del x61.own).1) (k := (16100 * (i + 1) + 8020 + 1)) (now := now + (modU (l.getD i 0)) % 2000) (mb := mb) (c := c110) (p := p110) (j := 25) (tl := [0]) (vb := vb0) (vl := vl_110) (x := x110) (hk := rq 1) (mk := rq 2) (nk := List.replicate 32 0) (tb := tb0) (sb := sb) (kb := kb) (lb := lb0) ⟨lenP, lenP, lenP⟩ ⟨hxo, hrm.asks⟩ (hwd5.li hrm oM) oM oM oM ⟨hp110.2.1, hp110.2.2⟩ oM dC (hg.call hw') (St.pre hw')) rfl fun ⟨⟨s130, x130, c130, p130, vl_130⟩, e130⟩ hz130 => ?_
        dsimp only at hz130
        try dsimp only
        obtain ⟨he130, _⟩ := wd_t hwd5 hrm (by omega : x110.made ≤ 25) oM oM oM ⟨hp110.2.1, hp110.2.2⟩ rn_none (fun _ h => nomatch h) hz130
        try dsimp only at he130
        exact tk_gqe (.bool true) rfl rfl rfl (y_eql rfl rfl) (bool_t oM) <| s_q rfl (y_pick1 rfl rfl) <| q_a rfl rfl <| s_n <| tk_retc <| tk_in_ret <| tk_then_ret <| tk_then_ret <| tk_in_ret <| tk_then_ret <| tk_ret (()) (trivial) (.inl rfl) (r1 rfl rfl) (List.nil_sublist _)
    · refine tk_exit <| tk_then_exit <| tk_then_exit <| tk_in_hit <| tk_then <| s_r ?_
      have hax0 : a.x.own = lkName 0 i := by rw [hax]
      obtain ⟨hd139, hwd7⟩ := wd_del (n := a.x.own) hwd ⟨⟨0, false, now⟩, by rw [hax0]; exact List.mem_singleton.2 rfl⟩
      rw [rn_filt hax0] at hwd7
      refine q_m rfl rfl <| s_q rfl (y_nilCheck rfl) <| s_q rfl (y_fldN (o := 0) 2 rfl kR) <| s_q rfl (y_load rfl rfl (hc (o := 2) (mm 12 rfl) (rfl))) <| s_q rfl (y_ixR (j := 0) rfl rfl hfo.choose_spec lenP kR) <| s_q rfl (y_load rfl rfl (fun w hw => ((fun w hw => own_rdS (hw.mem (mm 13 rfl))) w hw).cell (gM (f := PT) (d := 0) lenP))) <| tk_re 138 (.pointer (some ⟨[lb0, lb1].getD 0 0, 0, none⟩)) (PT lb0) rfl (rfl) <| tk_act rfl <| tk_ps [4, 4, 4, 3] rfl <| a_callv [] _ rfl kR rfl (fun w' hw' => release_spec (s := s) (mb := mb) (x := a.x) (hk := rq 1) (mk := rq 2) (nk := List.replicate 32 0) (tb := tb0) (sb := sb) (kb := kb) (lb := lb0) ⟨lenP, lenP, lenP⟩ hao (hwd.at_.ok oM) (St.pre hw')) rfl fun _ _ => tk_qe (.bool true) rfl rfl rfl (y_eql rfl rfl) (bool_t (by rw [hd139]; rfl)) <| q_m rfl rfl <| s_g rfl (y_move rfl) <| s_g rfl (y_nilCheck rfl) <| s_g rfl (y_fldN (o := 0) 2 rfl kR) <| s_g rfl (y_load rfl rfl (hc (o := 2) (mm 12 rfl) (rfl))) <| s_g rfl (y_ixR (j := 1) rfl rfl hfo.choose_spec lenP kR) <| s_g rfl (y_load rfl rfl (fun w hw => ((fun w hw => own_rdS (hw.mem (mm 13 rfl))) w hw).cell (gM (f := PT) (d := 0) lenP))) <| tk_re 147 (.pointer (some ⟨[lb0, lb1].getD 1 0, 0, none⟩)) (PT lb1) rfl (rfl) <| tk_gact rfl <| tk_ps [11, 11, 11, 6, 6, 6, 7, 11] rfl <| a_callv [] _ rfl kR rfl (fun w' hw' => ltake_spec (b := true) (s := (s.del a.x.own).1) (k := (16100 * (i + 1) + 1)) (now := now) (mb := mb) (c := b.c) (p := b.p) (j := 0) (tl := [1]) (vb := vb1) (vl := b.vl) (x := b.x) (hk := rq 1) (mk := rq 2) (nk := List.replicate 32 0) (tb := tb1) (sb := sb) (kb := kb) (lb := lb1) ⟨lenP, lenP, lenP⟩ ⟨hbo, hrb.asks⟩ (hwd7.li hrb oM) oM oM oM hbp oM dC (hg.call hw') (St.pre hw')) rfl fun ⟨⟨s148, x148, c148, p148, vl_148⟩, e148⟩ hz148 => ?_
      dsimp only at hz148
      try dsimp only
      obtain ⟨he148, _⟩ := wd_t hwd7 hrb oM oM oM oM hbp rn_none (fun _ h => nomatch h) hz148
      try dsimp only at he148
      exact tk_gqe (.bool true) rfl rfl rfl (y_eql rfl rfl) (bool_t oM) <| s_q rfl (y_pick1 rfl rfl) <| q_a rfl rfl <| s_n <| tk_retc <| tk_ret (()) (trivial) (.inl rfl) (r1 rfl rfl) (List.nil_sublist _)
  · refine q_m rfl rfl <| tk_gno rfl rfl rfl <| tk_gno rfl rfl rfl <| s_q rfl (y_pick0 rfl rfl) <| s_n <| tk_cond0 rfl <| tk_exit <| tk_then_exit <| tk_then_exit <| tk_in_hit <| tk_then <| s_r ?_
    have hax0 : a.x.own = lkName 0 i := by rw [hax]
    obtain ⟨hd139, hwd7⟩ := wd_del (n := a.x.own) hwd ⟨⟨0, false, now⟩, by rw [hax0]; exact List.mem_singleton.2 rfl⟩
    rw [rn_filt hax0] at hwd7
    refine q_m rfl rfl <| s_q rfl (y_nilCheck rfl) <| s_q rfl (y_fldN (o := 0) 2 rfl kR) <| s_q rfl (y_load rfl rfl (hc (o := 2) (mm 12 rfl) (rfl))) <| s_q rfl (y_ixR (j := 0) rfl rfl hfo.choose_spec lenP kR) <| s_q rfl (y_load rfl rfl (fun w hw => ((fun w hw => own_rdS (hw.mem (mm 13 rfl))) w hw).cell (gM (f := PT) (d := 0) lenP))) <| tk_re 138 (.pointer (some ⟨[lb0, lb1].getD 0 0, 0, none⟩)) (PT lb0) rfl (rfl) <| tk_act rfl <| tk_ps [4, 4, 4, 3] rfl <| a_callv [] _ rfl kR rfl (fun w' hw' => release_spec (s := s) (mb := mb) (x := a.x) (hk := rq 1) (mk := rq 2) (nk := List.replicate 32 0) (tb := tb0) (sb := sb) (kb := kb) (lb := lb0) ⟨lenP, lenP, lenP⟩ hao (hwd.at_.ok oM) (St.pre hw')) rfl fun _ _ => tk_qe (.bool true) rfl rfl rfl (y_eql rfl rfl) (bool_t (by rw [hd139]; rfl)) <| q_m rfl rfl <| s_g rfl (y_move rfl) <| s_g rfl (y_nilCheck rfl) <| s_g rfl (y_fldN (o := 0) 2 rfl kR) <| s_g rfl (y_load rfl rfl (hc (o := 2) (mm 12 rfl) (rfl))) <| s_g rfl (y_ixR (j := 1) rfl rfl hfo.choose_spec lenP kR) <| s_g rfl (y_load rfl rfl (fun w hw => ((fun w hw => own_rdS (hw.mem (mm 13 rfl))) w hw).cell (gM (f := PT) (d := 0) lenP))) <| tk_re 147 (.pointer (some ⟨[lb0, lb1].getD 1 0, 0, none⟩)) (PT lb1) rfl (rfl) <| tk_gact rfl <| tk_ps [11, 11, 11, 6, 6, 6, 7, 11] rfl <| a_callv [] _ rfl kR rfl (fun w' hw' => ltake_spec (b := true) (s := (s.del a.x.own).1) (k := (16100 * (i + 1) + 1)) (now := now) (mb := mb) (c := b.c) (p := b.p) (j := 0) (tl := [1]) (vb := vb1) (vl := b.vl) (x := b.x) (hk := rq 1) (mk := rq 2) (nk := List.replicate 32 0) (tb := tb1) (sb := sb) (kb := kb) (lb := lb1) ⟨lenP, lenP, lenP⟩ ⟨hbo, hrb.asks⟩ (hwd7.li hrb oM) oM oM oM hbp oM dC (hg.call hw') (St.pre hw')) rfl fun ⟨⟨s148, x148, c148, p148, vl_148⟩, e148⟩ hz148 => ?_
    dsimp only at hz148
    try dsimp only
    obtain ⟨he148, _⟩ := wd_t hwd7 hrb oM oM oM oM hbp rn_none (fun _ h => nomatch h) hz148
    try dsimp only at he148
    exact tk_gqe (.bool true) rfl rfl rfl (y_eql rfl rfl) (bool_t oM) <| s_q rfl (y_pick1 rfl rfl) <| q_a rfl rfl <| s_n <| tk_retc <| tk_ret (()) (trivial) (.inl rfl) (r1 rfl rfl) (List.nil_sublist _)
end Go.Proofs.YtkkjfojgjmglpaaGreatDoor
