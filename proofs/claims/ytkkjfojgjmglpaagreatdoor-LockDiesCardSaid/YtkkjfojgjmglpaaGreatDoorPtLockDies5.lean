/- Texts of the claim LockDies, part 5 of 6: LockH, LockCalm, LockTake, LogD, LogE, LockI, LockJ, LockLst, LockK, LockWd, LockM, CrashP, LockO, DieP, LockRace, RaceInv, DieQ, DieR. Own work. -/
import Derived.Test.YtkkjfojgjmglpaaGreatDoorPtLockDies4
set_option linter.unusedSimpArgs false
set_option linter.unusedVariables false
namespace Go.Proofs.YtkkjfojgjmglpaaGreatDoor
open Go Go.RowKit
set_option maxRecDepth 100000
set_option maxHeartbeats 1000000
attribute [local irreducible] sumL keyedL hexL strL sealF sealL tapeL tapeN
/-- a store, a hand, a tape -/
structure St5 where
  s : Sh
  x : Lk
  c : Nat
  p : Nat
  vl : Value
def after (z : Stp) : St5 := ⟨stepT z, stepY z, z.c, z.p, z.vl⟩
/-- so many steps, none of them the last -/
def Run (hk mk tl : List UInt8) (now : Nat) (u : St5) : Nat → St5 → Nat → Prop
  | 0, q, e => q = u ∧ e = 0
  | i + 1, q, e => ∃ r z e0, Run hk mk tl now u i r e0 ∧ StepR hk mk tl (moOf hk mk r.s now) r.s r.x now r.c r.p r.vl z ∧ fin z = false ∧ q = after z ∧ e = z.e
/-- all steps, to the last -/
def Took (hk mk tl : List UInt8) (now : Nat) (u q : St5) (e : Nat) : Prop := ∃ i r z e0, i ≤ 3 ∧ Run hk mk tl now u i r e0 ∧ StepR hk mk tl (moOf hk mk r.s now) r.s r.x now r.c r.p r.vl z ∧ fin z = true ∧ q = after z ∧ e = z.e
def TkI (hk mk tl : List UInt8) (now : Nat) (u : St5) (k : Int) (j : Nat) (q : St5) (d : Bool) (e : Nat) : Prop :=
  (d = false ∧ ∃ i : Nat, i ≤ 3 ∧ Run hk mk tl now u i q e ∧ q.x.asks = i + 1 ∧ LI hk mk q.s q.x now (k + 2005 * i) (j + i) ∧ q.p ≤ u.p + 16 * i ∧ q.p ≤ 32 * q.c ∧ 32 * q.c < q.p + 32) ∨
  (d = true ∧ Took hk mk tl now u q e ∧ LI hk mk q.s q.x now (k + 8020) (j + 4) ∧ q.p ≤ u.p + 64 ∧ q.p ≤ 32 * q.c ∧ 32 * q.c < q.p + 32)
theorem tki_go {hk mk tl : List UInt8} {now : Nat} {u : St5} {k : Int} {j : Nat} {q : St5} {e : Nat} (h : TkI hk mk tl now u k j q false e) : ∃ i : Nat, i ≤ 3 ∧ Run hk mk tl now u i q e ∧ q.x.asks = i + 1 ∧ LI hk mk q.s q.x now (k + 2005 * i) (j + i) ∧ q.p ≤ u.p + 16 * i ∧ q.p ≤ 32 * q.c ∧ 32 * q.c < q.p + 32 := by
  rcases h with h | h
  · exact h.2
  · cases h.1
def tkMu (q : St5) (d : Bool) : Nat := if d = true then 0 else 6 - q.x.asks
theorem tki_0 {hk mk tl : List UInt8} {now c p : Nat} {s : Sh} {x : Lk} {b : Bool} {vl : Value} {k : Int} {j : Nat} (h : LI hk mk s x now k j) (hI0 : p ≤ 32 * c ∧ 32 * c < p + 32) : TkI hk mk tl now ⟨s, x.asked b, c, p, vl⟩ k j ⟨s, x.asked b, c, p, vl⟩ false 0 :=
  .inl ⟨rfl, 0, by omega, ⟨rfl, rfl⟩, rfl, ⟨h.at_.mono sI, h.ok, h.cl, h.md, h.nx, fun q => by cases q⟩, Nat.le_refl _, hI0⟩
theorem stepY_asks {z : Stp} (h : fin z = false) : (stepY z).asks = z.y.asks + 1 ∧ z.e = 0 := by
  have h1 : ¬ (¬ z.e = 0 ∨ 4 < z.y.asks + 1) := of_decide_eq_false h
  rw [stepY, if_neg h1]
  exact ⟨rfl, Classical.not_not.1 (fun q => h1 (.inl q))⟩
theorem LI.mono {hk mk : List UInt8} {s : Sh} {x : Lk} {now : Nat} {k k' : Int} {j j' : Nat} (h : LI hk mk s x now k j) (hk' : k ≤ k') (hj : j ≤ j') : LI hk mk s x now k' j' := ⟨h.at_.mono hk', h.ok, h.cl, Nat.le_trans h.md hj, h.nx, h.dr⟩
theorem tki_step {hk mk tl : List UInt8} {now : Nat} {u : St5} {k : Int} {j : Nat} {q : St5} {e : Nat} {z : Stp} (h : TkI hk mk tl now u k j q false e) (hj : j < 90) (hz : StepR hk mk tl (moOf hk mk q.s now) q.s q.x now q.c q.p q.vl z) : TkI hk mk tl now u k j (after z) (fin z) z.e := by
  obtain ⟨i, hi3, hrun, hai, hLI, hpp, hcc⟩ := tki_go h
  have hx := stepR_x hz
  have hc2 := stepR_c hcc hz
  have hL2 := hLI.step ⟨by omega, by omega⟩ oM hz
  cases hf : fin z with
  | true =>
    refine .inr ⟨rfl, ⟨i, q, z, e, hi3, hrun, hz, hf, rfl, rfl⟩, hL2.mono oM oM, ?_, hc2⟩
    show z.p ≤ _; omega
  | false =>
    have h5 := stepY_asks hf
    have hi2 : i ≤ 2 := by
      have h1 : ¬ (¬ z.e = 0 ∨ 4 < z.y.asks + 1) := of_decide_eq_false hf
      rw [hx.1, hai] at h1; omega
    refine .inl ⟨rfl, i + 1, by omega, ⟨q, z, e, hrun, hz, hf, rfl, rfl⟩, ?_, hL2.mono oM oM, ?_, hc2⟩
    · show (stepY z).asks = _; rw [h5.1, hx.1, hai]
    · show z.p ≤ _; omega
theorem tkMu_lt {hk mk tl : List UInt8} {now i : Nat} {q : St5} {z : Stp} (hai : q.x.asks = i + 1) (hz : StepR hk mk tl (moOf hk mk q.s now) q.s q.x now q.c q.p q.vl z) (hi : i ≤ 3) : tkMu (after z) (fin z) < tkMu q false := by
  have hx := stepR_x hz
  unfold tkMu
  rw [if_neg (by decide : ¬ false = true)]
  cases hf : fin z with
  | true => rw [if_pos rfl]; omega
  | false =>
    rw [if_neg dC]
    have h5 := (stepY_asks hf).1
    show 6 - (stepY z).asks < _
    rw [h5, hx.1]; omega
theorem ltake_spec {x : Lk} {hk mk nk : List UInt8} {tb sb kb lb : Nat} {b : Bool} {s : Sh} {k : Int} {now mb c p j : Nat} {tl : List UInt8} {vb vl : Value} {w : World} (h3 : hk.length = 32 ∧ mk.length = 32 ∧ nk.length = 32) (h0 : x.own = [] ∧ x.asks = 0) (hLI : LI hk mk s x now k j) (hj : j < 90) (hkk : k < 4611686018426000000) (hnow : now ≤ 1099511627776) (hI0 : p ≤ 32 * c ∧ 32 * c < p + 32) (hp0 : p < 90000000000) (hlb : tl.length < 1099511627776) (hg : Ro (Fs [cel lb (hk.map B ++ (mk.map B ++ (nk.map B ++ ([PT tb, PT sb, PT kb, IN x.cl, IN x.made, Str x.own, IN x.asks, .bool x.want, Str x.next, .bool x.shown, IN x.m.c, .bool x.m.a, IN x.m.t])))) 182, cel kb ([IN now]) 178, cel sb ([Value.map (some mb), I (s.left), .bool s.off, I (s.made), I (s.room)]) 192, mapS mb (kvO s.obs), bag (s.obs.map (obR 5)), cel tb ([vb, .int .u64 ((c : Nat) : Int), vl]) 201, ownB vb tl 5, ownB vl ((tapeL tl c).drop p) 5]) w glob) (hh : Pre w [cel lb (hk.map B ++ (mk.map B ++ (nk.map B ++ ([PT tb, PT sb, PT kb, IN x.cl, IN x.made, Str x.own, IN x.asks, .bool x.want, Str x.next, .bool x.shown, IN x.m.c, .bool x.m.a, IN x.m.t])))) 182, cel kb ([IN now]) 178, cel sb ([Value.map (some mb), I (s.left), .bool s.off, I (s.made), I (s.room)]) 192, mapS mb (kvO s.obs), bag (s.obs.map (obR 5)), cel tb ([vb, .int .u64 ((c : Nat) : Int), vl]) 201, ownB vb tl 5, ownB vl ((tapeL tl c).drop p) 5]) :
    Spec Tryz.prog 43 [PT lb, .bool b] w [cel lb (hk.map B ++ (mk.map B ++ (nk.map B ++ ([PT tb, PT sb, PT kb, IN x.cl, IN x.made, Str x.own, IN x.asks, .bool x.want, Str x.next, .bool x.shown, IN x.m.c, .bool x.m.a, IN x.m.t])))) 182, cel kb ([IN now]) 178, cel sb ([Value.map (some mb), I (s.left), .bool s.off, I (s.made), I (s.room)]) 192, mapS mb (kvO s.obs), bag (s.obs.map (obR 5)), cel tb ([vb, .int .u64 ((c : Nat) : Int), vl]) 201, ownB vb tl 5, ownB vl ((tapeL tl c).drop p) 5] (fun z : St5 × Nat => TkI hk mk tl now ⟨s, x.asked b, c, p, vl⟩ k j z.1 true z.2) (fun z => IN z.2) (fun z => [cel lb (hk.map B ++ (mk.map B ++ (nk.map B ++ ([PT tb, PT sb, PT kb, IN z.1.x.cl, IN z.1.x.made, Str z.1.x.own, IN z.1.x.asks, .bool z.1.x.want, Str z.1.x.next, .bool z.1.x.shown, IN z.1.x.m.c, .bool z.1.x.m.a, IN z.1.x.m.t])))) 182, cel kb ([IN now]) 178, cel sb ([Value.map (some mb), I (z.1.s.left), .bool z.1.s.off, I (z.1.s.made), I (z.1.s.room)]) 192, mapS mb (kvO z.1.s.obs), bag (z.1.s.obs.map (obR 5)), cel tb ([vb, .int .u64 ((z.1.c : Nat) : Int), z.1.vl]) 201, ownB vb tl 5, ownB z.1.vl ((tapeL tl z.1.c).drop z.1.p) 5]) := by
  refine spec_of (n := 20) Tryz.func43 rfl rfl hh.1 hh.2 rfl ?_
  obtain ⟨hk32, mk32, nk32⟩ := h3
  refine tk_own1 (by repeat (first | exact .head _ | refine .tail _ ?_)) fun hfb => ?_; refine tk_own1 (by repeat (first | exact .head _ | refine .tail _ ?_)) fun hfl0 => ?_; refine s_r <| q_a rfl rfl <| s_n <| s_r <| q_m rfl rfl <| q_m rfl rfl <| tk_act rfl <| a_callv [] _ rfl kR rfl (fun w' hw' => ask_spec (b := b) (x := x) (hk := hk) (mk := mk) (nk := nk) (tb := tb) (sb := sb) (kb := kb) (lb := lb) ⟨lenP, lenP, lenP⟩ h0 (St.pre hw')) rfl fun _ _ => q_a rfl rfl <| s_n <| s_r <| q_m rfl rfl <| s_q rfl ((y_neq rfl rfl).cast (bool_f dC)) <| q_a rfl rfl <| s_n <| tk_seq <| tk_block <| tk_re 6 (.bool false) (.bool false) rfl (rfl) <| tk_R (H1 := [_, _, _, _, _, _, _]) rfl (show ownB vl ((tapeL tl c).drop p) 5 = ownB vl ((tapeL tl c).drop p) 5 from rfl) <| tk_loop (X := St5 × Bool × Nat) (fun (q, d, e) => TkI hk mk tl now ⟨s, x.asked b, c, p, vl⟩ k j q d e) (fun (q, d, e) => [(0, PT lb), (4, I 0), (5, IN e), (6, .bool d)]) (fun (q, d, e) => [cel lb (hk.map B ++ (mk.map B ++ (nk.map B ++ ([PT tb, PT sb, PT kb, IN q.x.cl, IN q.x.made, Str q.x.own, IN q.x.asks, .bool q.x.want, Str q.x.next, .bool q.x.shown, IN q.x.m.c, .bool q.x.m.a, IN q.x.m.t])))) 182, cel kb ([IN now]) 178, cel sb ([Value.map (some mb), I (q.s.left), .bool q.s.off, I (q.s.made), I (q.s.room)]) 192, mapS mb (kvO q.s.obs), bag (q.s.obs.map (obR 5)), cel tb ([vb, .int .u64 ((q.c : Nat) : Int), q.vl]) 201, ownB vb tl 5, ownB q.vl ((tapeL tl q.c).drop q.p) 5]) (fun (q, d, e) => tkMu q d) ((⟨s, x.asked b, c, p, vl⟩, false, 0)) (tki_0 hLI hI0) sB ((List.Sublist.refl _)) ?_
  rintro ⟨q, d, e⟩ hI
  dsimp only at hI ⊢
  refine tk_own1 (mm 7 rfl) fun hfl => tk_seq <| s_r <| q_m rfl rfl <| s_q rfl (y_not rfl) <| s_n <| tk_cond rfl (fun ht13 => ?_) (fun ht13 => ?_)
  · obtain rfl : d = false := by cases d <;> simp_all
    obtain ⟨i, hi3, hrun, hai, hLI, hpp, hcc⟩ := tki_go hI
    have hmd := hLI.md
    have hpp2 : q.p ≤ p + 16 * i := hpp
    exact tk_skip <| tk_then <| tk_block <| tk_region <| q_m rfl rfl <| tk_act rfl <| a_callv [] _ rfl kR rfl (fun w' hw' => sstep_spec (mo := (moOf hk mk q.s now)) (s := q.s) (k := (k + 2005 * i)) (now := now) (mb := mb) (c := q.c) (p := q.p) (tl := tl) (vb := vb) (vl := q.vl) (x := q.x) (hk := hk) (mk := mk) (nk := nk) (tb := tb) (sb := sb) (kb := kb) (lb := lb) ⟨lenP, lenP, lenP⟩ hLI.cl oM hLI.at_ oM (hLI.ok.all hnow) hnow hcc oM hlb hLI.nx oM (hg.call hw') (St.pre hw')) rfl fun z16 hz16 => tk_own1 (mm 7 rfl) fun hfz16 => q_m rfl rfl <| s_q rfl (y_extract rfl rfl) <| s_q rfl (y_extract rfl rfl) <| q_a rfl rfl <| q_a rfl rfl <| tk_nil <| tk_in_normal <| tk_again ((⟨stepT z16, stepY z16, z16.c, z16.p, z16.vl⟩, fin z16, z16.e)) (tki_step hI oM hz16) (tkMu_lt hai hz16 oM) sB (List.Sublist.refl _)
  · exact tk_exit <| tk_then_exit <| tk_then_exit <| tk_in_hit <| tk_then <| s_r <| q_m rfl rfl <| q_a rfl rfl <| s_n <| tk_retc <| tk_ret ((q, e)) ((by have hd : d = true := (by cases d <;> simp_all); subst hd; exact hI)) (.inl rfl) (r1 rfl rfl) (List.Sublist.refl _)
theorem takeno_spec {x : Lk} {hk mk nk : List UInt8} {tb sb kb lb : Nat} {b : Bool} {w : World} (h3 : hk.length = 32 ∧ mk.length = 32 ∧ nk.length = 32) (h0 : ¬ x.own = [] ∨ 0 < x.asks) (hh : Pre w [cel lb (hk.map B ++ (mk.map B ++ (nk.map B ++ ([PT tb, PT sb, PT kb, IN x.cl, IN x.made, Str x.own, IN x.asks, .bool x.want, Str x.next, .bool x.shown, IN x.m.c, .bool x.m.a, IN x.m.t])))) 182]) : Spec Tryz.prog 43 [PT lb, .bool b] w [cel lb (hk.map B ++ (mk.map B ++ (nk.map B ++ ([PT tb, PT sb, PT kb, IN x.cl, IN x.made, Str x.own, IN x.asks, .bool x.want, Str x.next, .bool x.shown, IN x.m.c, .bool x.m.a, IN x.m.t])))) 182] (fun _ : Unit => True) (fun _ => I 7) (fun _ => [cel lb (hk.map B ++ (mk.map B ++ (nk.map B ++ ([PT tb, PT sb, PT kb, IN x.cl, IN x.made, Str x.own, IN x.asks, .bool x.want, Str x.next, .bool x.shown, IN x.m.c, .bool x.m.a, IN x.m.t])))) 182]) := by
  refine spec_of (n := 20) Tryz.func43 rfl rfl hh.1 hh.2 rfl ?_
  obtain ⟨hk32, mk32, nk32⟩ := h3
  refine s_r <| q_a rfl rfl <| s_n <| s_r <| q_m rfl rfl <| q_m rfl rfl <| tk_act rfl <| a_callv [] _ rfl kR rfl (fun w' hw' => askno_spec (b := b) (x := x) (hk := hk) (mk := mk) (nk := nk) (tb := tb) (sb := sb) (kb := kb) (lb := lb) ⟨lenP, lenP, lenP⟩ h0 (St.pre hw')) rfl fun _ _ => q_a rfl rfl <| s_n <| s_r <| q_m rfl rfl <| s_q rfl ((y_neq rfl rfl).cast (bool_t dC)) <| q_a rfl rfl <| s_n <| tk_seq <| tk_block <| tk_re 6 (.bool true) (.bool true) rfl (rfl) <| tk_loop (X := Unit) (fun u => True) (fun u => [(0, PT lb), (4, I 0), (5, I 7), (6, .bool true)]) (fun u => [cel lb (hk.map B ++ (mk.map B ++ (nk.map B ++ ([PT tb, PT sb, PT kb, IN x.cl, IN x.made, Str x.own, IN x.asks, .bool x.want, Str x.next, .bool x.shown, IN x.m.c, .bool x.m.a, IN x.m.t])))) 182]) (fun u => 0) (()) (trivial) sB ((List.Sublist.refl _)) ?_
  rintro u hI
  try dsimp only at hI ⊢
  exact tk_seq <| s_r <| q_m rfl rfl <| s_q rfl (y_not rfl) <| s_n <| tk_cond0 rfl <| tk_exit <| tk_then_exit <| tk_then_exit <| tk_in_hit <| tk_then <| s_r <| q_m rfl rfl <| q_a rfl rfl <| s_n <| tk_retc <| tk_ret (()) (trivial) (.inl rfl) (r1 rfl rfl) (List.Sublist.refl _)
def Lk.lost (x : Lk) : Lk := { x with own := [] }
def Lk.rnw (x : Lk) (now : Nat) : Lk := { x with made := x.made + 1, own := lkName x.cl x.made, m := ⟨x.cl, x.m.a, now⟩ }
def relE (e : Nat) : Nat := if e = 6 then 0 else e
/-- what Renew may do -/
def RenR (hk mk tl : List UInt8) (s : Sh) (x : Lk) (now c p : Nat) (vl : Value) (z : Stp) : Prop :=
  ((¬ holdsP now x.m ∨ (s.get x.own).1 = 6) ∧ z = ⟨s, x.lost, 13, c, p, vl⟩) ∨ (¬ (s.get x.own).1 = 0 ∧ ¬ (s.get x.own).1 = 6 ∧ z = ⟨s, x, (s.get x.own).1, c, p, vl⟩) ∨
  (holdsP now x.m ∧ (s.get x.own).1 = 0 ∧ ∃ (c55 : Nat) (vl55 v55 : Value), (p + 16 ≤ 32 * c55 ∧ 32 * c55 < p + 16 + 32) ∧ ((¬ (writeF s (dfName x.cl) v55 (sealL hk mk 108 (lkName x.cl x.made) (tapeN tl p 16) (mkY (⟨x.cl, x.m.a, now⟩ : Mk)))).2 = 0 ∧ z = ⟨(writeF s (dfName x.cl) v55 (sealL hk mk 108 (lkName x.cl x.made) (tapeN tl p 16) (mkY (⟨x.cl, x.m.a, now⟩ : Mk)))).1, x, (writeF s (dfName x.cl) v55 (sealL hk mk 108 (lkName x.cl x.made) (tapeN tl p 16) (mkY (⟨x.cl, x.m.a, now⟩ : Mk)))).2, c55, p + 16, vl55⟩) ∨ ((writeF s (dfName x.cl) v55 (sealL hk mk 108 (lkName x.cl x.made) (tapeN tl p 16) (mkY (⟨x.cl, x.m.a, now⟩ : Mk)))).2 = 0 ∧
    ((¬ (showF (writeF s (dfName x.cl) v55 (sealL hk mk 108 (lkName x.cl x.made) (tapeN tl p 16) (mkY (⟨x.cl, x.m.a, now⟩ : Mk)))).1 (dfName x.cl) (lkName x.cl x.made)).2 = 0 ∧ z = ⟨(showF (writeF s (dfName x.cl) v55 (sealL hk mk 108 (lkName x.cl x.made) (tapeN tl p 16) (mkY (⟨x.cl, x.m.a, now⟩ : Mk)))).1 (dfName x.cl) (lkName x.cl x.made)).1, x, (showF (writeF s (dfName x.cl) v55 (sealL hk mk 108 (lkName x.cl x.made) (tapeN tl p 16) (mkY (⟨x.cl, x.m.a, now⟩ : Mk)))).1 (dfName x.cl) (lkName x.cl x.made)).2, c55, p + 16, vl55⟩) ∨ ((showF (writeF s (dfName x.cl) v55 (sealL hk mk 108 (lkName x.cl x.made) (tapeN tl p 16) (mkY (⟨x.cl, x.m.a, now⟩ : Mk)))).1 (dfName x.cl) (lkName x.cl x.made)).2 = 0 ∧ z = ⟨((showF (writeF s (dfName x.cl) v55 (sealL hk mk 108 (lkName x.cl x.made) (tapeN tl p 16) (mkY (⟨x.cl, x.m.a, now⟩ : Mk)))).1 (dfName x.cl) (lkName x.cl x.made)).1.del x.own).1, x.rnw now, relE ((showF (writeF s (dfName x.cl) v55 (sealL hk mk 108 (lkName x.cl x.made) (tapeN tl p 16) (mkY (⟨x.cl, x.m.a, now⟩ : Mk)))).1 (dfName x.cl) (lkName x.cl x.made)).1.del x.own).2, c55, p + 16, vl55⟩)))))
theorem renew_spec {x : Lk} {hk mk nk : List UInt8} {tb sb kb lb : Nat} {s : Sh} {k : Int} {now mb c p : Nat} {tl : List UInt8} {vb vl : Value} {w : World} (h3 : hk.length = 32 ∧ mk.length = 32 ∧ nk.length = 32) (hown : ¬ x.own = []) (hcl : x.cl < 100) (hmd : x.made < 100) (hmt : x.m.t ≤ now) (hat : ShAt s k) (hkk : k < 4611686018426000000) (hnow : now ≤ 1099511627776) (hI0 : p ≤ 32 * c ∧ 32 * c < p + 32) (hp0 : p < 90000000000) (hlb : tl.length < 1099511627776) (hg : Ro (Fs [cel lb (hk.map B ++ (mk.map B ++ (nk.map B ++ ([PT tb, PT sb, PT kb, IN x.cl, IN x.made, Str x.own, IN x.asks, .bool x.want, Str x.next, .bool x.shown, IN x.m.c, .bool x.m.a, IN x.m.t])))) 182, cel kb ([IN now]) 178, cel sb ([Value.map (some mb), I (s.left), .bool s.off, I (s.made), I (s.room)]) 192, mapS mb (kvO s.obs), bag (s.obs.map (obR 5)), cel tb ([vb, .int .u64 ((c : Nat) : Int), vl]) 201, ownB vb tl 5, ownB vl ((tapeL tl c).drop p) 5]) w glob) (hh : Pre w [cel lb (hk.map B ++ (mk.map B ++ (nk.map B ++ ([PT tb, PT sb, PT kb, IN x.cl, IN x.made, Str x.own, IN x.asks, .bool x.want, Str x.next, .bool x.shown, IN x.m.c, .bool x.m.a, IN x.m.t])))) 182, cel kb ([IN now]) 178, cel sb ([Value.map (some mb), I (s.left), .bool s.off, I (s.made), I (s.room)]) 192, mapS mb (kvO s.obs), bag (s.obs.map (obR 5)), cel tb ([vb, .int .u64 ((c : Nat) : Int), vl]) 201, ownB vb tl 5, ownB vl ((tapeL tl c).drop p) 5]) :
    Spec Tryz.prog 45 [PT lb] w [cel lb (hk.map B ++ (mk.map B ++ (nk.map B ++ ([PT tb, PT sb, PT kb, IN x.cl, IN x.made, Str x.own, IN x.asks, .bool x.want, Str x.next, .bool x.shown, IN x.m.c, .bool x.m.a, IN x.m.t])))) 182, cel kb ([IN now]) 178, cel sb ([Value.map (some mb), I (s.left), .bool s.off, I (s.made), I (s.room)]) 192, mapS mb (kvO s.obs), bag (s.obs.map (obR 5)), cel tb ([vb, .int .u64 ((c : Nat) : Int), vl]) 201, ownB vb tl 5, ownB vl ((tapeL tl c).drop p) 5] (RenR hk mk tl s x now c p vl) (fun z => IN z.e) (fun z => [cel lb (hk.map B ++ (mk.map B ++ (nk.map B ++ ([PT tb, PT sb, PT kb, IN z.y.cl, IN z.y.made, Str z.y.own, IN z.y.asks, .bool z.y.want, Str z.y.next, .bool z.y.shown, IN z.y.m.c, .bool z.y.m.a, IN z.y.m.t])))) 182, cel kb ([IN now]) 178, cel sb ([Value.map (some mb), I (z.t.left), .bool z.t.off, I (z.t.made), I (z.t.room)]) 192, mapS mb (kvO z.t.obs), bag (z.t.obs.map (obR 5)), cel tb ([vb, .int .u64 ((z.c : Nat) : Int), z.vl]) 201, ownB vb tl 5, ownB z.vl ((tapeL tl z.c).drop z.p) 5]) := by
  refine spec_of (n := 93) Tryz.func45 rfl rfl hh.1 hh.2 rfl ?_
  obtain ⟨hk32, mk32, nk32⟩ := h3
  have hok := hat.ok oM
  refine tk_own1 (by repeat (first | exact .head _ | refine .tail _ ?_)) fun hfb => ?_; refine tk_own1 (by repeat (first | exact .head _ | refine .tail _ ?_)) fun hfl => ?_
  have hln := lkName_len (n := x.made) hcl
  have hd2 := dec2_len (n := x.made)
  refine s_r <| q_a rfl rfl <| s_n <| tk_seq <| tk_block <| s_r <| q_m rfl rfl <| s_q rfl (y_pnil rfl rfl rfl) <| q_a rfl rfl <| s_n <| tk_cond0 rfl <| s_r <| q_m rfl rfl <| s_q rfl (y_nilCheck rfl) <| s_q rfl (y_fldN (o := 0) 101 rfl kR) <| s_q rfl (y_load rfl rfl (hc (o := 101) (.head _) (gA (k := 32) (i := 69) (by rw [List.length_map]; exact hk32) oM (gA (k := 32) (i := 37) (by rw [List.length_map]; exact mk32) oM (gA (k := 32) (i := 5) (by rw [List.length_map]; exact nk32) oM (rfl)))))) <| tk_qe (.bool false) rfl rfl rfl (y_strEq (l := x.own) (m := []) rfl rfl) (bool_f (hown)) <| q_a rfl rfl <| s_n <| tk_cond0 rfl <| tk_skip <| tk_in_normal <| tk_then <| tk_seq ?_; refine tk_drawH [cel lb (hk.map B ++ (mk.map B ++ (nk.map B ++ ([PT tb, PT sb, PT kb, IN x.cl, IN x.made, Str x.own, IN x.asks, .bool x.want, Str x.next, .bool x.shown, IN x.m.c, .bool x.m.a, IN x.m.t])))) 182, cel kb ([IN now]) 178, cel sb ([Value.map (some mb), I (s.left), .bool s.off, I (s.made), I (s.room)]) 192, mapS mb (kvO s.obs), bag (s.obs.map (obR 5)), cel tb ([vb, .int .u64 ((c : Nat) : Int), vl]) 201, ownB vb tl 5, ownB vl ((tapeL tl c).drop p) 5] [] kR <| s_x 0 rfl (y_move rfl) <| s_x 1 rfl (y_nilCheck rfl) <| s_x 2 rfl (y_fldN (o := 0) 97 rfl kR) <| s_l 3 rfl (fun _ h => h) (y_load rfl rfl (hc (o := 97) (.head _) (gA (k := 32) (i := 65) (by rw [List.length_map]; exact hk32) oM (gA (k := 32) (i := 33) (by rw [List.length_map]; exact mk32) oM (gA (k := 32) (i := 1) (by rw [List.length_map]; exact nk32) oM (rfl)))))) <| s_x 4 rfl (y_move rfl) <| s_x 5 rfl (y_nilCheck rfl) <| s_x 6 rfl (y_fldN (o := 0) 101 rfl kR) <| s_l 7 rfl (fun _ h => h) (y_load rfl rfl (hc (o := 101) (.head _) (gA (k := 32) (i := 69) (by rw [List.length_map]; exact hk32) oM (gA (k := 32) (i := 37) (by rw [List.length_map]; exact mk32) oM (gA (k := 32) (i := 5) (by rw [List.length_map]; exact nk32) oM (rfl)))))) <| tx_a 8 rfl kR rfl <| tk_ps [4, 4, 4] rfl <| a_callv [] _ rfl kR rfl (fun w' hw' => get_spec (s := s) (sb := sb) (mb := mb) (na := x.own) hok (St.pre hw')) rfl fun v28 _ => tk_S (fun _ h => ((((((((h.perm (pk 8 rfl)).perm (pk 8 rfl)).perm (pk 8 rfl)).perm (pk 6 rfl)).perm (pk 6 rfl)).perm (pk 6 rfl)).perm (pk 8 rfl)).perm (pk 8 rfl)).sub (.cons_cons _ (.cons_cons _ (.cons_cons _ (.cons_cons _ (.cons_cons _ (.cons_cons _ (.cons_cons _ (.cons_cons _ (List.nil_sublist _)))))))))) <| s_x 9 rfl (y_move rfl) <| s_x 10 rfl (y_extract rfl rfl) <| s_x 11 rfl (y_extract rfl rfl) <| s_x 12 rfl (y_assign rfl) <| s_x 13 rfl (y_assign rfl) <| tx_done kR <| tk_then <| tk_seq <| s_r <| q_m rfl rfl <| q_m rfl rfl ?_; refine s_q rfl (y_nilCheck rfl) <| s_q rfl (y_fldN (o := 0) 106 rfl kR) <| s_q rfl (y_loadA (vs := [IN x.m.c, .bool x.m.a, IN x.m.t]) 3 rfl kR lenP (hseg (pre := hk.map B ++ (mk.map B ++ (nk.map B ++ ([PT tb, PT sb, PT kb, IN x.cl, IN x.made, Str x.own, IN x.asks, .bool x.want, Str x.next, .bool x.shown])))) (post := ([] : List Value)) (mm 4 rfl) lenP sI)) <| tk_act rfl <| tk_ps [5, 5] rfl <| a_callv [] _ rfl kR rfl (fun w' hw' => holds_spec (m := x.m) (now := now) (x := x) (hk := hk) (mk := mk) (nk := nk) (tb := tb) (sb := sb) (kb := kb) (lb := lb) ⟨lenP, lenP, lenP⟩ ⟨hmt, by omega⟩ (St.pre hw')) rfl fun _ _ => tk_qs rfl rfl rfl ((y_not rfl).cast (notdec _)) (fun hs6_6 => ?_) (fun hs6_6 => ?_)
  · exact q_m rfl rfl <| tk_gno rfl rfl rfl <| tk_gno rfl rfl rfl <| s_q rfl (y_pick1 rfl rfl) <| s_n <| tk_cond1 rfl <| s_r <| q_m rfl rfl <| s_q rfl (y_nilCheck rfl) <| s_q rfl (y_fldN (o := 0) 101 rfl kR) <| tk_act rfl <| a_storeE (H1 := []) (o := 101) (v := Str []) (cs' := hk.map B ++ (mk.map B ++ (nk.map B ++ ([PT tb, PT sb, PT kb, IN x.cl, IN x.made, Str [], IN x.asks, .bool x.want, Str x.next, .bool x.shown, IN x.m.c, .bool x.m.a, IN x.m.t])))) rfl rfl kR rfl rfl sW (sA (k := 32) (i := 69) (by rw [List.length_map]; exact hk32) oM (sA (k := 32) (i := 37) (by rw [List.length_map]; exact mk32) oM (sA (k := 32) (i := 5) (by rw [List.length_map]; exact nk32) oM (rfl)))) <| s_n <| s_r <| q_a rfl rfl <| s_n <| tk_retc <| tk_then_ret <| tk_R (H1 := []) rfl (congrArg (fun z_ => cel lb z_ 182) (show hk.map B ++ (mk.map B ++ (nk.map B ++ ([PT tb, PT sb, PT kb, IN x.cl, IN x.made, Str [], IN x.asks, .bool x.want, Str x.next, .bool x.shown, IN x.m.c, .bool x.m.a, IN x.m.t]))) = hk.map B ++ (mk.map B ++ (nk.map B ++ ([PT tb, PT sb, PT kb, IN x.lost.cl, IN x.lost.made, Str x.lost.own, IN x.lost.asks, .bool x.lost.want, Str x.lost.next, .bool x.lost.shown, IN x.lost.m.c, .bool x.lost.m.a, IN x.lost.m.t]))) from rfl)) <| tk_ret (⟨s, x.lost, 13, c, p, vl⟩) (.inl ⟨.inl hs6_6, rfl⟩) (.inl rfl) (r1 rfl rfl) (.cons_cons _ (.cons_cons _ (.cons _ (List.Sublist.refl _))))
  · refine q_m rfl rfl <| s_g rfl (y_move rfl) <| s_g rfl (y_eql rfl rfl) <| s_q rfl (y_pick0 rfl rfl) <| s_n <| tk_condP rfl (fun ht41 => ?_) (fun ht41 => ?_)
    · exact s_r <| q_m rfl rfl <| s_q rfl (y_nilCheck rfl) <| s_q rfl (y_fldN (o := 0) 101 rfl kR) <| tk_act rfl <| a_storeE (H1 := []) (o := 101) (v := Str []) (cs' := hk.map B ++ (mk.map B ++ (nk.map B ++ ([PT tb, PT sb, PT kb, IN x.cl, IN x.made, Str [], IN x.asks, .bool x.want, Str x.next, .bool x.shown, IN x.m.c, .bool x.m.a, IN x.m.t])))) rfl rfl kR rfl rfl sW (sA (k := 32) (i := 69) (by rw [List.length_map]; exact hk32) oM (sA (k := 32) (i := 37) (by rw [List.length_map]; exact mk32) oM (sA (k := 32) (i := 5) (by rw [List.length_map]; exact nk32) oM (rfl)))) <| s_n <| s_r <| q_a rfl rfl <| s_n <| tk_retc <| tk_then_ret <| tk_R (H1 := []) rfl (congrArg (fun z_ => cel lb z_ 182) (show hk.map B ++ (mk.map B ++ (nk.map B ++ ([PT tb, PT sb, PT kb, IN x.cl, IN x.made, Str [], IN x.asks, .bool x.want, Str x.next, .bool x.shown, IN x.m.c, .bool x.m.a, IN x.m.t]))) = hk.map B ++ (mk.map B ++ (nk.map B ++ ([PT tb, PT sb, PT kb, IN x.lost.cl, IN x.lost.made, Str x.lost.own, IN x.lost.asks, .bool x.lost.want, Str x.lost.next, .bool x.lost.shown, IN x.lost.m.c, .bool x.lost.m.a, IN x.lost.m.t]))) from rfl)) <| tk_ret (⟨s, x.lost, 13, c, p, vl⟩) (.inl ⟨.inr oM, rfl⟩) (.inl rfl) (r1 rfl rfl) (.cons_cons _ (.cons_cons _ (.cons _ (List.Sublist.refl _))))
    · refine tk_skip <| tk_then <| tk_seq <| s_r <| q_m rfl rfl <| s_q rfl (y_neq rfl rfl) <| s_n <| tk_condP rfl (fun ht46 => ?_) (fun ht46 => ?_)
      · exact s_r <| q_m rfl rfl <| q_a rfl rfl <| s_n <| tk_retc <| tk_then_ret <| tk_ret (⟨s, x, (s.get x.own).1, c, p, vl⟩) (.inr (.inl ⟨by omega, by omega, rfl⟩)) (.inl rfl) (r1 rfl rfl) (.cons_cons _ (.cons_cons _ (.cons _ (List.Sublist.refl _))))
      · refine tk_skip <| tk_then <| s_r <| q_m rfl rfl <| q_m rfl rfl <| s_q rfl (y_nilCheck rfl) <| s_q rfl (y_fldN (o := 0) 106 rfl kR) <| s_q rfl (y_fldN (o := 106) 1 rfl kR) <| s_q rfl (y_load rfl rfl (hc (o := 107) (.head _) (gA (k := 32) (i := 75) (by rw [List.length_map]; exact hk32) oM (gA (k := 32) (i := 43) (by rw [List.length_map]; exact mk32) oM (gA (k := 32) (i := 11) (by rw [List.length_map]; exact nk32) oM (rfl)))))) <| tk_act rfl <| tk_ps [8, 8, 8, 8, 8, 8, 7, 7] rfl <| a_callv [] _ rfl kR rfl (fun w' hw' => lwrite_spec (al := x.m.a) (s := s) (k := k) (now := now) (mb := mb) (c := c) (p := p) (tl := tl) (vb := vb) (vl := vl) (x := x) (hk := hk) (mk := mk) (nk := nk) (tb := tb) (sb := sb) (kb := kb) (lb := lb) ⟨lenP, lenP, lenP⟩ hcl hmd hat oM hnow hI0 oM hlb (hg.call hw') (St.pre hw')) rfl fun ⟨c55, vl55, v55⟩ hx55 => ?_
        dsimp only at hx55 ⊢
        refine tk_own1 (mm 7 rfl) fun hfvl55 => ?_
        have hat1 := at_write (d := (dfName x.cl)) (v := v55) (b := sealL hk mk 108 (lkName x.cl x.made) (tapeN tl p 16) (mkY (⟨x.cl, x.m.a, now⟩ : Mk))) hat
        have hat2 := at_show (d := (dfName x.cl)) (n := (lkName x.cl x.made)) hat1
        have hokq : ShOk (showF (writeF s (dfName x.cl) v55 (sealL hk mk 108 (lkName x.cl x.made) (tapeN tl p 16) (mkY (⟨x.cl, x.m.a, now⟩ : Mk)))).1 (dfName x.cl) (lkName x.cl x.made)).1 := hat2.ok oM
        refine q_m rfl rfl <| s_q rfl (y_extract rfl rfl) <| s_q rfl (y_extract rfl rfl) <| s_q rfl (y_extract rfl rfl) <| tk_act rfl <| a_allocL (cs := [I 0, .bool false, I 0]) kR rfl fun b6 => q_a rfl rfl <| tk_act rfl <| a_storeW (H1 := []) (vs := [I (((wrM (writeF s (dfName x.cl) v55 (sealL hk mk 108 (lkName x.cl x.made) (tapeN tl p 16) (mkY (⟨x.cl, x.m.a, now⟩ : Mk)))).2 (⟨x.cl, x.m.a, now⟩ : Mk)).c : Nat) : Int), .bool ((wrM (writeF s (dfName x.cl) v55 (sealL hk mk 108 (lkName x.cl x.made) (tapeN tl p 16) (mkY (⟨x.cl, x.m.a, now⟩ : Mk)))).2 (⟨x.cl, x.m.a, now⟩ : Mk)).a), I (((wrM (writeF s (dfName x.cl) v55 (sealL hk mk 108 (lkName x.cl x.made) (tapeN tl p 16) (mkY (⟨x.cl, x.m.a, now⟩ : Mk)))).2 (⟨x.cl, x.m.a, now⟩ : Mk)).t : Nat) : Int)]) 3 rfl rfl kR rfl ⟨lenP, lenP⟩ (List.forall_mem_cons.2 ⟨rfl, (List.forall_mem_cons.2 ⟨rfl, (List.forall_mem_cons.2 ⟨rfl, (fun _ h => nomatch h)⟩)⟩)⟩) <| q_a rfl rfl <| s_n <| tk_seq <| s_r <| q_m rfl rfl <| s_q rfl (y_neq rfl rfl) <| s_n <| tk_condP rfl (fun ht60 => ?_) (fun ht60 => ?_)
        · exact s_r <| q_m rfl rfl <| q_a rfl rfl <| s_n <| tk_retc <| tk_then_ret <| tk_ret (⟨(writeF s (dfName x.cl) v55 (sealL hk mk 108 (lkName x.cl x.made) (tapeN tl p 16) (mkY (⟨x.cl, x.m.a, now⟩ : Mk)))).1, x, (writeF s (dfName x.cl) v55 (sealL hk mk 108 (lkName x.cl x.made) (tapeN tl p 16) (mkY (⟨x.cl, x.m.a, now⟩ : Mk)))).2, c55, (p + 16), vl55⟩) (.inr (.inr ⟨Classical.not_not.1 hs6_6, by omega, c55, vl55, v55, by simpa using hx55, .inl ⟨by omega, rfl⟩⟩)) (.inl rfl) (r1 rfl rfl) (.cons _ (.cons_cons _ (.cons_cons _ (.cons_cons _ (.cons_cons _ (.cons_cons _ (.cons_cons _ (.cons_cons _ (.cons_cons _ (List.nil_sublist _))))))))))
        · have hw0 : (writeF s (dfName x.cl) v55 (sealL hk mk 108 (lkName x.cl x.made) (tapeN tl p 16) (mkY (⟨x.cl, x.m.a, now⟩ : Mk)))).2 = 0 := by omega
          refine tk_re 5 (Str (wrN (writeF s (dfName x.cl) v55 (sealL hk mk 108 (lkName x.cl x.made) (tapeN tl p 16) (mkY (⟨x.cl, x.m.a, now⟩ : Mk)))).2 (lkName x.cl x.made))) (Str (lkName x.cl x.made)) rfl (by rw [hw0]; rfl) <| tk_R (H1 := []) rfl (congrArg (fun z_ => cel b6 z_ 180) (show [I (((wrM (writeF s (dfName x.cl) v55 (sealL hk mk 108 (lkName x.cl x.made) (tapeN tl p 16) (mkY (⟨x.cl, x.m.a, now⟩ : Mk)))).2 (⟨x.cl, x.m.a, now⟩ : Mk)).c : Nat) : Int), .bool ((wrM (writeF s (dfName x.cl) v55 (sealL hk mk 108 (lkName x.cl x.made) (tapeN tl p 16) (mkY (⟨x.cl, x.m.a, now⟩ : Mk)))).2 (⟨x.cl, x.m.a, now⟩ : Mk)).a), I (((wrM (writeF s (dfName x.cl) v55 (sealL hk mk 108 (lkName x.cl x.made) (tapeN tl p 16) (mkY (⟨x.cl, x.m.a, now⟩ : Mk)))).2 (⟨x.cl, x.m.a, now⟩ : Mk)).t : Nat) : Int)] = [I (((⟨x.cl, x.m.a, now⟩ : Mk).c : Nat) : Int), .bool ((⟨x.cl, x.m.a, now⟩ : Mk).a), I (((⟨x.cl, x.m.a, now⟩ : Mk).t : Nat) : Int)] from by rw [hw0]; rfl)) <| tk_skip <| tk_then <| tk_seq <| s_r <| q_m rfl rfl <| q_m rfl rfl <| tk_act rfl <| tk_ps [5, 5, 5, 4] rfl <| a_callv [] _ rfl kR rfl (fun w' hw' => show_spec (s := (writeF s (dfName x.cl) v55 (sealL hk mk 108 (lkName x.cl x.made) (tapeN tl p 16) (mkY (⟨x.cl, x.m.a, now⟩ : Mk)))).1) (k := (k + 4)) (mb := mb) (n := (lkName x.cl x.made)) (x := x) (hk := hk) (mk := mk) (nk := nk) (tb := tb) (sb := sb) (kb := kb) (lb := lb) ⟨lenP, lenP, lenP⟩ hcl hmd oM hat1 oM (St.pre hw')) rfl fun _ _ => q_a rfl rfl <| s_n <| s_r <| q_m rfl rfl <| s_q rfl (y_neq rfl rfl) <| s_n <| tk_condP rfl (fun ht66 => ?_) (fun ht66 => ?_)
          · exact s_r <| q_m rfl rfl <| q_a rfl rfl <| s_n <| tk_retc <| tk_then_ret <| tk_R (H1 := []) rfl (congrArg (fun z_ => cel lb z_ 182) (show hk.map B ++ (mk.map B ++ (nk.map B ++ ([PT tb, PT sb, PT kb, I (((x.up (showF ((writeF s (dfName x.cl) v55 (sealL hk mk 108 (lkName x.cl x.made) (tapeN tl p 16) (mkY (⟨x.cl, x.m.a, now⟩ : Mk)))).1) (dfName x.cl) (lkName x.cl x.made)).2).cl : Nat) : Int), I (((x.up (showF ((writeF s (dfName x.cl) v55 (sealL hk mk 108 (lkName x.cl x.made) (tapeN tl p 16) (mkY (⟨x.cl, x.m.a, now⟩ : Mk)))).1) (dfName x.cl) (lkName x.cl x.made)).2).made : Nat) : Int), Str ((x.up (showF ((writeF s (dfName x.cl) v55 (sealL hk mk 108 (lkName x.cl x.made) (tapeN tl p 16) (mkY (⟨x.cl, x.m.a, now⟩ : Mk)))).1) (dfName x.cl) (lkName x.cl x.made)).2).own), I (((x.up (showF ((writeF s (dfName x.cl) v55 (sealL hk mk 108 (lkName x.cl x.made) (tapeN tl p 16) (mkY (⟨x.cl, x.m.a, now⟩ : Mk)))).1) (dfName x.cl) (lkName x.cl x.made)).2).asks : Nat) : Int), .bool ((x.up (showF ((writeF s (dfName x.cl) v55 (sealL hk mk 108 (lkName x.cl x.made) (tapeN tl p 16) (mkY (⟨x.cl, x.m.a, now⟩ : Mk)))).1) (dfName x.cl) (lkName x.cl x.made)).2).want), Str ((x.up (showF ((writeF s (dfName x.cl) v55 (sealL hk mk 108 (lkName x.cl x.made) (tapeN tl p 16) (mkY (⟨x.cl, x.m.a, now⟩ : Mk)))).1) (dfName x.cl) (lkName x.cl x.made)).2).next), .bool ((x.up (showF ((writeF s (dfName x.cl) v55 (sealL hk mk 108 (lkName x.cl x.made) (tapeN tl p 16) (mkY (⟨x.cl, x.m.a, now⟩ : Mk)))).1) (dfName x.cl) (lkName x.cl x.made)).2).shown), I (((x.up (showF ((writeF s (dfName x.cl) v55 (sealL hk mk 108 (lkName x.cl x.made) (tapeN tl p 16) (mkY (⟨x.cl, x.m.a, now⟩ : Mk)))).1) (dfName x.cl) (lkName x.cl x.made)).2).m.c : Nat) : Int), .bool ((x.up (showF ((writeF s (dfName x.cl) v55 (sealL hk mk 108 (lkName x.cl x.made) (tapeN tl p 16) (mkY (⟨x.cl, x.m.a, now⟩ : Mk)))).1) (dfName x.cl) (lkName x.cl x.made)).2).m.a), I (((x.up (showF ((writeF s (dfName x.cl) v55 (sealL hk mk 108 (lkName x.cl x.made) (tapeN tl p 16) (mkY (⟨x.cl, x.m.a, now⟩ : Mk)))).1) (dfName x.cl) (lkName x.cl x.made)).2).m.t : Nat) : Int)]))) = hk.map B ++ (mk.map B ++ (nk.map B ++ ([PT tb, PT sb, PT kb, IN x.cl, IN x.made, Str x.own, IN x.asks, .bool x.want, Str x.next, .bool x.shown, IN x.m.c, .bool x.m.a, IN x.m.t]))) from by rw [up_1 oM])) <| tk_ps [8, 8, 8, 6, 6, 6, 8, 7] rfl <| tk_ret (⟨(showF (writeF s (dfName x.cl) v55 (sealL hk mk 108 (lkName x.cl x.made) (tapeN tl p 16) (mkY (⟨x.cl, x.m.a, now⟩ : Mk)))).1 (dfName x.cl) (lkName x.cl x.made)).1, x, (showF (writeF s (dfName x.cl) v55 (sealL hk mk 108 (lkName x.cl x.made) (tapeN tl p 16) (mkY (⟨x.cl, x.m.a, now⟩ : Mk)))).1 (dfName x.cl) (lkName x.cl x.made)).2, c55, (p + 16), vl55⟩) (.inr (.inr ⟨Classical.not_not.1 hs6_6, by omega, c55, vl55, v55, by simpa using hx55, .inr ⟨hw0, .inl ⟨by omega, rfl⟩⟩⟩)) (.inl rfl) (r1 rfl rfl) (.cons_cons _ (.cons_cons _ (.cons_cons _ (.cons_cons _ (.cons_cons _ (.cons_cons _ (.cons_cons _ (.cons_cons _ (List.nil_sublist _)))))))))
          · have hs0 : (showF (writeF s (dfName x.cl) v55 (sealL hk mk 108 (lkName x.cl x.made) (tapeN tl p 16) (mkY (⟨x.cl, x.m.a, now⟩ : Mk)))).1 (dfName x.cl) (lkName x.cl x.made)).2 = 0 := by omega
            refine tk_R (H1 := []) rfl (congrArg (fun z_ => cel lb z_ 182) (show hk.map B ++ (mk.map B ++ (nk.map B ++ ([PT tb, PT sb, PT kb, I (((x.up (showF ((writeF s (dfName x.cl) v55 (sealL hk mk 108 (lkName x.cl x.made) (tapeN tl p 16) (mkY (⟨x.cl, x.m.a, now⟩ : Mk)))).1) (dfName x.cl) (lkName x.cl x.made)).2).cl : Nat) : Int), I (((x.up (showF ((writeF s (dfName x.cl) v55 (sealL hk mk 108 (lkName x.cl x.made) (tapeN tl p 16) (mkY (⟨x.cl, x.m.a, now⟩ : Mk)))).1) (dfName x.cl) (lkName x.cl x.made)).2).made : Nat) : Int), Str ((x.up (showF ((writeF s (dfName x.cl) v55 (sealL hk mk 108 (lkName x.cl x.made) (tapeN tl p 16) (mkY (⟨x.cl, x.m.a, now⟩ : Mk)))).1) (dfName x.cl) (lkName x.cl x.made)).2).own), I (((x.up (showF ((writeF s (dfName x.cl) v55 (sealL hk mk 108 (lkName x.cl x.made) (tapeN tl p 16) (mkY (⟨x.cl, x.m.a, now⟩ : Mk)))).1) (dfName x.cl) (lkName x.cl x.made)).2).asks : Nat) : Int), .bool ((x.up (showF ((writeF s (dfName x.cl) v55 (sealL hk mk 108 (lkName x.cl x.made) (tapeN tl p 16) (mkY (⟨x.cl, x.m.a, now⟩ : Mk)))).1) (dfName x.cl) (lkName x.cl x.made)).2).want), Str ((x.up (showF ((writeF s (dfName x.cl) v55 (sealL hk mk 108 (lkName x.cl x.made) (tapeN tl p 16) (mkY (⟨x.cl, x.m.a, now⟩ : Mk)))).1) (dfName x.cl) (lkName x.cl x.made)).2).next), .bool ((x.up (showF ((writeF s (dfName x.cl) v55 (sealL hk mk 108 (lkName x.cl x.made) (tapeN tl p 16) (mkY (⟨x.cl, x.m.a, now⟩ : Mk)))).1) (dfName x.cl) (lkName x.cl x.made)).2).shown), I (((x.up (showF ((writeF s (dfName x.cl) v55 (sealL hk mk 108 (lkName x.cl x.made) (tapeN tl p 16) (mkY (⟨x.cl, x.m.a, now⟩ : Mk)))).1) (dfName x.cl) (lkName x.cl x.made)).2).m.c : Nat) : Int), .bool ((x.up (showF ((writeF s (dfName x.cl) v55 (sealL hk mk 108 (lkName x.cl x.made) (tapeN tl p 16) (mkY (⟨x.cl, x.m.a, now⟩ : Mk)))).1) (dfName x.cl) (lkName x.cl x.made)).2).m.a), I (((x.up (showF ((writeF s (dfName x.cl) v55 (sealL hk mk 108 (lkName x.cl x.made) (tapeN tl p 16) (mkY (⟨x.cl, x.m.a, now⟩ : Mk)))).1) (dfName x.cl) (lkName x.cl x.made)).2).m.t : Nat) : Int)]))) = hk.map B ++ (mk.map B ++ (nk.map B ++ ([PT tb, PT sb, PT kb, IN x.cl, I ((x.made + 1 : Nat) : Int), Str x.own, IN x.asks, .bool x.want, Str x.next, .bool x.shown, IN x.m.c, .bool x.m.a, IN x.m.t]))) from by rw [up_0 hs0])) <| tk_skip <| tk_then <| s_r <| q_m rfl rfl <| s_q rfl (y_nilCheck rfl) <| s_q rfl (y_fldN (o := 0) 101 rfl kR) <| s_q rfl (y_load rfl rfl (hc (o := 101) (.head _) (gA (k := 32) (i := 69) (by rw [List.length_map]; exact hk32) oM (gA (k := 32) (i := 37) (by rw [List.length_map]; exact mk32) oM (gA (k := 32) (i := 5) (by rw [List.length_map]; exact nk32) oM (rfl)))))) ?_; refine q_a rfl rfl <| s_n <| tk_seq <| tk_drawH [cel sb ([Value.map (some mb), I ((showF ((writeF s (dfName x.cl) v55 (sealL hk mk 108 (lkName x.cl x.made) (tapeN tl p 16) (mkY (⟨x.cl, x.m.a, now⟩ : Mk)))).1) (dfName x.cl) (lkName x.cl x.made)).1.left), .bool ((showF ((writeF s (dfName x.cl) v55 (sealL hk mk 108 (lkName x.cl x.made) (tapeN tl p 16) (mkY (⟨x.cl, x.m.a, now⟩ : Mk)))).1) (dfName x.cl) (lkName x.cl x.made)).1.off), I ((showF ((writeF s (dfName x.cl) v55 (sealL hk mk 108 (lkName x.cl x.made) (tapeN tl p 16) (mkY (⟨x.cl, x.m.a, now⟩ : Mk)))).1) (dfName x.cl) (lkName x.cl x.made)).1.made), I ((showF ((writeF s (dfName x.cl) v55 (sealL hk mk 108 (lkName x.cl x.made) (tapeN tl p 16) (mkY (⟨x.cl, x.m.a, now⟩ : Mk)))).1) (dfName x.cl) (lkName x.cl x.made)).1.room)]) 192, mapS mb (kvO ((showF ((writeF s (dfName x.cl) v55 (sealL hk mk 108 (lkName x.cl x.made) (tapeN tl p 16) (mkY (⟨x.cl, x.m.a, now⟩ : Mk)))).1) (dfName x.cl) (lkName x.cl x.made)).1.obs)), bag (((showF ((writeF s (dfName x.cl) v55 (sealL hk mk 108 (lkName x.cl x.made) (tapeN tl p 16) (mkY (⟨x.cl, x.m.a, now⟩ : Mk)))).1) (dfName x.cl) (lkName x.cl x.made)).1.obs).map (obR 5)), cel b6 ([I (((⟨x.cl, x.m.a, now⟩ : Mk).c : Nat) : Int), .bool ((⟨x.cl, x.m.a, now⟩ : Mk).a), I (((⟨x.cl, x.m.a, now⟩ : Mk).t : Nat) : Int)]) 180, cel kb ([IN now]) 178, cel tb ([vb, .int .u64 ((c55 : Nat) : Int), vl55]) 201, ownB vb tl 5, ownB vl55 ((tapeL tl c55).drop (p + 16)) 5, ownB v28 ((s.get x.own).2) 5] [] kR <| s_x 0 rfl (y_move rfl) <| s_x 1 rfl (y_move rfl) <| s_x 2 rfl (y_move rfl) <| s_l 3 rfl (fun _ h => kD 1 rfl h) (y_loadA 3 rfl kR lenP (hcw (mm 3 rfl))) <| s_x 4 rfl (y_nilCheck rfl) <| s_x 5 rfl (y_fldN (o := 0) 101 rfl kR) <| tx_a 6 rfl kR rfl <| a_storeE (H1 := []) (o := 101) (v := Str (lkName x.cl x.made)) (cs' := hk.map B ++ (mk.map B ++ (nk.map B ++ ([PT tb, PT sb, PT kb, IN x.cl, I ((x.made + 1 : Nat) : Int), Str (lkName x.cl x.made), IN x.asks, .bool x.want, Str x.next, .bool x.shown, IN x.m.c, .bool x.m.a, IN x.m.t])))) rfl rfl kR rfl rfl sW (sA (k := 32) (i := 69) (by rw [List.length_map]; exact hk32) oM (sA (k := 32) (i := 37) (by rw [List.length_map]; exact mk32) oM (sA (k := 32) (i := 5) (by rw [List.length_map]; exact nk32) oM (rfl)))) <| tk_S (fun _ h => kD 1 rfl h) <| s_x 7 rfl (y_nilCheck rfl) <| s_x 8 rfl (y_fldN (o := 0) 106 rfl kR) <| tx_a 9 rfl kR rfl <| a_storeLE (H1 := []) (pre := hk.map B ++ (mk.map B ++ (nk.map B ++ ([PT tb, PT sb, PT kb, IN x.cl, I ((x.made + 1 : Nat) : Int), Str (lkName x.cl x.made), IN x.asks, .bool x.want, Str x.next, .bool x.shown])))) (mid := [IN x.m.c, .bool x.m.a, IN x.m.t]) (post := ([] : List Value)) (vs := [I (((⟨x.cl, x.m.a, now⟩ : Mk).c : Nat) : Int), .bool ((⟨x.cl, x.m.a, now⟩ : Mk).a), I (((⟨x.cl, x.m.a, now⟩ : Mk).t : Nat) : Int)]) (cs' := hk.map B ++ (mk.map B ++ (nk.map B ++ ([PT tb, PT sb, PT kb, IN x.cl, I ((x.made + 1 : Nat) : Int), Str (lkName x.cl x.made), IN x.asks, .bool x.want, Str x.next, .bool x.shown, I (((⟨x.cl, x.m.a, now⟩ : Mk).c : Nat) : Int), .bool ((⟨x.cl, x.m.a, now⟩ : Mk).a), I (((⟨x.cl, x.m.a, now⟩ : Mk).t : Nat) : Int)])))) 3 rfl rfl kR rfl ⟨lenP, lenP, lenP⟩ (List.forall_mem_cons.2 ⟨rfl, (List.forall_mem_cons.2 ⟨rfl, (List.forall_mem_cons.2 ⟨rfl, (fun _ h => nomatch h)⟩)⟩)⟩) sI sI ?_; refine tk_S (fun _ h => kD 1 rfl h) <| tx_done kR <| tk_then <| tk_seq <| s_r <| q_m rfl rfl <| s_q rfl (y_nilCheck rfl) <| s_q rfl (y_fldN (o := 0) 97 rfl kR) <| s_q rfl (y_load rfl rfl (hc (o := 97) (.head _) (gA (k := 32) (i := 65) (by rw [List.length_map]; exact hk32) oM (gA (k := 32) (i := 33) (by rw [List.length_map]; exact mk32) oM (gA (k := 32) (i := 1) (by rw [List.length_map]; exact nk32) oM (rfl)))))) <| q_m rfl rfl <| tk_act rfl <| tk_ps [3, 3, 3] rfl <| a_callv [] _ rfl kR rfl (fun w' hw' => del_spec (s := (showF ((writeF s (dfName x.cl) v55 (sealL hk mk 108 (lkName x.cl x.made) (tapeN tl p 16) (mkY (⟨x.cl, x.m.a, now⟩ : Mk)))).1) (dfName x.cl) (lkName x.cl x.made)).1) (sb := sb) (mb := mb) (na := x.own) hokq  (St.pre hw')) rfl fun _ _ => q_a rfl rfl <| s_n <| s_r <| q_m rfl rfl <| tk_qs rfl rfl rfl (y_neq rfl rfl) (fun hs20_1 => ?_) (fun hs20_1 => ?_)
            · refine q_m rfl rfl <| s_g rfl (y_move rfl) <| s_g rfl (y_neq rfl rfl) <| s_q rfl (y_pick1 rfl rfl) <| s_n <| tk_condP rfl (fun ht91 => ?_) (fun ht91 => ?_)
              · exact s_r <| q_m rfl rfl <| q_a rfl rfl <| s_n <| tk_retc <| tk_then_ret <| tk_R (H1 := [_, _, _]) rfl (congrArg (fun z_ => cel lb z_ 182) (show hk.map B ++ (mk.map B ++ (nk.map B ++ ([PT tb, PT sb, PT kb, IN x.cl, I ((x.made + 1 : Nat) : Int), Str (lkName x.cl x.made), IN x.asks, .bool x.want, Str x.next, .bool x.shown, I (((⟨x.cl, x.m.a, now⟩ : Mk).c : Nat) : Int), .bool ((⟨x.cl, x.m.a, now⟩ : Mk).a), I (((⟨x.cl, x.m.a, now⟩ : Mk).t : Nat) : Int)]))) = hk.map B ++ (mk.map B ++ (nk.map B ++ ([PT tb, PT sb, PT kb, I (((x.rnw now).cl : Nat) : Int), I (((x.rnw now).made : Nat) : Int), Str ((x.rnw now).own), I (((x.rnw now).asks : Nat) : Int), .bool ((x.rnw now).want), Str ((x.rnw now).next), .bool ((x.rnw now).shown), I (((x.rnw now).m.c : Nat) : Int), .bool ((x.rnw now).m.a), I (((x.rnw now).m.t : Nat) : Int)]))) from rfl)) <| tk_re 2 (I (((((showF ((writeF s (dfName x.cl) v55 (sealL hk mk 108 (lkName x.cl x.made) (tapeN tl p 16) (mkY (⟨x.cl, x.m.a, now⟩ : Mk)))).1) (dfName x.cl) (lkName x.cl x.made)).1).del x.own).2 : Nat) : Int)) (I (((relE ((showF (writeF s (dfName x.cl) v55 (sealL hk mk 108 (lkName x.cl x.made) (tapeN tl p 16) (mkY (⟨x.cl, x.m.a, now⟩ : Mk)))).1 (dfName x.cl) (lkName x.cl x.made)).1.del x.own).2) : Nat) : Int)) rfl (congrArg I (by unfold relE; split <;> omega)) <| tk_ps [8, 8, 8, 5, 5, 5, 8, 7] rfl <| tk_ret (⟨((showF (writeF s (dfName x.cl) v55 (sealL hk mk 108 (lkName x.cl x.made) (tapeN tl p 16) (mkY (⟨x.cl, x.m.a, now⟩ : Mk)))).1 (dfName x.cl) (lkName x.cl x.made)).1.del x.own).1, (x.rnw now), (relE ((showF (writeF s (dfName x.cl) v55 (sealL hk mk 108 (lkName x.cl x.made) (tapeN tl p 16) (mkY (⟨x.cl, x.m.a, now⟩ : Mk)))).1 (dfName x.cl) (lkName x.cl x.made)).1.del x.own).2), c55, (p + 16), vl55⟩) (.inr (.inr ⟨Classical.not_not.1 hs6_6, by omega, c55, vl55, v55, by simpa using hx55, .inr ⟨hw0, .inr ⟨hs0, rfl⟩⟩⟩)) (.inl rfl) (r1 rfl rfl) (.cons_cons _ (.cons_cons _ (.cons_cons _ (.cons_cons _ (.cons_cons _ (.cons_cons _ (.cons_cons _ (.cons_cons _ (List.nil_sublist _)))))))))
              · exact tk_skip <| tk_then <| s_r <| q_a rfl rfl <| s_n <| tk_retc <| tk_R (H1 := [_, _, _]) rfl (congrArg (fun z_ => cel lb z_ 182) (show hk.map B ++ (mk.map B ++ (nk.map B ++ ([PT tb, PT sb, PT kb, IN x.cl, I ((x.made + 1 : Nat) : Int), Str (lkName x.cl x.made), IN x.asks, .bool x.want, Str x.next, .bool x.shown, I (((⟨x.cl, x.m.a, now⟩ : Mk).c : Nat) : Int), .bool ((⟨x.cl, x.m.a, now⟩ : Mk).a), I (((⟨x.cl, x.m.a, now⟩ : Mk).t : Nat) : Int)]))) = hk.map B ++ (mk.map B ++ (nk.map B ++ ([PT tb, PT sb, PT kb, I (((x.rnw now).cl : Nat) : Int), I (((x.rnw now).made : Nat) : Int), Str ((x.rnw now).own), I (((x.rnw now).asks : Nat) : Int), .bool ((x.rnw now).want), Str ((x.rnw now).next), .bool ((x.rnw now).shown), I (((x.rnw now).m.c : Nat) : Int), .bool ((x.rnw now).m.a), I (((x.rnw now).m.t : Nat) : Int)]))) from rfl)) <| tk_re 2 (I 0) (I (((relE ((showF (writeF s (dfName x.cl) v55 (sealL hk mk 108 (lkName x.cl x.made) (tapeN tl p 16) (mkY (⟨x.cl, x.m.a, now⟩ : Mk)))).1 (dfName x.cl) (lkName x.cl x.made)).1.del x.own).2) : Nat) : Int)) rfl (congrArg I (by unfold relE; split <;> omega)) <| tk_ps [8, 8, 8, 5, 5, 5, 8, 7] rfl <| tk_ret (⟨((showF (writeF s (dfName x.cl) v55 (sealL hk mk 108 (lkName x.cl x.made) (tapeN tl p 16) (mkY (⟨x.cl, x.m.a, now⟩ : Mk)))).1 (dfName x.cl) (lkName x.cl x.made)).1.del x.own).1, (x.rnw now), (relE ((showF (writeF s (dfName x.cl) v55 (sealL hk mk 108 (lkName x.cl x.made) (tapeN tl p 16) (mkY (⟨x.cl, x.m.a, now⟩ : Mk)))).1 (dfName x.cl) (lkName x.cl x.made)).1.del x.own).2), c55, (p + 16), vl55⟩) (.inr (.inr ⟨Classical.not_not.1 hs6_6, by omega, c55, vl55, v55, by simpa using hx55, .inr ⟨hw0, .inr ⟨hs0, rfl⟩⟩⟩)) (.inl rfl) (r1 rfl rfl) (.cons_cons _ (.cons_cons _ (.cons_cons _ (.cons_cons _ (.cons_cons _ (.cons_cons _ (.cons_cons _ (.cons_cons _ (List.nil_sublist _)))))))))
            · exact q_m rfl rfl <| tk_gno rfl rfl rfl <| tk_gno rfl rfl rfl <| s_q rfl (y_pick0 rfl rfl) <| s_n <| tk_cond0 rfl <| tk_skip <| tk_then <| s_r <| q_a rfl rfl <| s_n <| tk_retc <| tk_R (H1 := [_, _, _]) rfl (congrArg (fun z_ => cel lb z_ 182) (show hk.map B ++ (mk.map B ++ (nk.map B ++ ([PT tb, PT sb, PT kb, IN x.cl, I ((x.made + 1 : Nat) : Int), Str (lkName x.cl x.made), IN x.asks, .bool x.want, Str x.next, .bool x.shown, I (((⟨x.cl, x.m.a, now⟩ : Mk).c : Nat) : Int), .bool ((⟨x.cl, x.m.a, now⟩ : Mk).a), I (((⟨x.cl, x.m.a, now⟩ : Mk).t : Nat) : Int)]))) = hk.map B ++ (mk.map B ++ (nk.map B ++ ([PT tb, PT sb, PT kb, I (((x.rnw now).cl : Nat) : Int), I (((x.rnw now).made : Nat) : Int), Str ((x.rnw now).own), I (((x.rnw now).asks : Nat) : Int), .bool ((x.rnw now).want), Str ((x.rnw now).next), .bool ((x.rnw now).shown), I (((x.rnw now).m.c : Nat) : Int), .bool ((x.rnw now).m.a), I (((x.rnw now).m.t : Nat) : Int)]))) from rfl)) <| tk_re 2 (I 0) (I (((relE ((showF (writeF s (dfName x.cl) v55 (sealL hk mk 108 (lkName x.cl x.made) (tapeN tl p 16) (mkY (⟨x.cl, x.m.a, now⟩ : Mk)))).1 (dfName x.cl) (lkName x.cl x.made)).1.del x.own).2) : Nat) : Int)) rfl (congrArg I (by unfold relE; split <;> omega)) <| tk_ps [8, 8, 8, 5, 5, 5, 8, 7] rfl <| tk_ret (⟨((showF (writeF s (dfName x.cl) v55 (sealL hk mk 108 (lkName x.cl x.made) (tapeN tl p 16) (mkY (⟨x.cl, x.m.a, now⟩ : Mk)))).1 (dfName x.cl) (lkName x.cl x.made)).1.del x.own).1, (x.rnw now), (relE ((showF (writeF s (dfName x.cl) v55 (sealL hk mk 108 (lkName x.cl x.made) (tapeN tl p 16) (mkY (⟨x.cl, x.m.a, now⟩ : Mk)))).1 (dfName x.cl) (lkName x.cl x.made)).1.del x.own).2), c55, (p + 16), vl55⟩) (.inr (.inr ⟨Classical.not_not.1 hs6_6, by omega, c55, vl55, v55, by simpa using hx55, .inr ⟨hw0, .inr ⟨hs0, rfl⟩⟩⟩)) (.inl rfl) (r1 rfl rfl) (.cons_cons _ (.cons_cons _ (.cons_cons _ (.cons_cons _ (.cons_cons _ (.cons_cons _ (.cons_cons _ (.cons_cons _ (List.nil_sublist _)))))))))
theorem release_spec {x : Lk} {hk mk nk : List UInt8} {tb sb kb lb : Nat} {s : Sh} {mb : Nat} {w : World} (h3 : hk.length = 32 ∧ mk.length = 32 ∧ nk.length = 32) (hown : ¬ x.own = []) (hok : ShOk s) (hh : Pre w [cel lb (hk.map B ++ (mk.map B ++ (nk.map B ++ ([PT tb, PT sb, PT kb, IN x.cl, IN x.made, Str x.own, IN x.asks, .bool x.want, Str x.next, .bool x.shown, IN x.m.c, .bool x.m.a, IN x.m.t])))) 182, cel sb ([Value.map (some mb), I (s.left), .bool s.off, I (s.made), I (s.room)]) 192, mapS mb (kvO s.obs), bag (s.obs.map (obR 5))]) : Spec Tryz.prog 46 [PT lb] w [cel lb (hk.map B ++ (mk.map B ++ (nk.map B ++ ([PT tb, PT sb, PT kb, IN x.cl, IN x.made, Str x.own, IN x.asks, .bool x.want, Str x.next, .bool x.shown, IN x.m.c, .bool x.m.a, IN x.m.t])))) 182, cel sb ([Value.map (some mb), I (s.left), .bool s.off, I (s.made), I (s.room)]) 192, mapS mb (kvO s.obs), bag (s.obs.map (obR 5))] (fun _ : Unit => True) (fun _ => IN (relE (s.del x.own).2)) (fun _ => [cel lb (hk.map B ++ (mk.map B ++ (nk.map B ++ ([PT tb, PT sb, PT kb, IN x.lost.cl, IN x.lost.made, Str x.lost.own, IN x.lost.asks, .bool x.lost.want, Str x.lost.next, .bool x.lost.shown, IN x.lost.m.c, .bool x.lost.m.a, IN x.lost.m.t])))) 182, cel sb ([Value.map (some mb), I ((s.del x.own).1.left), .bool ((s.del x.own).1.off), I ((s.del x.own).1.made), I ((s.del x.own).1.room)]) 192, mapS mb (kvO ((s.del x.own).1.obs)), bag (((s.del x.own).1.obs).map (obR 5))]) := by
  refine spec_of (n := 34) Tryz.func46 rfl rfl hh.1 hh.2 rfl ?_
  obtain ⟨hk32, mk32, nk32⟩ := h3
  refine s_r <| q_a rfl rfl <| s_n <| tk_seq <| tk_block <| s_r <| q_m rfl rfl <| s_q rfl (y_pnil rfl rfl rfl) <| q_a rfl rfl <| s_n <| tk_cond0 rfl <| s_r <| q_m rfl rfl <| s_q rfl (y_nilCheck rfl) <| s_q rfl (y_fldN (o := 0) 101 rfl kR) <| s_q rfl (y_load rfl rfl (hc (o := 101) (.head _) (gA (k := 32) (i := 69) (by rw [List.length_map]; exact hk32) oM (gA (k := 32) (i := 37) (by rw [List.length_map]; exact mk32) oM (gA (k := 32) (i := 5) (by rw [List.length_map]; exact nk32) oM (rfl)))))) <| tk_qe (.bool false) rfl rfl rfl (y_strEq (l := x.own) (m := []) rfl rfl) (bool_f (hown)) <| q_a rfl rfl <| s_n <| tk_cond0 rfl <| tk_skip <| tk_in_normal <| tk_then <| s_r ?_; refine q_m rfl rfl <| s_q rfl (y_nilCheck rfl) <| s_q rfl (y_fldN (o := 0) 101 rfl kR) <| s_q rfl (y_load rfl rfl (hc (o := 101) (.head _) (gA (k := 32) (i := 69) (by rw [List.length_map]; exact hk32) oM (gA (k := 32) (i := 37) (by rw [List.length_map]; exact mk32) oM (gA (k := 32) (i := 5) (by rw [List.length_map]; exact nk32) oM (rfl)))))) <| q_a rfl rfl <| s_n <| s_r <| q_m rfl rfl <| s_q rfl (y_nilCheck rfl) <| s_q rfl (y_fldN (o := 0) 101 rfl kR) <| tk_act rfl <| a_storeE (H1 := []) (o := 101) (v := Str []) (cs' := hk.map B ++ (mk.map B ++ (nk.map B ++ ([PT tb, PT sb, PT kb, IN x.cl, IN x.made, Str [], IN x.asks, .bool x.want, Str x.next, .bool x.shown, IN x.m.c, .bool x.m.a, IN x.m.t])))) rfl rfl kR rfl rfl sW (sA (k := 32) (i := 69) (by rw [List.length_map]; exact hk32) oM (sA (k := 32) (i := 37) (by rw [List.length_map]; exact mk32) oM (sA (k := 32) (i := 5) (by rw [List.length_map]; exact nk32) oM (rfl)))) <| s_n <| tk_seq <| s_r <| q_m rfl rfl <| s_q rfl (y_nilCheck rfl) <| s_q rfl (y_fldN (o := 0) 97 rfl kR) <| s_q rfl (y_load rfl rfl (hc (o := 97) (.head _) (gA (k := 32) (i := 65) (by rw [List.length_map]; exact hk32) oM (gA (k := 32) (i := 33) (by rw [List.length_map]; exact mk32) oM (gA (k := 32) (i := 1) (by rw [List.length_map]; exact nk32) oM (rfl)))))) <| q_m rfl rfl <| tk_act rfl <| tk_ps [3, 3, 3] rfl <| a_callv [] _ rfl kR rfl (fun w' hw' => del_spec (s := s) (sb := sb) (mb := mb) (na := x.own) hok  (St.pre hw')) rfl fun _ _ => q_a rfl rfl ?_; refine s_n <| s_r <| q_m rfl rfl <| tk_qs rfl rfl rfl (y_neq rfl rfl) (fun hs8_1 => ?_) (fun hs8_1 => ?_)
  · refine q_m rfl rfl <| s_g rfl (y_move rfl) <| s_g rfl (y_neq rfl rfl) <| s_q rfl (y_pick1 rfl rfl) <| s_n <| tk_condP rfl (fun ht32 => ?_) (fun ht32 => ?_)
    · exact s_r <| q_m rfl rfl <| q_a rfl rfl <| s_n <| tk_retc <| tk_then_ret <| tk_R (H1 := [_, _, _]) rfl (congrArg (fun z_ => cel lb z_ 182) (show hk.map B ++ (mk.map B ++ (nk.map B ++ ([PT tb, PT sb, PT kb, IN x.cl, IN x.made, Str [], IN x.asks, .bool x.want, Str x.next, .bool x.shown, IN x.m.c, .bool x.m.a, IN x.m.t]))) = hk.map B ++ (mk.map B ++ (nk.map B ++ ([PT tb, PT sb, PT kb, IN x.lost.cl, IN x.lost.made, Str x.lost.own, IN x.lost.asks, .bool x.lost.want, Str x.lost.next, .bool x.lost.shown, IN x.lost.m.c, .bool x.lost.m.a, IN x.lost.m.t]))) from rfl)) <| tk_re 2 (I (((s.del x.own).2 : Nat) : Int)) (I (((relE (s.del x.own).2) : Nat) : Int)) rfl (congrArg I (by unfold relE; split <;> omega)) <| tk_ps [2, 2, 2, 3] rfl <| tk_ret (()) (trivial) (.inl rfl) (r1 rfl rfl) (List.Sublist.refl _)
    · exact tk_skip <| tk_then <| s_r <| q_a rfl rfl <| s_n <| tk_retc <| tk_R (H1 := [_, _, _]) rfl (congrArg (fun z_ => cel lb z_ 182) (show hk.map B ++ (mk.map B ++ (nk.map B ++ ([PT tb, PT sb, PT kb, IN x.cl, IN x.made, Str [], IN x.asks, .bool x.want, Str x.next, .bool x.shown, IN x.m.c, .bool x.m.a, IN x.m.t]))) = hk.map B ++ (mk.map B ++ (nk.map B ++ ([PT tb, PT sb, PT kb, IN x.lost.cl, IN x.lost.made, Str x.lost.own, IN x.lost.asks, .bool x.lost.want, Str x.lost.next, .bool x.lost.shown, IN x.lost.m.c, .bool x.lost.m.a, IN x.lost.m.t]))) from rfl)) <| tk_re 2 (I 0) (I (((relE (s.del x.own).2) : Nat) : Int)) rfl (congrArg I (by unfold relE; split <;> omega)) <| tk_ps [2, 2, 2, 3] rfl <| tk_ret (()) (trivial) (.inl rfl) (r1 rfl rfl) (List.Sublist.refl _)
  · exact q_m rfl rfl <| tk_gno rfl rfl rfl <| tk_gno rfl rfl rfl <| s_q rfl (y_pick0 rfl rfl) <| s_n <| tk_cond0 rfl <| tk_skip <| tk_then <| s_r <| q_a rfl rfl <| s_n <| tk_retc <| tk_R (H1 := [_, _, _]) rfl (congrArg (fun z_ => cel lb z_ 182) (show hk.map B ++ (mk.map B ++ (nk.map B ++ ([PT tb, PT sb, PT kb, IN x.cl, IN x.made, Str [], IN x.asks, .bool x.want, Str x.next, .bool x.shown, IN x.m.c, .bool x.m.a, IN x.m.t]))) = hk.map B ++ (mk.map B ++ (nk.map B ++ ([PT tb, PT sb, PT kb, IN x.lost.cl, IN x.lost.made, Str x.lost.own, IN x.lost.asks, .bool x.lost.want, Str x.lost.next, .bool x.lost.shown, IN x.lost.m.c, .bool x.lost.m.a, IN x.lost.m.t]))) from rfl)) <| tk_re 2 (I 0) (I (((relE (s.del x.own).2) : Nat) : Int)) rfl (congrArg I (by unfold relE; split <;> omega)) <| tk_ps [2, 2, 2, 3] rfl <| tk_ret (()) (trivial) (.inl rfl) (r1 rfl rfl) (List.Sublist.refl _)
theorem relno_spec {x : Lk} {hk mk nk : List UInt8} {tb sb kb lb : Nat} {w : World} (h3 : hk.length = 32 ∧ mk.length = 32 ∧ nk.length = 32) (hown : x.own = []) (hh : Pre w [cel lb (hk.map B ++ (mk.map B ++ (nk.map B ++ ([PT tb, PT sb, PT kb, IN x.cl, IN x.made, Str x.own, IN x.asks, .bool x.want, Str x.next, .bool x.shown, IN x.m.c, .bool x.m.a, IN x.m.t])))) 182]) : Spec Tryz.prog 46 [PT lb] w [cel lb (hk.map B ++ (mk.map B ++ (nk.map B ++ ([PT tb, PT sb, PT kb, IN x.cl, IN x.made, Str x.own, IN x.asks, .bool x.want, Str x.next, .bool x.shown, IN x.m.c, .bool x.m.a, IN x.m.t])))) 182] (fun _ : Unit => True) (fun _ => I 6) (fun _ => [cel lb (hk.map B ++ (mk.map B ++ (nk.map B ++ ([PT tb, PT sb, PT kb, IN x.cl, IN x.made, Str x.own, IN x.asks, .bool x.want, Str x.next, .bool x.shown, IN x.m.c, .bool x.m.a, IN x.m.t])))) 182]) := by
  refine spec_of (n := 34) Tryz.func46 rfl rfl hh.1 hh.2 rfl ?_
  obtain ⟨hk32, mk32, nk32⟩ := h3
  refine s_r <| q_a rfl rfl <| s_n <| tk_seq <| tk_block <| s_r <| q_m rfl rfl <| s_q rfl (y_pnil rfl rfl rfl) <| q_a rfl rfl <| s_n <| tk_cond0 rfl <| s_r <| q_m rfl rfl <| s_q rfl (y_nilCheck rfl) <| s_q rfl (y_fldN (o := 0) 101 rfl kR) <| s_q rfl (y_load rfl rfl (hc (o := 101) (.head _) (gA (k := 32) (i := 69) (by rw [List.length_map]; exact hk32) oM (gA (k := 32) (i := 37) (by rw [List.length_map]; exact mk32) oM (gA (k := 32) (i := 5) (by rw [List.length_map]; exact nk32) oM (rfl)))))) <| tk_qe (.bool true) rfl rfl rfl (y_strEq (l := x.own) (m := []) rfl rfl) (bool_t (hown)) <| q_a rfl rfl <| s_n <| tk_cond1 rfl <| s_r <| q_a rfl rfl <| s_n <| tk_retc ?_; exact tk_in_ret <| tk_then_ret <| tk_ret (()) (trivial) (.inl rfl) (r1 rfl rfl) (List.Sublist.refl _)
end Go.Proofs.YtkkjfojgjmglpaaGreatDoor
set_option linter.unusedSimpArgs false
set_option linter.unusedVariables false
namespace Go.Proofs.YtkkjfojgjmglpaaGreatDoor
open Go
structure Qt (s : Sh) (N : Nat) : Prop where
  calm : Calm s
  room : s.room = 100000
  small : ∀ o ∈ s.obs, o.b.length ≤ 200
  len : s.obs.length ≤ N
theorem Qt.mono {s : Sh} {N M : Nat} (h : Qt s N) (hM : N ≤ M) : Qt s M := ⟨h.calm, h.room, h.small, Nat.le_trans h.len hM⟩
theorem Qt.off {s : Sh} {N : Nat} (h : Qt s N) : ¬ s.off = true := by rw [h.calm.off]; decide
theorem sumO_le200 {l : List Ob} (h : ∀ o ∈ l, o.b.length ≤ 200) : sumO l ≤ 200 * l.length := by
  induction l with
  | nil => exact Nat.zero_le _
  | cons o l ih =>
    have h1 := h o (List.mem_cons_self ..)
    have h2 := ih (fun o ho => h o (List.mem_cons_of_mem _ ho))
    unfold sumO at h2 ⊢
    rw [List.map_cons, List.sum_cons, List.length_cons]; omega
theorem del_q {s : Sh} {N : Nat} {a : List UInt8} (h : Qt s N) : ((s.del a).2 = 0 ∨ (s.del a).2 = 6) ∧ (hasO s.obs a → (s.del a).2 = 0) ∧ Qt (s.del a).1 N := by
  by_cases ha : hasO s.obs a
  · have e : s.del a = (s.tick.obsTo (delO s.obs a), 0) := by
      have : delC s a = 0 := by rw [delC, if_neg (fun q => q ha)]
      rw [Sh.del, this, change_calm h.calm]; rfl
    rw [e]
    refine ⟨.inl rfl, fun _ => rfl, ⟨⟨h.calm.off, h.calm.left⟩, h.room, fun o ho => h.small o (List.mem_filter.1 ho).1, ?_⟩⟩
    exact Nat.le_trans (List.length_filter_le _ _) h.len
  · have e : s.del a = (s, 6) := by rw [Sh.del, delC, if_pos ha, change_calmNo h.calm (by decide)]
    rw [e]
    exact ⟨.inr rfl, fun q => (ha q).elim, h⟩
theorem put_q {s : Sh} {N : Nat} {a b : List UInt8} {v : Value} (h : Qt s N) (ha : isNm a) (hn : ¬ hasO s.obs a) (hb : b.length ≤ 200) (hN : N < 400) : (s.put a v b).2 = 0 ∧ Qt (s.put a v b).1 (N + 1) := by
  have h1 := sumO_le200 h.small
  have h2 := h.len
  have h3 := h.room
  have e : s.put a v b = (s.tick.obsTo (s.obs ++ [⟨a, v, b, false⟩]), 0) := by
    have : putC s a b = 0 := by rw [putC, if_neg (fun q => q ha), if_neg hn, if_neg (by omega), if_neg (by omega)]
    rw [Sh.put, this, change_calm h.calm]; rfl
  rw [e]
  refine ⟨rfl, ⟨⟨h.calm.off, h.calm.left⟩, h.room, fun o ho => ?_, ?_⟩⟩
  · rcases List.mem_append.1 ho with ho | ho
    · exact h.small o ho
    · rw [List.mem_singleton.1 ho]; exact hb
  · show (s.obs ++ [_]).length ≤ _
    rw [List.length_append]; simp; exact h2
theorem nudge_q {s : Sh} {N : Nat} (h : Qt s N) : s.nudge = (s.tick, 0) := by rw [Sh.nudge, change_calm h.calm]; rfl
theorem sync_q2 {s : Sh} {N : Nat} {a : List UInt8} (h : Qt s N) (ha : hasO s.obs a) : (s.sync1 a).2 = 0 ∧ Qt (s.sync1 a).1 N := by
  have e : s.sync1 a = (s.tick.obsTo (syncO s.obs a), 0) := by rw [sync1_ok (by rw [nudge_q h]) (by rw [nudge_q h]; exact ha), nudge_q h]; rfl
  rw [e]
  refine ⟨rfl, ⟨⟨h.calm.off, h.calm.left⟩, h.room, fun o ho => ?_, ?_⟩⟩
  · obtain ⟨u, hu, e2⟩ := List.mem_map.1 (show o ∈ s.obs.map _ from ho)
    have := h.small u hu
    rw [← e2]; split <;> exact this
  · show (syncO s.obs a).length ≤ N
    unfold syncO; rw [List.length_map]; exact h.len
theorem ren_q {s : Sh} {N : Nat} {a b : List UInt8} (h : Qt s N) (ha : hasO s.obs a) (hb : isNm b) (hab : a ≠ b) : ((s.ren a b).2 = if hasO s.obs b then 7 else 0) ∧ Qt (s.ren a b).1 N := by
  by_cases hh : hasO s.obs b
  · have e : s.ren a b = (s, 7) := by
      have : renC s a b = 7 := by rw [renC, if_neg (fun q => q hb), if_neg (fun q => q ha), if_pos ⟨hh, hab⟩]
      rw [Sh.ren, this, change_calmNo h.calm (by decide)]
    rw [e, if_pos hh]; exact ⟨rfl, h⟩
  · have e : s.ren a b = (s.tick.obsTo (delO s.obs a ++ [nameTo (lkO s.obs a) b]), 0) := by
      have : renC s a b = 0 := by rw [renC, if_neg (fun q => q hb), if_neg (fun q => q ha), if_neg (fun q => hh q.1)]
      rw [Sh.ren, this, change_calm h.calm]; rfl
    rw [e, if_neg hh]
    refine ⟨rfl, ⟨⟨h.calm.off, h.calm.left⟩, h.room, fun o ho => ?_, ?_⟩⟩
    · rcases List.mem_append.1 ho with ho | ho
      · exact h.small o (List.mem_filter.1 ho).1
      · rw [List.mem_singleton.1 ho]; have h9 := h.small _ (lkO_name ha).2; exact h9
    · show (delO s.obs a ++ [_]).length ≤ N
      have h1 : (delO s.obs a).length < s.obs.length := by
        unfold delO
        rw [← List.countP_eq_length_filter]
        refine Nat.lt_of_le_of_ne (List.countP_le_length) (fun q => ?_)
        have := List.countP_eq_length.1 q _ (lkO_name ha).2
        rw [(lkO_name ha).1] at this; simp at this
      have := h.len
      rw [List.length_append]; simp; omega
theorem write_q {s : Sh} {N : Nat} {d b : List UInt8} {v : Value} (h : Qt s N) (hd : isNm d) (hb : b.length ≤ 200) (hN : N < 400) : (writeF s d v b).2 = 0 ∧ Qt (writeF s d v b).1 (N + 1) := by
  obtain ⟨h1, h1b, h2⟩ := del_q (a := d) h
  have hn : ¬ hasO (s.del d).1.obs d := by
    rw [← vw_none, vw_del]
    split
    · rfl
    · next q => rw [vw_none]; exact fun r => q ⟨h1b r, rfl⟩
  obtain ⟨h3, h4⟩ := put_q (v := v) h2 hd hn hb hN
  have hx : hasO ((s.del d).1.put d v b).1.obs d := ((vw_some (b := b)).1 (by rw [vw_put, if_pos ⟨h3, rfl⟩])).1
  obtain ⟨h5, h6⟩ := sync_q2 (a := d) h4 hx
  rw [wr_4 h1 h3 h5]
  exact ⟨rfl, h6⟩
theorem show_q {s : Sh} {N : Nat} {d n : List UInt8} (h : Qt s N) (hd : hasO s.obs d) (hn : isNm n) (hdn : d ≠ n) : (showF s d n).2 = 0 ∧ Qt (showF s d n).1 N ∧ vw (showF s d n).1 n = vw s d ∧ vw (showF s d n).1 d = none := by
  obtain ⟨h1, h2⟩ := ren_q h hd hn hdn
  by_cases hh : hasO s.obs n
  · rw [if_pos hh] at h1
    have h8 : (s.ren d n).1 = s := by
      have : renC s d n = 7 := by rw [renC, if_neg (fun q => q hn), if_neg (fun q => q hd), if_pos ⟨hh, hdn⟩]
      rw [Sh.ren, this, change_calmNo h.calm (by decide)]
    obtain ⟨_, h3, h4⟩ := del_q (a := n) h
    have h3 := h3 hh
    have hd2 : hasO (s.del n).1.obs d := by
      have : vw (s.del n).1 d = vw s d := by rw [vw_del, if_neg (fun q => hdn q.2)]
      rw [(vw_some (b := (lkO s.obs d).b)).2 ⟨hd, rfl⟩] at this
      exact (vw_some.1 this).1
    obtain ⟨h5, h6⟩ := ren_q h4 hd2 hn hdn
    have hn2 : ¬ hasO (s.del n).1.obs n := by rw [← vw_none, vw_del, if_pos ⟨h3, rfl⟩]
    rw [if_neg hn2] at h5
    have e : showR s d n = ((s.del n).1.ren d n) := by rw [sh_3 h1 (by rw [h8]; exact h3), h8]
    rw [sf_0 (show showR s d n = (((s.del n).1.ren d n).1, ((s.del n).1.ren d n).2) from e) h5]
    refine ⟨rfl, h6, ?_, ?_⟩
    · show vw ((s.del n).1.ren d n).1 n = _
      rw [vw_ren hdn, if_pos h5, if_pos rfl, vw_del, if_neg (fun q => hdn q.2)]
    · show vw ((s.del n).1.ren d n).1 d = _
      rw [vw_ren hdn, if_pos h5, if_neg hdn, if_pos rfl]
  · rw [if_neg hh] at h1
    rw [sf_0 (show showR s d n = ((s.ren d n).1, (s.ren d n).2) from sh_1 (by omega)) h1]
    refine ⟨rfl, h2, ?_, ?_⟩
    · show vw (s.ren d n).1 n = _
      rw [vw_ren hdn, if_pos h1, if_pos rfl]
    · show vw (s.ren d n).1 d = _
      rw [vw_ren hdn, if_pos h1, if_neg hdn, if_pos rfl]
theorem sw_q {del : List UInt8 → Bool} {N : Nat} {l : List (List UInt8)} : ∀ {q : Sh × Nat}, Qt q.1 N → q.2 = 0 → Qt (l.foldl (swQ del) q).1 N ∧ (l.foldl (swQ del) q).2 = 0 ∧ ∀ m, vw (l.foldl (swQ del) q).1 m = if m ∈ l ∧ del m = true then none else vw q.1 m := by
  induction l with
  | nil => intro q h h0; exact ⟨h, h0, fun m => by rw [if_neg (fun r => nomatch r.1)]; rfl⟩
  | cons n l ih =>
    intro q h h0
    by_cases hd : del n = true
    · have e : swQ del q n = ((q.1.del n).1, if (q.1.del n).2 = 6 then 0 else (q.1.del n).2) := by rw [swQ, if_pos ⟨h0, hd⟩]
      obtain ⟨h1, h1b, h2⟩ := del_q (a := n) h
      have e0 : (swQ del q n).2 = 0 := by rw [e]; dsimp only; split <;> omega
      have e1 : (swQ del q n).1 = (q.1.del n).1 := by rw [e]
      obtain ⟨i1, i2, i3⟩ := ih (q := swQ del q n) (by rw [e1]; exact h2) e0
      refine ⟨i1, i2, fun m => ?_⟩
      rw [List.foldl_cons, i3 m, e1]
      by_cases hm : m ∈ l ∧ del m = true
      · rw [if_pos hm, if_pos ⟨List.mem_cons_of_mem _ hm.1, hm.2⟩]
      · rw [if_neg hm]
        by_cases hmn : m = n
        · subst hmn
          rw [if_pos ⟨List.mem_cons_self .., hd⟩, vw_del]
          by_cases hh : hasO q.1.obs m
          · rw [if_pos ⟨h1b hh, rfl⟩]
          · split
            · rfl
            · exact vw_none.2 hh
        · rw [vw_del, if_neg (fun r => hmn r.2), if_neg (fun r => by
            rcases List.mem_cons.1 r.1 with r1 | r1
            · exact hmn r1
            · exact hm ⟨r1, r.2⟩)]
    · have e : swQ del q n = q := by rw [swQ, if_neg (fun r => hd r.2)]
      obtain ⟨i1, i2, i3⟩ := ih (q := swQ del q n) (by rw [e]; exact h) (by rw [e]; exact h0)
      refine ⟨i1, i2, fun m => ?_⟩
      rw [List.foldl_cons, i3 m, e]
      by_cases hm : m ∈ l ∧ del m = true
      · rw [if_pos hm, if_pos ⟨List.mem_cons_of_mem _ hm.1, hm.2⟩]
      · rw [if_neg hm, if_neg (fun r => by
          rcases List.mem_cons.1 r.1 with r1 | r1
          · rw [r1] at r; exact hd r.2
          · exact hm ⟨r1, r.2⟩)]
/-- a lock of these words lies by this name -/
def HasL (hk mk : List UInt8) (s : Sh) (now : Nat) (n : List UInt8) (m : Mk) : Prop := n.length < 256 ∧ preB [108, 47] n = true ∧ ∃ b, vw s n = some b ∧ MkAt hk mk now n b m
/-- is there one that a client would meet? -/
def Conf (hk mk : List UInt8) (s : Sh) (now cl : Nat) (b : Bool) : Prop := ∃ n m, HasL hk mk s now n m ∧ ¬ m.c = cl ∧ holdsP now m ∧ (b = true ∨ m.a = true)
theorem free_q {hk mk : List UInt8} {s : Sh} {now cl N : Nat} {b : Bool} (hW : LkW hk mk s now) (hnow : now ≤ 1099511627776) (h : Qt s N) :
    (Conf hk mk s now cl b → (if s.off = true then 9 else freeE (moOf hk mk s now) now b (othN (moOf hk mk s now) cl (lsN s [108, 47]))) = 12) ∧ (¬ Conf hk mk s now cl b → (if s.off = true then 9 else freeE (moOf hk mk s now) now b (othN (moOf hk mk s now) cl (lsN s [108, 47]))) = 0) := by
  rw [if_neg h.off]
  have key : (∃ n ∈ othN (moOf hk mk s now) cl (lsN s [108, 47]), meets (moOf hk mk s now) now b n) ↔ Conf hk mk s now cl b := by
    constructor
    · rintro ⟨n, hn, hm⟩
      obtain ⟨h1, h2⟩ := List.mem_filter.1 hn
      obtain ⟨h3, h4⟩ := lsN_mem.1 h1
      obtain ⟨h5, m, h6⟩ := hW n _ (vw_some.2 ⟨h3, rfl⟩) h4
      have e := mo_at h5 hnow (vw_some.2 ⟨h3, rfl⟩) h6
      rw [e] at h2
      unfold meets at hm
      rw [e] at hm
      exact ⟨n, m, ⟨h5, h4, _, vw_some.2 ⟨h3, rfl⟩, h6⟩, by simpa using h2, hm⟩
    · rintro ⟨n, m, ⟨h1, h2, bb, h3, h4⟩, h5, h6⟩
      have e := mo_at h1 hnow h3 h4
      refine ⟨n, List.mem_filter.2 ⟨lsN_mem.2 ⟨(vw_some.1 h3).1, h2⟩, by rw [e]; simpa using h5⟩, ?_⟩
      unfold meets
      rw [e]; exact h6
  constructor
  · intro q; rw [freeE, if_pos (key.2 q)]
  · intro q; rw [freeE, if_neg (fun r => q (key.1 r))]
theorem seal_small {hk mk tl : List UInt8} {n : List UInt8} {p : Nat} {m : Mk} (hm : m.c < 100 ∧ m.t ≤ 1099511627776) : (sealL hk mk 108 n (tapeN tl p 16) (mkY m)).length ≤ 200 := by
  have := mkY_len hm
  rw [sealL_len tapeN_len]; omega
section
variable {hk mk tl : List UInt8} {s : Sh} {x : Lk} {now c p N : Nat} {vl : Value} {z : Stp}
theorem step1_q (hW : LkW hk mk s now) (hnow : now ≤ 1099511627776) (h : Qt s N) (h1 : x.asks = 1) (hz : StepR hk mk tl (moOf hk mk s now) s x now c p vl z) :
    z.t = s ∧ z.y = x ∧ (Conf hk mk s now x.cl x.want → z.e = 12) ∧ (¬ Conf hk mk s now x.cl x.want → z.e = 0) := by
  rcases hz with ⟨_, rfl⟩ | ⟨q, _⟩ | ⟨q, _⟩ | ⟨q, _⟩
  · exact ⟨rfl, rfl, (free_q hW hnow h).1, (free_q hW hnow h).2⟩
  · omega
  · omega
  · omega
theorem step2_q (hcl : x.cl < 100) (hnow : now ≤ 1099511627776) (h : Qt s N) (hN : N < 400) (h1 : x.asks = 2) (hz : StepR hk mk tl (moOf hk mk s now) s x now c p vl z) :
    z.e = 0 ∧ Qt z.t (N + 1) ∧ z.y = { x with next := lkName x.cl x.made, m := ⟨x.cl, x.want, now⟩ } ∧ (∃ b, vw z.t (dfName x.cl) = some b ∧ MkAt hk mk now (lkName x.cl x.made) b ⟨x.cl, x.want, now⟩) ∧ ∀ n, n ≠ dfName x.cl → vw z.t n = vw s n := by
  rcases hz with ⟨q, _⟩ | ⟨_, c', vl', v, _, rfl⟩ | ⟨q, _⟩ | ⟨q, _⟩
  · omega
  · obtain ⟨h2, h3⟩ := write_q (v := v) h (dfName_nm hcl).1 (seal_small (hk := hk) (mk := mk) (tl := tl) (n := lkName x.cl x.made) (p := p) (m := ⟨x.cl, x.want, now⟩) ⟨hcl, hnow⟩) hN
    refine ⟨h2, h3, ?_, ⟨_, write_ok h2, hcl, Nat.le_refl _, _, tapeN_len, rfl⟩, fun n hn => vw_write hn⟩
    show x.wrote _ _ _ = _
    rw [h2]; rfl
  · omega
  · omega
theorem step3_q (hcl : x.cl < 100) (hmd : x.made < 100) (hn : x.next = lkName x.cl x.made) (hd : hasO s.obs (dfName x.cl)) (h : Qt s N) (h1 : x.asks = 3) (hz : StepR hk mk tl (moOf hk mk s now) s x now c p vl z) :
    z.e = 0 ∧ Qt z.t N ∧ z.y = { x with made := x.made + 1, shown := true } ∧ vw z.t x.next = vw s (dfName x.cl) ∧ vw z.t (dfName x.cl) = none ∧ ∀ n, n ≠ dfName x.cl → n ≠ x.next → vw z.t n = vw s n := by
  rcases hz with ⟨q, _⟩ | ⟨q, _⟩ | ⟨_, rfl⟩ | ⟨q, _⟩
  · omega
  · omega
  · have hne : dfName x.cl ≠ x.next := by rw [hn]; exact df_lk
    obtain ⟨h2, h3, h4, h5⟩ := show_q h hd (by rw [hn]; exact lkName_nm hcl hmd) hne
    refine ⟨h2, h3, ?_, h4, h5, fun n q1 q2 => vw_show hne q1 q2⟩
    show x.shw _ = _
    rw [h2]; rfl
  · omega
theorem step4_q (hW : LkW hk mk s now) (hnow : now ≤ 1099511627776) (h : Qt s N) (h1 : x.asks = 4) (hz : StepR hk mk tl (moOf hk mk s now) s x now c p vl z) :
    (Conf hk mk s now x.cl x.want → z.e = 12 ∧ z.t = s ∧ z.y = x) ∧ (¬ Conf hk mk s now x.cl x.want → z.e = 0 ∧ Qt z.t N ∧ z.y = { x with own := x.next } ∧
      ∀ n, vw z.t n = vw s n ∨ (vw z.t n = none ∧ x.want = true ∧ ∃ m, HasL hk mk s now n m ∧ ¬ m.c = x.cl ∧ ¬ holdsP now m)) ∧
      (¬ Conf hk mk s now x.cl x.want → x.want = true → ∀ n m, HasL hk mk s now n m → ¬ m.c = x.cl → vw z.t n = none) := by
  rcases hz with ⟨q, _⟩ | ⟨q, _⟩ | ⟨q, _⟩ | ⟨_, rfl⟩
  · omega
  · omega
  · omega
  · have hf := free_q (b := x.want) (cl := x.cl) hW hnow h
    refine ⟨fun hc => ?_, fun hc => ?_, fun hc hw n m hl hmc => ?_⟩
    · have he := hf.1 hc
      have e1 : st4 (moOf hk mk s now) s x now = (s, 12) := by rw [st4_e (by rw [he]; decide), he]
      rw [e1]
      exact ⟨rfl, rfl, took_1 (show ¬ (12 : Nat) = 0 by omega)⟩
    · have he := hf.2 hc
      by_cases hw : x.want = true
      · have e1 := st4_w (mo := moOf hk mk s now) he hw
        obtain ⟨i1, i2, i3⟩ := sw_q (del := delB (moOf hk mk s now) x.cl now) (l := lsN s [108, 47]) (q := (s, 0)) h rfl
        rw [e1]
        refine ⟨i2, i1, ?_, fun n => ?_⟩
        · show x.took _ = _
          exact took_0 i2
        · have hv := i3 n
          by_cases hd : n ∈ lsN s [108, 47] ∧ delB (moOf hk mk s now) x.cl now n = true
          · rw [if_pos hd] at hv
            obtain ⟨h3, h4⟩ := lsN_mem.1 hd.1
            obtain ⟨h5, m, h6⟩ := hW n _ (vw_some.2 ⟨h3, rfl⟩) h4
            have e := mo_at h5 hnow (vw_some.2 ⟨h3, rfl⟩) h6
            have h7 := of_decide_eq_true hd.2
            rw [e] at h7
            exact .inr ⟨hv, hw, m, ⟨h5, h4, _, vw_some.2 ⟨h3, rfl⟩, h6⟩, h7⟩
          · rw [if_neg hd] at hv; exact .inl hv
      · rw [st4_0 he (by simpa using hw)]
        exact ⟨rfl, h, took_0 rfl, fun n => .inl rfl⟩
    · have he := hf.2 hc
      have e1 := st4_w (mo := moOf hk mk s now) he hw
      obtain ⟨i1, i2, i3⟩ := sw_q (del := delB (moOf hk mk s now) x.cl now) (l := lsN s [108, 47]) (q := (s, 0)) h rfl
      rw [e1]
      show vw ((lsN s [108, 47]).foldl (swQ (delB (moOf hk mk s now) x.cl now)) (s, 0)).1 n = _
      obtain ⟨h1, h2, bb, h3, h4⟩ := hl
      have e := mo_at h1 hnow h3 h4
      have hh : ¬ holdsP now m := fun hh => hc ⟨n, m, ⟨h1, h2, bb, h3, h4⟩, hmc, hh, .inl hw⟩
      rw [i3 n, if_pos ⟨lsN_mem.2 ⟨(vw_some.1 h3).1, h2⟩, decide_eq_true (by rw [e]; exact ⟨hmc, hh⟩)⟩]
end
end Go.Proofs.YtkkjfojgjmglpaaGreatDoor
set_option linter.unusedSimpArgs false
set_option linter.unusedVariables false
namespace Go.Proofs.YtkkjfojgjmglpaaGreatDoor
open Go
set_option maxHeartbeats 2000000
attribute [local irreducible] sealL tapeN tapeL lkName dfName preB
variable {hk mk tl : List UInt8} {s : Sh} {x : Lk} {now c p N : Nat} {vl : Value}
/-- a hand that has taken a lock; one that was refused -/
def Lk.has (x : Lk) (b : Bool) (now : Nat) : Lk := { x with made := x.made + 1, own := lkName x.cl x.made, asks := 0, want := b, next := [], shown := false, m := ⟨x.cl, b, now⟩ }
def Lk.not (x : Lk) (b : Bool) : Lk := { x with asks := 0, want := b, next := [], shown := false }
theorem HasL.one {n : List UInt8} {m m' : Mk} (hnow : now ≤ 1099511627776) (h : HasL hk mk s now n m) (h' : HasL hk mk s now n m') : m = m' := by
  obtain ⟨h1, _, b, h2, h3⟩ := h
  obtain ⟨_, _, b', h2', h3'⟩ := h'
  rw [h2] at h2'; cases h2'
  exact h3.one h1 hnow h3'
theorem HasL.vw {t : Sh} {n : List UInt8} {m : Mk} (h : HasL hk mk s now n m) (e : vw t n = vw s n) : HasL hk mk t now n m := ⟨h.1, h.2.1, by rw [e]; exact h.2.2⟩
theorem LkW.has {n : List UInt8} (h : LkW hk mk s now) (hn : hasO s.obs n) (hp : preB [108, 47] n = true) : ∃ m, HasL hk mk s now n m := by
  obtain ⟨h1, m, h2⟩ := h n _ (vw_some.2 ⟨hn, rfl⟩) hp
  exact ⟨m, h1, hp, _, vw_some.2 ⟨hn, rfl⟩, h2⟩
/-- what a store says when a client has its lock -/
structure TkQ (hk mk : List UInt8) (s t : Sh) (now : Nat) (cl n : Nat) (b : Bool) : Prop where
  mine : HasL hk mk t now (lkName cl n) ⟨cl, b, now⟩
  keep : ∀ m, m ≠ dfName cl → m ≠ lkName cl n → vw t m = vw s m ∨ (vw t m = none ∧ b = true ∧ ∃ q, HasL hk mk s now m q ∧ ¬ q.c = cl ∧ ¬ holdsP now q)
  df : vw t (dfName cl) = none
  alone : b = true → ∀ m q, HasL hk mk s now m q → ¬ q.c = cl → m ≠ lkName cl n → vw t m = none
theorem stepT_no {z : Stp} (h : z.e = 0) : stepT z = z.t := by rw [stepT, if_neg (fun q => q.1 h)]
theorem stepY_on {z : Stp} (h : z.e = 0) (h2 : z.y.asks < 4) : stepY z = z.y.on := by rw [stepY, if_neg (fun q => by omega)]
theorem stepY_end {z : Stp} (h : ¬ z.e = 0 ∨ 4 < z.y.asks + 1) : stepY z = z.y.done := by rw [stepY, if_pos h]
theorem fin_no {z : Stp} (h : z.e = 0) (h2 : z.y.asks < 4) : fin z = false := decide_eq_false (fun q => by omega)
/-- the first three steps -/
structure Up3 (hk mk : List UInt8) (s t : Sh) (x y : Lk) (now N : Nat) (b : Bool) : Prop where
  hand : y = { x with made := x.made + 1, asks := 4, want := b, next := lkName x.cl x.made, shown := true, m := ⟨x.cl, b, now⟩ }
  qt : Qt t (N + 1)
  mine : HasL hk mk t now (lkName x.cl x.made) ⟨x.cl, b, now⟩
  keep : ∀ m, m ≠ dfName x.cl → m ≠ lkName x.cl x.made → vw t m = vw s m
  df : vw t (dfName x.cl) = none
theorem name_small {c n : Nat} (h : c < 100) : (lkName c n).length < 256 := by
  have h5 := lkName_len (n := n) h
  have h6 := dec2_len (n := n)
  omega
theorem run_li {u r : St5} {k : Int} {j i e : Nat} (hL : LI hk mk u.s u.x now k j) (h1 : u.x.asks = 1) (hj : j < 90) (hI0 : u.p ≤ 32 * u.c ∧ 32 * u.c < u.p + 32) (hi : i ≤ 3) (hR : Run hk mk tl now u i r e) : LI hk mk r.s r.x now (k + 2005 * i) (j + i) ∧ r.x.asks = i + 1 := by
  induction i generalizing r e with
  | zero => obtain ⟨rfl, _⟩ := hR; exact ⟨hL.mono (by simp) (by omega), h1⟩
  | succ i ih =>
    obtain ⟨r0, z, e0, hR0, hz, hf, rfl, rfl⟩ := hR
    obtain ⟨h2, h3⟩ := ih (by omega) hR0
    have hx := stepR_x hz
    refine ⟨(h2.step ⟨by omega, by omega⟩ (by omega) hz).mono (by omega) (by omega), ?_⟩
    show (stepY z).asks = _
    rw [(stepY_asks hf).1, hx.1, h3]
theorem take_q {k : Int} {j : Nat} {q : St5} {e : Nat} (hL : LI hk mk s x now k j) (hj : j < 90) (hnow : now ≤ 1099511627776) (h : Qt s N) (hN : N < 400) (hI0 : p ≤ 32 * c ∧ 32 * c < p + 32) {b : Bool} (hsh : x.shown = false)
    (hT : Took hk mk tl now ⟨s, x.asked b, c, p, vl⟩ q e) :
    (Conf hk mk s now x.cl b ∧ e = 12 ∧ q.s = s ∧ q.x = x.not b) ∨ (¬ Conf hk mk s now x.cl b ∧ e = 0 ∧ Qt q.s (N + 1) ∧ q.x = x.has b now ∧ TkQ hk mk s q.s now x.cl x.made b) := by
  have hcl := hL.cl
  have hmd := hL.md
  have h0 : LI hk mk s (x.asked b) now k j := ⟨hL.at_, hL.ok, hL.cl, hL.md, hL.nx, fun q => by cases q⟩
  obtain ⟨i, r, z, e0, hi, hR, hz, hf, rfl, rfl⟩ := hT
  have first : ∀ z1, StepR hk mk tl (moOf hk mk s now) s (x.asked b) now c p vl z1 → (z1.t = s ∧ z1.y = x.asked b ∧ (Conf hk mk s now x.cl b → z1.e = 12) ∧ (¬ Conf hk mk s now x.cl b → z1.e = 0)) :=
    fun z1 h1 => step1_q hL.ok hnow h rfl h1
  -- after one step
  have one : ∀ r e, Run hk mk tl now ⟨s, x.asked b, c, p, vl⟩ 1 r e → ¬ Conf hk mk s now x.cl b ∧ r.s = s ∧ r.x = { x with asks := 2, want := b } := fun r e hr => by
    obtain ⟨r0, z1, e1, ⟨rfl, _⟩, hz1, hf1, rfl, rfl⟩ := hr
    obtain ⟨f1, f2, f3, f4⟩ := first z1 hz1
    have he := (stepY_asks hf1).2
    refine ⟨fun hc => (by rw [f3 hc] at he; cases he), ?_, ?_⟩
    · show stepT z1 = s; rw [stepT_no he, f1]
    · show stepY z1 = _; rw [stepY_on he (by rw [f2]; exact (by decide : 1 < 4)), f2]; rfl
  have two : ∀ r e, Run hk mk tl now ⟨s, x.asked b, c, p, vl⟩ 2 r e → ¬ Conf hk mk s now x.cl b ∧ Qt r.s (N + 1) ∧ r.x = { x with asks := 3, want := b, next := lkName x.cl x.made, m := ⟨x.cl, b, now⟩ } ∧ (∃ bb, vw r.s (dfName x.cl) = some bb ∧ MkAt hk mk now (lkName x.cl x.made) bb ⟨x.cl, b, now⟩) ∧ ∀ n, n ≠ dfName x.cl → vw r.s n = vw s n := fun r e hr => by
    obtain ⟨r0, z2, e1, hr0, hz2, hf2, rfl, rfl⟩ := hr
    obtain ⟨g1, g2, g3⟩ := one r0 e1 hr0
    obtain ⟨rs, rx, rc, rp, rv⟩ := r0
    dsimp only at g2 g3 hz2
    subst g2 g3
    obtain ⟨f1, f2, f3, f4, f5⟩ := step2_q (x := { x with asks := 2, want := b }) hcl hnow h hN rfl hz2
    refine ⟨g1, ?_, ?_, ?_, ?_⟩
    · show Qt (stepT z2) _; rw [stepT_no f1]; exact f2
    · show stepY z2 = _; rw [stepY_on f1 (by rw [f3]; exact (by decide : 2 < 4)), f3]; rfl
    · show ∃ bb, vw (stepT z2) _ = _ ∧ _; rw [stepT_no f1]; exact f4
    · show ∀ n, n ≠ _ → vw (stepT z2) n = _; rw [stepT_no f1]; exact f5
  have three : ∀ r e, Run hk mk tl now ⟨s, x.asked b, c, p, vl⟩ 3 r e → ¬ Conf hk mk s now x.cl b ∧ Up3 hk mk s r.s x r.x now N b := fun r e hr => by
    obtain ⟨r0, z3, e1, hr0, hz3, hf3, rfl, rfl⟩ := hr
    obtain ⟨g1, g2, g3, ⟨bb, g4, g4b⟩, g5⟩ := two r0 e1 hr0
    obtain ⟨rs, rx, rc, rp, rv⟩ := r0
    dsimp only at g2 g3 g4 g5 hz3
    subst g3
    obtain ⟨f1, f2, f3, f4, f5, f6⟩ := step3_q (x := { x with asks := 3, want := b, next := lkName x.cl x.made, m := ⟨x.cl, b, now⟩ }) hcl (by show x.made < 100; omega) rfl (vw_some.1 g4).1 g2 rfl hz3
    refine ⟨g1, ?_, ?_, ?_, ?_, ?_⟩
    · show stepY z3 = _; rw [stepY_on f1 (by rw [f3]; exact (by decide : 3 < 4)), f3]; rfl
    · show Qt (stepT z3) _; rw [stepT_no f1]; exact f2
    · show HasL hk mk (stepT z3) _ _ _
      rw [stepT_no f1]
      exact ⟨name_small hcl, lkName_pre, bb, by rw [show vw z3.t (lkName x.cl x.made) = _ from f4]; exact g4, g4b⟩
    · intro m q1 q2
      show vw (stepT z3) m = _
      rw [stepT_no f1, f6 m q1 q2, g5 m q1]
    · show vw (stepT z3) _ = none; rw [stepT_no f1]; exact f5
  rcases (show i = 0 ∨ i = 1 ∨ i = 2 ∨ i = 3 by omega) with rfl | rfl | rfl | rfl
  · obtain ⟨rfl, _⟩ := hR
    obtain ⟨f1, f2, f3, f4⟩ := first z hz
    have hc : Conf hk mk s now x.cl b := Classical.not_not.1 fun hc => by
      rw [fin_no (f4 hc) (by rw [f2]; exact (by decide : 1 < 4))] at hf; cases hf
    have e12 := f3 hc
    refine .inl ⟨hc, e12, ?_, ?_⟩
    · show stepT z = s
      rw [stepT, f2, if_neg (fun q => by have : (x.asked b).shown = x.shown := rfl; rw [this, hsh] at q; cases q.2), f1]
    · show stepY z = _
      rw [stepY_end (.inl (by rw [e12]; omega)), f2]; rfl
  · obtain ⟨g1, g2, g3⟩ := one r e0 hR
    obtain ⟨rs, rx, rc, rp, rv⟩ := r
    dsimp only at g2 g3 hz
    subst g2 g3
    obtain ⟨f1, f2, f3, f4, f5⟩ := step2_q (x := { x with asks := 2, want := b }) hcl hnow h hN rfl hz
    rw [fin_no f1 (by rw [f3]; exact (by decide : 2 < 4))] at hf; cases hf
  · obtain ⟨g1, g2, g3, ⟨bb, g4, g4b⟩, g5⟩ := two r e0 hR
    obtain ⟨rs, rx, rc, rp, rv⟩ := r
    dsimp only at g2 g3 g4 g5 hz
    subst g3
    obtain ⟨f1, f2, f3, f4, f5, f6⟩ := step3_q (x := { x with asks := 3, want := b, next := lkName x.cl x.made, m := ⟨x.cl, b, now⟩ }) hcl (by show x.made < 100; omega) rfl (vw_some.1 g4).1 g2 rfl hz
    rw [fin_no f1 (by rw [f3]; exact (by decide : 3 < 4))] at hf; cases hf
  · obtain ⟨g1, g2⟩ := three r e0 hR
    have hli := (run_li (u := ⟨s, x.asked b, c, p, vl⟩) h0 rfl hj hI0 (by omega) hR).1
    obtain ⟨rs, rx, rc, rp, rv⟩ := r
    dsimp only at g2 hz hli
    have hw := g2.hand
    subst hw
    -- whom it meets is as it was ahead
    have hc2 : ¬ Conf hk mk rs now x.cl b := fun hc => by
      obtain ⟨n, m, h1, h2, h3⟩ := hc
      have hn1 : n ≠ dfName x.cl := fun e => by rw [e] at h1; have := h1.2.1; rw [dfName_pre] at this; cases this
      have hn2 : n ≠ lkName x.cl x.made := fun e => by
        rw [e] at h1
        have := h1.one hnow g2.mine
        rw [this] at h2; exact h2 rfl
      exact g1 ⟨n, m, h1.vw (g2.keep n hn1 hn2).symm, h2, h3⟩
    obtain ⟨_, f2, f3⟩ := step4_q hli.ok hnow g2.qt rfl hz
    obtain ⟨e1, e2, e3, e4⟩ := f2 hc2
    have hT : stepT z = z.t := stepT_no e1
    have hasY : (stepY z) = x.has b now := by rw [stepY_end (.inr (by rw [e3]; exact (by decide : 4 < 4 + 1))), e3]; rfl
    have mine2 : HasL hk mk z.t now (lkName x.cl x.made) ⟨x.cl, b, now⟩ := by
      refine g2.mine.vw ?_
      rcases e4 (lkName x.cl x.made) with q | ⟨_, _, m, q1, q2, _⟩
      · exact q
      · rw [q1.one hnow g2.mine] at q2; exact (q2 rfl).elim
    have back : ∀ m q, HasL hk mk rs now m q → ¬ q.c = x.cl → HasL hk mk s now m q := fun m q h1 h2 => by
      have hn1 : m ≠ dfName x.cl := fun e => by rw [e] at h1; have := h1.2.1; rw [dfName_pre] at this; cases this
      have hn2 : m ≠ lkName x.cl x.made := fun e => by
        rw [e] at h1; rw [h1.one hnow g2.mine] at h2; exact h2 rfl
      exact h1.vw (g2.keep m hn1 hn2).symm
    refine .inr ⟨g1, e1, ?_, hasY, ?_, ?_, ?_, ?_⟩
    · show Qt (stepT z) _; rw [hT]; exact e2
    · show HasL hk mk (stepT z) _ _ _; rw [hT]; exact mine2
    · intro m q1 q2
      show vw (stepT z) m = _ ∨ vw (stepT z) m = _ ∧ _
      rw [hT]
      rcases e4 m with q | ⟨q, hb, mm, r1, r2, r3⟩
      · exact .inl (q.trans (g2.keep m q1 q2))
      · exact .inr ⟨q, hb, mm, back m mm r1 r2, r2, r3⟩
    · show vw (stepT z) _ = none
      rw [hT]
      rcases e4 (dfName x.cl) with q | ⟨q, _⟩
      · rw [q]; exact g2.df
      · exact q
    · intro hb m q r1 r2 r3
      show vw (stepT z) m = none
      rw [hT]
      have hn1 : m ≠ dfName x.cl := fun e => by rw [e] at r1; have := r1.2.1; rw [dfName_pre] at this; cases this
      exact f3 hc2 hb m q (r1.vw (g2.keep m hn1 r3)) r2
end Go.Proofs.YtkkjfojgjmglpaaGreatDoor
set_option linter.unusedSimpArgs false
set_option linter.unusedVariables false
namespace Go.Proofs.YtkkjfojgjmglpaaGreatDoor
open Go Go.RowKit
set_option maxRecDepth 100000
attribute [local irreducible] sumL keyedL hexL strL sealF sealL tapeL tapeN
end Go.Proofs.YtkkjfojgjmglpaaGreatDoor
set_option linter.unusedSimpArgs false
set_option linter.unusedVariables false
namespace Go.Proofs.YtkkjfojgjmglpaaGreatDoor
open Go Go.RowKit
set_option maxRecDepth 100000
attribute [local irreducible] sumL keyedL hexL strL sealF sealL tapeL tapeN
def rq (k : UInt8) : List UInt8 := [k, 0, 0, 0, 0, 0, 0, 0, 0, 0, 0, 0, 0, 0, 0, 0, 0, 0, 0, 0, 0, 0, 0, 0, 0, 0, 0, 0, 0, 0, 0, 0]
@[simp] theorem rq_len {k : UInt8} : (rq k).length = 32 := rfl
end Go.Proofs.YtkkjfojgjmglpaaGreatDoor
set_option linter.unusedSimpArgs false
set_option linter.unusedVariables false
namespace Go.Proofs.YtkkjfojgjmglpaaGreatDoor
open Go Go.RowKit
set_option maxRecDepth 100000
attribute [local irreducible] sumL keyedL hexL strL sealF sealL tapeL tapeN
theorem fill_lk0 {Z R l : List Value} {x y z u p q r : Value} {pl : List (Nat × Nat)} (hZ : Z.length = 97) (hR : R.length = 97) (hu : u = u) : fillL ((0, 97) :: (97, 1) :: (98, 1) :: (99, 1) :: pl) (Z ++ (x :: y :: z :: l)) [(0, R), (1, [p]), (2, [q]), (3, [r])] = some (R ++ (p :: q :: r :: l)) := by
  have e1 : (Z ++ x :: y :: z :: l).drop 97 = x :: y :: z :: l := by rw [← hZ, List.drop_left]
  have e2 : (R ++ x :: y :: z :: l).take 97 = R := by rw [← hR, List.take_left]
  have e3 : (R ++ x :: y :: z :: l).drop 98 = y :: z :: l := by rw [show 98 = R.length + 1 by omega, ← List.drop_drop, List.drop_left]; rfl
  have e4 : (R ++ p :: y :: z :: l).take 98 = R ++ [p] := by rw [show 98 = R.length + 1 by omega, List.take_length_add_append]; rfl
  have e5 : (R ++ p :: y :: z :: l).drop 99 = z :: l := by rw [show 99 = R.length + 2 by omega, ← List.drop_drop, List.drop_left]; rfl
  have e6 : (R ++ p :: q :: z :: l).take 99 = R ++ [p, q] := by rw [show 99 = R.length + 2 by omega, List.take_length_add_append]; rfl
  have e7 : (R ++ p :: q :: z :: l).drop 100 = l := by rw [show 100 = R.length + 3 by omega, ← List.drop_drop, List.drop_left]; rfl
  simp [fillL, hZ, hR, e1, e2, e3, e4, e5, e6, e7]
  omega
theorem fill_lk {hk mk nk : List UInt8} {tv p q : Value} {cl : Nat} (h1 : hk.length = 32) (h2 : mk.length = 32) (h3 : nk.length = 32) : fillL [(0, 97), (97, 1), (98, 1), (99, 1), (100, 1), (101, 1), (102, 1), (103, 1), (104, 1), (105, 1), (106, 3)] ((List.replicate 32 0).map B ++ ((List.replicate 32 0).map B ++ ((List.replicate 32 0).map B ++ ([Value.pointer none, .pointer none, .pointer none, I 0, I 0, Str [], I 0, .bool false, Str [], .bool false, I 0, .bool false, I 0])))) [(0, hk.map B ++ (mk.map B ++ (nk.map B ++ ([tv])))), (1, [p]), (2, [q]), (3, [IN cl])] = some (hk.map B ++ (mk.map B ++ (nk.map B ++ [tv, p, q, IN cl, I 0, Str [], I 0, .bool false, Str [], .bool false, I 0, .bool false, I 0]))) := by
  have e := fill_lk0 (Z := (List.replicate 32 0).map B ++ ((List.replicate 32 0).map B ++ ((List.replicate 32 0).map B ++ [Value.pointer none]))) (R := hk.map B ++ (mk.map B ++ (nk.map B ++ ([tv])))) (l := [I 0, Str [], I 0, .bool false, Str [], .bool false, I 0, .bool false, I 0]) (x := .pointer none) (y := .pointer none) (z := I 0) (u := I 0) (p := p) (q := q) (r := IN cl) (pl := [(100, 1), (101, 1), (102, 1), (103, 1), (104, 1), (105, 1), (106, 3)]) sI (by simp [h1, h2, h3]) rfl
  simpa using e
theorem lnew_spec {hk mk nk : List UInt8} {tv : Value} {sb kb cl : Nat} {w : World} (h3 : hk.length = 32 ∧ mk.length = 32 ∧ nk.length = 32) (htv : tv.oneCell' = true) (hcl : cl < 100) : Spec Tryz.prog 38 [PT sb, .agg (hk.map B ++ (mk.map B ++ (nk.map B ++ ([tv])))).toArray, PT kb, IN cl] w [] (fun _ : Nat => True) (fun b => .tuple #[PT b, I 0]) (fun b => [cel b (hk.map B ++ (mk.map B ++ (nk.map B ++ ([tv, PT sb, PT kb, IN cl, I 0, Str [], I 0, .bool false, Str [], .bool false, I 0, .bool false, I 0])))) 182]) := by
  refine spec_of (n := 30) Tryz.func38 rfl rfl trivial trivial rfl ?_
  obtain ⟨hk32, mk32, nk32⟩ := h3
  refine s_r <| tk_act rfl <| a_boxL (cs := hk.map B ++ (mk.map B ++ (nk.map B ++ ([tv])))) rfl rfl fun b5 => q_a rfl rfl <| q_a rfl rfl <| s_n <| tk_seq <| s_r <| q_m rfl rfl <| s_q rfl (y_pnil rfl rfl rfl) <| q_m rfl rfl <| s_g rfl (y_move rfl) <| s_g rfl (y_pnil rfl rfl rfl) <| s_q rfl (y_pick0 rfl rfl) <| q_m rfl rfl <| s_g rfl (y_move rfl) <| tk_gqe (.bool false) rfl rfl rfl (y_lss rfl rfl) (bool_f oM) <| s_q rfl (y_pick0 rfl rfl) <| q_m rfl rfl <| s_g rfl (y_move rfl) <| tk_gqe (.bool false) rfl rfl rfl (y_gtr rfl rfl) (bool_f oM) <| s_q rfl (y_pick0 rfl rfl) <| s_n <| tk_cond0 rfl ?_; exact tk_skip <| tk_then <| s_r <| s_q rfl (y_loadA 97 rfl kR lenP (hcw (.head _))) <| q_m rfl rfl <| q_m rfl rfl <| q_m rfl rfl <| s_q rfl (y_build (v := .agg (hk.map B ++ (mk.map B ++ (nk.map B ++ ([tv, PT sb, PT kb, IN cl, I 0, Str [], I 0, .bool false, Str [], .bool false, I 0, .bool false, I 0])))).toArray) (vs := [(0, .agg (hk.map B ++ (mk.map B ++ (nk.map B ++ ([tv])))).toArray), (1, PT sb), (2, PT kb), (3, IN cl)]) rfl (run_build (zs := (List.replicate 32 0).map B ++ ((List.replicate 32 0).map B ++ ((List.replicate 32 0).map B ++ ([Value.pointer none, .pointer none, .pointer none, I 0, I 0, Str [], I 0, .bool false, Str [], .bool false, I 0, .bool false, I 0])))) (pl := [(0, 97), (97, 1), (98, 1), (99, 1), (100, 1), (101, 1), (102, 1), (103, 1), (104, 1), (105, 1), (106, 3)]) Tryz.underlying182 (fun _ => kR) (fun _ => kR) (fill_lk hk32 mk32 nk32))) <| tk_act rfl <| a_boxL (cs := hk.map B ++ (mk.map B ++ (nk.map B ++ ([tv, PT sb, PT kb, IN cl, I 0, Str [], I 0, .bool false, Str [], .bool false, I 0, .bool false, I 0])))) rfl rfl fun b29 => q_a rfl rfl <| q_a rfl rfl <| s_n <| tk_retc <| tk_ret (b29) (trivial) (.inl rfl) (r2 rfl rfl rfl) (.cons_cons _ (List.nil_sublist _))
end Go.Proofs.YtkkjfojgjmglpaaGreatDoor
set_option linter.unusedSimpArgs false
set_option linter.unusedVariables false
namespace Go.Proofs.YtkkjfojgjmglpaaGreatDoor
open Go Go.RowKit
set_option maxRecDepth 100000
attribute [local irreducible] sumL keyedL hexL strL sealF sealL tapeL tapeN
/-- a client: where its hand lies, its tape; what they hold -/
structure Cl where
  lb : Nat
  tb : Nat
  vb : Value
  x : Lk
  tl : List UInt8
  c : Nat
  p : Nat
  vl : Value
def lk0 (cl : Nat) : Lk := ⟨cl, 0, [], 0, false, [], false, ⟨0, false, 0⟩⟩
def dCl : Cl := ⟨0, 0, .slice none 0 0, lk0 0, [], 0, 0, .slice none 0 0⟩
/-- many pieces, apart from each other, as one -/
def team (ps : List Res) : Res where
  fp := Fs ps
  holds w := Hs w ps ∧ Dj ps
  loc _ _ h hr := ⟨Hs.loc h hr.1, hr.2⟩
  bnd _ hr k hk := Fs.bnd hr.1 k hk
section
variable {c : Cx} {L : Sl} {H : List Res} {K : Act → World → Prop} {ps qs : List Res}
theorem tk_team0 (h : TK c K L (team [] :: H)) : TK c K L H := fun a w ha hw => h a w ha ⟨hw.fr, ⟨⟨trivial, trivial⟩, hw.hs⟩, ⟨fun _ h => h.elim, hw.dj⟩, fun k hk => hw.own k (hk.resolve_left (fun h => h.elim))⟩
theorem tk_teamIn (h : TK c K L (team ps :: H)) : TK c K L (ps ++ H) := fun a w ha hw => by
  have h1 := Hs_append.1 hw.hs
  have h2 := Dj_append.1 hw.dj
  refine h a w ha ⟨hw.fr, ⟨⟨h1.1, h2.1⟩, h1.2⟩, ⟨fun k hk hf => h2.2.2 k hk hf, h2.2.1⟩, fun k hk => hw.own k (Fs_append.2 hk)⟩
theorem tk_teamOut (h : TK c K L (ps ++ H)) : TK c K L (team ps :: H) := fun a w ha hw => by
  refine h a w ha ⟨hw.fr, Hs_append.2 ⟨hw.hs.1.1, hw.hs.2⟩, Dj_append.2 ⟨hw.hs.1.2, hw.dj.2, fun k hk hf => hw.dj.1 k hk hf⟩, fun k hk => hw.own k (Fs_append.1 hk)⟩
end
def clP (sb kb : Nat) (k : Cl) : List Res := [cel k.lb ((rq 1).map B ++ ((rq 2).map B ++ ((List.replicate 32 0).map B ++ ([PT k.tb, PT sb, PT kb, IN k.x.cl, IN k.x.made, Str k.x.own, IN k.x.asks, .bool k.x.want, Str k.x.next, .bool k.x.shown, IN k.x.m.c, .bool k.x.m.a, IN k.x.m.t])))) 182, cel k.tb ([k.vb, .int .u64 ((k.c : Nat) : Int), k.vl]) 201, ownB k.vb k.tl 5, ownB k.vl ((tapeL k.tl k.c).drop k.p) 5]
section
variable {c : Cx} {L : Sl} {H : List Res} {K : Act → World → Prop} {cs : List Cl} {k : Cl} {sb kb : Nat} {r1 r2 r3 r4 : Res}
theorem eraseP {α : Type} : ∀ {l : List α} {i : Nat} (h : i < l.length), (l[i] :: l.eraseIdx i).Perm l
  | [], i, h => absurd h (Nat.not_lt_zero _)
  | a :: l, 0, _ => .refl _
  | a :: l, i + 1, h => (List.Perm.swap _ _ _).trans (.cons a (eraseP (l := l) (i := i) (Nat.lt_of_succ_lt_succ h)))
theorem tk_teamP {ps qs : List Res} (p : ps.Perm qs) (h : TK c K L (team qs :: H)) : TK c K L (team ps :: H) :=
  tk_teamOut (tk_perm (qs ++ H) (p.append_right H) (tk_teamIn h))
theorem tk_teamAdd (hp : clP sb kb k = [r1, r2, r3, r4]) (h : TK c K L (team ((cs ++ [k]).flatMap (clP sb kb)) :: H)) : TK c K L (r1 :: r2 :: r3 :: r4 :: team (cs.flatMap (clP sb kb)) :: H) := by
  have e : (cs ++ [k]).flatMap (clP sb kb) = cs.flatMap (clP sb kb) ++ [r1, r2, r3, r4] := by rw [List.flatMap_append, ← hp]; simp
  rw [e] at h
  refine tk_perm (team (cs.flatMap (clP sb kb)) :: ([r1, r2, r3, r4] ++ H)) (List.perm_middle (l₁ := [r1, r2, r3, r4])) (tk_teamOut ?_)
  rw [← List.append_assoc]
  exact tk_teamIn h
theorem tk_teamGet {i : Nat} (hk : cs.getD i dCl = k) (hi : i < cs.length) (hp : clP sb kb k = [r1, r2, r3, r4]) (h : TK c K L (r1 :: r2 :: r3 :: r4 :: team ((cs.eraseIdx i).flatMap (clP sb kb)) :: H)) : TK c K L (team (cs.flatMap (clP sb kb)) :: H) := by
  have e : cs[i] = k := by rw [← hk, List.getD_eq_getElem?_getD, List.getElem?_eq_getElem hi]; rfl
  have p1 : (k :: cs.eraseIdx i).Perm cs := e ▸ eraseP hi
  refine tk_teamP (p1.flatMap_right (clP sb kb)).symm (tk_teamOut ?_)
  rw [List.flatMap_cons, hp]
  refine tk_perm ((cs.eraseIdx i).flatMap (clP sb kb) ++ ([r1, r2, r3, r4] ++ H)) ?_ (tk_teamIn (tk_perm _ (List.perm_middle (l₁ := [r1, r2, r3, r4])).symm h))
  rw [← List.append_assoc]
  exact List.Perm.append_right H List.perm_append_comm
theorem tk_teamPut {i : Nat} (hi : i < cs.length) (hp : clP sb kb k = [r1, r2, r3, r4]) (h : TK c K L (team ((cs.set i k).flatMap (clP sb kb)) :: H)) : TK c K L (r1 :: r2 :: r3 :: r4 :: team ((cs.eraseIdx i).flatMap (clP sb kb)) :: H) := by
  have e : (cs.set i k)[i]'(by rw [List.length_set]; exact hi) = k := List.getElem_set_self ..
  have p1 : (k :: cs.eraseIdx i).Perm (cs.set i k) := by
    have := eraseP (l := cs.set i k) (i := i) (by rw [List.length_set]; exact hi)
    rwa [e, List.eraseIdx_set_eq] at this
  have h2 := tk_teamP (p1.flatMap_right (clP sb kb)) h
  rw [List.flatMap_cons, hp] at h2
  refine tk_perm (team ((cs.eraseIdx i).flatMap (clP sb kb)) :: ([r1, r2, r3, r4] ++ H)) (List.perm_middle (l₁ := [r1, r2, r3, r4])) (tk_teamOut ?_); refine tk_perm (([r1, r2, r3, r4] ++ (cs.eraseIdx i).flatMap (clP sb kb)) ++ H) ?_ (tk_teamIn h2)
  rw [← List.append_assoc]
  exact List.Perm.append_right H List.perm_append_comm
end
def Fresh (cs : List Cl) : Prop := ∀ i, i < cs.length → (cs.getD i dCl).x = lk0 i ∧ (cs.getD i dCl).tl = [UInt8.ofNat i] ∧ (cs.getD i dCl).c = 0 ∧ (cs.getD i dCl).p = 0
theorem fresh_add {cs : List Cl} {i lb tb : Nat} {vb vl : Value} (h : Fresh cs) (hi : cs.length = i) : Fresh (cs ++ [⟨lb, tb, vb, lk0 i, [UInt8.ofNat i], 0, 0, vl⟩]) := fun j hj => by
  rw [List.length_append] at hj
  by_cases e : j < cs.length
  · have := h j e
    have e3 : (cs ++ [(⟨lb, tb, vb, lk0 i, [UInt8.ofNat i], 0, 0, vl⟩ : Cl)]).getD j dCl = cs.getD j dCl := by simp [List.getD_eq_getElem?_getD, List.getElem?_append_left e]
    rwa [e3]
  · have ej : j = cs.length := by simp at hj; omega
    subst ej
    have e2 : (cs ++ [(⟨lb, tb, vb, lk0 i, [UInt8.ofNat i], 0, 0, vl⟩ : Cl)]).getD cs.length dCl = ⟨lb, tb, vb, lk0 i, [UInt8.ofNat i], 0, 0, vl⟩ := by simp [List.getD_eq_getElem?_getD]
    rw [e2, hi]; exact ⟨rfl, rfl, rfl, rfl⟩
/-- a town: where store, map, clock, town lie; the row; the clients -/
structure Tw where
  sb : Nat
  mb : Nat
  kb : Nat
  tw : Nat
  vo : Value
  cs : List Cl
theorem found_spec {n : Nat} {w : World} (hn : n ≤ 100) : Spec Tryz.prog 36 [IN n] w [] (fun z : Tw => z.cs.length = n ∧ Fresh z.cs) (fun z => .tuple #[PT z.tw, .bool true]) (fun z => [cel z.tw ([PT z.sb, PT z.kb, z.vo]) 97, ownM PT z.vo (z.cs.map Cl.lb) 91, cel z.kb ([I 0]) 178, cel z.sb ([Value.map (some z.mb), I ((newS 100000).left), .bool ((newS 100000).off), I ((newS 100000).made), I ((newS 100000).room)]) 192, mapS z.mb (kvO ((newS 100000).obs)), bag (((newS 100000).obs).map (obR 5)), team (z.cs.flatMap (clP z.sb z.kb))]) := by
  refine spec_of (n := 60) Tryz.func36 rfl rfl trivial trivial rfl <| s_r <| q_a rfl rfl <| q_a rfl rfl <| s_n <| s_r <| tk_act rfl <| a_callv [] _ rfl kR rfl (fun w' hw' => shNew_spec (room := 100000) (by first | decide | omega)) rfl fun ⟨sb, mb⟩ _ => q_m rfl rfl <| s_q rfl (y_extract rfl rfl) <| s_q rfl (y_extract rfl rfl) <| q_a rfl rfl <| q_a rfl rfl <| s_n <| s_r <| q_m rfl rfl <| s_q rfl (y_build (v := .agg ([I 0]).toArray) (vs := []) rfl (fun _ => kR)) <| tk_act rfl <| a_boxL (cs := [I 0]) rfl rfl fun b17 => s_q rfl (y_build (v := .agg ([PT sb, PT b17, .slice none 0 0]).toArray) (vs := [(0, PT sb), (1, PT b17)]) rfl (run_build (zs := [Value.pointer none, .pointer none, .slice none 0 0]) (pl := [(0, 1), (1, 1), (2, 1)]) Tryz.underlying97 (fun _ => kR) (fun _ => kR) (by simp [fillL, Value.cells]))) <| tk_act rfl <| a_boxL (cs := [PT sb, PT b17, .slice none 0 0]) rfl rfl fun b19 => q_a rfl rfl <| s_n ?_; refine tk_seq <| s_r <| q_a rfl rfl <| s_n <| tk_block <| tk_ownM0 (f := PT) 91 <| tk_R (H1 := []) rfl (show own (.slice none 0 0) (([] : List Nat).length) (([] : List Nat).map PT) 91 1 = own (.slice none 0 0) ((([] : List Cl).map Cl.lb).length) ((([] : List Cl).map Cl.lb).map PT) 91 1 from rfl) <| tk_team0 <| tk_loop (X := Nat × Value × List Cl) (fun (i, vo, cs) => i ≤ n ∧ cs.length = i ∧ Fresh cs) (fun (i, vo, cs) => [(0, IN n), (4, PT sb), (5, I 0), (6, PT b19), (7, IN i)]) (fun (i, vo, cs) => [team (cs.flatMap (clP sb b17)), own vo ((cs.map Cl.lb).length) ((cs.map Cl.lb).map PT) 91 1, cel b19 ([PT sb, PT b17, vo]) 97, cel b17 ([I 0]) 178, cel sb ([Value.map (some mb), I ((newS 100000).left), .bool ((newS 100000).off), I ((newS 100000).made), I ((newS 100000).room)]) 192, mapS mb (kvO ((newS 100000).obs)), bag (((newS 100000).obs).map (obR 5))]) (fun (i, vo, cs) => n - i) ((0, .slice none 0 0, [])) (⟨Nat.zero_le _, rfl, fun _ h => absurd h sI⟩) sB ((List.Sublist.refl _)) ?_
  rintro ⟨i, vo, cs⟩ hI
  try dsimp only at hI ⊢
  refine tk_own1 (mm 1 rfl) fun hfo => ?_
  have hlc : (cs.map Cl.lb).length = i := by rw [List.length_map]; exact hI.2.1
  refine tk_seq <| s_r <| q_m rfl rfl <| q_m rfl rfl <| s_q rfl (y_lss rfl rfl) <| s_n <| tk_condP rfl (fun ht22 => ?_) (fun ht22 => ?_)
  · refine tk_skip <| tk_then <| tk_seq <| tk_block <| s_r <| s_q rfl (y_build (v := .agg (([1, 0, 0, 0, 0, 0, 0, 0, 0, 0, 0, 0, 0, 0, 0, 0, 0, 0, 0, 0, 0, 0, 0, 0, 0, 0, 0, 0, 0, 0, 0, 0] : List UInt8).map B).toArray) (vs := [(0, B 1)]) rfl (fun _ => kR)) <| tk_re 25 (.agg (([1, 0, 0, 0, 0, 0, 0, 0, 0, 0, 0, 0, 0, 0, 0, 0, 0, 0, 0, 0, 0, 0, 0, 0, 0, 0, 0, 0, 0, 0, 0, 0] : List UInt8).map B).toArray) (.agg ((rq 1).map B).toArray) rfl (rfl) <| s_q rfl (y_build (v := .agg (([2, 0, 0, 0, 0, 0, 0, 0, 0, 0, 0, 0, 0, 0, 0, 0, 0, 0, 0, 0, 0, 0, 0, 0, 0, 0, 0, 0, 0, 0, 0, 0] : List UInt8).map B).toArray) (vs := [(0, B 2)]) rfl (fun _ => kR)) <| tk_re 26 (.agg (([2, 0, 0, 0, 0, 0, 0, 0, 0, 0, 0, 0, 0, 0, 0, 0, 0, 0, 0, 0, 0, 0, 0, 0, 0, 0, 0, 0, 0, 0, 0, 0] : List UInt8).map B).toArray) (.agg ((rq 2).map B).toArray) rfl (rfl) <| s_q rfl (y_build (v := .agg ((rq 1).map B ++ ((rq 2).map B)).toArray) (vs := [(0, .agg ((rq 1).map B).toArray), (1, .agg ((rq 2).map B).toArray)]) rfl (run_build (zs := (List.replicate 32 0).map B ++ ((List.replicate 32 0).map B)) (pl := [(0, 32), (32, 32)]) Tryz.underlying29 (fun _ => kR) (fun _ => kR) (fillP2 (a := (rq 1).map B) (b := (rq 2).map B) lenP sI sI sI))) <| s_q rfl (y_build (v := .agg ((rq 1).map B ++ ((rq 2).map B ++ ((List.replicate 32 0).map B))).toArray) (vs := [(0, .agg ((rq 1).map B ++ ((rq 2).map B)).toArray)]) rfl (run_build (zs := (List.replicate 32 0).map B ++ ((List.replicate 32 0).map B ++ ((List.replicate 32 0).map B))) (pl := [(0, 64), (64, 32)]) Tryz.underlying31 (fun _ => kR) (fun _ => kR) (fillP1 (a := (rq 1).map B ++ ((rq 2).map B)) lenP sI sI))) <| q_m rfl rfl <| s_q rfl (y_convi8 (m := i) rfl rfl rfl) <| tk_act rfl <| a_slitN (vs := [B (UInt8.ofNat i)]) rfl (List.forall_mem_cons.2 ⟨rfl, (fun _ h => nomatch h)⟩) (EL42) rfl rfl dC fun b31 => tk_act rfl <| a_callv [] _ rfl kR rfl (fun w' hw' => wind_spec (b := [UInt8.ofNat i]) (Ro.cel (H0 := []) (b := b31) (o := 0) (m := 1) (cp := 1) (vs := [UInt8.ofNat i].map B) hw' (.head _) (rfl) lQ lenP) lenP) rfl fun ⟨tb32, vb32⟩ _ => s_q rfl (y_build (v := .agg ((rq 1).map B ++ ((rq 2).map B ++ ((List.replicate 32 0).map B ++ ([PT tb32])))).toArray) (vs := [(0, .agg ((rq 1).map B ++ ((rq 2).map B ++ ((List.replicate 32 0).map B))).toArray), (1, PT tb32)]) rfl (run_build (zs := (List.replicate 32 0).map B ++ ((List.replicate 32 0).map B ++ ((List.replicate 32 0).map B ++ ([Value.pointer none])))) (pl := [(0, 96), (96, 1)]) Tryz.underlying34 (fun _ => kR) (fun _ => kR) (fillP2 (a := (rq 1).map B ++ ((rq 2).map B ++ ((List.replicate 32 0).map B))) (b := [PT tb32]) lenP rfl sI sI))) ?_; refine tk_act rfl <| a_allocL (cs := (List.replicate 32 0).map B ++ ((List.replicate 32 0).map B ++ ((List.replicate 32 0).map B ++ ([Value.pointer none])))) kR rfl fun b8 => tk_act rfl <| a_storeW (H1 := []) (vs := (rq 1).map B ++ ((rq 2).map B ++ ((List.replicate 32 0).map B ++ ([PT tb32])))) 97 rfl rfl kR rfl ⟨lenP, lenP⟩ (List.forall_mem_append.2 ⟨oneB, (List.forall_mem_append.2 ⟨oneB, (List.forall_mem_append.2 ⟨oneB, (List.forall_mem_cons.2 ⟨rfl, (fun _ h => nomatch h)⟩)⟩)⟩)⟩) <| s_n <| tk_seq <| tk_drawH [cel b8 ((rq 1).map B ++ ((rq 2).map B ++ ((List.replicate 32 0).map B ++ ([PT tb32])))) 34, cel tb32 ([vb32, .int .u64 (((0 : Nat) : Nat) : Int), .slice none 0 0]) 201, ownB vb32 [UInt8.ofNat i] 5, cel b31 ([B (UInt8.ofNat i)]) 5, team (cs.flatMap (clP sb b17)), own vo ((cs.map Cl.lb).length) ((cs.map Cl.lb).map PT) 91 1, cel b19 ([PT sb, PT b17, vo]) 97, cel b17 ([I 0]) 178, cel sb ([Value.map (some mb), I ((newS 100000).left), .bool ((newS 100000).off), I ((newS 100000).made), I ((newS 100000).room)]) 192, mapS mb (kvO ((newS 100000).obs)), bag (((newS 100000).obs).map (obR 5))] [] kR <| s_x 0 rfl (y_move rfl) <| s_l 1 rfl (fun _ h => h) (y_loadA 97 rfl kR lenP (hcw (.head _))) <| s_x 2 rfl (y_move rfl) <| s_x 3 rfl (y_nilCheck rfl) <| s_x 4 rfl (y_fldN (o := 0) 1 rfl kR) <| s_l 5 rfl (fun _ h => h) (y_load rfl rfl (hc (o := 1) (mm 6 rfl) (rfl))) <| s_x 6 rfl (y_move rfl) <| tx_a 7 rfl kR rfl <| a_callv [] _ rfl kR rfl (fun w' hw' => lnew_spec (hk := rq 1) (mk := rq 2) (nk := List.replicate 32 0) (tv := PT tb32) (sb := sb) (kb := b17) (cl := i) ⟨lenP, lenP, lenP⟩ rfl lenP) rfl fun lb42 _ => tk_S (fun _ h => kD 1 rfl h) <| s_x 8 rfl (y_move rfl) <| s_x 9 rfl (y_extract rfl rfl) <| s_x 10 rfl (y_extract rfl rfl) <| s_x 11 rfl (y_assign rfl) <| s_x 12 rfl (y_assign rfl) <| tx_done kR <| tk_then ?_; refine tk_seq <| s_r <| q_m rfl rfl <| s_q rfl ((y_neq rfl rfl).cast (bool_f dC)) <| s_n <| tk_cond0 rfl <| tk_skip <| tk_then <| tk_region <| q_m rfl rfl <| q_m rfl rfl <| s_q rfl (y_nilCheck rfl) <| s_q rfl (y_fldN (o := 0) 2 rfl kR) <| s_q rfl (y_load rfl rfl (hc (o := 2) (mm 7 rfl) (rfl))) <| q_m rfl rfl <| tk_act rfl <| a_slitN (vs := [PT lb42]) rfl (List.forall_mem_cons.2 ⟨rfl, (fun _ h => nomatch h)⟩) (EL95) rfl rfl dC fun b53 => tk_act rfl <| a_appM (H1 := [_, _, _, _, _, _, _]) (f := PT) (l := cs.map Cl.lb) (m := [lb42]) rfl rfl EL95 rfl rfl (fun w hw => cel_rdE (o := 0) (m := 1) (cp := 1) (vs := [lb42].map PT) (hw.mem (.head _)) (rfl) lQ lenP) (fun _ => rfl) ⟨lenP, lenP⟩ fun v54 => tk_own1 (mm 7 rfl) fun hfv54 => s_q rfl (y_nilCheck rfl) <| s_q rfl (y_fldN (o := 0) 2 rfl kR) <| tk_act rfl <| a_storeE (H1 := [_, _, _, _, _, _, _, _]) (o := 2) (v := v54) (cs' := [PT sb, PT b17, v54]) rfl rfl kR (RdS.one hfv54.choose_spec) rfl sW (rfl) ?_; exact tk_nil <| tk_in_normal <| tk_then <| tk_region <| q_m rfl rfl <| s_q rfl (y_addN (a := i) (b := 1) rfl rfl oM) <| q_a rfl rfl <| tk_nil <| tk_R (H1 := [_, _, _, _, _, _, _]) rfl (show own v54 (((cs.map Cl.lb) ++ [lb42]).length) (((cs.map Cl.lb) ++ [lb42]).map PT) 91 1 = own v54 (((cs ++ [(⟨lb42, tb32, vb32, lk0 i, [UInt8.ofNat i], 0, 0, .slice none 0 0⟩ : Cl)]).map Cl.lb).length) (((cs ++ [(⟨lb42, tb32, vb32, lk0 i, [UInt8.ofNat i], 0, 0, .slice none 0 0⟩ : Cl)]).map Cl.lb).map PT) 91 1 from ownM_cast sI) <| tk_ownM0 (f := B) 5 <| tk_R (H1 := []) rfl (show ownB (.slice none 0 0) ([] : List UInt8) 5 = ownB (.slice none 0 0) ((tapeL [UInt8.ofNat i] 0).drop 0) 5 from ownM_cast (by simp [tapeL_0])) <| tk_ps [7, 1, 6, 6, 5] rfl <| tk_teamAdd (k := (⟨lb42, tb32, vb32, lk0 i, [UInt8.ofNat i], 0, 0, .slice none 0 0⟩ : Cl)) rfl <| tk_again ((i + 1, v54, cs ++ [(⟨lb42, tb32, vb32, lk0 i, [UInt8.ofNat i], 0, 0, .slice none 0 0⟩ : Cl)])) (⟨by dsimp only; omega, by simp [hI.2.1], fresh_add hI.2.2 hI.2.1⟩) (by dsimp only; omega) sB (.cons_cons _ (.cons _ (.cons _ (.cons _ (List.Sublist.refl _)))))
  · exact tk_exit <| tk_then_exit <| tk_then_exit <| tk_in_hit <| tk_then <| s_r <| q_m rfl rfl <| q_m rfl rfl <| s_q rfl ((y_eql rfl rfl).cast (bool_t dC)) <| q_a rfl rfl <| q_a rfl rfl <| s_n <| tk_retc <| tk_ps [6, 6, 6, 6, 5, 6] rfl <| tk_ret (⟨sb, mb, b17, b19, vo, cs⟩) (⟨by dsimp only; omega, hI.2.2⟩) (.inl rfl) (r2 rfl rfl rfl) (List.Sublist.refl _)
end Go.Proofs.YtkkjfojgjmglpaaGreatDoor
set_option linter.unusedSimpArgs false
set_option linter.unusedVariables false
namespace Go.Proofs.YtkkjfojgjmglpaaGreatDoor
open Go
attribute [local irreducible] sealL tapeN tapeL lkName dfName preB
variable {hk mk tl : List UInt8} {s t : Sh} {x : Lk} {now c p N : Nat} {vl : Value}
def Lst (hk mk : List UInt8) (s : Sh) (now : Nat) (L : List (List UInt8 × Mk)) : Prop := ∀ n m, HasL hk mk s now n m ↔ (n, m) ∈ L
theorem vw_new {r : Nat} {n : List UInt8} : vw (newS r) n = none := vw_none.2 (fun h => nomatch h)
theorem lst_new {r : Nat} : Lst hk mk (newS r) now [] := fun n m => ⟨fun h => (by obtain ⟨_, _, b, h, _⟩ := h; rw [vw_new] at h; cases h), fun h => nomatch h⟩
theorem lkw_new {r : Nat} : LkW hk mk (newS r) now := fun n b h => by rw [vw_new] at h; cases h
theorem qt_new : Qt (newS 100000) 0 := ⟨⟨rfl, rfl⟩, rfl, (fun _ h => nomatch h), Nat.le_refl _⟩
theorem at_new {r : Nat} (hr : r ≤ 1073741824) : ShAt (newS r) 0 :=
  ⟨List.nodup_nil, ⟨by show -1 ≤ (-1 : Int); omega, by show (-1 : Int) < _; omega⟩, ⟨Int.le_refl _, Int.le_refl _⟩, ⟨by show (0 : Int) ≤ (r : Int); omega, by show (r : Int) ≤ _; omega⟩, by show ((0 : Nat) : Int) ≤ (r : Int); omega, Nat.zero_le _, (fun _ h => nomatch h), (fun _ h => nomatch h)⟩
theorem HasL.later {d : Nat} {n : List UInt8} {m : Mk} (h : HasL hk mk s now n m) : HasL hk mk s (now + d) n m := by
  obtain ⟨h1, h2, b, h3, h4, h5, h6⟩ := h
  exact ⟨h1, h2, b, h3, h4, by omega, h6⟩
theorem Lst.later {L : List (List UInt8 × Mk)} {d : Nat} (h : Lst hk mk s now L) (hW : LkW hk mk s now) (hd : now + d ≤ 1099511627776) : Lst hk mk s (now + d) L := fun n m => by
  refine ⟨fun q => ?_, fun q => ((h n m).2 q).later⟩
  obtain ⟨h1, h2, b, h3, h4⟩ := q
  obtain ⟨m', h5⟩ := hW.has (vw_some.1 h3).1 h2
  have : m = m' := HasL.one hd ⟨h1, h2, b, h3, h4⟩ h5.later
  rw [this]; exact (h n m').1 h5
theorem conf_lst {L : List (List UInt8 × Mk)} {cl : Nat} {b : Bool} (h : Lst hk mk s now L) : Conf hk mk s now cl b ↔ ∃ q ∈ L, ¬ q.2.c = cl ∧ holdsP now q.2 ∧ (b = true ∨ q.2.a = true) :=
  ⟨fun ⟨n, m, h1, h2⟩ => ⟨(n, m), (h n m).1 h1, h2⟩, fun ⟨q, h1, h2⟩ => ⟨q.1, q.2, (h q.1 q.2).2 h1, h2⟩⟩
theorem HasL.ne_df {n : List UInt8} {m : Mk} {cl : Nat} (h : HasL hk mk s now n m) : n ≠ dfName cl := fun e => by
  have := h.2.1
  rw [e, dfName_pre] at this; cases this
theorem lst_f {L : List (List UInt8 × Mk)} {cl j : Nat} (hnow : now ≤ 1099511627776) (h : Lst hk mk s now L) (hn : ∀ q ∈ L, q.1 ≠ lkName cl j) (hq : TkQ hk mk s t now cl j false) : Lst hk mk t now ((lkName cl j, ⟨cl, false, now⟩) :: L) := fun n m => by
  constructor
  · intro q
    by_cases e : n = lkName cl j
    · subst e; rw [q.one hnow hq.mine]; exact List.mem_cons_self ..
    · rcases hq.keep n q.ne_df e with r | r
      · exact List.mem_cons_of_mem _ ((h n m).1 (q.vw r.symm))
      · cases r.2.1
  · intro q
    rcases List.mem_cons.1 q with q | q
    · cases q; exact hq.mine
    · have h1 := (h n m).2 q
      rcases hq.keep n h1.ne_df (hn _ q) with r | r
      · exact h1.vw r
      · cases r.2.1
theorem lst_t {L : List (List UInt8 × Mk)} {cl j : Nat} (hnow : now ≤ 1099511627776) (h : Lst hk mk s now L) (hn : ∀ q ∈ L, q.1 ≠ lkName cl j → ¬ q.2.c = cl) (hq : TkQ hk mk s t now cl j true) : Lst hk mk t now [(lkName cl j, ⟨cl, true, now⟩)] := fun n m => by
  constructor
  · intro q
    by_cases e : n = lkName cl j
    · subst e; rw [q.one hnow hq.mine]; exact List.mem_cons_self ..
    · exfalso
      have h2 : HasL hk mk s now n m := by
        rcases hq.keep n q.ne_df e with r | r
        · exact q.vw r.symm
        · obtain ⟨_, _, b, h3, _⟩ := q; rw [r.1] at h3; cases h3
      have h3 := hq.alone rfl n m h2 (hn _ ((h n m).1 h2) e) e
      obtain ⟨_, _, b, h4, _⟩ := q
      rw [h3] at h4; cases h4
  · intro q
    rw [List.mem_singleton] at q; cases q; exact hq.mine
/-- another hand at the same store -/
theorem li_other {k : Int} {j j' : Nat} {y : Lk} (h : LI hk mk s x now k j) (h1 : y.cl < 100) (h2 : y.made ≤ j') (h3 : y.asks = 0) (h4 : y.next = []) : LI hk mk s y now k j' := ⟨h.at_, h.ok, h1, h2, by rw [h4]; exact Nat.zero_lt_succ _, fun q => by omega⟩
theorem three_of {α : Type} : ∀ {l : List α}, l.length = 3 → ∃ a b c, l = [a, b, c]
  | [a, b, c], _ => ⟨a, b, c, rfl⟩
end Go.Proofs.YtkkjfojgjmglpaaGreatDoor
set_option linter.unusedSimpArgs false
set_option linter.unusedVariables false
namespace Go.Proofs.YtkkjfojgjmglpaaGreatDoor
open Go Go.RowKit
set_option maxRecDepth 100000
set_option maxHeartbeats 1000000
attribute [local irreducible] sumL keyedL hexL strL sealF sealL tapeL tapeN lkName dfName preB
section
variable {s : Sh} {c p e : Nat} {vl : Value} {q : St5}
theorem TkI.took {hk mk tl : List UInt8} {now : Nat} {u q : St5} {k : Int} {j e : Nat} (h : TkI hk mk tl now u k j q true e) : Took hk mk tl now u q e ∧ LI hk mk q.s q.x now (k + 8020) (j + 4) := by
  rcases h with h | h
  · cases h.1
  · exact ⟨h.2.1, h.2.2.1⟩
theorem TkI.tape {hk mk tl : List UInt8} {now : Nat} {u q : St5} {k : Int} {j e : Nat} (h : TkI hk mk tl now u k j q true e) : q.p ≤ u.p + 64 ∧ q.p ≤ 32 * q.c ∧ 32 * q.c < q.p + 32 := by
  rcases h with h | h
  · cases h.1
  · exact h.2.2.2
abbrev L00 : List UInt8 × Mk := (lkName 0 0, ⟨0, false, 0⟩)
abbrev L10 : List UInt8 × Mk := (lkName 1 0, ⟨1, false, 0⟩)
theorem bars1 (hL : LI (rq 1) (rq 2) (newS 100000) (lk0 0) 0 0 0) (hz : TkI (rq 1) (rq 2) [0] 0 ⟨newS 100000, (lk0 0).asked false, 0, 0, vl⟩ 0 0 q true e) : e = 0 ∧ Qt q.s 1 ∧ q.x = (lk0 0).has false 0 ∧ Lst (rq 1) (rq 2) q.s 0 [L00] ∧ LI (rq 1) (rq 2) q.s (lk0 1) 0 8020 0 := by
  obtain ⟨h1, h2⟩ := hz.took
  rcases take_q hL oM oM qt_new oM ⟨Nat.le_refl _, by omega⟩ rfl h1 with ⟨hc, _⟩ | ⟨_, h3, h4, h5, h6⟩
  · obtain ⟨_, h, _⟩ := (conf_lst lst_new).1 hc; cases h
  · exact ⟨h3, h4, h5, lst_f oM lst_new (fun _ h => nomatch h) h6, li_other h2 dC (Nat.le_refl _) rfl rfl⟩
theorem bars2 (hL : LI (rq 1) (rq 2) s (lk0 1) 0 8020 0) (hQ : Qt s 1) (hS : Lst (rq 1) (rq 2) s 0 [L00]) (hz : TkI (rq 1) (rq 2) [1] 0 ⟨s, (lk0 1).asked false, 0, 0, vl⟩ 8020 0 q true e) : e = 0 ∧ Qt q.s 2 ∧ q.x = (lk0 1).has false 0 ∧ Lst (rq 1) (rq 2) q.s 0 [L10, L00] ∧ LI (rq 1) (rq 2) q.s (lk0 2) 0 16040 0 := by
  obtain ⟨h1, h2⟩ := hz.took
  rcases take_q hL oM oM hQ oM ⟨Nat.le_refl _, by omega⟩ rfl h1 with ⟨hc, _⟩ | ⟨_, h3, h4, h5, h6⟩
  · obtain ⟨r, h, _, _, h7⟩ := (conf_lst hS).1 hc
    rw [List.mem_singleton] at h; subst h
    rcases h7 with h7 | h7 <;> cases h7
  · refine ⟨h3, h4, h5, lst_f oM hS (fun r h => ?_) h6, li_other h2 dC (Nat.le_refl _) rfl rfl⟩
    rw [List.mem_singleton] at h; subst h
    exact fun e => absurd (lkName_inj oM dC oM dC e).1 dC
theorem bars3 (hL : LI (rq 1) (rq 2) s (lk0 2) 0 16040 0) (hQ : Qt s 2) (hS : Lst (rq 1) (rq 2) s 0 [L10, L00]) (hz : TkI (rq 1) (rq 2) [2] 0 ⟨s, (lk0 2).asked true, 0, 0, vl⟩ 16040 0 q true e) : e = 12 ∧ Qt q.s 2 ∧ q.x = (lk0 2).not true ∧ Lst (rq 1) (rq 2) q.s 1001 [L10, L00] ∧ LI (rq 1) (rq 2) q.s q.x 1001 24060 4 := by
  obtain ⟨h1, h2⟩ := hz.took
  rcases take_q hL oM oM hQ oM ⟨Nat.le_refl _, by omega⟩ rfl h1 with ⟨_, h3, h4, h5⟩ | ⟨hc, _⟩
  · refine ⟨h3, by rw [h4]; exact hQ, h5, by rw [h4]; exact hS.later (d := 1001) hL.ok oM, ⟨h2.at_, h2.ok.later (d := 1001), h2.cl, h2.md, h2.nx, fun q => by rw [h5] at q; cases q⟩⟩
  · exact (hc ((conf_lst hS).2 ⟨L00, by simp, by decide, by decide, .inl rfl⟩)).elim
theorem bars4 {x : Lk} (hL : LI (rq 1) (rq 2) s x 1001 24060 4) (hQ : Qt s 2) (hS : Lst (rq 1) (rq 2) s 1001 [L10, L00]) (hx : x = (lk0 2).not true) (hI0 : p ≤ 32 * c ∧ 32 * c < p + 32) (hz : TkI (rq 1) (rq 2) [2] 1001 ⟨s, x.asked true, c, p, vl⟩ 24060 4 q true e) : e = 0 := by
  obtain ⟨h1, h2⟩ := hz.took
  subst hx
  rcases take_q hL oM oM hQ oM hI0 rfl h1 with ⟨hc, _⟩ | ⟨_, h3, _⟩
  · obtain ⟨r, h, _, h8, _⟩ := (conf_lst hS).1 hc
    simp only [List.mem_cons, List.not_mem_nil, or_false] at h
    rcases h with rfl | rfl <;> exact absurd h8 dC
  · exact h3
end
theorem bars_spec {w : World} (hg : Ro (Fs []) w glob) : Spec Tryz.prog 37 [] w [] (fun _ : Unit => True) (fun _ => .bool true) (fun _ => []) := by
  refine spec_of (n := 55) Tryz.func37 rfl rfl trivial trivial rfl <| s_r <| q_a rfl rfl <| s_n <| s_r <| tk_act rfl <| a_callv [] _ rfl kR rfl (fun w' hw' => found_spec (n := 3) lenP) rfl fun ⟨sb, mb, kb, tw, vo, cs⟩ hz4 => ?_
  dsimp only at hz4 ⊢
  refine tk_own1 (mm 1 rfl) fun hfo => ?_
  obtain ⟨hcl3, hfr⟩ := hz4
  obtain ⟨k0, k1, k2, rfl⟩ := three_of hcl3
  have f0 := hfr 0 sI
  have f1 := hfr 1 sI
  have f2 := hfr 2 sI
  obtain ⟨lb0, tb0, vb0, xx0, tl0, cc0, pp0, vl0⟩ := k0
  obtain ⟨lb1, tb1, vb1, xx1, tl1, cc1, pp1, vl1⟩ := k1
  obtain ⟨lb2, tb2, vb2, xx2, tl2, cc2, pp2, vl2⟩ := k2
  obtain ⟨rfl, rfl, rfl, rfl⟩ := f0
  obtain ⟨rfl, rfl, rfl, rfl⟩ := f1
  obtain ⟨rfl, rfl, rfl, rfl⟩ := f2
  refine tk_R (H1 := [_]) (r' := own vo ([lb0, lb1, lb2].length) ([lb0, lb1, lb2].map PT) 91 1) rfl rfl ?_
  have hli0 : LI (rq 1) (rq 2) (newS 100000) (lk0 0) 0 0 0 := ⟨at_new oM, lkw_new, by decide, Nat.le_refl _, by decide, fun q => by cases q⟩
  refine tk_ps [6] rfl <| tk_teamOut <| tk_H ([cel lb0 ((rq 1).map B ++ ((rq 2).map B ++ ((List.replicate 32 0).map B ++ ([PT tb0, PT sb, PT kb, I (((lk0 0).cl : Nat) : Int), I (((lk0 0).made : Nat) : Int), Str ((lk0 0).own), I (((lk0 0).asks : Nat) : Int), .bool ((lk0 0).want), Str ((lk0 0).next), .bool ((lk0 0).shown), I (((lk0 0).m.c : Nat) : Int), .bool ((lk0 0).m.a), I (((lk0 0).m.t : Nat) : Int)])))) 182, cel tb0 ([vb0, .int .u64 (((0 : Nat) : Nat) : Int), vl0]) 201, ownB vb0 [0] 5, ownB vl0 ((tapeL [0] (0 : Nat)).drop (0 : Nat)) 5, cel lb1 ((rq 1).map B ++ ((rq 2).map B ++ ((List.replicate 32 0).map B ++ ([PT tb1, PT sb, PT kb, I (((lk0 1).cl : Nat) : Int), I (((lk0 1).made : Nat) : Int), Str ((lk0 1).own), I (((lk0 1).asks : Nat) : Int), .bool ((lk0 1).want), Str ((lk0 1).next), .bool ((lk0 1).shown), I (((lk0 1).m.c : Nat) : Int), .bool ((lk0 1).m.a), I (((lk0 1).m.t : Nat) : Int)])))) 182, cel tb1 ([vb1, .int .u64 (((0 : Nat) : Nat) : Int), vl1]) 201, ownB vb1 [1] 5, ownB vl1 ((tapeL [1] (0 : Nat)).drop (0 : Nat)) 5, cel lb2 ((rq 1).map B ++ ((rq 2).map B ++ ((List.replicate 32 0).map B ++ ([PT tb2, PT sb, PT kb, I (((lk0 2).cl : Nat) : Int), I (((lk0 2).made : Nat) : Int), Str ((lk0 2).own), I (((lk0 2).asks : Nat) : Int), .bool ((lk0 2).want), Str ((lk0 2).next), .bool ((lk0 2).shown), I (((lk0 2).m.c : Nat) : Int), .bool ((lk0 2).m.a), I (((lk0 2).m.t : Nat) : Int)])))) 182, cel tb2 ([vb2, .int .u64 (((0 : Nat) : Nat) : Int), vl2]) 201, ownB vb2 [2] 5, ownB vl2 ((tapeL [2] (0 : Nat)).drop (0 : Nat)) 5, cel tw ([PT sb, PT kb, vo]) 97, own vo ([lb0, lb1, lb2].length) ([lb0, lb1, lb2].map PT) 91 1, cel kb ([I 0]) 178, cel sb ([Value.map (some mb), I ((newS 100000).left), .bool ((newS 100000).off), I ((newS 100000).made), I ((newS 100000).room)]) 192, mapS mb (kvO ((newS 100000).obs)), bag (((newS 100000).obs).map (obR 5))]) rfl <| q_m rfl rfl <| s_q rfl (y_extract rfl rfl) <| s_q rfl (y_extract rfl rfl) <| q_a rfl rfl <| q_a rfl rfl <| s_n <| tk_seq <| s_r <| q_m rfl rfl <| s_q rfl (y_not rfl) <| q_m rfl rfl <| s_g rfl (y_move rfl) <| s_g rfl (y_nilCheck rfl) <| s_g rfl (y_fldN (o := 0) 2 rfl kR) <| s_g rfl (y_load rfl rfl (hc (o := 2) (mm 12 rfl) (rfl))) <| s_g rfl (y_ixR (j := 0) rfl rfl hfo.choose_spec lenP kR) <| s_g rfl (y_load rfl rfl (fun w hw => ((fun w hw => own_rdS (hw.mem (mm 13 rfl))) w hw).cell (gM (f := PT) (d := 0) lenP))) <| tk_re 15 (.pointer (some ⟨[lb0, lb1, lb2].getD 0 0, 0, none⟩)) (PT lb0) rfl (rfl) <| tk_gact rfl <| tk_ps [3, 3, 3, 17, 17, 17, 17, 7] rfl <| a_callv [] _ rfl kR rfl (fun w' hw' => ltake_spec (b := false) (s := (newS 100000)) (k := 0) (now := 0) (mb := mb) (c := (0 : Nat)) (p := (0 : Nat)) (j := 0) (tl := [0]) (vb := vb0) (vl := vl0) (x := (lk0 0)) (hk := rq 1) (mk := rq 2) (nk := List.replicate 32 0) (tb := tb0) (sb := sb) (kb := kb) (lb := lb0) ⟨lenP, lenP, lenP⟩ ⟨rfl, rfl⟩ hli0 oM oM oM ⟨by omega, by omega⟩ oM dC (hg.call hw') (St.pre hw')) rfl fun ⟨⟨s16, x16, c16, p16, vl_16⟩, e16⟩ hz16 => ?_
  dsimp only at hz16 ⊢
  obtain ⟨he16, hq16, hx16, hl16, hli1⟩ := bars1 hli0 hz16
  dsimp only at hq16 hx16 hl16 hli1
  refine tk_gqe (.bool false) rfl rfl rfl (y_neq rfl rfl) (bool_f oM) <| s_q rfl (y_pick0 rfl rfl) <| q_m rfl rfl <| s_g rfl (y_move rfl) <| s_g rfl (y_nilCheck rfl) <| s_g rfl (y_fldN (o := 0) 2 rfl kR) <| s_g rfl (y_load rfl rfl (hc (o := 2) (mm 16 rfl) (rfl))) <| s_g rfl (y_ixR (j := 1) rfl rfl hfo.choose_spec lenP kR) <| s_g rfl (y_load rfl rfl (fun w hw => ((fun w hw => own_rdS (hw.mem (mm 17 rfl))) w hw).cell (gM (f := PT) (d := 0) lenP))) <| tk_re 25 (.pointer (some ⟨[lb0, lb1, lb2].getD 1 0, 0, none⟩)) (PT lb1) rfl (rfl) <| tk_gact rfl <| tk_ps [11, 11, 11, 7, 7, 7, 7, 11] rfl <| a_callv [] _ rfl kR rfl (fun w' hw' => ltake_spec (b := false) (s := s16) (k := 8020) (now := 0) (mb := mb) (c := (0 : Nat)) (p := (0 : Nat)) (j := 0) (tl := [1]) (vb := vb1) (vl := vl1) (x := (lk0 1)) (hk := rq 1) (mk := rq 2) (nk := List.replicate 32 0) (tb := tb1) (sb := sb) (kb := kb) (lb := lb1) ⟨lenP, lenP, lenP⟩ ⟨rfl, rfl⟩ hli1 oM oM oM ⟨by omega, by omega⟩ oM dC (hg.call hw') (St.pre hw')) rfl fun ⟨⟨s26, x26, c26, p26, vl_26⟩, e26⟩ hz26 => ?_
  dsimp only at hz26 ⊢
  obtain ⟨he26, hq26, hx26, hl26, hli2⟩ := bars2 hli1 hq16 hl16 hz26
  dsimp only at hq26 hx26 hl26 hli2
  refine tk_gqe (.bool false) rfl rfl rfl (y_neq rfl rfl) (bool_f oM) <| s_q rfl (y_pick0 rfl rfl) <| q_m rfl rfl <| s_g rfl (y_move rfl) <| s_g rfl (y_nilCheck rfl) <| s_g rfl (y_fldN (o := 0) 2 rfl kR) <| s_g rfl (y_load rfl rfl (hc (o := 2) (mm 16 rfl) (rfl))) <| s_g rfl (y_ixR (j := 2) rfl rfl hfo.choose_spec lenP kR) <| s_g rfl (y_load rfl rfl (fun w hw => ((fun w hw => own_rdS (hw.mem (mm 17 rfl))) w hw).cell (gM (f := PT) (d := 0) lenP))) <| tk_re 35 (.pointer (some ⟨[lb0, lb1, lb2].getD 2 0, 0, none⟩)) (PT lb2) rfl (rfl) <| tk_gact rfl <| tk_ps [15, 15, 15, 7, 7, 7, 7, 15] rfl <| a_callv [] _ rfl kR rfl (fun w' hw' => ltake_spec (b := true) (s := s26) (k := 16040) (now := 0) (mb := mb) (c := (0 : Nat)) (p := (0 : Nat)) (j := 0) (tl := [2]) (vb := vb2) (vl := vl2) (x := (lk0 2)) (hk := rq 1) (mk := rq 2) (nk := List.replicate 32 0) (tb := tb2) (sb := sb) (kb := kb) (lb := lb2) ⟨lenP, lenP, lenP⟩ ⟨rfl, rfl⟩ hli2 oM oM oM ⟨by omega, by omega⟩ oM dC (hg.call hw') (St.pre hw')) rfl fun ⟨⟨s36, x36, c36, p36, vl_36⟩, e36⟩ hz36 => ?_
  dsimp only at hz36 ⊢
  obtain ⟨he36, hq36, hx36, hl36, hli3⟩ := bars3 hli2 hq26 hl26 hz36
  dsimp only at hq36 hx36 hl36 hli3
  have hp36 : p36 ≤ 0 + 64 := hz36.tape.1
  refine tk_gqe (.bool false) rfl rfl rfl (y_neq rfl rfl) (bool_f oM) <| s_q rfl (y_pick0 rfl rfl) <| q_m rfl rfl <| s_g rfl (y_move rfl) <| s_g rfl (y_nilCheck rfl) <| s_g rfl (y_fldN (o := 0) 1 rfl kR) <| s_g rfl (y_load rfl rfl (hc (o := 1) (mm 16 rfl) (rfl))) <| tk_gact rfl <| tk_ps [1] rfl <| a_callv [] _ rfl kR rfl (fun w' hw' => tick_spec (now := 0) (n := 1001) (kb := kb) lenP (St.pre hw')) rfl fun _ _ => s_g rfl ((y_neq rfl rfl).cast (bool_f dC)) <| s_q rfl (y_pick0 rfl rfl) <| s_n <| tk_cond0 rfl <| tk_skip <| tk_then <| s_r <| q_m rfl rfl <| s_q rfl (y_nilCheck rfl) <| s_q rfl (y_fldN (o := 0) 2 rfl kR) <| s_q rfl (y_load rfl rfl (hc (o := 2) (mm 16 rfl) (rfl))) <| s_q rfl (y_ixR (j := 2) rfl rfl hfo.choose_spec lenP kR) <| s_q rfl (y_load rfl rfl (fun w hw => ((fun w hw => own_rdS (hw.mem (mm 17 rfl))) w hw).cell (gM (f := PT) (d := 0) lenP))) <| tk_re 52 (.pointer (some ⟨[lb0, lb1, lb2].getD 2 0, 0, none⟩)) (PT lb2) rfl (rfl) ?_; refine tk_act rfl <| tk_ps [7, 7, 7, 7, 7, 7, 6, 7] rfl <| a_callv [] _ rfl kR rfl (fun w' hw' => ltake_spec (b := true) (s := s36) (k := 24060) (now := 1001) (mb := mb) (c := c36) (p := p36) (j := 4) (tl := [2]) (vb := vb2) (vl := vl_36) (x := x36) (hk := rq 1) (mk := rq 2) (nk := List.replicate 32 0) (tb := tb2) (sb := sb) (kb := kb) (lb := lb2) ⟨lenP, lenP, lenP⟩ ⟨by rw [hx36]; rfl, by rw [hx36]; rfl⟩ hli3 oM oM oM ⟨hz36.tape.2.1, hz36.tape.2.2⟩ oM dC (hg.call hw') (St.pre hw')) rfl fun ⟨⟨s53, x53, c53, p53, vl_53⟩, e53⟩ hz53 => ?_
  dsimp only at hz53 ⊢
  have he53 := bars4 hli3 hq36 hl36 hx36 ⟨hz36.tape.2.1, hz36.tape.2.2⟩ hz53
  exact tk_qe (.bool true) rfl rfl rfl (y_eql rfl rfl) (bool_t oM) <| q_a rfl rfl <| s_n <| tk_retc <| tk_ret (()) (trivial) (.inl rfl) (r1 rfl rfl) (List.nil_sublist _)
end Go.Proofs.YtkkjfojgjmglpaaGreatDoor
set_option linter.unusedSimpArgs false
set_option linter.unusedVariables false
namespace Go.Proofs.YtkkjfojgjmglpaaGreatDoor
open Go
attribute [local irreducible] sealL tapeN tapeL lkName dfName preB
variable {hk mk tl : List UInt8} {s t : Sh} {x : Lk} {now c p N : Nat} {k : Int} {vl : Value} {L : List (List UInt8 × Mk)}
structure Wd (hk mk : List UInt8) (s : Sh) (now : Nat) (k : Int) (N : Nat) (L : List (List UInt8 × Mk)) : Prop where
  at_ : ShAt s k
  ok : LkW hk mk s now
  qt : Qt s N
  lst : Lst hk mk s now L
/-- a hand that asks for nothing -/
structure Rest (x : Lk) : Prop where
  cl : x.cl < 100
  asks : x.asks = 0
  next : x.next = []
  shown : x.shown = false
theorem Wd.mono {k' : Int} {N' : Nat} (h : Wd hk mk s now k N L) (hk' : k ≤ k') (hN : N ≤ N') : Wd hk mk s now k' N' L := ⟨h.at_.mono hk', h.ok, h.qt.mono hN, h.lst⟩
theorem Wd.li {j : Nat} (h : Wd hk mk s now k N L) (r : Rest x) (hm : x.made ≤ j) : LI hk mk s x now k j := ⟨h.at_, h.ok, r.cl, hm, by rw [r.next]; exact Nat.zero_lt_succ _, fun q => by rw [r.asks] at q; cases q⟩
theorem Wd.later {d : Nat} (h : Wd hk mk s now k N L) (hd : now + d ≤ 1099511627776) : Wd hk mk s (now + d) k N L := ⟨h.at_, h.ok.later, h.qt, h.lst.later h.ok hd⟩
theorem wd_no {j e : Nat} {b : Bool} {q : St5} (h : Wd hk mk s now k N L) (r : Rest x) (hm : x.made ≤ j) (hj : j < 90) (hnow : now ≤ 1099511627776) (hN : N < 400) (hI0 : p ≤ 32 * c ∧ 32 * c < p + 32) (hc : ∃ q ∈ L, ¬ q.2.c = x.cl ∧ holdsP now q.2 ∧ (b = true ∨ q.2.a = true))
    (hz : TkI hk mk tl now ⟨s, x.asked b, c, p, vl⟩ k j q true e) : e = 12 ∧ q.s = s ∧ q.x = x.not b := by
  obtain ⟨h1, _⟩ := hz.took
  rcases take_q (h.li r hm) hj hnow h.qt hN hI0 r.shown h1 with ⟨_, h2, h3, h4⟩ | ⟨h2, _⟩
  · exact ⟨h2, h3, h4⟩
  · exact (h2 ((conf_lst h.lst).2 hc)).elim
theorem wd_t {j e : Nat} {q : St5} (h : Wd hk mk s now k N L) (r : Rest x) (hm : x.made ≤ j) (hj : j < 90) (hnow : now ≤ 1099511627776) (hN : N < 400) (hI0 : p ≤ 32 * c ∧ 32 * c < p + 32) (hc : ¬ ∃ q ∈ L, ¬ q.2.c = x.cl ∧ holdsP now q.2 ∧ (true = true ∨ q.2.a = true)) (hn : ∀ q ∈ L, q.1 ≠ lkName x.cl x.made → ¬ q.2.c = x.cl)
    (hz : TkI hk mk tl now ⟨s, x.asked true, c, p, vl⟩ k j q true e) : e = 0 ∧ q.x = x.has true now ∧ Wd hk mk q.s now (k + 8020) (N + 1) [(lkName x.cl x.made, ⟨x.cl, true, now⟩)] := by
  obtain ⟨h1, h9⟩ := hz.took
  rcases take_q (h.li r hm) hj hnow h.qt hN hI0 r.shown h1 with ⟨h2, _⟩ | ⟨_, h2, h3, h4, h5⟩
  · exact (hc ((conf_lst h.lst).1 h2)).elim
  · exact ⟨h2, h4, ⟨h9.at_, h9.ok, h3, lst_t hnow h.lst hn h5⟩⟩
theorem HasL.has {n : List UInt8} {m : Mk} (h : HasL hk mk s now n m) : hasO s.obs n := by obtain ⟨_, _, b, h, _⟩ := h; exact (vw_some.1 h).1
theorem wd_del {n : List UInt8} (h : Wd hk mk s now k N L) (hn : ∃ m, (n, m) ∈ L) : (s.del n).2 = 0 ∧ Wd hk mk (s.del n).1 now (k + 1) N (L.filter (fun q => !decide (q.1 = n))) := by
  obtain ⟨m, hm⟩ := hn
  obtain ⟨_, h1, h2⟩ := del_q (a := n) h.qt
  have h1 := h1 ((h.lst n m).2 hm).has
  refine ⟨h1, ⟨at_del h.at_, h.ok.sub (fun _ _ => sub_del), h2, fun a b => ?_⟩⟩
  have hv : vw (s.del n).1 a = if a = n then none else vw s a := by rw [vw_del]; simp [h1]
  rw [List.mem_filter]
  constructor
  · intro q
    have hne : a ≠ n := fun e => by obtain ⟨_, _, bb, q, _⟩ := q; rw [hv, if_pos e] at q; cases q
    rw [if_neg hne] at hv
    exact ⟨(h.lst a b).1 (q.vw hv.symm), by simpa using hne⟩
  · rintro ⟨q1, q2⟩
    have hne : a ≠ n := by simpa using q2
    rw [if_neg hne] at hv
    exact ((h.lst a b).2 q1).vw hv
end Go.Proofs.YtkkjfojgjmglpaaGreatDoor
set_option linter.unusedSimpArgs false
set_option linter.unusedVariables false
namespace Go.Proofs.YtkkjfojgjmglpaaGreatDoor
open Go Go.RowKit
set_option maxRecDepth 100000
set_option maxHeartbeats 1000000
attribute [local irreducible] sumL keyedL hexL strL sealF sealL tapeL tapeN lkName dfName preB
def modU (z : Int) : Nat := (z % 18446744073709551616).toNat
section
variable {L : Sl} {P : Program} {n : Nat} {S : World → Prop} {dst : Option Tmp} {rty : TypeId} {pos : String} {af : Array Edge} {gd : Option (Nat × Bool)} {t t' : TypeId} {x : Operand}
theorem y_convU {k' : IntKind} {z : Int} (hx : ev L x = some (.int k' z)) (hs : (P.underlying t).isSome = true) (hd : P.underlying t' = some (.int .u64)) : Y P n S L ⟨dst, .convert t t' x, rty, pos, af, gd⟩ (.int .u64 ((modU z : Nat) : Int)) :=
  (y_conv hx hs hd).cast (by rw [IntKind.wrap_u64, modU, Int.toNat_of_nonneg (Int.emod_nonneg _ dC)])
end
/-- a hand, its tape -/
structure Ht where
  x : Lk
  c : Nat
  p : Nat
  vl : Value
theorem lkName_ne {c n : Nat} : lkName c n ≠ [] := fun h => by
  have := congrArg List.length h
  unfold lkName at this
  simp at this
theorem rn_filt {n o : List UInt8} {m : Mk} (h : o = n) : ([(n, m)]).filter (fun q => !decide (q.1 = o)) = [] := by subst h; simp
end Go.Proofs.YtkkjfojgjmglpaaGreatDoor
set_option linter.unusedSimpArgs false
set_option linter.unusedVariables false
namespace Go.Proofs.YtkkjfojgjmglpaaGreatDoor
open Go
def cutOb (o : Ob) (j : Nat) : Ob := ⟨o.name, cutR o.v 0 j, o.b.take j, true⟩
def cutO (l : List Ob) (k : List UInt8) (j : Nat) : List Ob := l.map (fun o => if o.name = k then cutOb o j else o)
/-- what is picked for an object of so many bytes -/
def pkN (p : List Int) (n : Nat) : Nat := modU (p.getD 0 0) % (n + 2)
def crQ (q : Sh × List Int) (n : List UInt8) : Sh × List Int :=
  if (lkO q.1.obs n).sure = true then q else
  (q.1.obsTo (if pkN q.2 (lkO q.1.obs n).b.length = 0 then delO q.1.obs n else cutO q.1.obs n (pkN q.2 (lkO q.1.obs n).b.length - 1)), q.2.tail)
def Sh.calmed (t : Sh) : Sh := { t with off := false, left := -1 }
def nmS (s : Sh) : List (List UInt8) := sortN (s.obs.map Ob.name)
def Sh.crash (s : Sh) (p : List Int) : Sh := ((nmS s).foldl crQ (s, p)).1.calmed
theorem pkN_lt {p : List Int} {n : Nat} : pkN p n < n + 2 := Nat.mod_lt _ (by omega)
theorem crQ_sure {q : Sh × List Int} {n : List UInt8} (h : (lkO q.1.obs n).sure = true) : crQ q n = q := by rw [crQ, if_pos h]
theorem crQ_del {t : Sh} {p : List Int} {n : List UInt8} (h : ¬ (lkO t.obs n).sure = true) (h0 : pkN p (lkO t.obs n).b.length = 0) : crQ (t, p) n = (t.obsTo (delO t.obs n), p.tail) := by rw [crQ, if_neg h, if_pos h0]
theorem crQ_cut {t : Sh} {p : List Int} {n : List UInt8} (h : ¬ (lkO t.obs n).sure = true) (h0 : ¬ pkN p (lkO t.obs n).b.length = 0) : crQ (t, p) n = (t.obsTo (cutO t.obs n (pkN p (lkO t.obs n).b.length - 1)), p.tail) := by rw [crQ, if_neg h, if_neg h0]
theorem cut_names {l : List Ob} {k : List UInt8} {j : Nat} : (cutO l k j).map Ob.name = l.map Ob.name := by
  unfold cutO
  rw [List.map_map]
  refine List.map_congr_left (fun o _ => ?_)
  simp only [Function.comp]
  split <;> rfl
theorem sumO_cut {l : List Ob} {k : List UInt8} {j : Nat} : sumO (cutO l k j) ≤ sumO l := by
  unfold sumO cutO
  induction l with
  | nil => simp
  | cons o l ih =>
    simp only [List.map_cons, List.sum_cons] at ih ⊢
    have : (if o.name = k then cutOb o j else o).b.length ≤ o.b.length := by
      split
      · show (o.b.take j).length ≤ _; rw [List.length_take]; omega
      · exact Nat.le_refl _
    omega
theorem kvO_cut {l : List Ob} {k : List UInt8} {j : Nat} (hn : (l.map Ob.name).Nodup) (h : hasO l k) : setS (kvO l) k (.agg [cutR (lkO l k).v 0 j, .bool true].toArray) = kvO (cutO l k j) := by
  rw [setS, kvO_some, decide_eq_true h, if_pos rfl]
  unfold putS kvO cutO
  rw [List.map_map, List.map_map]
  refine List.map_congr_left (fun o ho => ?_)
  simp only [Function.comp]
  by_cases e : o.name = k
  · rw [if_pos e, if_pos e]
    have : lkO l k = o := one_name hn (lkO_name h).2 ho ((lkO_name h).1.trans e.symm)
    rw [this, ← e]; rfl
  · rw [if_neg e, if_neg e]
/-- one store beside another behind a crash -/
structure CrR (a b : Sh) : Prop where
  nodup : (b.obs.map Ob.name).Nodup
  sum : sumO b.obs ≤ sumO a.obs
  len : b.obs.length ≤ a.obs.length
  mem : ∀ o ∈ b.obs, ∃ u ∈ a.obs, o.name = u.name ∧ o.b.length ≤ u.b.length ∧ (u.sure = true → o = u)
  sure : ∀ o ∈ a.obs, o.sure = true → o ∈ b.obs
  same : b.left = a.left ∧ b.off = a.off ∧ b.made = a.made ∧ b.room = a.room
theorem CrR.refl {a : Sh} (h : (a.obs.map Ob.name).Nodup) : CrR a a := ⟨h, Nat.le_refl _, Nat.le_refl _, fun o ho => ⟨o, ho, rfl, Nat.le_refl _, fun _ => rfl⟩, fun _ ho _ => ho, rfl, rfl, rfl, rfl⟩
theorem CrR.trans {a b c : Sh} (h : CrR a b) (g : CrR b c) : CrR a c :=
  ⟨g.nodup, Nat.le_trans g.sum h.sum, Nat.le_trans g.len h.len, fun o ho => by
    obtain ⟨u, hu, h1, h2, h3⟩ := g.mem o ho
    obtain ⟨v, hv, h4, h5, h6⟩ := h.mem u hu
    refine ⟨v, hv, h1.trans h4, Nat.le_trans h2 h5, fun q => ?_⟩
    have e := h6 q
    rw [← e] at q
    rw [h3 q, e], fun o ho hs => g.sure o (h.sure o ho hs) hs, g.same.1.trans h.same.1, g.same.2.1.trans h.same.2.1, g.same.2.2.1.trans h.same.2.2.1, g.same.2.2.2.trans h.same.2.2.2⟩
theorem crR_step {t : Sh} {p : List Int} {n : List UInt8} (hn : (t.obs.map Ob.name).Nodup) (hh : hasO t.obs n) : CrR t (crQ (t, p) n).1 := by
  by_cases h : (lkO t.obs n).sure = true
  · rw [crQ_sure h]; exact .refl hn
  have hne : ∀ o ∈ t.obs, o.sure = true → o.name ≠ n := fun o ho hs e => by
    have : lkO t.obs n = o := one_name hn (lkO_name hh).2 ho ((lkO_name hh).1.trans e.symm)
    rw [this] at h; exact h hs
  by_cases h0 : pkN p (lkO t.obs n).b.length = 0
  · rw [crQ_del h h0]
    exact ⟨del_nodup hn, sumO_del, List.length_filter_le _ _, fun o ho => ⟨o, (List.mem_filter.1 ho).1, rfl, Nat.le_refl _, fun _ => rfl⟩, fun o ho hs => List.mem_filter.2 ⟨ho, by simpa using hne o ho hs⟩, rfl, rfl, rfl, rfl⟩
  · rw [crQ_cut h h0]
    refine ⟨by show ((cutO _ _ _).map Ob.name).Nodup; rw [cut_names]; exact hn, sumO_cut, by show (cutO _ _ _).length ≤ _; unfold cutO; rw [List.length_map]; exact Nat.le_refl _, fun o ho => ?_, fun o ho hs => ?_, rfl, rfl, rfl, rfl⟩
    · obtain ⟨u, hu, e⟩ := List.mem_map.1 (show o ∈ t.obs.map _ from ho)
      refine ⟨u, hu, ?_, ?_, ?_⟩
      · rw [← e]; split <;> rfl
      · rw [← e]; split
        · show (u.b.take _).length ≤ _; rw [List.length_take]; omega
        · exact Nat.le_refl _
      · intro q
        rw [← e, if_neg (hne u hu q)]
    · exact List.mem_map.2 ⟨o, ho, by rw [if_neg (hne o ho hs)]⟩
theorem CrR.has {a b : Sh} (h : CrR a b) {n : List UInt8} (hb : hasO b.obs n) : hasO a.obs n := by
  obtain ⟨o, ho, e⟩ := List.mem_map.1 hb
  obtain ⟨u, hu, h1, _⟩ := h.mem o ho
  exact List.mem_map.2 ⟨u, hu, h1.symm.trans e⟩
/-- others' names stay -/
theorem crQ_has {t : Sh} {p : List Int} {n m : List UInt8} (hm : m ≠ n) (h : hasO t.obs m) : hasO (crQ (t, p) n).1.obs m := by
  by_cases hs : (lkO t.obs n).sure = true
  · rw [crQ_sure hs]; exact h
  by_cases h0 : pkN p (lkO t.obs n).b.length = 0
  · rw [crQ_del hs h0]; exact del_has.2 ⟨h, hm⟩
  · rw [crQ_cut hs h0]; show hasO (cutO _ _ _) m; unfold hasO; rw [cut_names]; exact h
structure CrI (s : Sh) (p0 : List Int) (i : Nat) (t : Sh) (p : List Int) : Prop where
  run : ((nmS s).take i).foldl crQ (s, p0) = (t, p)
  rel : CrR s t
  has : ∀ j, i ≤ j → j < (nmS s).length → hasO t.obs ((nmS s).getD j [])
  len : p.length ≤ p0.length
  i5 : i ≤ (nmS s).length
theorem nmS_len {s : Sh} : (nmS s).length = s.obs.length := by unfold nmS sortN; rw [List.length_mergeSort, List.length_map]
theorem crI_0 {s : Sh} {p0 : List Int} (h : (s.obs.map Ob.name).Nodup) : CrI s p0 0 s p0 := ⟨rfl, .refl h, fun j _ hj => by
  have : (nmS s).getD j [] ∈ nmS s := by rw [List.getD_eq_getElem?_getD, List.getElem?_eq_getElem hj]; exact List.getElem_mem hj
  unfold nmS sortN at this ⊢
  exact List.mem_mergeSort.1 this, Nat.le_refl _, Nat.zero_le _⟩
theorem crI_next {s t : Sh} {p0 p : List Int} {i : Nat} (h : CrI s p0 i t p) (hs : (s.obs.map Ob.name).Nodup) (hi : i < (nmS s).length) : CrI s p0 (i + 1) (crQ (t, p) ((nmS s).getD i [])).1 (crQ (t, p) ((nmS s).getD i [])).2 := by
  have hg : (nmS s).getD i [] = (nmS s)[i] := by rw [List.getD_eq_getElem?_getD, List.getElem?_eq_getElem hi]; rfl
  refine ⟨?_, h.rel.trans (crR_step h.rel.nodup (h.has i (Nat.le_refl _) hi)), fun j h1 h2 => ?_, ?_, by omega⟩
  · rw [List.take_add_one, List.getElem?_eq_getElem hi, List.foldl_append, h.run, hg]; rfl
  · refine crQ_has (fun e => ?_) (h.has j (by omega) h2)
    have hnd : (nmS s).Nodup := by unfold nmS sortN; exact (List.mergeSort_perm _ _).nodup_iff.2 hs
    rw [hg, List.getD_eq_getElem?_getD, List.getElem?_eq_getElem h2] at e
    have := (List.nodup_iff_pairwise_ne.1 hnd)
    have h3 := List.pairwise_iff_getElem.1 this i j hi h2 (by omega)
    exact h3 e.symm
  · have := h.len
    unfold crQ
    split
    · exact this
    · show p.tail.length ≤ _; rw [List.length_tail]; omega
theorem crI_sure {s t : Sh} {p0 p : List Int} {i : Nat} (h : CrI s p0 i t p) (hs : (s.obs.map Ob.name).Nodup) (hi : i < (nmS s).length) (q : (lkO t.obs ((nmS s).getD i [])).sure = true) : CrI s p0 (i + 1) t p := by
  have := crI_next h hs hi; rwa [crQ_sure q] at this
theorem crI_del {s t : Sh} {p0 p : List Int} {i : Nat} (h : CrI s p0 i t p) (hs : (s.obs.map Ob.name).Nodup) (hi : i < (nmS s).length) (q : ¬ (lkO t.obs ((nmS s).getD i [])).sure = true) (q0 : pkN p (lkO t.obs ((nmS s).getD i [])).b.length = 0) : CrI s p0 (i + 1) (t.obsTo (delO t.obs ((nmS s).getD i []))) p.tail := by
  have := crI_next h hs hi; rwa [crQ_del q q0] at this
theorem crI_cut {s t : Sh} {p0 p : List Int} {i : Nat} (h : CrI s p0 i t p) (hs : (s.obs.map Ob.name).Nodup) (hi : i < (nmS s).length) (q : ¬ (lkO t.obs ((nmS s).getD i [])).sure = true) (q0 : ¬ pkN p (lkO t.obs ((nmS s).getD i [])).b.length = 0) : CrI s p0 (i + 1) (t.obsTo (cutO t.obs ((nmS s).getD i []) (pkN p (lkO t.obs ((nmS s).getD i [])).b.length - 1))) p.tail := by
  have := crI_next h hs hi; rwa [crQ_cut q q0] at this
theorem crI_end {s t : Sh} {p0 p : List Int} (h : CrI s p0 (nmS s).length t p) : s.crash p0 = t.calmed := by
  have := h.run
  rw [List.take_length] at this
  unfold Sh.crash; rw [this]
theorem CrR.ok {s t : Sh} (h : CrR s t) (hs : ShOk s) : ShOk t :=
  ⟨h.nodup, by rw [h.same.1]; exact hs.left, by rw [h.same.2.2.1]; exact hs.made, by rw [h.same.2.2.2]; exact hs.room, by have := hs.sum; have := h.sum; omega, by have := hs.len; have := h.len; omega, fun o ho => by
    obtain ⟨u, hu, e, _⟩ := h.mem o ho
    rw [e]; exact hs.names u hu, fun o ho => by
    obtain ⟨u, hu, _, e, _⟩ := h.mem o ho
    have := hs.bytes u hu; omega⟩
theorem crash_rel {s : Sh} {p : List Int} (h : (s.obs.map Ob.name).Nodup) : ∃ t, CrR s t ∧ s.crash p = t.calmed := by
  have key : ∀ i, i ≤ (nmS s).length → ∃ t q, CrI s p i t q := fun i => by
    induction i with
    | zero => exact fun _ => ⟨s, p, crI_0 h⟩
    | succ i ih =>
      intro hi
      obtain ⟨t, q, h1⟩ := ih (by omega)
      exact ⟨_, _, crI_next h1 h (by omega)⟩
  obtain ⟨t, q, h1⟩ := key _ (Nat.le_refl _)
  exact ⟨t, h1.rel, crI_end h1⟩
theorem crash_at {s : Sh} {p : List Int} {k : Int} (h : ShAt s k) : ShAt (s.crash p) k := by
  obtain ⟨t, h1, h2⟩ := crash_rel (p := p) h.nodup
  rw [h2]
  exact ⟨h1.nodup, ⟨by show -1 ≤ (-1 : Int); omega, by show (-1 : Int) < _; omega⟩, by show 0 ≤ t.made ∧ t.made ≤ k; rw [h1.same.2.2.1]; exact h.made, by show 0 ≤ t.room ∧ t.room ≤ 1073741824; rw [h1.same.2.2.2]; exact h.room, by show ((sumO t.obs : Nat) : Int) ≤ t.room; rw [h1.same.2.2.2]; have := h.sum; have := h1.sum; omega, by show t.obs.length ≤ 2000; have := h.len; have := h1.len; omega, fun o ho => by
    obtain ⟨u, hu, e, _⟩ := h1.mem o ho
    rw [e]; exact h.names u hu, fun o ho => by
    obtain ⟨u, hu, _, e, _⟩ := h1.mem o ho
    have := h.bytes u hu; omega⟩
/-- an owned row's beginning, as a part of it -/
theorem own_take {v : Value} {b : List UInt8} {T : TypeId} {w : World} {j : Nat} (h : (ownB v b T).holds w) (hj : j ≤ b.length) : (ownB (cutR v 0 j) (b.take j) T).holds w ∧ ∀ k, (cutR v 0 j).ownBlock = some k → v.ownBlock = some k := by
  have hl : (b.take j).length = j := by rw [List.length_take]; omega
  obtain ⟨h1, h2⟩ := h
  rcases h2 with ⟨rfl, h0⟩ | ⟨g, o, cap, cur, fr, T', rfl, hg, hf, hc, hm, hs, ht⟩
  · have : j = 0 := by omega
    subst this
    exact ⟨⟨by simp, .inl ⟨by simp [cutR, cutAd], by simp⟩⟩, fun k hk => by simp [cutR, cutAd, Value.ownBlock] at hk⟩
  · have e : cutR (.slice (some ⟨g, o, none⟩) b.length cap) 0 j = .slice (some ⟨g, o, none⟩) j cap := cutR_0
    rw [e]
    refine ⟨⟨by simp, .inr ⟨g, o, cap, cur, fr, T', by rw [hl], hg, hf, by omega, hm, hs, ?_⟩⟩, fun k hk => hk⟩
    rw [List.map_take, ← ht, List.take_take, hl]
    congr 1; omega
theorem own_block {v : Value} {j k : Nat} (h : (cutR v 0 j).ownBlock = some k) : v.ownBlock = some k := by
  cases v with
  | slice ad n cap =>
    cases ad with
    | none => simp [cutR, cutAd, Value.ownBlock] at h
    | some a =>
      by_cases e : cap = 0
      · simpa [cutR, cutAd, e, Value.ownBlock] using h
      · simpa [cutR, cutAd, e, Value.ownBlock, Addr.add] using h
  | _ => exact h
theorem bagW_cut {T : TypeId} {n : List UInt8} {j : Nat} : ∀ {l : List Ob}, (∀ o ∈ l, o.name = n → j ≤ o.b.length) → (∀ w, Hs w (l.map (obR T)) → Hs w ((cutO l n j).map (obR T))) ∧ ∀ k, Fs ((cutO l n j).map (obR T)) k → Fs (l.map (obR T)) k
  | [], _ => ⟨fun _ h => h, fun _ h => h⟩
  | o :: l, h => by
    obtain ⟨h1, h2⟩ := bagW_cut (T := T) (n := n) (j := j) (l := l) (fun u hu => h u (List.mem_cons_of_mem _ hu))
    by_cases e : o.name = n
    · have e2 : cutO (o :: l) n j = cutOb o j :: cutO l n j := by unfold cutO; rw [List.map_cons, if_pos e]
      rw [e2]
      have ho := h o (List.mem_cons_self ..) e
      refine ⟨fun w hw => ⟨(own_take (T := T) hw.1 ho).1, h1 w hw.2⟩, fun k hk => ?_⟩
      rcases hk with hk | hk
      · refine .inl ?_
        have hk' : (cutR o.v 0 j).ownBlock = some k := hk
        exact own_block hk'
      · exact .inr (h2 k hk)
    · have e2 : cutO (o :: l) n j = o :: cutO l n j := by unfold cutO; rw [List.map_cons, if_neg e]
      rw [e2]
      exact ⟨fun w hw => ⟨hw.1, h1 w hw.2⟩, fun k hk => hk.imp id (h2 k)⟩
end Go.Proofs.YtkkjfojgjmglpaaGreatDoor
set_option linter.unusedSimpArgs false
set_option linter.unusedVariables false
namespace Go.Proofs.YtkkjfojgjmglpaaGreatDoor
open Go Go.RowKit
set_option maxRecDepth 100000
def Sh.armed (s : Sh) (n : Nat) : Sh := { s with left := (n : Int) }
theorem arm_spec {s : Sh} {sb mb n : Nat} {w : World} (hok : ShOk s) (hn : n < 1000000) (hh : Pre w [cel sb ([Value.map (some mb), I (s.left), .bool s.off, I (s.made), I (s.room)]) 192, mapS mb (kvO s.obs), bag (s.obs.map (obR 5))]) : Spec Tryz.prog 47 [PT sb, IN n] w [cel sb ([Value.map (some mb), I (s.left), .bool s.off, I (s.made), I (s.room)]) 192, mapS mb (kvO s.obs), bag (s.obs.map (obR 5))] (fun _ : Unit => True) (fun _ => .tuple #[]) (fun _ => [cel sb ([Value.map (some mb), I ((s.armed n).left), .bool ((s.armed n).off), I ((s.armed n).made), I ((s.armed n).room)]) 192, mapS mb (kvO ((s.armed n).obs)), bag (((s.armed n).obs).map (obR 5))]) := by
  exact spec_of (n := 12) Tryz.func47 rfl rfl hh.1 hh.2 rfl <| s_r <| q_m rfl rfl <| s_q rfl (y_pnnil rfl rfl rfl) <| s_n <| tk_cond1 rfl <| tk_region <| q_m rfl rfl <| q_m rfl rfl <| s_q rfl (y_maxN (a := n) (b := 0) rfl rfl) <| s_q rfl (y_nilCheck rfl) <| s_q rfl (y_fldN (o := 0) 1 rfl kR) <| s_q rfl (y_fld0 (o := 1) rfl kR) <| tk_act rfl <| a_storeE (H1 := []) (o := 1) (v := IN (max n 0)) (cs' := [Value.map (some mb), IN (max n 0), .bool s.off, I (s.made), I (s.room)]) rfl rfl kR rfl rfl sW (rfl) <| tk_nil <| tk_R (H1 := []) rfl (congrArg (fun z_ => cel sb z_ 192) (show [Value.map (some mb), IN (max n 0), .bool s.off, I (s.made), I (s.room)] = [Value.map (some mb), I ((s.armed n).left), .bool ((s.armed n).off), I ((s.armed n).made), I ((s.armed n).room)] from by rw [Nat.max_eq_left (Nat.zero_le n)]; rfl)) <| tk_ret (()) (trivial) (.inr rfl) (r0 rfl) (List.Sublist.refl _)
theorem ro_tail {E : Nat → Prop} {w : World} {v : Value} {p : List Int} (h : Ro E w (rd v (p.map I))) (hp : 1 ≤ p.length) : Ro E w (rd (cutR v 1 p.length) (p.tail.map I)) := by
  have h1 := RdS.cut h.1 (lo := 1) (hi := p.length) (by rw [List.length_map]; omega)
  rw [← List.map_drop, ← List.map_take, List.take_of_length_le (by rw [List.length_drop]; omega), List.drop_one] at h1
  exact ⟨h1, fun k hk => h.2 k ⟨fun e => hk.1 (by
    cases p with
    | nil => simp at hp
    | cons a l => simp at e), by rw [← hk.2, adOf_cut]⟩⟩
theorem ro_nil2 {E : Nat → Prop} {w : World} {v : Value} {p : List Int} (h0 : p = []) (h : Ro E w (rd v (p.map I))) : Ro E w (rd v (p.tail.map I)) := by subst h0; exact h
theorem cut_le {l : List Ob} {n : List UInt8} {p : List Int} {o : Ob} (hn : (l.map Ob.name).Nodup) (hh : hasO l n) (ho : o ∈ l) (e : o.name = n) : pkN p (lkO l n).b.length - 1 ≤ o.b.length := by
  have h1 : lkO l n = o := one_name hn (lkO_name hh).2 ho ((lkO_name hh).1.trans e.symm)
  have := pkN_lt (p := p) (n := (lkO l n).b.length)
  rw [h1] at this ⊢; omega
theorem crash_spec {s : Sh} {sb mb : Nat} {pv0 : Value} {p0 : List Int} {w : World} (hok : ShOk s) (hpl : p0.length < 9223372036854775808) (hp : Ro (Fs [cel sb ([Value.map (some mb), I (s.left), .bool s.off, I (s.made), I (s.room)]) 192, mapS mb (kvO s.obs), bag (s.obs.map (obR 5))]) w (rd pv0 (p0.map I))) (hh : Pre w [cel sb ([Value.map (some mb), I (s.left), .bool s.off, I (s.made), I (s.room)]) 192, mapS mb (kvO s.obs), bag (s.obs.map (obR 5))]) : Spec Tryz.prog 48 [PT sb, pv0] w [cel sb ([Value.map (some mb), I (s.left), .bool s.off, I (s.made), I (s.room)]) 192, mapS mb (kvO s.obs), bag (s.obs.map (obR 5))] (fun _ : Unit => True) (fun _ => .tuple #[]) (fun _ => [cel sb ([Value.map (some mb), I ((s.crash p0).left), .bool ((s.crash p0).off), I ((s.crash p0).made), I ((s.crash p0).room)]) 192, mapS mb (kvO ((s.crash p0).obs)), bag (((s.crash p0).obs).map (obR 5))]) := by
  refine spec_of (n := 73) Tryz.func48 rfl rfl hh.1 hh.2 rfl <| tk_seq <| s_r <| q_m rfl rfl <| s_q rfl (y_pnil rfl rfl rfl) <| s_n <| tk_cond0 rfl <| tk_skip <| tk_then <| tk_seq <| s_r <| q_m rfl rfl <| s_q rfl (y_nilCheck rfl) <| s_q rfl (y_fld0 (o := 0) rfl kR) <| tk_act rfl <| a_callv [] _ rfl kR rfl (fun w' hw' => names_spec (s := s) (sb := sb) (mb := mb) hok (St.pre hw')) rfl fun v13 _ => tk_own1 (.head _) fun hfv13 => s_q rfl (y_lenRN (n' := (sortN (s.obs.map Ob.name)).length) rfl hfv13.choose_spec rfl (by first | rfl | (rw [List.length_map]; omega) | simp)) <| q_m rfl rfl <| s_n <| tk_block <| tk_loop (X := Nat × Sh × List Int × Value) (fun (i, t, p, pv) => CrI s p0 i t p ∧ Ro (Fs [cel sb ([Value.map (some mb), I (s.left), .bool s.off, I (s.made), I (s.room)]) 192, mapS mb (kvO s.obs), bag (s.obs.map (obR 5))]) w (rd pv (p.map I))) (fun (i, t, p, pv) => [(0, PT sb), (1, pv), (13, v13), (14, I (((sortN (s.obs.map Ob.name)).length : Nat) : Int)), (15, IN i)]) (fun (i, t, p, pv) => [own v13 ((sortN (s.obs.map Ob.name)).length) ((sortN (s.obs.map Ob.name)).map Str) 9 1, cel sb ([Value.map (some mb), I (t.left), .bool t.off, I (t.made), I (t.room)]) 192, mapS mb (kvO t.obs), bag (t.obs.map (obR 5))]) (fun (i, t, p, pv) => s.obs.length - i) ((0, s, p0, pv0)) (⟨crI_0 hok.nodup, hp⟩) sB ((List.Sublist.refl _)) ?_
  rintro ⟨i, t, p, pv⟩ hI
  dsimp only at hI ⊢
  have hCr := hI.1
  have hokt := hCr.rel.ok hok
  have hpln := hCr.len
  refine s_r <| s_q rfl (y_lss rfl rfl) <| s_n <| tk_seq <| tk_condP rfl (fun ht16 => ?_) (fun ht16 => ?_)
  · have hii : i < (nmS s).length := by unfold nmS; omega
    have hil : i < 1000000 := by have := hok.len; have := nmS_len (s := s); omega
    have hhi := hCr.has i (Nat.le_refl _) hii
    refine tk_bagO (mm 3 rfl) fun hbo => ?_
    have hlk := lk_one hbo
    have hbl := hokt.bytes _ (lkO_name hhi).2
    refine tk_skip <| tk_then <| tk_seq <| tk_block <| s_r <| s_q rfl (y_ixR (j := i) rfl rfl hfv13.choose_spec lenP kR) <| s_q rfl (y_load rfl rfl (fun w hw => ((fun w hw => own_rdS (hw.mem (.head _))) w hw).cell (gM (d := []) lenP))) <| q_a rfl rfl <| s_n <| s_r <| q_m rfl rfl <| s_q rfl (y_nilCheck rfl) <| s_q rfl (y_fld0 (o := 0) rfl kR) <| s_q rfl (y_fld0 (o := 0) rfl kR) <| s_q rfl (y_load rfl rfl (hc (o := 0) (mm 1 rfl) (rfl))) <| q_m rfl rfl <| s_q rfl ((y_getS (b := mb) (kv := (kvO t.obs)) (k := (sortN (s.obs.map Ob.name)).getD i []) (zv := .agg [Value.slice none 0 0, .bool false].toArray) rfl rfl Tryz.underlying186 Tryz.underlying9 (fun _ => kR) (fun w hw => hw.mem (mm 2 rfl))).cast (kvO_get)) <| tk_act rfl <| a_allocL (cs := [Value.slice none 0 0, .bool false]) kR rfl fun b6 => tk_act rfl <| a_storeW (H1 := []) (vs := [(lkO t.obs (((nmS s).getD i []))).v, .bool ((lkO t.obs (((nmS s).getD i []))).sure)]) 2 rfl rfl kR rfl ⟨lenP, lenP⟩ (List.forall_mem_cons.2 ⟨(hlk _), (List.forall_mem_cons.2 ⟨rfl, (fun _ h => nomatch h)⟩)⟩) <| s_n <| tk_seq <| s_r ?_; refine s_q rfl (y_fldN (o := 0) 1 rfl kR) <| s_q rfl (y_load rfl rfl (hc (o := 1) (.head _) (rfl))) <| s_n <| tk_cond rfl (fun ht27 => ?_) (fun ht27 => ?_)
    · exact tk_exit <| tk_then_exit <| tk_in_hit <| tk_then <| tk_region <| s_q rfl (y_addN (a := i) (b := 1) rfl rfl oM) <| q_m rfl rfl <| tk_nil <| tk_again ((i + 1, t, p, pv)) (⟨crI_sure hCr hok.nodup hii (by assumption), hI.2⟩) (by dsimp only; have := hCr.i5; rw [nmS_len] at hii; omega) sB (.cons _ (List.Sublist.refl _))
    · have hsu : ¬ (lkO t.obs ((nmS s).getD i [])).sure = true := by simp_all
      refine tk_skip <| tk_then <| s_r <| q_a rfl rfl <| s_n <| tk_seq <| s_r <| q_m rfl rfl <| s_q rfl (y_lenRN (n' := p.length) rfl hI.2.1 rfl (by first | rfl | (rw [List.length_map]; omega) | simp)) <| s_q rfl (y_gtr rfl rfl) <| s_n <| tk_condP rfl (fun ht30 => ?_) (fun ht30 => ?_)
      · refine tk_drawH [cel b6 ([(lkO t.obs ((nmS s).getD i [])).v, .bool ((lkO t.obs ((nmS s).getD i [])).sure)]) 198, own v13 ((sortN (s.obs.map Ob.name)).length) ((sortN (s.obs.map Ob.name)).map Str) 9 1, cel sb ([Value.map (some mb), I (t.left), .bool t.off, I (t.made), I (t.room)]) 192, mapS mb (kvO t.obs), bag (t.obs.map (obR 5))] [] kR <| s_x 0 rfl (y_move rfl) <| s_x 1 rfl (y_ixR (j := 0) rfl rfl hI.2.1 lenP kR) <| s_l 2 rfl (fun _ h => h) (y_load rfl rfl (fun w hw => ((fun w hw => Ro.rd hI.2 hw) w hw).cell (gM (f := I) (d := 0) lenP))) <| s_x 3 rfl (y_convU (z := p.getD 0 0) rfl rfl rfl) <| s_x 4 rfl (y_move rfl) <| s_x 5 rfl ((y_cutRl (vs := p.map I) 1 rfl rfl hI.2.1 kR ⟨rfl, by rw [List.length_map]; omega⟩).cast (by rw [List.length_map])) <| s_x 6 rfl (y_assign rfl) <| s_x 7 rfl (y_assign rfl) <| tx_done kR <| tk_then <| tk_seq <| tk_re 7 (.int .u64 ((modU (p.getD 0 0) : Nat) : Int)) (.int .u64 ((modU (p.getD 0 0) : Nat) : Int)) rfl (by first | rfl | (rw [hp0]; rfl)) <| tk_region <| q_m rfl rfl <| s_q rfl (y_fld0 (o := 0) rfl kR) <| s_q rfl (y_load rfl rfl (hc (o := 0) (.head _) (rfl))) <| s_q rfl (y_lenRN (n' := ((lkO t.obs ((nmS s).getD i [])).b).length) rfl (hbo _ (lkO_name hhi).2).choose_spec rfl (by first | rfl | (rw [List.length_map]; omega) | simp)) <| s_q rfl (y_addN (a := ((lkO t.obs ((nmS s).getD i [])).b).length) (b := 2) rfl rfl oM) <| s_q rfl (y_convi64 (m := (((lkO t.obs ((nmS s).getD i [])).b).length) + 2) rfl rfl rfl (wrap_u64 oM)) <| s_q rfl (y_remU (a := modU (p.getD 0 0)) (b := (((lkO t.obs ((nmS s).getD i [])).b).length) + 2) rfl rfl oM) <| q_a rfl rfl <| s_n <| tk_seq ?_; refine tk_re 7 (.int .u64 (((modU (p.getD 0 0)) % ((((lkO t.obs ((nmS s).getD i [])).b).length) + 2) : Nat) : Int)) (.int .u64 (((pkN p (lkO t.obs ((nmS s).getD i [])).b.length) : Nat) : Int)) rfl (rfl) <| tk_region <| q_m rfl rfl <| s_q rfl (y_eql rfl rfl) <| s_n <| tk_condP rfl (fun ht45 => ?_) (fun ht45 => ?_)
        · have hpk : (pkN p (lkO t.obs ((nmS s).getD i [])).b.length) = 0 := by omega
          exact tk_region <| q_m rfl rfl <| s_q rfl (y_nilCheck rfl) <| s_q rfl (y_fld0 (o := 0) rfl kR) <| s_q rfl (y_fld0 (o := 0) rfl kR) <| s_q rfl (y_load rfl rfl (hc (o := 0) (mm 2 rfl) (rfl))) <| q_m rfl rfl <| tk_act rfl <| a_delS (H1 := [_, _, _]) (b := mb) (kv := (kvO t.obs)) (k := (sortN (s.obs.map Ob.name)).getD i []) rfl rfl Tryz.underlying186 Tryz.underlying9 rfl <| tk_nil <| tk_in_normal <| tk_then <| tk_region <| s_q rfl (y_addN (a := i) (b := 1) rfl rfl oM) <| q_m rfl rfl <| tk_nil <| tk_R (H1 := [_, _, _]) rfl (show mapS mb (delS (kvO t.obs) ((sortN (s.obs.map Ob.name)).getD i [])) = mapS mb (kvO (delO t.obs ((nmS s).getD i []))) from mapS_cast kvO_del) <| tk_ps [4] rfl <| tk_bagW (qs := (delO t.obs ((nmS s).getD i [])).map (obR 5)) (bagW_sub (List.Sublist.map _ List.filter_sublist)) <| tk_ps [4, 4, 4] rfl <| tk_again ((i + 1, t.obsTo (delO t.obs ((nmS s).getD i [])), p.tail, cutR pv 1 p.length)) (⟨crI_del hCr hok.nodup hii (by simpa using hsu) hpk, ro_tail hI.2 oM⟩) (by dsimp only; have := hCr.i5; rw [nmS_len] at hii; omega) sB (.cons_cons _ (.cons_cons _ (.cons_cons _ (.cons_cons _ (List.nil_sublist _)))))
        · have hpk : ¬ (pkN p (lkO t.obs ((nmS s).getD i [])).b.length) = 0 := by omega
          have hpl2 : (pkN p (lkO t.obs ((nmS s).getD i [])).b.length) < (lkO t.obs ((nmS s).getD i [])).b.length + 2 := pkN_lt
          refine tk_drawH [cel b6 ([(lkO t.obs ((nmS s).getD i [])).v, .bool ((lkO t.obs ((nmS s).getD i [])).sure)]) 198, own v13 ((sortN (s.obs.map Ob.name)).length) ((sortN (s.obs.map Ob.name)).map Str) 9 1, cel sb ([Value.map (some mb), I (t.left), .bool t.off, I (t.made), I (t.room)]) 192, bag (t.obs.map (obR 5))] [] kR <| s_x 0 rfl (y_move rfl) <| s_x 1 rfl (y_nilCheck rfl) <| s_x 2 rfl (y_fld0 (o := 0) rfl kR) <| s_x 3 rfl (y_fld0 (o := 0) rfl kR) <| s_l 4 rfl (fun _ h => kT [0, 0, 0] 1 rfl h) (y_load rfl rfl (hc (o := 0) (mm 2 rfl) (rfl))) <| s_x 5 rfl (y_move rfl) <| s_x 6 rfl (y_fld0 (o := 0) rfl kR) <| s_l 7 rfl (fun _ h => kT [0, 0, 0] 1 rfl h) (y_load rfl rfl (hc (o := 0) (.head _) (rfl))) <| s_x 8 rfl (y_move rfl) <| s_x 9 rfl (y_subU (a := (pkN p (lkO t.obs ((nmS s).getD i [])).b.length)) (b := 1) rfl rfl oM) <| s_x 10 rfl (y_cutRBh (l := (lkO t.obs ((nmS s).getD i [])).b) (((pkN p (lkO t.obs ((nmS s).getD i [])).b.length)) - 1) rfl rfl (hbo _ (lkO_name hhi).2).choose_spec kR lenP rfl) <| s_x 11 rfl (y_build (v := .agg ([cutR ((lkO t.obs ((nmS s).getD i [])).v) 0 (((pkN p (lkO t.obs ((nmS s).getD i [])).b.length)) - 1), .bool true]).toArray) (vs := [(0, cutR ((lkO t.obs ((nmS s).getD i [])).v) 0 (((pkN p (lkO t.obs ((nmS s).getD i [])).b.length)) - 1)), (1, .bool true)]) rfl (run_build (zs := [Value.slice none 0 0, .bool false]) (pl := [(0, 1), (1, 1)]) Tryz.underlying198 (fun _ => kR) (fun _ => kR) (fill_sv (RdS.cells (RdS.cutBh (hbo _ (lkO_name hhi).2).choose_spec (hi := ((pkN p (lkO t.obs ((nmS s).getD i [])).b.length)) - 1) lenP)) rfl))) <| tx_a 12 rfl kR rfl <| a_setS (H1 := [_, _, _]) (b := mb) (kv := (kvO t.obs)) (k := (sortN (s.obs.map Ob.name)).getD i []) (v := (Value.agg ([cutR ((lkO t.obs ((nmS s).getD i [])).v) 0 (((pkN p (lkO t.obs ((nmS s).getD i [])).b.length)) - 1), .bool true]).toArray)) rfl rfl rfl Tryz.underlying186 Tryz.underlying9 rfl <| tk_S (fun _ h => kT [0, 0, 0] 1 rfl h) <| tx_done kR <| tk_in_normal <| tk_then <| tk_region <| s_q rfl (y_addN (a := i) (b := 1) rfl rfl oM) <| q_m rfl rfl <| tk_nil <| tk_R (H1 := [_, _, _]) rfl (show mapS mb (setS (kvO t.obs) ((sortN (s.obs.map Ob.name)).getD i []) ((Value.agg ([cutR ((lkO t.obs ((nmS s).getD i [])).v) 0 (((pkN p (lkO t.obs ((nmS s).getD i [])).b.length)) - 1), .bool true]).toArray))) = mapS mb (kvO (cutO t.obs ((nmS s).getD i []) ((pkN p (lkO t.obs ((nmS s).getD i [])).b.length) - 1))) from mapS_cast (kvO_cut hCr.rel.nodup hhi)) ?_; exact tk_ps [4] rfl <| tk_bagW (qs := (cutO t.obs ((nmS s).getD i []) ((pkN p (lkO t.obs ((nmS s).getD i [])).b.length) - 1)).map (obR 5)) (bagW_cut (fun o ho e => cut_le hCr.rel.nodup hhi ho e)) <| tk_ps [4, 4, 4] rfl <| tk_again ((i + 1, t.obsTo (cutO t.obs ((nmS s).getD i []) ((pkN p (lkO t.obs ((nmS s).getD i [])).b.length) - 1)), p.tail, cutR pv 1 p.length)) (⟨crI_cut hCr hok.nodup hii (by simpa using hsu) hpk, ro_tail hI.2 oM⟩) (by dsimp only; have := hCr.i5; rw [nmS_len] at hii; omega) sB (.cons_cons _ (.cons_cons _ (.cons_cons _ (.cons_cons _ (List.nil_sublist _)))))
      · have hp0 : p = [] := List.eq_nil_of_length_eq_zero oM
        refine tk_skip <| tk_then <| tk_seq <| tk_re 7 (.int .u64 0) (.int .u64 ((modU (p.getD 0 0) : Nat) : Int)) rfl (by first | rfl | (rw [hp0]; rfl)) <| tk_region <| q_m rfl rfl <| s_q rfl (y_fld0 (o := 0) rfl kR) <| s_q rfl (y_load rfl rfl (hc (o := 0) (.head _) (rfl))) <| s_q rfl (y_lenRN (n' := ((lkO t.obs ((nmS s).getD i [])).b).length) rfl (hbo _ (lkO_name hhi).2).choose_spec rfl (by first | rfl | (rw [List.length_map]; omega) | simp)) <| s_q rfl (y_addN (a := ((lkO t.obs ((nmS s).getD i [])).b).length) (b := 2) rfl rfl oM) <| s_q rfl (y_convi64 (m := (((lkO t.obs ((nmS s).getD i [])).b).length) + 2) rfl rfl rfl (wrap_u64 oM)) <| s_q rfl (y_remU (a := modU (p.getD 0 0)) (b := (((lkO t.obs ((nmS s).getD i [])).b).length) + 2) rfl rfl oM) <| q_a rfl rfl <| s_n <| tk_seq <| tk_re 7 (.int .u64 (((modU (p.getD 0 0)) % ((((lkO t.obs ((nmS s).getD i [])).b).length) + 2) : Nat) : Int)) (.int .u64 (((pkN p (lkO t.obs ((nmS s).getD i [])).b.length) : Nat) : Int)) rfl (rfl) <| tk_region <| q_m rfl rfl <| s_q rfl (y_eql rfl rfl) <| s_n <| tk_condP rfl (fun ht45 => ?_) (fun ht45 => ?_)
        · have hpk : (pkN p (lkO t.obs ((nmS s).getD i [])).b.length) = 0 := by omega
          exact tk_region <| q_m rfl rfl <| s_q rfl (y_nilCheck rfl) <| s_q rfl (y_fld0 (o := 0) rfl kR) <| s_q rfl (y_fld0 (o := 0) rfl kR) <| s_q rfl (y_load rfl rfl (hc (o := 0) (mm 2 rfl) (rfl))) <| q_m rfl rfl <| tk_act rfl <| a_delS (H1 := [_, _, _]) (b := mb) (kv := (kvO t.obs)) (k := (sortN (s.obs.map Ob.name)).getD i []) rfl rfl Tryz.underlying186 Tryz.underlying9 rfl <| tk_nil <| tk_in_normal <| tk_then <| tk_region <| s_q rfl (y_addN (a := i) (b := 1) rfl rfl oM) <| q_m rfl rfl <| tk_nil <| tk_R (H1 := [_, _, _]) rfl (show mapS mb (delS (kvO t.obs) ((sortN (s.obs.map Ob.name)).getD i [])) = mapS mb (kvO (delO t.obs ((nmS s).getD i []))) from mapS_cast kvO_del) <| tk_ps [4] rfl <| tk_bagW (qs := (delO t.obs ((nmS s).getD i [])).map (obR 5)) (bagW_sub (List.Sublist.map _ List.filter_sublist)) <| tk_ps [4, 4, 4] rfl <| tk_again ((i + 1, t.obsTo (delO t.obs ((nmS s).getD i [])), p.tail, pv)) (⟨crI_del hCr hok.nodup hii (by simpa using hsu) hpk, ro_nil2 hp0 hI.2⟩) (by dsimp only; have := hCr.i5; rw [nmS_len] at hii; omega) sB (.cons_cons _ (.cons_cons _ (.cons_cons _ (.cons_cons _ (List.nil_sublist _)))))
        · have hpk : ¬ (pkN p (lkO t.obs ((nmS s).getD i [])).b.length) = 0 := by omega
          have hpl2 : (pkN p (lkO t.obs ((nmS s).getD i [])).b.length) < (lkO t.obs ((nmS s).getD i [])).b.length + 2 := pkN_lt
          refine tk_drawH [cel b6 ([(lkO t.obs ((nmS s).getD i [])).v, .bool ((lkO t.obs ((nmS s).getD i [])).sure)]) 198, own v13 ((sortN (s.obs.map Ob.name)).length) ((sortN (s.obs.map Ob.name)).map Str) 9 1, cel sb ([Value.map (some mb), I (t.left), .bool t.off, I (t.made), I (t.room)]) 192, bag (t.obs.map (obR 5))] [] kR <| s_x 0 rfl (y_move rfl) <| s_x 1 rfl (y_nilCheck rfl) <| s_x 2 rfl (y_fld0 (o := 0) rfl kR) <| s_x 3 rfl (y_fld0 (o := 0) rfl kR) <| s_l 4 rfl (fun _ h => kT [0, 0, 0] 1 rfl h) (y_load rfl rfl (hc (o := 0) (mm 2 rfl) (rfl))) <| s_x 5 rfl (y_move rfl) <| s_x 6 rfl (y_fld0 (o := 0) rfl kR) <| s_l 7 rfl (fun _ h => kT [0, 0, 0] 1 rfl h) (y_load rfl rfl (hc (o := 0) (.head _) (rfl))) <| s_x 8 rfl (y_move rfl) <| s_x 9 rfl (y_subU (a := (pkN p (lkO t.obs ((nmS s).getD i [])).b.length)) (b := 1) rfl rfl oM) <| s_x 10 rfl (y_cutRBh (l := (lkO t.obs ((nmS s).getD i [])).b) (((pkN p (lkO t.obs ((nmS s).getD i [])).b.length)) - 1) rfl rfl (hbo _ (lkO_name hhi).2).choose_spec kR lenP rfl) <| s_x 11 rfl (y_build (v := .agg ([cutR ((lkO t.obs ((nmS s).getD i [])).v) 0 (((pkN p (lkO t.obs ((nmS s).getD i [])).b.length)) - 1), .bool true]).toArray) (vs := [(0, cutR ((lkO t.obs ((nmS s).getD i [])).v) 0 (((pkN p (lkO t.obs ((nmS s).getD i [])).b.length)) - 1)), (1, .bool true)]) rfl (run_build (zs := [Value.slice none 0 0, .bool false]) (pl := [(0, 1), (1, 1)]) Tryz.underlying198 (fun _ => kR) (fun _ => kR) (fill_sv (RdS.cells (RdS.cutBh (hbo _ (lkO_name hhi).2).choose_spec (hi := ((pkN p (lkO t.obs ((nmS s).getD i [])).b.length)) - 1) lenP)) rfl))) <| tx_a 12 rfl kR rfl <| a_setS (H1 := [_, _, _]) (b := mb) (kv := (kvO t.obs)) (k := (sortN (s.obs.map Ob.name)).getD i []) (v := (Value.agg ([cutR ((lkO t.obs ((nmS s).getD i [])).v) 0 (((pkN p (lkO t.obs ((nmS s).getD i [])).b.length)) - 1), .bool true]).toArray)) rfl rfl rfl Tryz.underlying186 Tryz.underlying9 rfl <| tk_S (fun _ h => kT [0, 0, 0] 1 rfl h) <| tx_done kR <| tk_in_normal <| tk_then <| tk_region <| s_q rfl (y_addN (a := i) (b := 1) rfl rfl oM) <| q_m rfl rfl <| tk_nil <| tk_R (H1 := [_, _, _]) rfl (show mapS mb (setS (kvO t.obs) ((sortN (s.obs.map Ob.name)).getD i []) ((Value.agg ([cutR ((lkO t.obs ((nmS s).getD i [])).v) 0 (((pkN p (lkO t.obs ((nmS s).getD i [])).b.length)) - 1), .bool true]).toArray))) = mapS mb (kvO (cutO t.obs ((nmS s).getD i []) ((pkN p (lkO t.obs ((nmS s).getD i [])).b.length) - 1))) from mapS_cast (kvO_cut hCr.rel.nodup hhi)) ?_; exact tk_ps [4] rfl <| tk_bagW (qs := (cutO t.obs ((nmS s).getD i []) ((pkN p (lkO t.obs ((nmS s).getD i [])).b.length) - 1)).map (obR 5)) (bagW_cut (fun o ho e => cut_le hCr.rel.nodup hhi ho e)) <| tk_ps [4, 4, 4] rfl <| tk_again ((i + 1, t.obsTo (cutO t.obs ((nmS s).getD i []) ((pkN p (lkO t.obs ((nmS s).getD i [])).b.length) - 1)), p.tail, pv)) (⟨crI_cut hCr hok.nodup hii (by simpa using hsu) hpk, ro_nil2 hp0 hI.2⟩) (by dsimp only; have := hCr.i5; rw [nmS_len] at hii; omega) sB (.cons_cons _ (.cons_cons _ (.cons_cons _ (.cons_cons _ (List.nil_sublist _)))))
  · refine tk_exit <| tk_then_exit <| tk_then_exit <| tk_in_hit <| tk_then <| tk_region <| q_m rfl rfl <| q_m rfl rfl <| s_q rfl (y_nilCheck rfl) <| s_q rfl (y_fldN (o := 0) 1 rfl kR) <| s_q rfl (y_fldN (o := 1) 1 rfl kR) <| tk_act rfl <| a_storeE (H1 := [_]) (o := 2) (v := .bool false) (cs' := [Value.map (some mb), I (t.left), .bool false, I (t.made), I (t.room)]) rfl rfl kR rfl rfl sW (rfl) <| s_q rfl (y_nilCheck rfl) <| s_q rfl (y_fldN (o := 0) 1 rfl kR) <| s_q rfl (y_fld0 (o := 1) rfl kR) <| tk_act rfl <| a_storeE (H1 := [_]) (o := 1) (v := I (-1)) (cs' := [Value.map (some mb), I (-1), .bool false, I (t.made), I (t.room)]) rfl rfl kR rfl rfl sW (rfl) <| tk_nil ?_
    obtain hie : i = (nmS s).length := by have := hCr.i5; have : (nmS s).length = (sortN (s.obs.map Ob.name)).length := rfl; omega
    have hcr := crI_end (hie ▸ hCr)
    exact tk_R (H1 := [_]) rfl (congrArg (fun z_ => cel sb z_ 192) (show [Value.map (some mb), I (-1), .bool false, I (t.made), I (t.room)] = [Value.map (some mb), I ((s.crash p0).left), .bool ((s.crash p0).off), I ((s.crash p0).made), I ((s.crash p0).room)] from by rw [hcr]; rfl)) <| tk_R (H1 := [_, _]) rfl (show mapS mb (kvO t.obs) = mapS mb (kvO ((s.crash p0).obs)) from by rw [hcr]; rfl) <| tk_R (H1 := [_, _, _]) rfl (show bag (t.obs.map (obR 5)) = bag (((s.crash p0).obs).map (obR 5)) from by rw [hcr]; rfl) <| tk_ret (()) (trivial) (.inr rfl) (r0 rfl) (.cons _ (List.Sublist.refl _))
end Go.Proofs.YtkkjfojgjmglpaaGreatDoor
set_option linter.unusedSimpArgs false
set_option linter.unusedVariables false
namespace Go.Proofs.YtkkjfojgjmglpaaGreatDoor
open Go
set_option maxHeartbeats 1000000
attribute [local irreducible] sealL tapeN tapeL lkName dfName preB
variable {hk mk tl : List UInt8} {s t : Sh} {x : Lk} {now c p N : Nat} {vl : Value}
structure Ol (l : List Ob) (N : Nat) : Prop where
  small : ∀ o ∈ l, o.b.length ≤ 200
  len : l.length ≤ N
  sure : ∀ o ∈ l, preB [108, 47] o.name = true → o.sure = true
theorem Ol.mono {l : List Ob} {N M : Nat} (h : Ol l N) (hM : N ≤ M) : Ol l M := ⟨h.small, Nat.le_trans h.len hM, h.sure⟩
theorem ol_del {l : List Ob} {N : Nat} {a : List UInt8} (h : Ol l N) : Ol (delO l a) N :=
  ⟨fun o ho => h.small o (List.mem_filter.1 ho).1, Nat.le_trans (List.length_filter_le _ _) h.len, fun o ho => h.sure o (List.mem_filter.1 ho).1⟩
theorem ol_put {l : List Ob} {N : Nat} {a b : List UInt8} {v : Value} (h : Ol l N) (ha : preB [108, 47] a = false) (hb : b.length ≤ 200) : Ol (l ++ [⟨a, v, b, false⟩]) (N + 1) := by
  refine ⟨fun o ho => ?_, by have := h.len; rw [List.length_append]; simp; exact this, fun o ho hp => ?_⟩
  · rcases List.mem_append.1 ho with ho | ho
    · exact h.small o ho
    · rw [List.mem_singleton.1 ho]; exact hb
  · rcases List.mem_append.1 ho with ho | ho
    · exact h.sure o ho hp
    · rw [List.mem_singleton.1 ho] at hp
      have hp' : preB [108, 47] a = true := hp
      rw [ha] at hp'; cases hp'
theorem ol_sync {l : List Ob} {N : Nat} {a : List UInt8} (h : Ol l N) : Ol (syncO l a) N := by
  refine ⟨fun o ho => ?_, by unfold syncO; rw [List.length_map]; exact h.len, fun o ho hp => ?_⟩
  · obtain ⟨u, hu, e⟩ := List.mem_map.1 (show o ∈ l.map _ from ho)
    have := h.small u hu
    rw [← e]; split <;> exact this
  · obtain ⟨u, hu, e⟩ := List.mem_map.1 (show o ∈ l.map _ from ho)
    rw [← e] at hp ⊢
    split
    · rfl
    · next q => rw [if_neg q] at hp; exact h.sure u hu hp
theorem ol_ren {l : List Ob} {N : Nat} {a b : List UInt8} (h : Ol l N) (ha : hasO l a) (hs : (lkO l a).sure = true) : Ol (delO l a ++ [nameTo (lkO l a) b]) N := by
  refine ⟨fun o ho => ?_, ?_, fun o ho hp => ?_⟩
  · rcases List.mem_append.1 ho with ho | ho
    · exact (ol_del h).small o ho
    · rw [List.mem_singleton.1 ho]; have h9 := h.small _ (lkO_name ha).2; exact h9
  · have h1 : (delO l a).length < l.length := by
      unfold delO
      rw [← List.countP_eq_length_filter]
      refine Nat.lt_of_le_of_ne (List.countP_le_length) (fun q => ?_)
      have := List.countP_eq_length.1 q _ (lkO_name ha).2
      rw [(lkO_name ha).1] at this; simp at this
    have := h.len
    rw [List.length_append]; simp; omega
  · rcases List.mem_append.1 ho with ho | ho
    · exact (ol_del h).sure o ho hp
    · rw [List.mem_singleton.1 ho]; have h9 := hs; exact h9
/-! ### the calls -/
theorem od_del {a : List UInt8} (h : Ol s.obs N) : Ol (s.del a).1.obs N := by
  rcases change_r (s := s) (c := delC s a) (d := fun s => s.obsTo (delO s.obs a)) with ⟨_, h2⟩ | ⟨h1, _, h3⟩
  · have e : (s.del a).1.obs = s.obs := h2
    rw [e]; exact h
  · have e : s.del a = (s.spend.1.obsTo (delO s.spend.1.obs a), 0) := h1
    rw [e]; show Ol (delO s.spend.1.obs a) N; rw [h3]; exact ol_del h
theorem od_put {a b : List UInt8} {v : Value} (h : Ol s.obs N) (ha : preB [108, 47] a = false) (hb : b.length ≤ 200) : Ol (s.put a v b).1.obs (N + 1) := by
  rcases change_r (s := s) (c := putC s a b) (d := fun s => s.obsTo (s.obs ++ [⟨a, v, b, false⟩])) with ⟨_, h2⟩ | ⟨h1, _, h3⟩
  · have e : (s.put a v b).1.obs = s.obs := h2
    rw [e]; exact h.mono (by omega)
  · have e : s.put a v b = (s.spend.1.obsTo (s.spend.1.obs ++ [⟨a, v, b, false⟩]), 0) := h1
    rw [e]; show Ol (s.spend.1.obs ++ [⟨a, v, b, false⟩]) (N + 1); rw [h3]; exact ol_put h ha hb
theorem od_sync {a : List UInt8} (h : Ol s.obs N) : Ol (s.sync1 a).1.obs N := by
  unfold Sh.sync1
  split
  · rw [nudge_obs.1]; exact h
  split
  · rw [nudge_obs.1]; exact h
  · show Ol (syncO s.nudge.1.obs a) N; rw [nudge_obs.1]; exact ol_sync h
theorem sync_sure {l : List Ob} {a : List UInt8} (h : hasO (syncO l a) a) : (lkO (syncO l a) a).sure = true := by
  obtain ⟨h1, h2⟩ := lkO_name h
  obtain ⟨u, hu, e⟩ := List.mem_map.1 (show lkO (syncO l a) a ∈ l.map _ from h2)
  by_cases q : u.name = a
  · rw [if_pos q] at e; rw [← e]
  · rw [if_neg q] at e; rw [← e] at h1; exact (q h1).elim
theorem od_ren {a b : List UInt8} (h : Ol s.obs N) (hs : hasO s.obs a → (lkO s.obs a).sure = true) : Ol (s.ren a b).1.obs N := by
  rcases change_r (s := s) (c := renC s a b) (d := fun s => s.obsTo (delO s.obs a ++ [nameTo (lkO s.obs a) b])) with ⟨_, h2⟩ | ⟨h1, h2, h3⟩
  · have e : (s.ren a b).1.obs = s.obs := h2
    rw [e]; exact h
  · have e : s.ren a b = (s.spend.1.obsTo (delO s.spend.1.obs a ++ [nameTo (lkO s.spend.1.obs a) b]), 0) := h1
    have ha := (renC_ok h2).2.1
    rw [e]; show Ol (delO s.spend.1.obs a ++ [nameTo (lkO s.spend.1.obs a) b]) N; rw [h3]; exact ol_ren h ha (hs ha)
theorem ren_7 {d n : List UInt8} (h : (s.ren d n).2 = 7) : (s.ren d n).1.obs = s.obs := by
  rcases change_r (s := s) (c := renC s d n) (d := fun s => s.obsTo (delO s.obs d ++ [nameTo (lkO s.obs d) n])) with ⟨_, q⟩ | ⟨q, _, _⟩
  · exact q
  · have e : s.ren d n = _ := q
    rw [e] at h; cases h
theorem del_lk {a n : List UInt8} (h : n ≠ a) : lkO (s.del a).1.obs n = lkO s.obs n ∧ (hasO (s.del a).1.obs n → hasO s.obs n) := by
  rcases change_r (s := s) (c := delC s a) (d := fun s => s.obsTo (delO s.obs a)) with ⟨_, h2⟩ | ⟨h1, _, h3⟩
  · have e : (s.del a).1.obs = s.obs := h2
    rw [e]; exact ⟨rfl, id⟩
  · have e : s.del a = (s.spend.1.obsTo (delO s.spend.1.obs a), 0) := h1
    rw [e]
    show lkO (delO s.spend.1.obs a) n = _ ∧ (hasO (delO s.spend.1.obs a) n → _)
    rw [h3]; exact ⟨lk_del h, fun q => (del_has.1 q).1⟩
theorem od_show {d n : List UInt8} (h : Ol s.obs N) (hdn : d ≠ n) (hs : hasO s.obs d → (lkO s.obs d).sure = true) : Ol (showF s d n).1.obs N := by
  have h2 : Ol (showR s d n).1.obs N := by
    by_cases h7 : (s.ren d n).2 = 7
    · have e := ren_7 h7
      have h8 : Ol (s.ren d n).1.obs N := by rw [e]; exact h
      by_cases h9 : ((s.ren d n).1.del n).2 = 0
      · rw [sh_3 h7 h9]
        refine od_ren (od_del h8) (fun q => ?_)
        obtain ⟨e1, e2⟩ := del_lk (s := (s.ren d n).1) (a := n) hdn
        rw [e1, e]
        have := e2 q
        rw [e] at this; exact hs this
      · rw [sh_2 h7 h9]; exact od_del h8
    · rw [sh_1 h7]; exact od_ren h hs
  unfold showF
  split
  · exact od_del h2
  · exact h2
theorem od_write {d b : List UInt8} {v : Value} (h : Ol s.obs N) (hd : preB [108, 47] d = false) (hb : b.length ≤ 200) : Ol (writeF s d v b).1.obs (N + 1) ∧ ((writeF s d v b).2 = 0 → hasO (writeF s d v b).1.obs d → (lkO (writeF s d v b).1.obs d).sure = true) := by
  have h1 := od_del (a := d) h
  have h2 := od_put (v := v) h1 hd hb
  have h3 := od_sync (a := d) h2
  unfold writeF
  split
  · next q => exact ⟨h1.mono (by omega), fun e => absurd e q.1⟩
  split
  · next q => exact ⟨h2, fun e => absurd e q⟩
  split
  · next q => exact ⟨od_del h3, fun e => absurd e q⟩
  · next q1 q2 q3 =>
    refine ⟨h3, fun _ hh => ?_⟩
    have q3 := Classical.not_not.1 q3
    have hh' : hasO (((s.del d).1.put d v b).1.sync1 d).1.obs d := hh
    show (lkO (((s.del d).1.put d v b).1.sync1 d).1.obs d).sure = true
    unfold Sh.sync1 at q3 hh' ⊢
    split at q3
    · next r => exact (r q3).elim
    split at q3
    · cases q3
    · next r1 r2 =>
      rw [if_neg r1, if_neg r2] at hh' ⊢
      exact sync_sure hh'
theorem od_sw {del : List UInt8 → Bool} {l : List (List UInt8)} : ∀ {q : Sh × Nat}, Ol q.1.obs N → Ol (l.foldl (swQ del) q).1.obs N := by
  induction l with
  | nil => exact fun h => h
  | cons n l ih =>
    intro q h
    refine ih ?_
    unfold swQ
    split
    · exact od_del h
    · exact h
theorem od_st4 {mo : List UInt8 → Mk} (h : Ol s.obs N) : Ol (st4 mo s x now).1.obs N := by
  by_cases h0 : (if s.off = true then 9 else freeE mo now x.want (othN mo x.cl (lsN s [108, 47]))) = 0
  · by_cases h1 : x.want = true
    · rw [st4_w h0 h1]; exact od_sw (q := (s, 0)) h
    · rw [st4_0 h0 (by simpa using h1)]; exact h
  · rw [st4_e h0]; exact h
/-- locks are synced, and of three clients; a draft that is to become one, too -/
structure LS (hk mk : List UInt8) (s : Sh) (x : Lk) (now N : Nat) : Prop where
  ol : Ol s.obs N
  mc : ∀ n m, HasL hk mk s now n m → m.c < 3
  dr : x.asks = 3 → (hasO s.obs (dfName x.cl) → (lkO s.obs (dfName x.cl)).sure = true) ∧ ∀ b, vw s (dfName x.cl) = some b → ∃ m, MkAt hk mk now x.next b m ∧ m.c = x.cl
theorem mc_sub (h : ∀ n m, HasL hk mk s now n m → m.c < 3) (hs : ∀ n, preB [108, 47] n = true → vw t n = vw s n ∨ vw t n = none) : ∀ n m, HasL hk mk t now n m → m.c < 3 := fun n m q => by
  obtain ⟨q1, q2, b, q3, q4⟩ := q
  rcases hs n q2 with e | e
  · exact h n m ⟨q1, q2, b, e ▸ q3, q4⟩
  · rw [e] at q3; cases q3
theorem LS.step {z : Stp} {k : Int} {j : Nat} (hL : LI hk mk s x now k j) (h : LS hk mk s x now N) (hnow : now ≤ 1099511627776) (hcl : x.cl < 3) (hj : j < 90) (h14 : 1 ≤ x.asks ∧ x.asks ≤ 4) (hz : StepR hk mk tl (moOf hk mk s now) s x now c p vl z) : LS hk mk (stepT z) (stepY z) now (N + 1) := by
  have hx := stepR_x hz
  have hol : Ol z.t.obs (N + 1) := by
    rcases hz with ⟨_, rfl⟩ | ⟨_, c', vl', v, _, rfl⟩ | ⟨h3, rfl⟩ | ⟨_, rfl⟩
    · exact h.ol.mono (by omega)
    · exact (od_write (v := v) h.ol dfName_pre (seal_small (m := ⟨x.cl, x.want, now⟩) ⟨hL.cl, hnow⟩)).1
    · exact (od_show h.ol (by rw [(hL.dr h3).1]; exact df_lk) (h.dr h3).1).mono (by omega)
    · exact (od_st4 h.ol).mono (by omega)
  have hmc : ∀ n m, HasL hk mk z.t now n m → m.c < 3 := by
    rcases hz with ⟨_, rfl⟩ | ⟨_, c', vl', v, _, rfl⟩ | ⟨h3, rfl⟩ | ⟨_, rfl⟩
    · exact h.mc
    · exact mc_sub h.mc (fun n hn => .inl (vw_write (fun e => by rw [e, dfName_pre] at hn; cases hn)))
    · intro n m hm
      have hd : dfName x.cl ≠ x.next := by rw [(hL.dr h3).1]; exact df_lk
      have hnd : n ≠ dfName x.cl := fun e => by have := hm.2.1; rw [e, dfName_pre] at this; cases this
      obtain ⟨q1, q2, b, q3, q4⟩ := hm
      by_cases e : n = x.next
      · subst e
        rcases show_n (s := s) hd with r | r | r
        · exact h.mc _ m ⟨q1, q2, b, by rw [← r]; exact q3, q4⟩
        · rw [r] at q3; cases q3
        · obtain ⟨m', r1, r2⟩ := (h.dr h3).2 b (by rw [← r]; exact q3)
          rw [q4.one q1 hnow r1, r2]; exact hcl
      · exact h.mc n m ⟨q1, q2, b, by rw [← q3]; exact (vw_show hd hnd e).symm, q4⟩
    · exact mc_sub h.mc (fun n _ => sub_st4)
  refine ⟨?_, mc_sub hmc (fun n _ => stepT_sub), fun h3 => ?_⟩
  · unfold stepT; split
    · exact od_del hol
    · exact hol
  · have hno : ¬ (¬ z.e = 0 ∨ 4 < z.y.asks + 1) := fun q => by rw [stepY, if_pos q] at h3; cases h3
    rw [stepY, if_neg hno] at h3 ⊢
    have h2 : x.asks = 2 := by
      have : z.y.asks + 1 = 3 := h3
      omega
    have he : z.e = 0 := Classical.not_not.1 (fun q => hno (.inl q))
    have hst : stepT z = z.t := by rw [stepT, if_neg (fun q => q.1 he)]
    rw [hst]
    rcases hz with ⟨q, _⟩ | ⟨_, c', vl', v, _, rfl⟩ | ⟨q, _⟩ | ⟨q, _⟩
    · omega
    · dsimp only at he
      obtain ⟨_, w2⟩ := od_write (v := v) h.ol (d := dfName x.cl) dfName_pre (seal_small (hk := hk) (mk := mk) (tl := tl) (n := lkName x.cl x.made) (p := p) (m := ⟨x.cl, x.want, now⟩) ⟨hL.cl, hnow⟩)
      refine ⟨w2 he, fun b hb => ⟨⟨x.cl, x.want, now⟩, ?_, rfl⟩⟩
      have hw := write_ok he
      have hb' : vw (writeF s (dfName x.cl) v (sealL hk mk 108 (lkName x.cl x.made) (tapeN tl p 16) (mkY ⟨x.cl, x.want, now⟩))).1 (dfName x.cl) = some b := hb
      rw [hw] at hb'
      have e : (x.wrote (writeF s (dfName x.cl) v (sealL hk mk 108 (lkName x.cl x.made) (tapeN tl p 16) (mkY ⟨x.cl, x.want, now⟩))).2 (lkName x.cl x.made) ⟨x.cl, x.want, now⟩).next = lkName x.cl x.made := by show wrN _ _ = _; rw [he]; rfl
      have h9 : MkAt hk mk now (lkName x.cl x.made) b ⟨x.cl, x.want, now⟩ := ⟨hL.cl, Nat.le_refl _, _, tapeN_len, (Option.some.inj hb').symm⟩
      rw [← e] at h9; exact h9
    · omega
    · omega
end Go.Proofs.YtkkjfojgjmglpaaGreatDoor
set_option linter.unusedSimpArgs false
set_option linter.unusedVariables false
namespace Go.Proofs.YtkkjfojgjmglpaaGreatDoor
open Go
set_option maxHeartbeats 1000000
attribute [local irreducible] sealL tapeN tapeL lkName dfName preB
variable {hk mk tl : List UInt8} {s : Sh} {c p N : Nat} {vl : Value} {wl : Nat → Bool} {xs ys : Nat → Lk}
/-- a client in its round -/
def Cli (j : Nat) (w : Bool) (x : Lk) : Prop := x.cl = j ∧ x.made ≤ 1 ∧ (
  (x.asks = 0 ∧ x.own = [] ∧ x.next = [] ∧ x.shown = false) ∨
  (x.asks = 0 ∧ x.own = lkName j 0 ∧ x.m = ⟨j, w, 0⟩ ∧ x.next = [] ∧ x.shown = false) ∨
  (x.own = [] ∧ x.want = w ∧ (x.asks = 1 ∨ x.asks = 2) ∧ x.made = 0 ∧ x.shown = false ∧ x.next = []) ∨
  (x.own = [] ∧ x.want = w ∧ x.asks = 3 ∧ x.made = 0 ∧ x.shown = false ∧ x.next = lkName j 0 ∧ x.m = ⟨j, w, 0⟩) ∨
  (x.own = [] ∧ x.want = w ∧ x.asks = 4 ∧ x.made = 1 ∧ x.shown = true ∧ x.next = lkName j 0 ∧ x.m = ⟨j, w, 0⟩))
def Shows (x : Lk) : Prop := x.asks = 4 ∨ ¬ x.own = []
/-- the clients, their store -/
structure RW (hk mk : List UInt8) (wl : Nat → Bool) (xs : Nat → Lk) (s : Sh) : Prop where
  ok : LkW hk mk s 0
  lst : ∀ n m, HasL hk mk s 0 n m ↔ ∃ j, j < 5 ∧ Shows (xs j) ∧ n = lkName j 0 ∧ m = ⟨j, wl j, 0⟩
  df : ∀ j, j < 5 → (xs j).asks = 3 → ∃ b, vw s (dfName j) = some b ∧ MkAt hk mk 0 (lkName j 0) b ⟨j, wl j, 0⟩
  cli : ∀ j, j < 5 → Cli j (wl j) (xs j)
  apart : ∀ i j, i < 5 → j < 5 → i ≠ j → ¬ (xs i).own = [] → ¬ (xs j).own = [] → wl i = false ∧ wl j = false
/-- what a step of client i leaves -/
structure RcQ (hk mk : List UInt8) (wl : Nat → Bool) (xs ys : Nat → Lk) (t : Sh) (i e N : Nat) (d : Bool) : Prop where
  rw_ : RW hk mk wl ys t
  qt : Qt t (N + 1)
  code : e = 0 ∨ (e = 12 ∧ d = true)
  has : ¬ (ys i).own = [] ↔ (d = true ∧ e = 0)
  done : (ys i).asks = (if d = true then 0 else (xs i).asks + 1)
  lone : ¬ (ys i).own = [] → (ys i).m.a = wl i
end Go.Proofs.YtkkjfojgjmglpaaGreatDoor
set_option linter.unusedSimpArgs false
set_option linter.unusedVariables false
namespace Go.Proofs.YtkkjfojgjmglpaaGreatDoor
open Go
set_option maxHeartbeats 1000000
attribute [local irreducible] sealL tapeN tapeL lkName dfName preB
def xsOf (cs : List Cl) (j : Nat) : Lk := (cs.getD j dCl).x
def wlOf (w : List Bool) (j : Nat) : Bool := w.getD j false
theorem getD_set {α : Type} {l : List α} {i j : Nat} {a d : α} (hi : i < l.length) : (l.set i a).getD j d = if j = i then a else l.getD j d := by
  rw [List.getD_eq_getElem?_getD, List.getElem?_set]
  by_cases e : j = i
  · subst e; rw [if_pos rfl, if_pos hi, if_pos rfl]; rfl
  · rw [if_neg (fun h => e h.symm), if_neg e, List.getD_eq_getElem?_getD]
theorem set_self {α : Type} {l : List α} {i : Nat} {d k : α} (h : l.getD i d = k) : l.set i k = l := by
  subst h
  by_cases hi : i < l.length
  · apply List.ext_getElem?
    intro j
    rw [List.getElem?_set]
    split
    · next e => subst e; rw [List.getD_eq_getElem?_getD, List.getElem?_eq_getElem hi]; rfl
    · rfl
  · rw [List.set_eq_of_length_le (by omega)]
theorem lbs_get {cs : List Cl} {i : Nat} {k : Cl} (h : cs.getD i dCl = k) : (cs.map Cl.lb).getD i 0 = k.lb := by
  subst h
  by_cases hi : i < cs.length
  · simp [List.getD_eq_getElem?_getD, hi]
  · simp [List.getD_eq_getElem?_getD, List.getElem?_eq_none (Nat.le_of_not_lt hi), dCl]
theorem lbs_set {cs : List Cl} {i : Nat} {k k' : Cl} (h : cs.getD i dCl = k) (he : k'.lb = k.lb) : (cs.set i k').map Cl.lb = cs.map Cl.lb := by
  have : (cs.set i k').map Cl.lb = (cs.map Cl.lb).set i k'.lb := List.map_set.symm ▸ rfl
  rw [this, he, ← lbs_get h]
  exact set_self (d := 0) rfl
/-- the first loop: all ask -/
structure AskI (cs0 : List Cl) (i : Nat) (cs : List Cl) (w a : List Bool) : Prop where
  i5 : i ≤ 5
  lc : cs.length = 5
  lw : w.length = 5
  la : a.length = 5
  lbs : cs.map Cl.lb = cs0.map Cl.lb
  tape : ∀ j, j < 5 → (cs.getD j dCl).tl = [UInt8.ofNat j] ∧ (cs.getD j dCl).c = 0 ∧ (cs.getD j dCl).p = 0
  did : ∀ j, j < i → (cs.getD j dCl).x = (lk0 j).asked (w.getD j false) ∧ a.getD j false = true
  wait : ∀ j, i ≤ j → j < 5 → (cs.getD j dCl).x = lk0 j
/-- the second loop: step by step -/
structure RcI (cs0 : List Cl) (w : List Bool) (n : Nat) (s : Sh) (cs : List Cl) (a h : List Bool) : Prop where
  n60 : n ≤ 60
  lc : cs.length = 5
  lw : w.length = 5
  la : a.length = 5
  lh : h.length = 5
  lbs : cs.map Cl.lb = cs0.map Cl.lb
  rw_ : RW (rq 1) (rq 2) (wlOf w) (xsOf cs) s
  qt : Qt s n
  at_ : ShAt s (2005 * n)
  asks : ∀ j, j < 5 → (a.getD j false = true ↔ ¬ (xsOf cs j).asks = 0)
  has : ∀ j, j < 5 → (h.getD j false = true ↔ ¬ (xsOf cs j).own = [])
  tape : ∀ j, j < 5 → (cs.getD j dCl).tl = [UInt8.ofNat j] ∧ ((cs.getD j dCl).p ≤ 32 * (cs.getD j dCl).c ∧ 32 * (cs.getD j dCl).c < (cs.getD j dCl).p + 32) ∧ (cs.getD j dCl).p ≤ 16 * n
  late : 40 ≤ n → ∀ j, j < 5 → ¬ (xsOf cs j).asks = 0 → 1 + (n + 4 - j - 40) / 5 ≤ (xsOf cs j).asks
theorem RcI.own {cs0 cs : List Cl} {w a h : List Bool} {n : Nat} {s : Sh} (hI : RcI cs0 w n s cs a h) {i : Nat} (hi : i < 5) : (xsOf cs i).cl = i ∧ (xsOf cs i).made ≤ 1 ∧ (xsOf cs i).asks ≤ 4 ∧ (xsOf cs i).next.length < 1000 := by
  obtain ⟨q1, q2, q⟩ := hI.rw_.cli i hi
  have hln : (lkName i 0).length < 1000 := by have := name_small (n := 0) (show i < 100 by omega); omega
  refine ⟨q1, q2, ?_, ?_⟩
  · rcases q with q | q | q | q | q
    · omega
    · omega
    · obtain ⟨_, _, q, _⟩ := q; omega
    · obtain ⟨_, _, q, _⟩ := q; omega
    · obtain ⟨_, _, q, _⟩ := q; omega
  · rcases q with q | q | q | q | q
    · rw [q.2.2.1]; exact Nat.zero_lt_succ _
    · rw [q.2.2.2.1]; exact Nat.zero_lt_succ _
    · rw [q.2.2.2.2.2]; exact Nat.zero_lt_succ _
    · rw [q.2.2.2.2.2.1]; exact hln
    · rw [q.2.2.2.2.2.1]; exact hln
end Go.Proofs.YtkkjfojgjmglpaaGreatDoor
set_option linter.unusedSimpArgs false
set_option linter.unusedVariables false
namespace Go.Proofs.YtkkjfojgjmglpaaGreatDoor
open Go
set_option maxHeartbeats 1000000
attribute [local irreducible] sealL tapeN tapeL lkName dfName preB
section
variable {hk mk tl : List UInt8} {s t : Sh} {x : Lk} {now c p N : Nat} {vl : Value} {z : Stp}
/-! ### room -/
theorem room_change {cd : Nat} {d : Sh → Sh} (hd : ∀ t, (d t).room = t.room) : (s.change cd d).1.room = s.room := by
  unfold Sh.change
  split
  · rfl
  split
  · rfl
  split
  · exact spend_obs.2
  · show (d s.spend.1).room = _; rw [hd]; exact spend_obs.2
theorem room_del {a : List UInt8} : (s.del a).1.room = s.room := room_change (fun _ => rfl)
theorem room_put {a b : List UInt8} {v : Value} : (s.put a v b).1.room = s.room := room_change (fun _ => rfl)
theorem room_ren {a b : List UInt8} : (s.ren a b).1.room = s.room := room_change (fun _ => rfl)
theorem room_sync {a : List UInt8} : (s.sync1 a).1.room = s.room := by
  unfold Sh.sync1
  split
  · exact nudge_obs.2
  split
  · exact nudge_obs.2
  · exact nudge_obs.2
theorem room_write {d b : List UInt8} {v : Value} : (writeF s d v b).1.room = s.room := by
  unfold writeF
  split
  · exact room_del
  split
  · rw [room_put, room_del]
  split
  · show ((((s.del d).1.put d v b).1.sync1 d).1.del d).1.room = _; rw [room_del, room_sync, room_put, room_del]
  · show (((s.del d).1.put d v b).1.sync1 d).1.room = _; rw [room_sync, room_put, room_del]
theorem room_show {d n : List UInt8} : (showF s d n).1.room = s.room := by
  have h : (showR s d n).1.room = s.room := by
    unfold showR
    split
    · exact room_ren
    split
    · rw [room_del, room_ren]
    · rw [room_ren, room_del, room_ren]
  unfold showF
  split
  · show ((showR s d n).1.del d).1.room = _; rw [room_del, h]
  · exact h
theorem room_sw {del : List UInt8 → Bool} {l : List (List UInt8)} : ∀ {q : Sh × Nat}, (l.foldl (swQ del) q).1.room = q.1.room := by
  induction l with
  | nil => exact rfl
  | cons n l ih =>
    intro q
    rw [List.foldl_cons, ih]
    unfold swQ
    split
    · exact room_del
    · rfl
theorem room_st4 {mo : List UInt8 → Mk} : (st4 mo s x now).1.room = s.room := by
  by_cases h0 : (if s.off = true then 9 else freeE mo now x.want (othN mo x.cl (lsN s [108, 47]))) = 0
  · by_cases h1 : x.want = true
    · rw [st4_w h0 h1]; exact room_sw (q := (s, 0))
    · rw [st4_0 h0 (by simpa using h1)]
  · rw [st4_e h0]
theorem room_step {mo : List UInt8 → Mk} (hz : StepR hk mk tl mo s x now c p vl z) : (stepT z).room = s.room := by
  have h : z.t.room = s.room := by
    rcases hz with ⟨_, rfl⟩ | ⟨_, c', vl', v, _, rfl⟩ | ⟨h3, rfl⟩ | ⟨_, rfl⟩
    · rfl
    · exact room_write
    · exact room_show
    · exact room_st4
  unfold stepT
  split
  · rw [room_del, h]
  · exact h
/-! ### the hand -/
theorem wrM_t {e : Nat} {m : Mk} (h : m.t ≤ now) : (wrM e m).t ≤ now := by
  unfold wrM
  split
  · exact h
  · exact Nat.zero_le _
theorem mt_step {mo : List UInt8 → Mk} (h : x.m.t ≤ now) (hz : StepR hk mk tl mo s x now c p vl z) : (stepY z).m.t ≤ now := by
  have h2 : z.y.m.t ≤ now := by
    rcases hz with ⟨_, rfl⟩ | ⟨_, c', vl', v, _, rfl⟩ | ⟨h3, rfl⟩ | ⟨_, rfl⟩
    · exact h
    · exact wrM_t (Nat.le_refl _)
    · exact h
    · exact h
  unfold stepY
  split
  · exact h2
  · exact h2
theorem stepY_cl : (stepY z).cl = z.y.cl := by
  unfold stepY
  split
  · rfl
  · rfl
/-- all that stays true of a store and a hand in a row of calls -/
structure Al (hk mk : List UInt8) (s : Sh) (x : Lk) (now N cl : Nat) : Prop where
  ls : LS hk mk s x now N
  room : s.room = 100000
  mt : x.m.t ≤ now
  cl : x.cl = cl
theorem Al.step {k : Int} {j cl : Nat} (hL : LI hk mk s x now k j) (h : Al hk mk s x now N cl) (hnow : now ≤ 1099511627776) (hcl : cl < 3) (hj : j < 90) (h14 : 1 ≤ x.asks ∧ x.asks ≤ 4) (hz : StepR hk mk tl (moOf hk mk s now) s x now c p vl z) : Al hk mk (stepT z) (stepY z) now (N + 1) cl :=
  ⟨h.ls.step hL hnow (by rw [h.cl]; exact hcl) hj h14 hz, (room_step hz).trans h.room, mt_step h.mt hz, stepY_cl.trans ((stepR_x hz).2.1.trans h.cl)⟩
theorem Al.run {u r : St5} {k : Int} {j i e cl : Nat} (hL : LI hk mk u.s u.x now k j) (h : Al hk mk u.s u.x now N cl) (h1 : u.x.asks = 1) (hnow : now ≤ 1099511627776) (hcl : cl < 3) (hj : j < 80) (hI0 : u.p ≤ 32 * u.c ∧ 32 * u.c < u.p + 32) (hi : i ≤ 3) (hR : Run hk mk tl now u i r e) : Al hk mk r.s r.x now (N + i) cl := by
  induction i generalizing r e with
  | zero => obtain ⟨rfl, _⟩ := hR; exact h
  | succ i ih =>
    obtain ⟨r0, z, e0, hR0, hz, hf, rfl, rfl⟩ := hR
    have h2 := ih (by omega) hR0
    obtain ⟨h3, h4⟩ := run_li hL h1 (by omega) hI0 (by omega) hR0
    exact h2.step h3 hnow hcl (by omega) ⟨by omega, by omega⟩ hz
theorem Al.took {q : St5} {k : Int} {j e cl : Nat} {b : Bool} (hL : LI hk mk s x now k j) (h : Al hk mk s x now N cl) (hnow : now ≤ 1099511627776) (hcl : cl < 3) (hj : j < 80) (hI0 : p ≤ 32 * c ∧ 32 * c < p + 32) (hT : Took hk mk tl now ⟨s, x.asked b, c, p, vl⟩ q e) : Al hk mk q.s q.x now (N + 4) cl ∧ q.x.asks = 0 ∧ q.x.next = [] ∧ q.x.shown = false := by
  have h0 : LI hk mk s (x.asked b) now k j := ⟨hL.at_, hL.ok, hL.cl, hL.md, hL.nx, fun q => by cases q⟩
  have a0 : Al hk mk s (x.asked b) now N cl := ⟨⟨h.ls.ol, h.ls.mc, fun q => by cases q⟩, h.room, h.mt, h.cl⟩
  obtain ⟨i, r, z, e0, hi, hR, hz, hf, rfl, rfl⟩ := hT
  have h1 := Al.run (u := ⟨s, x.asked b, c, p, vl⟩) h0 a0 rfl hnow hcl hj hI0 hi hR
  obtain ⟨h3, h4⟩ := run_li (u := ⟨s, x.asked b, c, p, vl⟩) h0 rfl (by omega) hI0 hi hR
  have h5 := h1.step h3 hnow hcl (by omega) ⟨by omega, by omega⟩ hz
  have h6 : ¬ z.e = 0 ∨ 4 < z.y.asks + 1 := of_decide_eq_true hf
  have h7 : (after z).x = z.y.done := stepY_end h6
  refine ⟨⟨⟨h5.ls.ol.mono (by omega), h5.ls.mc, h5.ls.dr⟩, h5.room, h5.mt, h5.cl⟩, ?_, ?_, ?_⟩
  · rw [h7]; rfl
  · rw [h7]; rfl
  · rw [h7]; rfl
/-- Renew -/
theorem Al.renew {k : Int} {j cl : Nat} (hL : LI hk mk s x now k j) (h : Al hk mk s x now N cl) (h0 : x.asks = 0) (hn0 : x.next = []) (hs0 : x.shown = false) (hnow : now ≤ 1099511627776) (hcl : cl < 3) (hI0 : p ≤ 32 * c ∧ 32 * c < p + 32) (hz : RenR hk mk tl s x now c p vl z) :
    Al hk mk z.t z.y now (N + 1) cl ∧ LI hk mk z.t z.y now (k + 9) (j + 1) ∧ z.y.asks = 0 ∧ z.y.next = [] ∧ z.y.shown = false ∧ z.p ≤ p + 16 ∧ z.p ≤ 32 * z.c ∧ 32 * z.c < z.p + 32 := by
  have hol := h.ls.ol
  have hx : x.cl = cl := h.cl
  have hne : ∀ n, preB [108, 47] n = true → n ≠ dfName x.cl := fun n hn e => by rw [e, dfName_pre] at hn; cases hn
  rcases hz with ⟨_, rfl⟩ | ⟨_, _, rfl⟩ | ⟨_, _, c', vl', v, hc', hz⟩
  · exact ⟨⟨⟨hol.mono (by omega), h.ls.mc, fun q => by have : x.asks = 3 := q; omega⟩, h.room, h.mt, h.cl⟩, ⟨hL.at_.mono (by omega), hL.ok, hL.cl, Nat.le_succ_of_le hL.md, hL.nx, fun q => by have : x.asks = 3 := q; omega⟩, h0, hn0, hs0, Nat.le_add_right _ _, hI0⟩
  · exact ⟨⟨⟨hol.mono (by omega), h.ls.mc, h.ls.dr⟩, h.room, h.mt, h.cl⟩, ⟨hL.at_.mono (by omega), hL.ok, hL.cl, Nat.le_succ_of_le hL.md, hL.nx, hL.dr⟩, h0, hn0, hs0, Nat.le_add_right _ _, hI0⟩
  · have w1 : LkW hk mk (writeF s (dfName x.cl) v (sealL hk mk 108 (lkName x.cl x.made) (tapeN tl p 16) (mkY ⟨x.cl, x.m.a, now⟩))).1 now := hL.ok.sub (fun n hn => .inl (vw_write (hne n hn)))
    have w2 := mc_sub (t := (writeF s (dfName x.cl) v (sealL hk mk 108 (lkName x.cl x.made) (tapeN tl p 16) (mkY ⟨x.cl, x.m.a, now⟩))).1) h.ls.mc (fun n hn => .inl (vw_write (hne n hn)))
    have w3 := od_write (v := v) hol (d := dfName x.cl) dfName_pre (seal_small (hk := hk) (mk := mk) (tl := tl) (n := lkName x.cl x.made) (p := p) (m := ⟨x.cl, x.m.a, now⟩) ⟨hL.cl, hnow⟩)
    have w4 := at_write (d := dfName x.cl) (v := v) (b := sealL hk mk 108 (lkName x.cl x.made) (tapeN tl p 16) (mkY ⟨x.cl, x.m.a, now⟩)) hL.at_
    rcases hz with ⟨_, rfl⟩ | ⟨he, hz⟩
    · exact ⟨⟨⟨w3.1, w2, fun q => by have : x.asks = 3 := q; omega⟩, room_write.trans h.room, h.mt, h.cl⟩, ⟨w4.mono (by omega), w1, hL.cl, Nat.le_succ_of_le hL.md, hL.nx, fun q => by have : x.asks = 3 := q; omega⟩, h0, hn0, hs0, Nat.le_refl _, hc'⟩
    · have hw := write_ok he
      have s1 := od_show (n := lkName x.cl x.made) w3.1 df_lk (w3.2 he)
      have s4 := at_show (d := dfName x.cl) (n := lkName x.cl x.made) w4
      have hin : ∀ n b, vw (showF (writeF s (dfName x.cl) v (sealL hk mk 108 (lkName x.cl x.made) (tapeN tl p 16) (mkY ⟨x.cl, x.m.a, now⟩))).1 (dfName x.cl) (lkName x.cl x.made)).1 n = some b → preB [108, 47] n = true →
          vw (writeF s (dfName x.cl) v (sealL hk mk 108 (lkName x.cl x.made) (tapeN tl p 16) (mkY ⟨x.cl, x.m.a, now⟩))).1 n = some b ∨ (n = lkName x.cl x.made ∧ MkAt hk mk now n b ⟨x.cl, x.m.a, now⟩) := fun n b hb hn => by
        by_cases e : n = lkName x.cl x.made
        · subst e
          rcases show_n (s := (writeF s (dfName x.cl) v (sealL hk mk 108 (lkName x.cl x.made) (tapeN tl p 16) (mkY ⟨x.cl, x.m.a, now⟩))).1) (d := dfName x.cl) (n := lkName x.cl x.made) df_lk with r | r | r
          · exact .inl (r ▸ hb)
          · rw [r] at hb; cases hb
          · refine .inr ⟨rfl, hL.cl, Nat.le_refl _, tapeN tl p 16, tapeN_len, ?_⟩
            rw [r, hw] at hb; exact (Option.some.inj hb).symm
        · exact .inl (by rw [← hb]; exact (vw_show df_lk (hne n hn) e).symm)
      have s2 : LkW hk mk (showF (writeF s (dfName x.cl) v (sealL hk mk 108 (lkName x.cl x.made) (tapeN tl p 16) (mkY ⟨x.cl, x.m.a, now⟩))).1 (dfName x.cl) (lkName x.cl x.made)).1 now := fun n b hb hn => by
        rcases hin n b hb hn with r | ⟨r1, r2⟩
        · exact w1 n b r hn
        · exact ⟨by rw [r1]; exact name_small hL.cl, _, r2⟩
      have s3 : ∀ n m, HasL hk mk (showF (writeF s (dfName x.cl) v (sealL hk mk 108 (lkName x.cl x.made) (tapeN tl p 16) (mkY ⟨x.cl, x.m.a, now⟩))).1 (dfName x.cl) (lkName x.cl x.made)).1 now n m → m.c < 3 := fun n m hm => by
        obtain ⟨q1, q2, b, q3, q4⟩ := hm
        rcases hin n b q3 q2 with r | ⟨r1, r2⟩
        · exact w2 n m ⟨q1, q2, b, r, q4⟩
        · rw [q4.one q1 hnow r2]; show x.cl < 3; omega
      rcases hz with ⟨_, rfl⟩ | ⟨_, rfl⟩
      · exact ⟨⟨⟨s1, s3, fun q => by have : x.asks = 3 := q; omega⟩, (room_show.trans room_write).trans h.room, h.mt, h.cl⟩, ⟨s4.mono (by omega), s2, hL.cl, Nat.le_succ_of_le hL.md, hL.nx, fun q => by have : x.asks = 3 := q; omega⟩, h0, hn0, hs0, Nat.le_refl _, hc'⟩
      · refine ⟨⟨⟨od_del s1, mc_sub s3 (fun _ _ => sub_del), fun q => by have : x.asks = 3 := q; omega⟩, (room_del.trans (room_show.trans room_write)).trans h.room, Nat.le_refl _, h.cl⟩, ⟨(at_del s4).mono (by omega), s2.sub (fun _ _ => sub_del), hL.cl, Nat.succ_le_succ hL.md, hL.nx, fun q => by have : x.asks = 3 := q; omega⟩, h0, hn0, hs0, Nat.le_refl _, hc'⟩
theorem Al.release {k : Int} {j cl : Nat} (hL : LI hk mk s x now k j) (h : Al hk mk s x now N cl) (h0 : x.asks = 0) (n : List UInt8) : Al hk mk (s.del n).1 x.lost now N cl ∧ LI hk mk (s.del n).1 x.lost now (k + 1) j :=
  ⟨⟨⟨od_del h.ls.ol, mc_sub h.ls.mc (fun _ _ => sub_del), fun q => by have : x.asks = 3 := q; omega⟩, room_del.trans h.room, h.mt, h.cl⟩, ⟨at_del hL.at_, hL.ok.sub (fun _ _ => sub_del), hL.cl, hL.md, hL.nx, fun q => by have : x.asks = 3 := q; omega⟩⟩
theorem mc_later {d : Nat} (h : ∀ n m, HasL hk mk s now n m → m.c < 3) (hW : LkW hk mk s now) (hd : now + d ≤ 1099511627776) : ∀ n m, HasL hk mk s (now + d) n m → m.c < 3 := fun n m q => by
  obtain ⟨h1, h2, b, h3, h4⟩ := q
  obtain ⟨m', h5⟩ := hW.has (vw_some.1 h3).1 h2
  have : m = m' := HasL.one hd ⟨h1, h2, b, h3, h4⟩ h5.later
  rw [this]; exact h n m' h5
end
end Go.Proofs.YtkkjfojgjmglpaaGreatDoor
set_option linter.unusedSimpArgs false
set_option linter.unusedVariables false
namespace Go.Proofs.YtkkjfojgjmglpaaGreatDoor
open Go
set_option maxHeartbeats 1000000
attribute [local irreducible] sealL tapeN tapeL lkName dfName preB
structure DI (cs0 : List Cl) (n now : Nat) (s : Sh) (cs : List Cl) : Prop where
  n20 : n ≤ 20
  nw : now ≤ 2500 * n
  lc : cs.length = 4
  lbs : cs.map Cl.lb = cs0.map Cl.lb
  at_ : ShAt s (8020 * n)
  ok : LkW (rq 1) (rq 2) s now
  room : s.room = 100000
  ol : Ol s.obs (4 * n)
  mc : ∀ a m, HasL (rq 1) (rq 2) s now a m → m.c < 3
  hand : ∀ j, j < 4 → (xsOf cs j).cl = j ∧ (xsOf cs j).made ≤ 4 * n ∧ (xsOf cs j).asks = 0 ∧ (xsOf cs j).next = [] ∧ (xsOf cs j).shown = false ∧ (xsOf cs j).m.t ≤ now
  three : xsOf cs 3 = lk0 3
  tape : ∀ j, j < 4 → (cs.getD j dCl).tl = [UInt8.ofNat j] ∧ ((cs.getD j dCl).p ≤ 32 * (cs.getD j dCl).c ∧ 32 * (cs.getD j dCl).c < (cs.getD j dCl).p + 32) ∧ (cs.getD j dCl).p ≤ 64 * n
variable {cs0 cs : List Cl} {n now i : Nat} {s t : Sh} {k k' : Cl}
theorem di_0 (h : cs.length = 4) (hf : Fresh cs) : DI cs 0 0 (newS 100000) cs := by
  have hx : ∀ j, j < 4 → xsOf cs j = lk0 j := fun j hj => (hf j (by omega)).1
  refine ⟨by omega, by omega, h, rfl, at_new (by omega), lkw_new, rfl, ⟨(fun _ h => nomatch h), Nat.le_refl _, (fun _ h => nomatch h)⟩, fun a m q => (nomatch (lst_new a m).1 q), fun j hj => ?_, hx 3 (by omega), fun j hj => ?_⟩
  · rw [hx j hj]; exact ⟨rfl, Nat.zero_le _, rfl, rfl, rfl, Nat.le_refl _⟩
  · obtain ⟨q1, q2, q3⟩ := (hf j (by omega)).2
    rw [q2, q3]; exact ⟨q1, ⟨by omega, by omega⟩, by omega⟩
theorem DI.li (h : DI cs0 n now s cs) {j : Nat} (hj : j < 4) : LI (rq 1) (rq 2) s (xsOf cs j) now (8020 * n) (4 * n) := by
  obtain ⟨h1, h2, h3, h4, _⟩ := h.hand j hj
  exact ⟨h.at_, h.ok, by omega, h2, by rw [h4]; exact Nat.zero_lt_succ _, fun q => by omega⟩
theorem DI.al (h : DI cs0 n now s cs) {j : Nat} (hj : j < 4) : Al (rq 1) (rq 2) s (xsOf cs j) now (4 * n) j := by
  obtain ⟨h1, h2, h3, h4, h5, h6⟩ := h.hand j hj
  exact ⟨⟨h.ol, h.mc, fun q => by omega⟩, h.room, h6, h1⟩
theorem DI.skip (h : DI cs0 n now s cs) (hn : n < 20) : DI cs0 (n + 1) now s cs :=
  ⟨by omega, by have := h.nw; omega, h.lc, h.lbs, h.at_.mono (by omega), h.ok, h.room, h.ol.mono (by omega), h.mc, fun j hj => by
    obtain ⟨h1, h2, h3⟩ := h.hand j hj
    exact ⟨h1, by omega, h3⟩, h.three, fun j hj => by
    obtain ⟨h1, h2, h3⟩ := h.tape j hj
    exact ⟨h1, h2, by omega⟩⟩
theorem DI.tick (h : DI cs0 n now s cs) (hn : n < 20) {d : Nat} (hd : d < 2500) : DI cs0 (n + 1) (now + d) s cs := by
  have g := h.skip hn
  have hw := h.nw
  exact ⟨g.n20, by omega, g.lc, g.lbs, g.at_, h.ok.later, g.room, g.ol, mc_later h.mc h.ok (by omega), fun j hj => by
    obtain ⟨h1, h2, h3, h4, h5, h6⟩ := g.hand j hj
    exact ⟨h1, h2, h3, h4, h5, by omega⟩, g.three, g.tape⟩
theorem DI.arm (h : DI cs0 n now s cs) {a : Nat} (ha : a < 8) : DI cs0 n now (s.armed a) cs :=
  ⟨h.n20, h.nw, h.lc, h.lbs, ⟨h.at_.nodup, ⟨by show -1 ≤ (a : Int); omega, by show (a : Int) < _; omega⟩, h.at_.made, h.at_.room, h.at_.sum, h.at_.len, h.at_.names, h.at_.bytes⟩, fun a b hb hp => h.ok a b hb hp, h.room, h.ol, fun a m q => h.mc a m ⟨q.1, q.2.1, q.2.2⟩, h.hand, h.three, h.tape⟩
theorem DI.put (h : DI cs0 n now s cs) (hn : n < 20) (hi : i < 3) (hk : cs.getD i dCl = k) (e1 : k'.lb = k.lb) (e2 : k'.tl = k.tl) (ha : Al (rq 1) (rq 2) t k'.x now (4 * (n + 1)) i) {kk : Int} (hkk : kk ≤ 8020 * (n + 1)) {jj : Nat} (hjj : jj ≤ 4 * (n + 1)) (hl : LI (rq 1) (rq 2) t k'.x now kk jj) (h0 : k'.x.asks = 0 ∧ k'.x.next = [] ∧ k'.x.shown = false)
    (ht : k'.p ≤ k.p + 64 ∧ k'.p ≤ 32 * k'.c ∧ 32 * k'.c < k'.p + 32) : DI cs0 (n + 1) now t (cs.set i k') := by
  have hc := h.lc
  have hyj : ∀ j, j ≠ i → xsOf (cs.set i k') j = xsOf cs j := fun j hj => by unfold xsOf; rw [getD_set (by omega), if_neg hj]
  have hyi : xsOf (cs.set i k') i = k'.x := by unfold xsOf; rw [getD_set (by omega), if_pos rfl]
  refine ⟨by omega, by have := h.nw; omega, by rw [List.length_set]; exact hc, (lbs_set hk e1).trans h.lbs, hl.at_.mono (by omega), hl.ok, ha.room, ha.ls.ol, ha.ls.mc, fun j hj => ?_, ?_, fun j hj => ?_⟩
  · by_cases e : j = i
    · subst e
      rw [hyi]
      exact ⟨ha.cl, Nat.le_trans hl.md hjj, h0.1, h0.2.1, h0.2.2, ha.mt⟩
    · rw [hyj j e]
      obtain ⟨h1, h2, h3⟩ := h.hand j hj
      exact ⟨h1, by omega, h3⟩
  · rw [hyj 3 (by omega)]; exact h.three
  · rw [getD_set (by omega)]
    by_cases e : j = i
    · subst e
      rw [if_pos rfl, e2, ← hk]
      have q := h.tape j hj
      have : k'.p ≤ (cs.getD j dCl).p + 64 := by rw [hk]; exact ht.1
      exact ⟨q.1, ht.2, by omega⟩
    · rw [if_neg e]
      obtain ⟨h1, h2, h3⟩ := h.tape j hj
      exact ⟨h1, h2, by omega⟩
theorem xs_k (hk : cs.getD i dCl = k) : xsOf cs i = k.x := by unfold xsOf; rw [hk]
theorem DI.take {b : Bool} {q : St5} {e : Nat} (h : DI cs0 n now s cs) (hn : n < 20) (hi : i < 3) (hk : cs.getD i dCl = k) (hz : TkI (rq 1) (rq 2) k.tl now ⟨s, k.x.asked b, k.c, k.p, k.vl⟩ (8020 * n) (4 * n) q true e) : DI cs0 (n + 1) now q.s (cs.set i ⟨k.lb, k.tb, k.vb, q.x, k.tl, q.c, q.p, q.vl⟩) := by
  have hw := h.nw
  have hx := xs_k hk
  have hli := h.li (j := i) (by omega)
  have hal := h.al (j := i) (by omega)
  rw [hx] at hli hal
  have ht := (h.tape i (by omega)).2.1
  rw [hk] at ht
  obtain ⟨a1, a2⟩ := hz.took
  have b1 := Al.took hli hal (by omega) hi (by omega) ht a1
  have b2 := hz.tape
  exact h.put hn hi hk rfl rfl ⟨⟨b1.1.ls.ol.mono (by omega), b1.1.ls.mc, b1.1.ls.dr⟩, b1.1.room, b1.1.mt, b1.1.cl⟩ (kk := 8020 * n + 8020) (by omega) (jj := 4 * n + 4) (by omega) a2 b1.2 b2
theorem DI.renew {z : Stp} (h : DI cs0 n now s cs) (hn : n < 20) (hi : i < 3) (hk : cs.getD i dCl = k) (hz : RenR (rq 1) (rq 2) k.tl s k.x now k.c k.p k.vl z) : DI cs0 (n + 1) now z.t (cs.set i ⟨k.lb, k.tb, k.vb, z.y, k.tl, z.c, z.p, z.vl⟩) := by
  have hw := h.nw
  have hx := xs_k hk
  have hli := h.li (j := i) (by omega)
  have hal := h.al (j := i) (by omega)
  obtain ⟨_, _, g1, g2, g3, _⟩ := h.hand i (by omega)
  rw [hx] at hli hal g1 g2 g3
  have ht := (h.tape i (by omega)).2.1
  rw [hk] at ht
  obtain ⟨b1, b2, b3, b4, b5, b6, b7⟩ := Al.renew hli hal g1 g2 g3 (by omega) hi ht hz
  exact h.put hn hi hk rfl rfl ⟨⟨b1.ls.ol.mono (by omega), b1.ls.mc, b1.ls.dr⟩, b1.room, b1.mt, b1.cl⟩ (kk := 8020 * n + 9) (by omega) (jj := 4 * n + 1) (by omega) b2 ⟨b3, b4, b5⟩ ⟨by show z.p ≤ _; omega, b7⟩
theorem DI.release (h : DI cs0 n now s cs) (hn : n < 20) (hi : i < 3) (hk : cs.getD i dCl = k) : DI cs0 (n + 1) now (s.del k.x.own).1 (cs.set i ⟨k.lb, k.tb, k.vb, k.x.lost, k.tl, k.c, k.p, k.vl⟩) := by
  have hx := xs_k hk
  have hli := h.li (j := i) (by omega)
  have hal := h.al (j := i) (by omega)
  obtain ⟨_, _, g1, g2, g3, _⟩ := h.hand i (by omega)
  rw [hx] at hli hal g1 g2 g3
  have ht := (h.tape i (by omega)).2.1
  rw [hk] at ht
  obtain ⟨b1, b2⟩ := Al.release hli hal g1 k.x.own
  exact h.put hn hi hk rfl rfl ⟨⟨b1.ls.ol.mono (by omega), b1.ls.mc, b1.ls.dr⟩, b1.room, b1.mt, b1.cl⟩ (kk := 8020 * n + 1) (by omega) (jj := 4 * n) (by omega) b2 ⟨g1, g2, g3⟩ ⟨by show k.p ≤ _; omega, ht⟩
/-! ### the crash -/
theorem vw_mem {n b : List UInt8} (hn : (s.obs.map Ob.name).Nodup) : vw s n = some b ↔ ∃ o ∈ s.obs, o.name = n ∧ o.b = b := by
  rw [vw_some]
  constructor
  · rintro ⟨h1, h2⟩
    exact ⟨_, (lkO_name h1).2, (lkO_name h1).1, h2⟩
  · rintro ⟨o, ho, e1, e2⟩
    have h1 : hasO s.obs n := List.mem_map.2 ⟨o, ho, e1⟩
    have : lkO s.obs n = o := one_name hn (lkO_name h1).2 ho ((lkO_name h1).1.trans e1.symm)
    exact ⟨h1, by rw [this]; exact e2⟩
theorem crash_vw {p : List Int} {n : List UInt8} {N : Nat} (hn : (s.obs.map Ob.name).Nodup) (h : Ol s.obs N) (hp : preB [108, 47] n = true) : vw (s.crash p) n = vw s n := by
  obtain ⟨t, h1, h2⟩ := crash_rel (p := p) hn
  rw [h2]
  apply Option.ext
  intro b
  have hn2 : (t.calmed.obs.map Ob.name).Nodup := h1.nodup
  rw [vw_mem hn2, vw_mem hn]
  constructor
  · rintro ⟨o, ho, e1, e2⟩
    obtain ⟨u, hu, q1, _, q3⟩ := h1.mem o ho
    have hs := h.sure u hu (by rw [← q1, e1]; exact hp)
    exact ⟨u, hu, by rw [← q3 hs]; exact e1, by rw [← q3 hs]; exact e2⟩
  · rintro ⟨o, ho, e1, e2⟩
    exact ⟨o, h1.sure o ho (h.sure o ho (by rw [e1]; exact hp)), e1, e2⟩
theorem lst_of {hk mk : List UInt8} (hW : LkW hk mk s now) (hnow : now ≤ 1099511627776) : Lst hk mk s now ((lsN s [108, 47]).map (fun n => (n, moOf hk mk s now n))) := fun n m => by
  rw [List.mem_map]
  constructor
  · rintro ⟨h1, h2, b, h3, h4⟩
    exact ⟨n, lsN_mem.2 ⟨(vw_some.1 h3).1, h2⟩, by rw [mo_at h1 hnow h3 h4]⟩
  · rintro ⟨a, ha, e⟩
    obtain ⟨h1, h2⟩ := lsN_mem.1 ha
    obtain ⟨m', h3⟩ := hW.has h1 h2
    obtain ⟨q1, _, b, q3, q4⟩ := id h3
    rw [mo_at q1 hnow q3 q4] at e
    cases e
    exact h3
theorem DI.crash {p : List Int} (h : DI cs0 n now s cs) : ∃ L, Wd (rq 1) (rq 2) (s.crash p) now 160400 80 L ∧ ∀ q ∈ L, q.2.c < 3 := by
  have hw := h.nw
  have hn := h.n20
  have hv : ∀ n, preB [108, 47] n = true → vw (s.crash p) n = vw s n := fun n hp => crash_vw h.at_.nodup h.ol hp
  have hW : LkW (rq 1) (rq 2) (s.crash p) now := h.ok.sub (fun n hp => .inl (hv n hp))
  have hL := lst_of hW (by omega)
  refine ⟨_, ⟨(crash_at h.at_).mono (by omega), hW, ?_, hL⟩, fun q hq => ?_⟩
  · obtain ⟨t, h1, h2⟩ := crash_rel (p := p) h.at_.nodup
    rw [h2]
    exact ⟨⟨rfl, rfl⟩, h1.same.2.2.2.trans h.room, fun o ho => by
      obtain ⟨u, hu, _, q2, _⟩ := h1.mem o ho
      have := h.ol.small u hu; omega, by show t.obs.length ≤ 80; have := h1.len; have := h.ol.len; omega⟩
  · exact mc_sub h.mc (fun n hp => .inl (hv n hp)) q.1 q.2 ((hL q.1 q.2).2 hq)
/-! ### behind it -/
section
variable {hk mk tl : List UInt8} {x : Lk} {c p N : Nat} {K : Int} {vl : Value} {L : List (List UInt8 × Mk)}
theorem Wd.time (h : Wd hk mk s now K N L) : ∀ q ∈ L, q.2.t ≤ now := fun q hq => by
  obtain ⟨_, _, b, _, _, h5, _⟩ := (h.lst q.1 q.2).2 hq
  exact h5
theorem lst_g {cl j : Nat} (hnow : now ≤ 1099511627776) (h : Lst hk mk s now L) (hq : TkQ hk mk s t now cl j false) : Lst hk mk t now ((lkName cl j, ⟨cl, false, now⟩) :: L.filter (fun q => !decide (q.1 = lkName cl j))) := fun n m => by
  constructor
  · intro q
    by_cases e : n = lkName cl j
    · subst e; rw [q.one hnow hq.mine]; exact List.mem_cons_self ..
    · rcases hq.keep n q.ne_df e with r | r
      · exact List.mem_cons_of_mem _ (List.mem_filter.2 ⟨(h n m).1 (q.vw r.symm), by simpa using e⟩)
      · cases r.2.1
  · intro q
    rcases List.mem_cons.1 q with q | q
    · cases q; exact hq.mine
    · obtain ⟨q1, q2⟩ := List.mem_filter.1 q
      have h1 := (h n m).2 q1
      rcases hq.keep n h1.ne_df (by simpa using q2) with r | r
      · exact h1.vw r
      · cases r.2.1
theorem wd_g {j e : Nat} {q : St5} (h : Wd hk mk s now K N L) (r : Rest x) (hm : x.made ≤ j) (hj : j < 90) (hnow : now ≤ 1099511627776) (hN : N < 400) (hI0 : p ≤ 32 * c ∧ 32 * c < p + 32) (hc : ¬ ∃ q ∈ L, ¬ q.2.c = x.cl ∧ holdsP now q.2 ∧ (false = true ∨ q.2.a = true))
    (hz : TkI hk mk tl now ⟨s, x.asked false, c, p, vl⟩ K j q true e) : e = 0 ∧ q.x = x.has false now ∧ Wd hk mk q.s now (K + 8020) (N + 1) ((lkName x.cl x.made, ⟨x.cl, false, now⟩) :: L.filter (fun q => !decide (q.1 = lkName x.cl x.made))) := by
  obtain ⟨h1, h9⟩ := hz.took
  rcases take_q (h.li r hm) hj hnow h.qt hN hI0 r.shown h1 with ⟨h2, _⟩ | ⟨_, h2, h3, h4, h5⟩
  · exact (hc ((conf_lst h.lst).1 h2)).elim
  · exact ⟨h2, h4, ⟨h9.at_, h9.ok, h3, lst_g hnow h.lst h5⟩⟩
theorem old_free {cl : Nat} {b : Bool} (h : ∀ q ∈ L, q.2.t ≤ now) : ¬ ∃ q ∈ L, ¬ q.2.c = cl ∧ holdsP (now + 1001) q.2 ∧ (b = true ∨ q.2.a = true) := fun ⟨q, h1, _, h2, _⟩ => by
  have := h q h1
  unfold holdsP at h2; omega
/-- client 3's first try -/
theorem die_1 {q : St5} {e : Nat} (h : Wd hk mk s now K N L) (hL : ∀ q ∈ L, q.2.c < 3) (hx : x = lk0 3) (hnow : now ≤ 1099511627776) (hN : N < 400) (hI0 : p ≤ 32 * c ∧ 32 * c < p + 32) (hz : TkI hk mk tl now ⟨s, x.asked true, c, p, vl⟩ K 0 q true e) :
    (e = 12 ∧ Wd hk mk q.s now K N L ∧ q.x = (lk0 3).not true) ∨ (e = 0 ∧ q.x = (lk0 3).has true now ∧ Wd hk mk q.s now (K + 8020) (N + 1) [(lkName 3 0, ⟨3, true, now⟩)]) := by
  subst hx
  have r : Rest (lk0 3) := ⟨(by decide : 3 < 100), rfl, rfl, rfl⟩
  by_cases hc : ∃ q ∈ L, ¬ q.2.c = (lk0 3).cl ∧ holdsP now q.2 ∧ (true = true ∨ q.2.a = true)
  · obtain ⟨h1, h2, h3⟩ := wd_no (j := 0) h r (Nat.le_refl _) (by omega) hnow hN hI0 hc hz
    exact .inl ⟨h1, by rw [h2]; exact h, h3⟩
  · obtain ⟨h1, h2, h3⟩ := wd_t (j := 0) h r (Nat.le_refl _) (by omega) hnow hN hI0 hc (fun q hq _ e => by
      have := hL q hq
      have e : q.2.c = 3 := e
      omega) hz
    exact .inr ⟨h1, h2, h3⟩
theorem lst_one {m : Mk} {n : List UInt8} (h : Lst hk mk s now [(n, m)]) (hW : LkW hk mk s now) (hn : (s.obs.map Ob.name).Nodup) : (lsN s [108, 47]).length = 1 := by
  have h1 : ∀ a ∈ lsN s [108, 47], a = n := fun a ha => by
    obtain ⟨q1, q2⟩ := lsN_mem.1 ha
    obtain ⟨m', q3⟩ := hW.has q1 q2
    have := (h a m').1 q3
    rw [List.mem_singleton] at this
    exact congrArg Prod.fst this
  have h2 : n ∈ lsN s [108, 47] := by
    have q := (h n m).2 (List.mem_singleton.2 rfl)
    exact lsN_mem.2 ⟨q.has, q.2.1⟩
  have h3 : (lsN s [108, 47]).Nodup := lsN_nodup hn
  match hl : lsN s [108, 47] with
  | [] => rw [hl] at h2; cases h2
  | [a] => rfl
  | a :: b :: l =>
    rw [hl] at h1 h3
    have e1 := h1 a (List.mem_cons_self ..)
    have e2 := h1 b (List.mem_cons_of_mem _ (List.mem_cons_self ..))
    rw [List.nodup_cons] at h3
    exact (h3.1 (by rw [e1, ← e2]; exact List.mem_cons_self ..)).elim
end
end Go.Proofs.YtkkjfojgjmglpaaGreatDoor
