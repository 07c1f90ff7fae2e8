/- Texts of the claim LogCrashes, part 5 of 6: LogAt, LogK, LogRef, LogL, LogM, LogN, LogF, LogG, LogTwoP, LogAddsP, LogAddQ, LogQ, LogCrP, LogP, LogPw, ConvU, CrashP, LogCrash, LogFill, LogS, LockPure, LogMend, LockA, LockB, LogMendB, LogT, LockO, LogNight. Own work. -/
import Derived.Test.YtnhpghhibcdklaaGreatDoorPtLogCrashes4
set_option linter.unusedSimpArgs false
set_option linter.unusedVariables false
namespace Go.Proofs.YtnhpghhibcdklaaGreatDoor
open Go
structure LogAt (s : Sh) (n : Nat) (k : Int) : Prop where
  sh : ShAt s k
  calm : Calm s
  names : s.obs.map Ob.name = (List.range n).map (fun i => nameR (i + 1))
  small : ∀ o ∈ s.obs, o.b.length ≤ 3000
  room : s.room = 4194304
theorem logAt_new : LogAt (newS 4194304) 0 0 :=
  ⟨⟨List.nodup_nil, by decide, by decide, by decide, by decide, by decide, (fun _ h => nomatch h), (fun _ h => nomatch h)⟩, ⟨rfl, rfl⟩, rfl, (fun _ h => nomatch h), rfl⟩
theorem sumO_small {l : List Ob} (h : ∀ o ∈ l, o.b.length ≤ 3000) : sumO l ≤ 3000 * l.length := by
  induction l with
  | nil => exact Nat.zero_le _
  | cons o l ih =>
    have h1 := h o (List.mem_cons_self ..)
    have h2 := ih (fun o ho => h o (List.mem_cons_of_mem _ ho))
    unfold sumO at h2 ⊢
    rw [List.map_cons, List.sum_cons, List.length_cons]; omega
theorem LogAt.len {s : Sh} {n : Nat} {k : Int} (h : LogAt s n k) : s.obs.length = n := by
  have := congrArg List.length h.names
  simpa using this
theorem LogAt.hasnt {s : Sh} {n : Nat} {k : Int} (h : LogAt s n k) (hn : n + 1 < 100) : ¬ hasO s.obs (nameR (n + 1)) := fun q => by
  unfold hasO at q
  rw [h.names] at q
  obtain ⟨i, hi, e⟩ := List.mem_map.1 q
  have hi := List.mem_range.1 hi
  have := nameR_inj (by omega) (by omega) e
  omega
theorem LogAt.hasd {s : Sh} {n : Nat} {k : Int} (h : LogAt s n k) {mm : List UInt8} : ¬ hasO s.obs (drL mm) := fun q => by
  unfold hasO at q
  rw [h.names] at q
  obtain ⟨i, _, e⟩ := List.mem_map.1 q
  exact drL_ne (k := i + 1) rfl e.symm
theorem LogAt.pub {s : Sh} {n : Nat} {k : Int} (h : LogAt s n k) (hn : n + 1 < 100) {b : List UInt8} (hb : b.length ≤ 3000) (v : Value) : s.pub (nameR (n + 1)) v b = (s.with4 (nameR (n + 1)) v b, 0) := by
  have h1 := sumO_small h.small
  have h2 := h.len
  exact pub_calm h.calm (nameR_nm hn).1 (h.hasnt hn) h.hasd (drL_ne rfl) (by omega) (by rw [h.room]; omega) (by omega)
theorem LogAt.next {s : Sh} {n : Nat} {k : Int} (h : LogAt s n k) (hn : n + 1 < 100) {b : List UInt8} (hb : b.length ≤ 3000) (v : Value) : LogAt (s.with4 (nameR (n + 1)) v b).tick (n + 1) (k + 6) := by
  have h1 := at_pub (nm := nameR (n + 1)) (v := v) (b := b) h.sh
  rw [h.pub hn hb v] at h1
  refine ⟨⟨h1.nodup, h1.left, ⟨?_, ?_⟩, h1.room, h1.sum, h1.len, h1.names, h1.bytes⟩, calm_tick (with4_calm h.calm), ?_, ?_, h.room⟩
  · have := h1.made.1
    show 0 ≤ _ + 1
    dsimp only at this; omega
  · have := h1.made.2
    show _ + 1 ≤ k + 6
    dsimp only at this; omega
  · show (s.obs ++ [_]).map Ob.name = _
    rw [List.map_append, h.names, List.range_succ, List.map_append]; rfl
  · intro o ho
    rcases List.mem_append.1 (show o ∈ s.obs ++ [⟨nameR (n + 1), v, b, true⟩] from ho) with ho | ho
    · exact h.small o ho
    · rw [List.mem_singleton.1 ho]; exact hb
end Go.Proofs.YtnhpghhibcdklaaGreatDoor
set_option linter.unusedSimpArgs false
set_option linter.unusedVariables false
namespace Go.Proofs.YtnhpghhibcdklaaGreatDoor
open Go Go.RowKit
set_option maxRecDepth 100000
/-- the sum that the next record names -/
def laAt (hk mk : List UInt8) (rs : List Rec) (Ns : Nat → List UInt8) : Nat → List UInt8
  | 0 => List.replicate 32 0
  | i + 1 => sumL (sealL hk mk 115 (nameR (i + 1)) (Ns i) (bareQ (laAt hk mk rs Ns i) (rs.getD i dRec)))
theorem laAt_len {hk mk : List UInt8} {rs : List Rec} {Ns : Nat → List UInt8} : ∀ {j : Nat}, (laAt hk mk rs Ns j).length = 32
  | 0 => by rw [laAt]; simp
  | j + 1 => by rw [laAt]; exact sumL_len
/-- what a store holds of a log's records -/
structure HasLog (hk mk : List UInt8) (s : Sh) (rs : List Rec) (Ns : Nat → List UInt8) : Prop where
  get : ∀ {i}, i < rs.length → s.get (nameR (i + 1)) = (0, sealL hk mk 115 (nameR (i + 1)) (Ns i) (bareQ (laAt hk mk rs Ns i) (rs.getD i dRec)))
  nonce : ∀ {i}, i < rs.length → (Ns i).length = 16
  bnd : ∀ {i}, i < rs.length → Bnd (rs.getD i dRec)
  right : ∀ {i}, i < rs.length → rightR (rs.getD i dRec)
  fits : ∀ {i}, i < rs.length → fitsR (rs.take i) (rs.getD i dRec)
attribute [local irreducible] sumL keyedL hexL strL sealF sealL tapeL tapeN
theorem lopen_spec {hk mk nk : List UInt8} {tb sb cb mb : Nat} {s : Sh} {rs : List Rec} {Ns : Nat → List UInt8} {w : World} (h3 : hk.length = 32 ∧ mk.length = 32 ∧ nk.length = 32) (hok : ShOk s) (hof : s.off = false) (hrl : rs.length < 99) (hls : HasLog hk mk s rs Ns) (hg : Ro (Fs [cel cb ([PT sb, I (((rs.length : Nat) : Int))]) 168, cel sb ([Value.map (some mb), I (s.left), .bool s.off, I (s.made), I (s.room)]) 159, mapS mb (kvO s.obs), bag (s.obs.map (obR 5))]) w glob) (hh : Pre w [cel cb ([PT sb, I (((rs.length : Nat) : Int))]) 168, cel sb ([Value.map (some mb), I (s.left), .bool s.off, I (s.made), I (s.room)]) 159, mapS mb (kvO s.obs), bag (s.obs.map (obR 5))]) : Spec Tryz.prog 26 [PT sb, .agg (hk.map B ++ (mk.map B ++ (nk.map B ++ ([PT tb])))).toArray, PT cb] w [cel cb ([PT sb, I (((rs.length : Nat) : Int))]) 168, cel sb ([Value.map (some mb), I (s.left), .bool s.off, I (s.made), I (s.room)]) 159, mapS mb (kvO s.obs), bag (s.obs.map (obR 5))] (fun _ : Nat × Value => True) (fun x => .tuple #[PT x.1, I 0])
    (fun x => [cel x.1 (hk.map B ++ (mk.map B ++ (nk.map B ++ ([PT tb, PT sb, PT cb, x.2] ++ ((laAt hk mk rs Ns rs.length).map B))))) 138, own x.2 rs.length (rs.flatMap rcC) 33 36, cel cb ([PT sb, I (((rs.length : Nat) : Int))]) 168, cel sb ([Value.map (some mb), I (s.left), .bool s.off, I (s.made), I (s.room)]) 159, mapS mb (kvO s.obs), bag (s.obs.map (obR 5))]) := by
  refine spec_of (n := 84) Tryz.func26 rfl rfl hh.1 hh.2 rfl ?_
  obtain ⟨hk32, mk32, nk32⟩ := h3
  have hqh : True := trivial
  have hlz : laAt hk mk rs Ns 0 = List.replicate 32 0 := rfl
  refine s_r <| tk_act rfl <| a_boxL (cs := hk.map B ++ (mk.map B ++ (nk.map B ++ ([PT tb])))) rfl rfl fun b4 => q_a rfl rfl <| q_a rfl rfl <| s_n <| tk_seq <| s_r <| q_m rfl rfl <| s_q rfl (y_pnil rfl rfl rfl) <| q_m rfl rfl <| s_g rfl (y_move rfl) <| s_g rfl (y_pnil rfl rfl rfl) <| s_q rfl (y_pick0 rfl rfl) <| s_n <| tk_cond0 rfl <| tk_skip <| tk_then <| s_r <| q_m rfl rfl <| tk_act rfl <| tk_ps [4, 4, 4, 4] rfl <| a_callv [] _ rfl kR rfl (fun w' hw' => cread_spec (s := s) (cb := cb) (cn := (((rs.length : Nat) : Int))) hok (St.pre hw')) rfl fun _ _ => tk_re 24 (.tuple #[I ((if s.off = true then 0 else (((rs.length : Nat) : Int)))), I (((if s.off = true then 9 else 0) : Nat) : Int)]) (.tuple #[IN rs.length, I 0]) rfl (by rw [hof]; rfl) ?_; refine q_m rfl rfl <| s_q rfl (y_extract rfl rfl) <| s_q rfl (y_extract rfl rfl) <| q_a rfl rfl <| q_a rfl rfl <| s_n <| tk_seq <| s_r <| q_m rfl rfl <| s_q rfl ((y_neq rfl rfl).cast (bool_f dC)) <| s_n <| tk_cond0 rfl <| tk_skip <| tk_then <| s_r <| s_q rfl (y_loadA 97 rfl kR (by simp [hqh, hk32, mk32, nk32, laAt_len]) (hcw (mm 4 rfl))) <| q_m rfl rfl <| q_m rfl rfl <| s_q rfl (y_build (v := .agg (hk.map B ++ (mk.map B ++ (nk.map B ++ ([PT tb, PT sb, PT cb, .slice none 0 0] ++ ((List.replicate 32 0).map B))))).toArray) (vs := [(0, .agg (hk.map B ++ (mk.map B ++ (nk.map B ++ ([PT tb])))).toArray), (1, PT sb), (2, PT cb)]) rfl (run_build (zs := (List.replicate 32 0).map B ++ ((List.replicate 32 0).map B ++ ((List.replicate 32 0).map B ++ ([Value.pointer none, .pointer none, .pointer none, .slice none 0 0] ++ ((List.replicate 32 0).map B))))) (pl := [(0, 97), (97, 1), (98, 1), (99, 1), (100, 32)]) Tryz.underlying138 (fun _ => kR) (fun _ => kR) (fill_log hk32 mk32 nk32))) <| tk_act rfl <| a_boxL (cs := hk.map B ++ (mk.map B ++ (nk.map B ++ ([PT tb, PT sb, PT cb, .slice none 0 0] ++ ((List.replicate 32 0).map B))))) rfl rfl fun b34 => q_a rfl rfl <| s_n <| tk_seq ?_; refine s_r <| q_a rfl rfl <| s_n <| tk_block <| tk_ownA0 (f := rcC) 36 33 <| tk_R (H1 := []) rfl (show own (.slice none 0 0) (([] : List Rec).length) (([] : List Rec).flatMap rcC) 33 36 = own (.slice none 0 0) ((rs.take 0).length) ((rs.take 0).flatMap rcC) 33 36 from ownA_cast rfl) <| tk_loop (X := Nat × Value) (fun (j, vo) => j ≤ rs.length) (fun (j, vo) => [(0, PT sb), (8, IN rs.length), (10, PT b34), (11, I (((j + 1) : Nat) : Int))]) (fun (j, vo) => [own vo ((rs.take j).length) ((rs.take j).flatMap rcC) 33 36, cel b34 (hk.map B ++ (mk.map B ++ (nk.map B ++ ([PT tb, PT sb, PT cb, vo] ++ ((laAt hk mk rs Ns j).map B))))) 138, cel cb ([PT sb, I (((rs.length : Nat) : Int))]) 168, cel sb ([Value.map (some mb), I (s.left), .bool s.off, I (s.made), I (s.room)]) 159, mapS mb (kvO s.obs), bag (s.obs.map (obR 5)), cel b4 (hk.map B ++ (mk.map B ++ (nk.map B ++ ([PT tb])))) 50]) (fun (j, vo) => rs.length - j) ((0, .slice none 0 0)) (Nat.zero_le _) sB ((List.Sublist.refl _)) ?_
  rintro ⟨j, vo⟩ hI
  try dsimp only at hI ⊢
  have hla : (laAt hk mk rs Ns j).length = 32 := laAt_len
  have hjl : (rs.take j).length = j := by rw [List.length_take]; omega
  refine tk_ownA (.head _) fun hfo => tk_seq <| s_r <| q_m rfl rfl <| q_m rfl rfl <| s_q rfl (y_leq rfl rfl) <| s_n <| tk_condP rfl (fun ht37 => ?_) (fun ht37 => ?_)
  · have hj : j < rs.length := by omega
    have hbq := hls.bnd hj
    have hrq := hls.right hj
    have hfq := hls.fits hj
    have hNj := hls.nonce hj
    have hget := hls.get hj
    generalize hqq : rs.getD j dRec = q at hbq hrq hfq hget
    have hqh := q.s.h
    have hbl := bareQ_len (la := laAt hk mk rs Ns j) laAt_len hbq
    have hsl : (sealL hk mk 115 (nameR (j + 1)) (Ns j) (bareQ (laAt hk mk rs Ns j) q)).length = (bareQ (laAt hk mk rs Ns j) q).length + 48 := sealL_len hNj
    have hnt : q.s.note.length < 9223372036854775808 := by have := hbq.2.2.2; omega
    refine tk_skip <| tk_then <| tk_seq <| tk_block <| s_r <| q_m rfl rfl <| q_m rfl rfl <| tk_act rfl <| a_callv [] _ rfl kR rfl (fun w' hw' => lname_spec (n := (j + 1)) lenP) rfl fun _ _ => tk_act rfl <| tk_ps [5, 5, 5] rfl <| a_callv [] _ rfl kR rfl (fun w' hw' => get_spec (s := s) (sb := sb) (mb := mb) (na := nameR (j + 1)) hok (St.pre hw')) rfl fun v44 _ => tk_R (H1 := []) rfl (show ownB v44 ((s.get (nameR (j + 1))).2) 5 = ownB v44 (sealL hk mk 115 (nameR (j + 1)) (Ns j) (bareQ (laAt hk mk rs Ns j) q)) 5 from ownM_cast (by rw [hget])) <| tk_own1 (.head _) fun hf44 => tk_re 44 (.tuple #[v44, I (((s.get (nameR (j + 1))).1 : Nat) : Int)]) (.tuple #[v44, I 0]) rfl (by rw [hget]; rfl) <| q_m rfl rfl <| s_q rfl (y_extract rfl rfl) <| s_q rfl (y_extract rfl rfl) <| q_a rfl rfl <| q_a rfl rfl <| s_n <| tk_seq <| s_r <| q_m rfl rfl ?_; refine s_q rfl ((y_eql rfl rfl).cast (bool_f dC)) <| s_n <| tk_cond0 rfl <| tk_skip <| tk_then <| tk_seq <| s_r <| q_m rfl rfl <| s_q rfl ((y_neq rfl rfl).cast (bool_f dC)) <| s_n <| tk_cond0 rfl <| tk_skip <| tk_then <| s_r <| q_m rfl rfl <| q_m rfl rfl <| q_m rfl rfl <| tk_act rfl <| tk_ps [5] rfl <| a_callv [] _ rfl kR rfl (fun w' hw' => lread_spec (q := q) (N := (Ns j)) (n := (j + 1)) (hk := hk) (mk := mk) (nk := nk) (tb := tb) (cb := cb) (lb := b34) (rv := vo) (rs := rs.take j) (la := laAt hk mk rs Ns j) ⟨lenP, lenP, lenP⟩ laAt_len hNj lenP hbq hrq (Ro.own (H0 := _) hw' (.head _)) (hg.call hw') (St.pre hw')) rfl fun _ _ => q_m rfl rfl <| s_q rfl (y_extract rfl rfl) <| s_q rfl (y_extract rfl rfl) <| tk_act rfl ?_; refine a_allocL (cs := [I 0, I 0, I 0, Str []] ++ ((List.replicate 32 0).map B)) kR rfl fun b14 => tk_act rfl <| a_storeW (H1 := []) (vs := [I (q.kind), I (q.s.seq), I (q.s.time), Str q.s.note] ++ (q.s.root.map B)) 36 rfl rfl kR rfl ⟨(by simp [hqh, hk32, mk32, nk32, laAt_len]), (by simp [hqh, hk32, mk32, nk32, laAt_len])⟩ (List.forall_mem_append.2 ⟨(List.forall_mem_cons.2 ⟨rfl, (List.forall_mem_cons.2 ⟨rfl, (List.forall_mem_cons.2 ⟨rfl, (List.forall_mem_cons.2 ⟨rfl, (fun _ h => nomatch h)⟩)⟩)⟩)⟩), oneB⟩) <| q_a rfl rfl <| s_n <| tk_seq <| s_r <| q_m rfl rfl <| s_q rfl (y_not rfl) <| q_m rfl rfl <| s_g rfl (y_move rfl) <| s_g rfl (y_loadA 36 rfl kR (by simp [hqh, hk32, mk32, nk32, laAt_len]) (hcw (.head _))) <| tk_gact rfl <| tk_ps [6, 2] rfl <| a_callv [] _ rfl kR rfl (fun w' hw' => fits_spec (r := q) (hk := hk) (mk := mk) (nk := nk) (tb := tb) (cb := cb) (lb := b34) (rv := vo) (rs := rs.take j) (la := laAt hk mk rs Ns j) ⟨lenP, lenP, lenP⟩ lenP lenP (St.pre hw')) rfl fun _ _ => tk_gqe (.bool false) rfl rfl rfl ((y_not rfl).cast (notdec _)) (bool_f (fun h => h hfq)) <| s_q rfl (y_pick0 rfl rfl) <| s_n <| tk_cond0 rfl <| tk_skip <| tk_then <| tk_seq <| tk_drawH [cel b34 (hk.map B ++ (mk.map B ++ (nk.map B ++ ([PT tb, PT sb, PT cb, vo] ++ ((laAt hk mk rs Ns j).map B))))) 138, cel b14 ([I (q.kind), I (q.s.seq), I (q.s.time), Str q.s.note] ++ (q.s.root.map B)) 33, ownB v44 (sealL hk mk 115 (nameR (j + 1)) (Ns j) (bareQ (laAt hk mk rs Ns j) q)) 5, cel sb ([Value.map (some mb), I (s.left), .bool s.off, I (s.made), I (s.room)]) 159, mapS mb (kvO s.obs), bag (s.obs.map (obR 5)), cel cb ([PT sb, I (((rs.length : Nat) : Int))]) 168, cel b4 (hk.map B ++ (mk.map B ++ (nk.map B ++ ([PT tb])))) 50] [10] kR <| s_x 0 rfl (y_move rfl) ?_; refine s_x 1 rfl (y_move rfl) <| s_x 2 rfl (y_nilCheck rfl) <| s_x 3 rfl (y_fldN (o := 0) 99 rfl kR) <| s_l 4 rfl (fun _ h => kT [0] 1 rfl h) (y_load rfl rfl (hc (o := 99) (.head _) (gA (k := 32) (i := 67) (by rw [List.length_map]; exact hk32) oM (gA (k := 32) (i := 35) (by rw [List.length_map]; exact mk32) oM (gA (k := 32) (i := 3) (by rw [List.length_map]; exact nk32) oM (rfl)))))) <| s_l 5 rfl (fun _ h => kT [0] 1 rfl h) (y_loadA 36 rfl kR (by simp [hqh, hk32, mk32, nk32, laAt_len]) (hcw (mm 1 rfl))) <| tx_a 6 rfl kR rfl <| a_slitE (k := 36) (cs := [I (q.kind), I (q.s.seq), I (q.s.time), Str q.s.note] ++ (q.s.root.map B)) rfl EL35 lenP dC rfl fun b73 => tk_S (fun _ h => kT [1] 1 rfl h) <| tx_a 7 rfl kR rfl <| a_appE (H1 := [_, _]) (f := rcC) (l := rs.take j) (e := q) (b := b73) (k := 36) rfl rfl EL35 rfl rfl (.head _) (rcC_len _) (List.forall_mem_append.2 ⟨(List.forall_mem_cons.2 ⟨rfl, (List.forall_mem_cons.2 ⟨rfl, (List.forall_mem_cons.2 ⟨rfl, (List.forall_mem_cons.2 ⟨rfl, (fun _ h => nomatch h)⟩)⟩)⟩)⟩), oneB⟩) lenP lenP fun v74 => tk_ownA (mm 2 rfl) fun hfv74 => tk_S (fun _ h => kT [1] 1 rfl h) <| s_x 8 rfl (y_nilCheck rfl) <| s_x 9 rfl (y_fldN (o := 0) 99 rfl kR) <| tx_x 10 rfl kR rfl rfl <| a_storeE (H1 := [_]) (o := 99) (v := v74) (cs' := hk.map B ++ (mk.map B ++ (nk.map B ++ ([PT tb, PT sb, PT cb, v74] ++ ((laAt hk mk rs Ns j).map B))))) rfl rfl kR (RdC.one hfv74.choose_spec) rfl sW (sA (k := 32) (i := 67) (by rw [List.length_map]; exact hk32) oM (sA (k := 32) (i := 35) (by rw [List.length_map]; exact mk32) oM (sA (k := 32) (i := 3) (by rw [List.length_map]; exact nk32) oM (rfl)))) <| tx_done kR <| tk_then <| tk_region <| q_m rfl rfl <| q_m rfl rfl <| tk_act rfl <| a_slitN (vs := [v44]) rfl (List.forall_mem_cons.2 ⟨(RdS.one hf44.choose_spec), (fun _ h => nomatch h)⟩) (EL208) rfl rfl dC fun b79 => tk_act rfl ?_; exact a_callv [] _ rfl kR rfl (fun w' hw' => of_spec (ps := [(v44, sealL hk mk 115 (nameR (j + 1)) (Ns j) (bareQ (laAt hk mk rs Ns j) q))]) (L := sealL hk mk 115 (nameR (j + 1)) (Ns j) (bareQ (laAt hk mk rs Ns j) q)) (Ro.cel (vs := [v44]) hw' (.head _) rS rfl dC) (List.forall_mem_cons.2 ⟨(Ro.own (H0 := []) hw' (mm 5 rfl)), (fun _ h => nomatch h)⟩) sI lenP lenP (hg.call hw')) rfl fun _ _ => s_q rfl (y_nilCheck rfl) <| s_q rfl (y_fldN (o := 0) 100 rfl kR) <| tk_act rfl <| a_storeLE (H1 := [_, _]) (pre := hk.map B ++ (mk.map B ++ (nk.map B ++ ([PT tb, PT sb, PT cb, v74])))) (mid := (laAt hk mk rs Ns j).map B) (post := ([] : List Value)) (vs := (sumL (sealL hk mk 115 (nameR (j + 1)) (Ns j) (bareQ (laAt hk mk rs Ns j) q))).map B) (cs' := hk.map B ++ (mk.map B ++ (nk.map B ++ ([PT tb, PT sb, PT cb, v74] ++ ((sumL (sealL hk mk 115 (nameR (j + 1)) (Ns j) (bareQ (laAt hk mk rs Ns j) q))).map B))))) 32 rfl rfl kR rfl ⟨lenP, lenP, lenP⟩ oneB sI sI <| tk_nil <| tk_in_normal <| tk_then <| tk_region <| q_m rfl rfl <| s_q rfl (y_addN (a := (j + 1)) (b := 1) rfl rfl oM) <| q_a rfl rfl <| tk_nil <| tk_R (H1 := [_, _, _]) rfl (show own v74 (((rs.take j) ++ [q]).length) (((rs.take j) ++ [q]).flatMap rcC) 33 36 = own v74 ((rs.take (j + 1)).length) ((rs.take (j + 1)).flatMap rcC) 33 36 from ownA_cast (by rw [← hqq]; exact (take_snocL (d := dRec) hj).symm)) <| tk_R (H1 := [_, _]) rfl (congrArg (fun z_ => cel b34 z_ 138) (show hk.map B ++ (mk.map B ++ (nk.map B ++ ([PT tb, PT sb, PT cb, v74] ++ ((sumL (sealL hk mk 115 (nameR (j + 1)) (Ns j) (bareQ (laAt hk mk rs Ns j) q))).map B)))) = hk.map B ++ (mk.map B ++ (nk.map B ++ ([PT tb, PT sb, PT cb, v74] ++ ((laAt hk mk rs Ns (j + 1)).map B)))) from by rw [laAt, hqq])) <| tk_ps [10, 9, 9, 9, 10, 7, 8] rfl <| tk_again ((j + 1, v74)) (by dsimp only; omega) (by dsimp only; omega) sB (.cons_cons _ (.cons_cons _ (.cons_cons _ (.cons_cons _ (.cons_cons _ (.cons_cons _ (.cons_cons _ (List.nil_sublist _))))))))
  · exact tk_exit <| tk_then_exit <| tk_then_exit <| tk_in_hit <| tk_then <| s_r <| q_m rfl rfl <| q_a rfl rfl <| q_a rfl rfl <| s_n <| tk_retc <| tk_R (H1 := []) rfl (show own vo ((rs.take j).length) ((rs.take j).flatMap rcC) 33 36 = own vo rs.length (rs.flatMap rcC) 33 36 from ownA_cast (by rw [show j = rs.length by omega, List.take_length])) <| tk_R (H1 := [_]) rfl (congrArg (fun z_ => cel b34 z_ 138) (show hk.map B ++ (mk.map B ++ (nk.map B ++ ([PT tb, PT sb, PT cb, vo] ++ ((laAt hk mk rs Ns j).map B)))) = hk.map B ++ (mk.map B ++ (nk.map B ++ ([PT tb, PT sb, PT cb, vo] ++ ((laAt hk mk rs Ns rs.length).map B)))) from by rw [show j = rs.length by omega])) <| tk_ps [5, 5, 5, 5, 4, 5] rfl <| tk_ret ((b34, vo)) (trivial) (.inl rfl) (r2 rfl rfl rfl) (.cons_cons _ (.cons_cons _ (.cons_cons _ (.cons_cons _ (.cons_cons _ (.cons_cons _ (List.nil_sublist _)))))))
end Go.Proofs.YtnhpghhibcdklaaGreatDoor
set_option linter.unusedSimpArgs false
set_option linter.unusedVariables false
namespace Go.Proofs.YtnhpghhibcdklaaGreatDoor
open Go
/-- the reference's answer: the code -/
def radd (rs : List Rec) (r : Rec) : Nat := if ¬ rightR r then 2 else if r.kind = 2 then (if hasS (foldR rs) r.s.seq then 0 else 6) else if 200 ≤ (foldR rs).length then 8 else 0
section
variable {rs : List Rec} {r : Rec}
theorem ra_2 (h : ¬ rightR r) : radd rs r = 2 := by rw [radd, if_pos h]
theorem ra_6 (h : rightR r) (h2 : r.kind = 2) (h3 : ¬ hasS (foldR rs) r.s.seq) : radd rs r = 6 := by rw [radd, if_neg (fun q => q h), if_pos h2, if_neg h3]
theorem ra_20 (h : rightR r) (h2 : r.kind = 2) (h3 : hasS (foldR rs) r.s.seq) : radd rs r = 0 := by rw [radd, if_neg (fun q => q h), if_pos h2, if_pos h3]
theorem ra_8 (h : rightR r) (h2 : ¬ r.kind = 2) (h3 : 200 ≤ (foldR rs).length) : radd rs r = 8 := by rw [radd, if_neg (fun q => q h), if_neg h2, if_pos h3]
theorem ra_0 (h : rightR r) (h2 : ¬ r.kind = 2) (h3 : ¬ 200 ≤ (foldR rs).length) : radd rs r = 0 := by rw [radd, if_neg (fun q => q h), if_neg h2, if_neg h3]
theorem right_kind (h : rightR r) : r.kind = 1 ∨ r.kind = 2 := by unfold rightR at h; rcases h.2.2 with h | h <;> omega
/-- what the program's Add says where nothing hinders it -/
theorem ck_ra (h : rs.length < 99999999) : checkR rs false (rs.length : Int) r = radd rs r := by
  unfold checkR radd
  split
  · rfl
  next hr =>
    have hk := right_kind (Classical.not_not.1 hr)
    by_cases h2 : r.kind = 2
    · have h1 : ¬ r.kind = 1 := by omega
      simp only [h2, true_and, fitsR, if_true]
      by_cases h3 : hasS (foldR rs) r.s.seq
      · simp [h3]; omega
      · simp [h3]
    · have h1 : r.kind = 1 := by omega
      simp only [h2, false_and, if_false, h1, true_and]
      by_cases h3 : 200 ≤ (foldR rs).length
      · simp [h3]
      · simp [h3]; omega
theorem right_num {n : Nat} (h : rightR r) : rightR (numR n r) := by
  unfold numR
  split
  · unfold rightR at h ⊢; exact h
  · exact h
theorem ra_ok (h : radd rs r = 0) : rightR r := Classical.not_not.1 fun q => by rw [ra_2 q] at h; cases h
/-- it is in the row then -/
theorem ra_fits (h : radd rs r = 0) : fitsR rs (numR (rs.length + 1) r) := by
  have hr := ra_ok h
  rcases right_kind hr with h1 | h2
  · have e : numR (rs.length + 1) r = ⟨r.kind, ⟨((rs.length + 1 : Nat) : Int), r.s.time, r.s.note, r.s.root, r.s.h⟩⟩ := by rw [numR, if_pos h1]
    rw [e]; unfold fitsR; dsimp only; rw [if_pos h1]; omega
  · have h3 : hasS (foldR rs) r.s.seq := Classical.not_not.1 fun q => by rw [ra_6 hr h2 q] at h; cases h
    have e : numR (rs.length + 1) r = r := by rw [numR, if_neg (by omega)]
    rw [e, fitsR, if_neg (by omega)]; exact h3
end
/-- a snapshot's note cut -/
def cutS (s : Snp) : Snp := ⟨s.seq, s.time, s.note.take (min s.note.length 1001), s.root, s.h⟩
def cutRec (r : Rec) : Rec := ⟨r.kind, cutS r.s⟩
theorem cut_len {r : Rec} : (cutRec r).s.note.length ≤ 1001 := by show (r.s.note.take _).length ≤ 1001; rw [List.length_take]; omega
end Go.Proofs.YtnhpghhibcdklaaGreatDoor
set_option linter.unusedSimpArgs false
set_option linter.unusedVariables false
namespace Go.Proofs.YtnhpghhibcdklaaGreatDoor
open Go Go.RowKit
set_option maxRecDepth 100000
theorem rright_spec {r : Rec} {w : World} (hnt : r.s.note.length < 9223372036854775808) : Spec Tryz.prog 63 [.agg ([I (r.kind), I (r.s.seq), I (r.s.time), Str r.s.note] ++ (r.s.root.map B)).toArray] w [] (fun _ : Unit => True) (fun _ => .bool (decide (rightR r))) (fun _ => []) := by
  refine spec_of (n := 32) Tryz.func63 rfl rfl trivial trivial rfl ?_
  have hrh := r.s.h
  refine s_r <| tk_act rfl <| a_boxL (cs := [I (r.kind), I (r.s.seq), I (r.s.time), Str r.s.note] ++ (r.s.root.map B)) rfl rfl fun b1 => q_a rfl rfl <| s_n <| tk_seq <| s_r <| s_q rfl (y_fldN (o := 0) 2 rfl kR) <| s_q rfl (y_load rfl rfl (hc (o := 2) (.head _) (rfl))) <| tk_qs rfl rfl rfl (y_lss rfl rfl) (fun hs1_2 => ?_) (fun hs1_2 => ?_)
  · exact q_m rfl rfl <| tk_gno rfl rfl rfl <| tk_gno rfl rfl rfl <| tk_gno rfl rfl rfl <| s_q rfl (y_pick1 rfl rfl) <| s_n <| tk_cond1 rfl <| s_r <| q_a rfl rfl <| s_n <| tk_retc <| tk_then_ret <| tk_re 2 (.bool false) (.bool (decide (rightR r))) rfl ((bool_f (rightR_no (.inl oM))).symm) <| tk_ret (()) (trivial) (.inl rfl) (r1 rfl rfl) (List.nil_sublist _)
  · refine q_m rfl rfl <| s_g rfl (y_fldN (o := 0) 2 rfl kR) <| s_g rfl (y_load rfl rfl (hc (o := 2) (.head _) (rfl))) <| s_g rfl (y_gtr rfl rfl) <| s_q rfl (y_pick0 rfl rfl) <| s_n <| tk_condP rfl (fun ht10 => ?_) (fun ht10 => ?_)
    · exact s_r <| q_a rfl rfl <| s_n <| tk_retc <| tk_then_ret <| tk_re 2 (.bool false) (.bool (decide (rightR r))) rfl ((bool_f (rightR_no (.inr (.inl oM)))).symm) <| tk_ret (()) (trivial) (.inl rfl) (r1 rfl rfl) (List.nil_sublist _)
    · refine tk_skip <| tk_then <| tk_seq <| s_r <| s_q rfl (y_fld0 (o := 0) rfl kR) <| s_q rfl (y_load rfl rfl (hc (o := 0) (.head _) (rfl))) <| s_q rfl (y_eql rfl rfl) <| s_n <| tk_condP rfl (fun ht13 => ?_) (fun ht13 => ?_)
      · refine s_r <| s_q rfl (y_fldN (o := 0) 3 rfl kR) <| s_q rfl (y_load rfl rfl (hc (o := 3) (.head _) (rfl))) <| tk_qs rfl rfl rfl (y_strEq (l := r.s.note) (m := []) rfl rfl) (fun hs4_2 => ?_) (fun hs4_2 => ?_)
        · exact q_m rfl rfl <| s_g rfl (y_fldN (o := 0) 4 rfl kR) <| s_g rfl (y_loadA (vs := r.s.root.map B) 32 rfl kR lenP (hseg (pre := [I (r.kind), I (r.s.seq), I (r.s.time), Str r.s.note]) (post := ([] : List Value)) (.head _) lenP sI)) <| s_g rfl (y_build (v := .agg ((List.replicate 32 0 : List UInt8).map B).toArray) (vs := []) rfl (fun _ => kR)) <| s_g rfl (y_agEq (l := r.s.root) (m := (List.replicate 32 0 : List UInt8)) rfl rfl Tryz.underlying29 Tryz.underlying5 kR kR ⟨r.s.h, (by rfl)⟩) <| s_q rfl (y_pick1 rfl rfl) <| q_a rfl rfl <| s_n <| tk_retc <| tk_then_ret <| tk_re 2 (.bool (decide (r.s.root = (List.replicate 32 0 : List UInt8)))) (.bool (decide (rightR r))) rfl (congrArg Value.bool (by rw [decide_eq_decide]; exact right_2 oM oM ht13 hs4_2)) <| tk_ret (()) (trivial) (.inl rfl) (r1 rfl rfl) (List.nil_sublist _)
        · exact q_m rfl rfl <| tk_gno rfl rfl rfl <| tk_gno rfl rfl rfl <| tk_gno rfl rfl rfl <| tk_gno rfl rfl rfl <| s_q rfl (y_pick0 rfl rfl) <| q_a rfl rfl <| s_n <| tk_retc <| tk_then_ret <| tk_re 2 (.bool false) (.bool (decide (rightR r))) rfl ((bool_f (rightR_no (.inr (.inr (.inr ⟨by omega, hs4_2⟩))))).symm) <| tk_ret (()) (trivial) (.inl rfl) (r1 rfl rfl) (List.nil_sublist _)
      · refine tk_skip <| tk_then <| s_r <| s_q rfl (y_fld0 (o := 0) rfl kR) <| s_q rfl (y_load rfl rfl (hc (o := 0) (.head _) (rfl))) <| tk_qs rfl rfl rfl (y_eql rfl rfl) (fun hs5_2 => ?_) (fun hs5_2 => ?_)
        · exact q_m rfl rfl <| s_g rfl (y_fldN (o := 0) 3 rfl kR) <| s_g rfl (y_load rfl rfl (hc (o := 3) (.head _) (rfl))) <| s_g rfl (y_lenStr (l := r.s.note) rfl rfl) <| s_g rfl (y_leq rfl rfl) <| s_q rfl (y_pick1 rfl rfl) <| q_a rfl rfl <| s_n <| tk_retc <| tk_re 2 (.bool (decide (((r.s.note.length : Nat) : Int) ≤ (1000 : Int)))) (.bool (decide (rightR r))) rfl (congrArg Value.bool (by rw [decide_eq_decide]; exact ⟨fun h => (right_1 oM oM hs5_2).1 oM, fun h => by have := (right_1 oM oM hs5_2).2 h; omega⟩)) <| tk_ret (()) (trivial) (.inl rfl) (r1 rfl rfl) (List.nil_sublist _)
        · exact q_m rfl rfl <| tk_gno rfl rfl rfl <| tk_gno rfl rfl rfl <| tk_gno rfl rfl rfl <| tk_gno rfl rfl rfl <| s_q rfl (y_pick0 rfl rfl) <| q_a rfl rfl <| s_n <| tk_retc <| tk_re 2 (.bool false) (.bool (decide (rightR r))) rfl ((bool_f (rightR_no (.inr (.inr (.inl ⟨hs5_2, ht13⟩))))).symm) <| tk_ret (()) (trivial) (.inl rfl) (r1 rfl rfl) (List.nil_sublist _)
theorem rcC_one (r : Rec) : ∀ u ∈ rcC r, u.oneCell' = true := by
  intro u hu
  unfold rcC at hu
  rcases List.mem_append.1 hu with hu | hu
  · simp only [List.mem_cons, List.not_mem_nil, or_false] at hu
    rcases hu with rfl | rfl | rfl | rfl <;> rfl
  · obtain ⟨b, _, rfl⟩ := List.mem_map.1 hu; rfl
theorem EL22 : elB Tryz.prog 22 57 36 72 := ⟨kR, _, _, rfl, rfl, rfl, rfl, rfl, by decide⟩
theorem has_take {l : List Snp} {i : Nat} {z : Int} (hi : i < l.length) : hasS (l.take (i + 1)) z ↔ hasS (l.take i) z ∨ (l.getD i dSn).seq = z := by
  rw [take_snocL (d := dSn) hi]
  unfold hasS
  constructor
  · rintro ⟨s, hs, e⟩
    rcases List.mem_append.1 hs with hs | hs
    · exact .inl ⟨s, hs, e⟩
    · rw [List.mem_singleton.1 hs] at e; exact .inr e
  · rintro (⟨s, hs, e⟩ | e)
    · exact ⟨s, List.mem_append_left _ hs, e⟩
    · exact ⟨_, List.mem_append_right _ (List.mem_singleton.2 rfl), e⟩
theorem raddno_spec {pv : Value} {rs : List Rec} {r : Rec} {w : World} (h1 : Ro (Fs []) w (rdC pv rs.length (rs.flatMap rcC))) (hrl : rs.length < 1000000) (hnt : r.s.note.length < 9223372036854775808) (hno : ¬ radd rs r = 0) : Spec Tryz.prog 18 [pv, .agg ([I (r.kind), I (r.s.seq), I (r.s.time), Str r.s.note] ++ (r.s.root.map B)).toArray] w [] (fun _ : Unit => True) (fun _ => .tuple #[pv, I 0, IN (radd rs r)]) (fun _ => []) := by
  refine spec_of (n := 56) Tryz.func18 rfl rfl trivial trivial rfl ?_
  have hfl := foldR_len (l := rs)
  have hrh := r.s.h
  refine s_r <| tk_act rfl <| a_boxL (cs := [I (r.kind), I (r.s.seq), I (r.s.time), Str r.s.note] ++ (r.s.root.map B)) rfl rfl fun b3 => q_a rfl rfl <| q_a rfl rfl <| q_a rfl rfl <| s_n <| tk_seq <| s_r <| s_q rfl (y_loadA 36 rfl kR lenP (hcw (.head _))) <| tk_act rfl <| a_callv [] _ rfl kR rfl (fun w' hw' => rright_spec (r := r) hnt) rfl fun _ _ => s_q rfl ((y_not rfl).cast (notdec _)) <| s_n <| tk_condP rfl (fun ht12 => ?_) (fun ht12 => ?_)
  · exact s_r <| q_m rfl rfl <| q_a rfl rfl <| q_a rfl rfl <| q_a rfl rfl <| s_n <| tk_retc <| tk_then_ret <| tk_re 6 (I 2) (IN (radd rs r)) rfl (by rw [ra_2 ht12]; rfl) <| tk_ret (()) (trivial) (.inl rfl) (r3 rfl rfl rfl rfl) (List.nil_sublist _)
  · refine tk_skip <| tk_then <| s_r <| q_m rfl rfl <| tk_act rfl <| a_callv [] _ rfl kR rfl (fun w' hw' => rfold_spec (l := rs) (Ro.call (H0 := []) h1 hw') lenP) rfl fun v15 _ => tk_ownA (.head _) fun hfv15 => q_a rfl rfl <| s_n <| tk_seq <| s_r <| s_q rfl (y_fld0 (o := 0) rfl kR) <| s_q rfl (y_load rfl rfl (hc (o := 0) (mm 1 rfl) (rfl))) <| s_q rfl (y_eql rfl rfl) <| s_n <| tk_condP rfl (fun ht18 => ?_) (fun ht18 => ?_)
    · refine s_r <| q_a rfl rfl <| s_n <| tk_seq <| s_r <| q_a rfl rfl <| s_n <| tk_block <| tk_re 8 (.bool false) (.bool (decide (hasS ((foldR rs).take 0) r.s.seq))) rfl (by rw [decide_eq_false (fun ⟨_, h, _⟩ => nomatch h)]) <| tk_loop (X := Nat) (fun i => i ≤ (foldR rs).length) (fun i => [(0, pv), (3, PT b3), (4, .slice none 0 0), (5, I 0), (6, I 0), (7, v15), (8, .bool (decide (hasS ((foldR rs).take i) r.s.seq))), (9, IN i)]) (fun i => [own v15 ((foldR rs).length) ((foldR rs).flatMap snC) 31 35, cel b3 ([I (r.kind), I (r.s.seq), I (r.s.time), Str r.s.note] ++ (r.s.root.map B)) 57]) (fun i => (foldR rs).length - i) (0) (Nat.zero_le _) sB ((List.Sublist.refl _)) ?_
      rintro i hI
      try dsimp only at hI ⊢
      refine tk_seq <| s_r <| q_m rfl rfl <| q_m rfl rfl <| s_q rfl (y_lenE rfl hfv15.choose_spec rfl) <| s_q rfl (y_lss rfl rfl) <| s_n <| tk_condP rfl (fun ht22 => ?_) (fun ht22 => ?_)
      · refine tk_skip <| tk_then <| tk_seq <| tk_block <| tk_drawH [own v15 ((foldR rs).length) ((foldR rs).flatMap snC) 31 35, cel b3 ([I (r.kind), I (r.s.seq), I (r.s.time), Str r.s.note] ++ (r.s.root.map B)) 57] [] kR ?_
        by_cases hs9_0 : hasS ((foldR rs).take i) r.s.seq
        · exact s_x 0 rfl ((y_move rfl).cast (v := _) (u := .bool true) (bool_t hs9_0)) <| s_x 1 rfl (y_move rfl) <| tx_no 2 rfl kR rfl rfl rfl (fun _ _ _ h => h) <| tx_no 3 rfl kR rfl rfl rfl (fun _ _ _ h => h) <| tx_no 4 rfl kR rfl rfl rfl (fun _ _ _ h => h) <| tx_no 5 rfl kR rfl rfl rfl (fun _ _ _ h => h) <| tx_no 6 rfl kR rfl rfl rfl (fun _ _ _ h => h) <| tx_no 7 rfl kR rfl rfl rfl (fun _ _ _ h => h) <| tx_no 8 rfl kR rfl rfl rfl (fun _ _ _ h => h) <| tx_no 9 rfl kR rfl rfl rfl (fun _ _ _ h => h) <| s_x 10 rfl (y_pick1 rfl rfl) <| s_x 11 rfl (y_assign rfl) <| tx_done kR <| tk_in_normal <| tk_then <| tk_region <| q_m rfl rfl <| s_q rfl (y_addN (a := i) (b := 1) rfl rfl oM) <| q_a rfl rfl <| tk_nil <| tk_re 8 (.bool true) (.bool (decide (hasS ((foldR rs).take (i + 1)) r.s.seq))) rfl (by rw [decide_eq_true ((has_take oM).2 (.inl hs9_0))]) <| tk_again (i + 1) oM oM sB (List.Sublist.refl _)
        · exact s_x 0 rfl ((y_move rfl).cast (v := _) (u := .bool false) (bool_f hs9_0)) <| s_x 1 rfl (y_move rfl) <| s_x 2 rfl (y_move rfl) <| s_x 3 rfl (y_move rfl) <| s_x 4 rfl (y_ixE (i := i) (k := 35) rfl rfl hfv15.choose_spec lenP kR) <| s_x 5 rfl (y_fldE (o := i * 35 + 0) (off := 0) rfl kR) <| s_l 6 rfl (fun _ h => h) (y_loadE1 (i := i) (k := 35) (o := 0) (f := snC) (l := foldR rs) (d0 := dSn) (u := I (((foldR rs).getD i dSn).seq)) rfl rfl snC_len lenP rfl (fun w hw => own_rdC (hw.mem (.head _)))) <| s_x 7 rfl (y_fldN (o := 0) 1 rfl kR) <| s_l 8 rfl (fun _ h => h) (y_load rfl rfl (hc (o := 1) (mm 1 rfl) (rfl))) <| s_x 9 rfl (y_eql rfl rfl) <| s_x 10 rfl (y_pick0 rfl rfl) <| s_x 11 rfl (y_assign rfl) <| tx_done kR <| tk_in_normal <| tk_then <| tk_region <| q_m rfl rfl <| s_q rfl (y_addN (a := i) (b := 1) rfl rfl oM) <| q_a rfl rfl <| tk_nil <| tk_re 8 (.bool (decide ((((foldR rs).getD i dSn).seq) = r.s.seq))) (.bool (decide (hasS ((foldR rs).take (i + 1)) r.s.seq))) rfl (congrArg Value.bool (by rw [decide_eq_decide, has_take oM]; exact ⟨.inr, fun h => h.resolve_left hs9_0⟩)) <| tk_again (i + 1) oM oM sB (List.Sublist.refl _)
      · refine tk_exit <| tk_then_exit <| tk_then_exit <| tk_in_hit <| tk_then <| s_r <| q_m rfl rfl <| s_q rfl ((y_not rfl).cast (notdec _)) <| s_n <| tk_condP rfl (fun ht37 => ?_) (fun ht37 => ?_)
        · have hall : (foldR rs).take i = foldR rs := List.take_of_length_le oM
          rw [hall] at ht37
          exact s_r <| q_m rfl rfl <| q_a rfl rfl <| q_a rfl rfl <| q_a rfl rfl <| s_n <| tk_retc <| tk_then_ret <| tk_re 6 (I 6) (IN (radd rs r)) rfl (by rw [ra_6 (Classical.not_not.1 ht12) ht18 ht37]; rfl) <| tk_ret (()) (trivial) (.inl rfl) (r3 rfl rfl rfl rfl) (List.nil_sublist _)
        · exfalso; exact hno (ra_20 (Classical.not_not.1 ht12) ht18 (by have := Classical.not_not.1 ht37; rwa [List.take_of_length_le oM] at this))
    · refine tk_seq <| s_r <| q_m rfl rfl <| s_q rfl (y_lenE rfl hfv15.choose_spec rfl) <| s_q rfl (y_geq rfl rfl) <| s_n <| tk_condP rfl (fun ht41 => ?_) (fun ht41 => ?_)
      · exact s_r <| q_m rfl rfl <| q_a rfl rfl <| q_a rfl rfl <| q_a rfl rfl <| s_n <| tk_retc <| tk_then_ret <| tk_then_ret <| tk_re 6 (I 8) (IN (radd rs r)) rfl (by rw [ra_8 (Classical.not_not.1 ht12) ht18 oM]; rfl) <| tk_ret (()) (trivial) (.inl rfl) (r3 rfl rfl rfl rfl) (List.nil_sublist _)
      · exfalso; exact hno (ra_0 (Classical.not_not.1 ht12) ht18 oM)
theorem raddok_spec {pv : Value} {rs : List Rec} {r : Rec} {w : World} (h1 : Ro (Fs []) w (rdC pv rs.length (rs.flatMap rcC))) (hrl : rs.length < 1000000) (hnt : r.s.note.length < 9223372036854775808) (hok0 : radd rs r = 0) : Spec Tryz.prog 18 [pv, .agg ([I (r.kind), I (r.s.seq), I (r.s.time), Str r.s.note] ++ (r.s.root.map B)).toArray] w [] (fun _ : Value => True) (fun x => .tuple #[x, I ((rs.length + 1 : Nat) : Int), I 0]) (fun x => [ownA rcC 36 x (rs ++ [numR (rs.length + 1) r]) 57]) := by
  refine spec_of (n := 56) Tryz.func18 rfl rfl trivial trivial rfl ?_
  have hfl := foldR_len (l := rs)
  have hrh := r.s.h
  have hrh2 := (numR (rs.length + 1) r).s.h
  refine s_r <| tk_act rfl <| a_boxL (cs := [I (r.kind), I (r.s.seq), I (r.s.time), Str r.s.note] ++ (r.s.root.map B)) rfl rfl fun b3 => q_a rfl rfl <| q_a rfl rfl <| q_a rfl rfl <| s_n <| tk_seq <| s_r <| s_q rfl (y_loadA 36 rfl kR (by simp [hrh, hrh2]) (hcw (.head _))) <| tk_act rfl <| a_callv [] _ rfl kR rfl (fun w' hw' => rright_spec (r := r) hnt) rfl fun _ _ => s_q rfl ((y_not rfl).cast (notdec _)) <| s_n <| tk_condP rfl (fun ht12 => ?_) (fun ht12 => ?_)
  · exfalso; rw [ra_2 ht12] at hok0; cases hok0
  · refine tk_skip <| tk_then <| s_r <| q_m rfl rfl <| tk_act rfl <| a_callv [] _ rfl kR rfl (fun w' hw' => rfold_spec (l := rs) (Ro.call (H0 := []) h1 hw') lenP) rfl fun v15 _ => tk_ownA (.head _) fun hfv15 => q_a rfl rfl <| s_n <| tk_seqI (X := Unit) (fun _ => True) (fun _ => [(0, pv), (3, PT b3)]) (fun _ => [cel b3 ([I ((numR (rs.length + 1) r).kind), I ((numR (rs.length + 1) r).s.seq), I ((numR (rs.length + 1) r).s.time), Str ((numR (rs.length + 1) r).s.note)] ++ (((numR (rs.length + 1) r).s.root).map B)) 57]) ?_ ?_
    · refine s_r <| s_q rfl (y_fld0 (o := 0) rfl kR) <| s_q rfl (y_load rfl rfl (hc (o := 0) (mm 1 rfl) (rfl))) <| s_q rfl (y_eql rfl rfl) <| s_n <| tk_condP rfl (fun ht18 => ?_) (fun ht18 => ?_)
      · refine s_r <| q_a rfl rfl <| s_n <| tk_seq <| s_r <| q_a rfl rfl <| s_n <| tk_block <| tk_re 8 (.bool false) (.bool (decide (hasS ((foldR rs).take 0) r.s.seq))) rfl (by rw [decide_eq_false (fun ⟨_, h, _⟩ => nomatch h)]) <| tk_loop (X := Nat) (fun i => i ≤ (foldR rs).length) (fun i => [(0, pv), (3, PT b3), (4, .slice none 0 0), (5, I 0), (6, I 0), (7, v15), (8, .bool (decide (hasS ((foldR rs).take i) r.s.seq))), (9, IN i)]) (fun i => [own v15 ((foldR rs).length) ((foldR rs).flatMap snC) 31 35, cel b3 ([I (r.kind), I (r.s.seq), I (r.s.time), Str r.s.note] ++ (r.s.root.map B)) 57]) (fun i => (foldR rs).length - i) (0) (Nat.zero_le _) sB ((List.Sublist.refl _)) ?_
        rintro i hI
        try dsimp only at hI ⊢
        refine tk_seq <| s_r <| q_m rfl rfl <| q_m rfl rfl <| s_q rfl (y_lenE rfl hfv15.choose_spec rfl) <| s_q rfl (y_lss rfl rfl) <| s_n <| tk_condP rfl (fun ht22 => ?_) (fun ht22 => ?_)
        · refine tk_skip <| tk_then <| tk_seq <| tk_block <| tk_drawH [own v15 ((foldR rs).length) ((foldR rs).flatMap snC) 31 35, cel b3 ([I (r.kind), I (r.s.seq), I (r.s.time), Str r.s.note] ++ (r.s.root.map B)) 57] [] kR ?_
          by_cases hs9_0 : hasS ((foldR rs).take i) r.s.seq
          · exact s_x 0 rfl ((y_move rfl).cast (v := _) (u := .bool true) (bool_t hs9_0)) <| s_x 1 rfl (y_move rfl) <| tx_no 2 rfl kR rfl rfl rfl (fun _ _ _ h => h) <| tx_no 3 rfl kR rfl rfl rfl (fun _ _ _ h => h) <| tx_no 4 rfl kR rfl rfl rfl (fun _ _ _ h => h) <| tx_no 5 rfl kR rfl rfl rfl (fun _ _ _ h => h) <| tx_no 6 rfl kR rfl rfl rfl (fun _ _ _ h => h) <| tx_no 7 rfl kR rfl rfl rfl (fun _ _ _ h => h) <| tx_no 8 rfl kR rfl rfl rfl (fun _ _ _ h => h) <| tx_no 9 rfl kR rfl rfl rfl (fun _ _ _ h => h) <| s_x 10 rfl (y_pick1 rfl rfl) <| s_x 11 rfl (y_assign rfl) <| tx_done kR <| tk_in_normal <| tk_then <| tk_region <| q_m rfl rfl <| s_q rfl (y_addN (a := i) (b := 1) rfl rfl oM) <| q_a rfl rfl <| tk_nil <| tk_re 8 (.bool true) (.bool (decide (hasS ((foldR rs).take (i + 1)) r.s.seq))) rfl (by rw [decide_eq_true ((has_take oM).2 (.inl hs9_0))]) <| tk_again (i + 1) oM oM sB (List.Sublist.refl _)
          · exact s_x 0 rfl ((y_move rfl).cast (v := _) (u := .bool false) (bool_f hs9_0)) <| s_x 1 rfl (y_move rfl) <| s_x 2 rfl (y_move rfl) <| s_x 3 rfl (y_move rfl) <| s_x 4 rfl (y_ixE (i := i) (k := 35) rfl rfl hfv15.choose_spec lenP kR) <| s_x 5 rfl (y_fldE (o := i * 35 + 0) (off := 0) rfl kR) <| s_l 6 rfl (fun _ h => h) (y_loadE1 (i := i) (k := 35) (o := 0) (f := snC) (l := foldR rs) (d0 := dSn) (u := I (((foldR rs).getD i dSn).seq)) rfl rfl snC_len lenP rfl (fun w hw => own_rdC (hw.mem (.head _)))) <| s_x 7 rfl (y_fldN (o := 0) 1 rfl kR) <| s_l 8 rfl (fun _ h => h) (y_load rfl rfl (hc (o := 1) (mm 1 rfl) (rfl))) <| s_x 9 rfl (y_eql rfl rfl) <| s_x 10 rfl (y_pick0 rfl rfl) <| s_x 11 rfl (y_assign rfl) <| tx_done kR <| tk_in_normal <| tk_then <| tk_region <| q_m rfl rfl <| s_q rfl (y_addN (a := i) (b := 1) rfl rfl oM) <| q_a rfl rfl <| tk_nil <| tk_re 8 (.bool (decide ((((foldR rs).getD i dSn).seq) = r.s.seq))) (.bool (decide (hasS ((foldR rs).take (i + 1)) r.s.seq))) rfl (congrArg Value.bool (by rw [decide_eq_decide, has_take oM]; exact ⟨.inr, fun h => h.resolve_left hs9_0⟩)) <| tk_again (i + 1) oM oM sB (List.Sublist.refl _)
        · refine tk_exit <| tk_then_exit <| tk_then_exit <| tk_in_hit <| tk_then <| s_r <| q_m rfl rfl <| s_q rfl ((y_not rfl).cast (notdec _)) <| s_n <| tk_condP rfl (fun ht37 => ?_) (fun ht37 => ?_)
          · exfalso; rw [List.take_of_length_le oM] at ht37; rw [ra_6 (ra_ok hok0) ht18 ht37] at hok0; cases hok0
          · exact tk_skip <| tk_R (H1 := [_]) rfl (congrArg (fun z_ => cel b3 z_ 57) (show [I (r.kind), I (r.s.seq), I (r.s.time), Str r.s.note] ++ (r.s.root.map B) = [I ((numR (rs.length + 1) r).kind), I ((numR (rs.length + 1) r).s.seq), I ((numR (rs.length + 1) r).s.time), Str ((numR (rs.length + 1) r).s.note)] ++ (((numR (rs.length + 1) r).s.root).map B) from by rw [numR_0 oM])) <| tk_to (()) (by first | exact trivial | omega | (dsimp only; omega)) sB (.cons _ (List.Sublist.refl _))
      · refine tk_seq <| s_r <| q_m rfl rfl <| s_q rfl (y_lenE rfl hfv15.choose_spec rfl) <| s_q rfl (y_geq rfl rfl) <| s_n <| tk_condP rfl (fun ht41 => ?_) (fun ht41 => ?_)
        · exfalso; rw [ra_8 (ra_ok hok0) ht18 oM] at hok0; cases hok0
        · exact tk_skip <| tk_then <| tk_region <| q_m rfl rfl <| s_q rfl (y_lenE rfl h1.1 rfl) <| s_q rfl (y_addN (a := rs.length) (b := 1) rfl rfl oM) <| s_q rfl (y_fldN (o := 0) 1 rfl kR) <| tk_act rfl <| a_storeE (H1 := [_]) (o := 1) (v := I ((rs.length + 1 : Nat) : Int)) (cs' := [I (r.kind), I ((rs.length + 1 : Nat) : Int), I (r.s.time), Str r.s.note] ++ (r.s.root.map B)) rfl rfl kR rfl rfl sW (rfl) <| tk_nil <| tk_R (H1 := [_]) rfl (congrArg (fun z_ => cel b3 z_ 57) (show [I (r.kind), I ((rs.length + 1 : Nat) : Int), I (r.s.time), Str r.s.note] ++ (r.s.root.map B) = [I ((numR (rs.length + 1) r).kind), I ((numR (rs.length + 1) r).s.seq), I ((numR (rs.length + 1) r).s.time), Str ((numR (rs.length + 1) r).s.note)] ++ (((numR (rs.length + 1) r).s.root).map B) from by rw [numR_1 (by have := (right_kind (ra_ok hok0)); omega)])) <| tk_to (()) (by first | exact trivial | omega | (dsimp only; omega)) sB (.cons _ (List.Sublist.refl _))
    · rintro _ _
      refine tk_seq <| tk_drawH [cel b3 ([I ((numR (rs.length + 1) r).kind), I ((numR (rs.length + 1) r).s.seq), I ((numR (rs.length + 1) r).s.time), Str ((numR (rs.length + 1) r).s.note)] ++ (((numR (rs.length + 1) r).s.root).map B)) 57] [] kR <| s_x 1 rfl (y_move rfl) <| s_l 3 rfl (fun _ h => h) (y_loadA 36 rfl kR (by simp [hrh, hrh2]) (hcw (.head _))) <| s_x 6 rfl (y_move rfl) <| s_x 7 rfl (y_lenE rfl h1.1 rfl) <| s_x 8 rfl (y_addN (a := rs.length) (b := 1) rfl rfl oM) <| tx_all (is := [0, 4]) kR rfl ⟨⟨_, rfl, rfl, ?_⟩, ⟨_, rfl, rfl, ?_⟩, trivial⟩
      · refine a_slit0C (k := 36) EL22 rfl fun v47 => tk_H [own v47 (([] : List Rec).length) (([] : List Rec).flatMap rcC) 57 36, cel b3 ([I ((numR (rs.length + 1) r).kind), I ((numR (rs.length + 1) r).s.seq), I ((numR (rs.length + 1) r).s.time), Str ((numR (rs.length + 1) r).s.note)] ++ (((numR (rs.length + 1) r).s.root).map B)) 57] rfl <| tk_ownA (.head _) fun hfv47 => tk_S (fun _ h => kD 1 rfl h) <| tx_all (is := [2, 4]) kR rfl ⟨⟨_, rfl, rfl, ?_⟩, ⟨_, rfl, rfl, ?_⟩, trivial⟩
        · exact a_appW (H1 := []) (f := rcC) (l := ([] : List Rec)) (m := rs) (k := 36) rfl rfl EL22 rfl rfl (fun w hw => Ro.rdC h1 hw) rcC_len rcC_one lenP lenP fun v49 => tk_H [own v49 rs.length (rs.flatMap rcC) 57 36, cel b3 ([I ((numR (rs.length + 1) r).kind), I ((numR (rs.length + 1) r).s.seq), I ((numR (rs.length + 1) r).s.time), Str ((numR (rs.length + 1) r).s.note)] ++ (((numR (rs.length + 1) r).s.root).map B)) 57] rfl <| tk_ownA (.head _) fun hfv49 => tk_S (fun _ h => kD 1 rfl h) <| tx_a 4 rfl kR rfl <| a_slitE (k := 36) (cs := [I ((numR (rs.length + 1) r).kind), I ((numR (rs.length + 1) r).s.seq), I ((numR (rs.length + 1) r).s.time), Str ((numR (rs.length + 1) r).s.note)] ++ (((numR (rs.length + 1) r).s.root).map B)) rfl EL22 lenP dC rfl fun b51 => tk_S (fun _ h => kD 2 rfl h) <| tx_more [cel b51 ([I ((numR (rs.length + 1) r).kind), I ((numR (rs.length + 1) r).s.seq), I ((numR (rs.length + 1) r).s.time), Str ((numR (rs.length + 1) r).s.note)] ++ (((numR (rs.length + 1) r).s.root).map B)) 57, cel b3 ([I ((numR (rs.length + 1) r).kind), I ((numR (rs.length + 1) r).s.seq), I ((numR (rs.length + 1) r).s.time), Str ((numR (rs.length + 1) r).s.note)] ++ (((numR (rs.length + 1) r).s.root).map B)) 57] (fun _ h => kD 1 rfl h) (fun _ h => kT [0] 1 rfl h) <| tx_a 5 rfl kR rfl <| a_appE (H1 := [_]) (f := rcC) (l := rs) (e := numR (rs.length + 1) r) (b := b51) (k := 36) rfl rfl EL22 rfl rfl (.head _) (rcC_len _) (List.forall_mem_append.2 ⟨(List.forall_mem_cons.2 ⟨rfl, (List.forall_mem_cons.2 ⟨rfl, (List.forall_mem_cons.2 ⟨rfl, (List.forall_mem_cons.2 ⟨rfl, (fun _ h => nomatch h)⟩)⟩)⟩)⟩), oneB⟩) lenP lenP fun v52 => tk_ownA (mm 1 rfl) fun hfv52 => tk_S (fun _ h => kT [0] 1 rfl h) <| s_x 9 rfl (y_assign rfl) <| s_x 10 rfl (y_assign rfl) <| s_x 11 rfl (y_assign rfl) <| tx_done kR <| tk_then <| tk_retc <| tk_ret (v52) (trivial) (.inl rfl) (r3 rfl rfl rfl rfl) (.cons _ (.cons_cons _ (List.nil_sublist _)))
        · exact a_slitE (k := 36) (cs := [I ((numR (rs.length + 1) r).kind), I ((numR (rs.length + 1) r).s.seq), I ((numR (rs.length + 1) r).s.time), Str ((numR (rs.length + 1) r).s.note)] ++ (((numR (rs.length + 1) r).s.root).map B)) rfl EL22 lenP dC rfl fun b51 => tk_S (fun _ h => kD 2 rfl h) <| tx_more [cel b51 ([I ((numR (rs.length + 1) r).kind), I ((numR (rs.length + 1) r).s.seq), I ((numR (rs.length + 1) r).s.time), Str ((numR (rs.length + 1) r).s.note)] ++ (((numR (rs.length + 1) r).s.root).map B)) 57, cel b3 ([I ((numR (rs.length + 1) r).kind), I ((numR (rs.length + 1) r).s.seq), I ((numR (rs.length + 1) r).s.time), Str ((numR (rs.length + 1) r).s.note)] ++ (((numR (rs.length + 1) r).s.root).map B)) 57] (fun _ h => kD 1 rfl h) (fun _ h => kT [0] 1 rfl h) <| tx_a 2 rfl kR rfl <| a_appW (H1 := [_]) (f := rcC) (l := ([] : List Rec)) (m := rs) (k := 36) rfl rfl EL22 rfl rfl (fun w hw => Ro.rdC h1 hw) rcC_len rcC_one lenP lenP fun v49 => tk_H [cel b51 ([I ((numR (rs.length + 1) r).kind), I ((numR (rs.length + 1) r).s.seq), I ((numR (rs.length + 1) r).s.time), Str ((numR (rs.length + 1) r).s.note)] ++ (((numR (rs.length + 1) r).s.root).map B)) 57, own v49 rs.length (rs.flatMap rcC) 57 36, cel b3 ([I ((numR (rs.length + 1) r).kind), I ((numR (rs.length + 1) r).s.seq), I ((numR (rs.length + 1) r).s.time), Str ((numR (rs.length + 1) r).s.note)] ++ (((numR (rs.length + 1) r).s.root).map B)) 57] rfl <| tk_ownA (mm 1 rfl) fun hfv49 => tk_S (fun _ h => kT [0] 1 rfl h) <| tx_a 5 rfl kR rfl <| a_appE (H1 := [_]) (f := rcC) (l := rs) (e := numR (rs.length + 1) r) (b := b51) (k := 36) rfl rfl EL22 rfl rfl (.head _) (rcC_len _) (List.forall_mem_append.2 ⟨(List.forall_mem_cons.2 ⟨rfl, (List.forall_mem_cons.2 ⟨rfl, (List.forall_mem_cons.2 ⟨rfl, (List.forall_mem_cons.2 ⟨rfl, (fun _ h => nomatch h)⟩)⟩)⟩)⟩), oneB⟩) lenP lenP fun v52 => tk_ownA (mm 1 rfl) fun hfv52 => tk_S (fun _ h => kT [0] 1 rfl h) <| s_x 9 rfl (y_assign rfl) <| s_x 10 rfl (y_assign rfl) <| s_x 11 rfl (y_assign rfl) <| tx_done kR <| tk_then <| tk_retc <| tk_ret (v52) (trivial) (.inl rfl) (r3 rfl rfl rfl rfl) (.cons _ (.cons_cons _ (List.nil_sublist _)))
      · refine a_slitE (k := 36) (cs := [I ((numR (rs.length + 1) r).kind), I ((numR (rs.length + 1) r).s.seq), I ((numR (rs.length + 1) r).s.time), Str ((numR (rs.length + 1) r).s.note)] ++ (((numR (rs.length + 1) r).s.root).map B)) rfl EL22 lenP dC rfl fun b51 => tk_S (fun _ h => kD 1 rfl h) <| tx_more [cel b51 ([I ((numR (rs.length + 1) r).kind), I ((numR (rs.length + 1) r).s.seq), I ((numR (rs.length + 1) r).s.time), Str ((numR (rs.length + 1) r).s.note)] ++ (((numR (rs.length + 1) r).s.root).map B)) 57, cel b3 ([I ((numR (rs.length + 1) r).kind), I ((numR (rs.length + 1) r).s.seq), I ((numR (rs.length + 1) r).s.time), Str ((numR (rs.length + 1) r).s.note)] ++ (((numR (rs.length + 1) r).s.root).map B)) 57] (fun _ h => kD 1 rfl h) (fun _ h => h) <| tx_a 0 rfl kR rfl <| a_slit0C (k := 36) EL22 rfl fun v47 => tk_H [own v47 (([] : List Rec).length) (([] : List Rec).flatMap rcC) 57 36, cel b51 ([I ((numR (rs.length + 1) r).kind), I ((numR (rs.length + 1) r).s.seq), I ((numR (rs.length + 1) r).s.time), Str ((numR (rs.length + 1) r).s.note)] ++ (((numR (rs.length + 1) r).s.root).map B)) 57, cel b3 ([I ((numR (rs.length + 1) r).kind), I ((numR (rs.length + 1) r).s.seq), I ((numR (rs.length + 1) r).s.time), Str ((numR (rs.length + 1) r).s.note)] ++ (((numR (rs.length + 1) r).s.root).map B)) 57] rfl <| tk_ownA (.head _) fun hfv47 => tk_S (fun _ h => kD 1 rfl h) <| tx_a 2 rfl kR rfl <| a_appW (H1 := []) (f := rcC) (l := ([] : List Rec)) (m := rs) (k := 36) rfl rfl EL22 rfl rfl (fun w hw => Ro.rdC h1 hw) rcC_len rcC_one lenP lenP fun v49 => tk_H [own v49 rs.length (rs.flatMap rcC) 57 36, cel b51 ([I ((numR (rs.length + 1) r).kind), I ((numR (rs.length + 1) r).s.seq), I ((numR (rs.length + 1) r).s.time), Str ((numR (rs.length + 1) r).s.note)] ++ (((numR (rs.length + 1) r).s.root).map B)) 57, cel b3 ([I ((numR (rs.length + 1) r).kind), I ((numR (rs.length + 1) r).s.seq), I ((numR (rs.length + 1) r).s.time), Str ((numR (rs.length + 1) r).s.note)] ++ (((numR (rs.length + 1) r).s.root).map B)) 57] rfl <| tk_ownA (.head _) fun hfv49 => tk_S (fun _ h => kD 1 rfl h) <| tx_a 5 rfl kR rfl <| a_appE (H1 := []) (f := rcC) (l := rs) (e := numR (rs.length + 1) r) (b := b51) (k := 36) rfl rfl EL22 rfl rfl (mm 1 rfl) (rcC_len _) (List.forall_mem_append.2 ⟨(List.forall_mem_cons.2 ⟨rfl, (List.forall_mem_cons.2 ⟨rfl, (List.forall_mem_cons.2 ⟨rfl, (List.forall_mem_cons.2 ⟨rfl, (fun _ h => nomatch h)⟩)⟩)⟩)⟩), oneB⟩) lenP lenP fun v52 => tk_ownA (.head _) fun hfv52 => tk_S (fun _ h => kD 1 rfl h) <| s_x 9 rfl (y_assign rfl) <| s_x 10 rfl (y_assign rfl) <| s_x 11 rfl (y_assign rfl) <| tx_done kR ?_; exact tk_then <| tk_retc <| tk_ret (v52) (trivial) (.inl rfl) (r3 rfl rfl rfl rfl) (.cons_cons _ (List.nil_sublist _))
end Go.Proofs.YtnhpghhibcdklaaGreatDoor
set_option linter.unusedSimpArgs false
set_option linter.unusedVariables false
namespace Go.Proofs.YtnhpghhibcdklaaGreatDoor
open Go Go.RowKit
set_option maxRecDepth 100000
theorem clonen_rec {w : World} : Spec Tryz.prog 58 [.slice none 0 0] w [] (fun _ : Value => True) (fun x => x) (fun x => [ownA rcC 36 x [] 33]) := by
  exact spec_of (n := 8) Tryz.func58 rfl rfl trivial trivial rfl <| s_r <| q_a rfl rfl <| s_n <| tk_seq <| s_r <| q_m rfl rfl <| s_q rfl (y_eqSn Tryz.underlying35 rfl rfl) <| s_n <| tk_cond1 rfl <| s_r <| q_a rfl rfl <| s_n <| tk_retc <| tk_then_ret <| tk_ownA0 (f := rcC) 36 33 <| tk_ret (.slice none 0 0) (trivial) (.inl rfl) (r1 rfl rfl) (List.Sublist.refl _)
theorem clones_rec {ad : Addr} {m cp : Nat} {rs : List Rec} {w : World} (h1 : Ro (Fs []) w (rdC (.slice (some ad) m cp) rs.length (rs.flatMap rcC))) (hrl : rs.length < 1000000) : Spec Tryz.prog 58 [.slice (some ad) m cp] w [] (fun _ : Value => True) (fun x => x) (fun x => [ownA rcC 36 x rs 33]) := by
  refine spec_of (n := 8) Tryz.func58 rfl rfl trivial trivial rfl <| s_r <| q_a rfl rfl <| s_n <| tk_seq <| s_r <| q_m rfl rfl <| s_q rfl (y_eqSs Tryz.underlying35 rfl rfl) <| s_n <| tk_cond0 rfl <| tk_skip <| tk_then <| s_r <| tk_act rfl <| a_slit0C (k := 36) EL35 rfl fun v5 => tk_H [own v5 (([] : List Rec).length) (([] : List Rec).flatMap rcC) 33 36] rfl <| tk_ownA (.head _) fun hfv5 => q_m rfl rfl <| tk_act rfl <| a_appW (H1 := []) (f := rcC) (l := ([] : List Rec)) (m := rs) (k := 36) rfl rfl EL35 rfl rfl (fun w hw => Ro.rdC h1 hw) rcC_len rcC_one lenP lenP fun v7 => tk_H [own v7 rs.length (rs.flatMap rcC) 33 36] rfl <| tk_ownA (.head _) fun hfv7 => q_a rfl rfl <| s_n ?_; exact tk_retc <| tk_ret (v7) (trivial) (.inl rfl) (r1 rfl rfl) (List.Sublist.refl _)
theorem clone_rec {v : Value} {rs : List Rec} {w : World} (h1 : Ro (Fs []) w (rdC v rs.length (rs.flatMap rcC))) (hrl : rs.length < 1000000) : Spec Tryz.prog 58 [v] w [] (fun _ : Value => True) (fun x => x) (fun x => [ownA rcC 36 x rs 33]) := by
  rcases h1.1 with ⟨rfl, h2, _⟩ | ⟨ad, cap, rfl, _⟩
  · obtain rfl : rs = [] := List.eq_nil_of_length_eq_zero h2
    exact clonen_rec
  · exact clones_rec h1 hrl
theorem records_spec {hk mk nk la : List UInt8} {lb tb sb cb : Nat} {rv : Value} {rs : List Rec} {w : World} (h3 : hk.length = 32 ∧ mk.length = 32 ∧ nk.length = 32) (hla : la.length = 32) (hrl : rs.length < 1000000) (hh : Pre w [cel lb (hk.map B ++ (mk.map B ++ (nk.map B ++ ([PT tb, PT sb, PT cb, rv] ++ (la.map B))))) 138, own rv rs.length (rs.flatMap rcC) 33 36]) : Spec Tryz.prog 11 [PT lb] w [cel lb (hk.map B ++ (mk.map B ++ (nk.map B ++ ([PT tb, PT sb, PT cb, rv] ++ (la.map B))))) 138, own rv rs.length (rs.flatMap rcC) 33 36] (fun _ : Value => True) (fun x => x) (fun x => [ownA rcC 36 x rs 33, cel lb (hk.map B ++ (mk.map B ++ (nk.map B ++ ([PT tb, PT sb, PT cb, rv] ++ (la.map B))))) 138, own rv rs.length (rs.flatMap rcC) 33 36]) := by
  refine spec_of (n := 10) Tryz.func11 rfl rfl hh.1 hh.2 rfl ?_
  obtain ⟨hk32, mk32, nk32⟩ := h3
  exact tk_ownA (mm 1 rfl) fun hfr => s_r <| q_a rfl rfl <| s_n <| tk_seq <| s_r <| q_m rfl rfl <| s_q rfl (y_pnil rfl rfl rfl) <| s_n <| tk_cond0 rfl <| tk_skip <| tk_then <| s_r <| q_m rfl rfl <| s_q rfl (y_nilCheck rfl) <| s_q rfl (y_fldN (o := 0) 99 rfl kR) <| s_q rfl (y_load rfl rfl (hc (o := 99) (.head _) (gA (k := 32) (i := 67) (by rw [List.length_map]; exact hk32) oM (gA (k := 32) (i := 35) (by rw [List.length_map]; exact mk32) oM (gA (k := 32) (i := 3) (by rw [List.length_map]; exact nk32) oM (rfl)))))) <| tk_act rfl <| a_callv [] _ rfl kR rfl (fun w' hw' => clone_rec (rs := rs) (ro_ownC (H0 := []) hw' (mm 1 rfl)) lenP) rfl fun v9 _ => tk_ownA (.head _) fun hfv9 => q_a rfl rfl <| s_n <| tk_retc <| tk_ret (v9) (trivial) (.inl rfl) (r1 rfl rfl) (List.Sublist.refl _)
theorem rcC_inj {a b : Rec} : [I a.kind, I a.s.seq, I a.s.time, Str a.s.note] ++ a.s.root.map B = [I b.kind, I b.s.seq, I b.s.time, Str b.s.note] ++ b.s.root.map B ↔ a = b := by
  refine ⟨fun h => ?_, fun h => by rw [h]⟩
  obtain ⟨ka, sa⟩ := a; obtain ⟨kb, sb⟩ := b
  simp only [List.cons_append, List.nil_append, List.cons.injEq] at h
  obtain ⟨h0, h⟩ := h
  have e0 : ka = kb := by simpa [I] using h0
  have e1 : sa = sb := snC_inj.1 (by simp only [List.cons_append, List.nil_append, List.cons.injEq]; exact h)
  rw [e0, e1]
theorem eqc_rc : EqC Tryz.prog 10000 57 36 (fun xs => ∃ e, xs = rcC e) :=
  (eqc_struct (d := 9999) kR Tryz.underlying57 kR (.cons (k := 1) rfl dC (eqc_int (d := 9998) Tryz.underlying3) (.cons (k := 1) rfl dC (eqc_int (d := 9998) Tryz.underlying3) (.cons (k := 1) rfl dC (eqc_int (d := 9998) Tryz.underlying3) (.cons (k := 1) rfl dC (eqc_str (d := 9998) Tryz.underlying9) (.cons (k := 32) rfl dC (eqc_id (d := 9997)) (.nil _))))))).weak (by
    rintro _ ⟨e, rfl⟩
    refine ⟨⟨_, rfl⟩, ⟨_, rfl⟩, ⟨_, rfl⟩, ⟨_, rfl⟩, ⟨e.s.root, e.s.h, ?_⟩, ?_⟩
    · show (e.s.root.map B).take 32 = e.s.root.map B
      exact List.take_of_length_le (by simp [e.s.h])
    · show (e.s.root.map B).drop 32 = []
      exact List.drop_of_length_le (by simp [e.s.h]))
theorem rsame_spec {v1 v2 : Value} {l m : List Rec} {w : World} (h1 : Ro (Fs []) w (rdC v1 l.length (l.flatMap rcC))) (h2 : Ro (Fs []) w (rdC v2 m.length (m.flatMap rcC))) (hl : l.length < 1000000) (hm : m.length < 1000000) : Spec Tryz.prog 19 [v1, v2] w [] (fun _ : Unit => True) (fun _ => .bool (decide (l = m))) (fun _ => []) := by
  refine spec_of (n := 26) Tryz.func19 rfl rfl trivial trivial rfl <| s_r <| q_a rfl rfl <| s_n <| tk_seq <| s_r <| q_m rfl rfl <| s_q rfl (y_lenE rfl h1.1 rfl) <| q_m rfl rfl <| s_q rfl (y_lenE rfl h2.1 rfl) <| s_q rfl (y_neq rfl rfl) <| s_n <| tk_condP rfl (fun ht10 => ?_) (fun ht10 => ?_)
  · exact s_r <| q_a rfl rfl <| s_n <| tk_retc <| tk_then_ret <| tk_re 4 (.bool false) (.bool (decide (l = m))) rfl (by rw [decide_eq_false (fun h : l = m => ht10 (by rw [h]))]) <| tk_ret (()) (trivial) (.inl rfl) (r1 rfl rfl) (List.Sublist.refl _)
  · refine tk_skip <| tk_then <| tk_seq <| s_r <| q_a rfl rfl <| s_n <| tk_block <| tk_loop (X := Nat) (fun i => i ≤ l.length ∧ ∀ j, j < i → l.getD j dRec = m.getD j dRec) (fun i => [(0, v1), (1, v2), (5, IN i)]) (fun i => []) (fun i => l.length - i) (0) (⟨Nat.zero_le _, fun _ h => absurd h oM⟩) sB ((List.Sublist.refl _)) ?_
    rintro i hI
    try dsimp only at hI ⊢
    refine tk_seq <| s_r <| q_m rfl rfl <| q_m rfl rfl <| s_q rfl (y_lenE rfl h1.1 rfl) <| s_q rfl (y_lss rfl rfl) <| s_n <| tk_condP rfl (fun ht14 => ?_) (fun ht14 => ?_)
    · refine tk_skip <| tk_then <| tk_seq <| tk_block <| tk_seq <| tk_drawH [] [] kR <| s_x 0 rfl (y_move rfl) <| s_x 1 rfl (y_move rfl) <| s_x 2 rfl (y_ixE (i := i) (k := 36) rfl rfl h1.1 lenP kR) <| s_l 3 rfl (fun _ h => h) (y_loadE (i := i) (k := 36) (o := 0) (f := rcC) (l := l) (d0 := dRec) (vs := [I ((l.getD i dRec).kind), I ((l.getD i dRec).s.seq), I ((l.getD i dRec).s.time), Str ((l.getD i dRec).s.note)] ++ (((l.getD i dRec).s.root).map B)) 36 rfl kR (by rw [List.length_append, List.length_map, (l.getD i dRec).s.h]; rfl) rcC_len lenP (rcC_all _) (fun w hw => Ro.rdC h1 hw)) <| s_x 4 rfl (y_move rfl) <| s_x 5 rfl (y_move rfl) <| s_x 6 rfl (y_ixE (i := i) (k := 36) rfl rfl h2.1 lenP kR) <| s_l 7 rfl (fun _ h => h) (y_loadE (i := i) (k := 36) (o := 0) (f := rcC) (l := m) (d0 := dRec) (vs := [I ((m.getD i dRec).kind), I ((m.getD i dRec).s.seq), I ((m.getD i dRec).s.time), Str ((m.getD i dRec).s.note)] ++ (((m.getD i dRec).s.root).map B)) 36 rfl kR (by rw [List.length_append, List.length_map, (m.getD i dRec).s.h]; rfl) rcC_len lenP (rcC_all _) (fun w hw => Ro.rdC h2 hw)) <| s_x 8 rfl (y_stNe (p := l.getD i dRec = m.getD i dRec) rfl rfl kR eqc_rc ⟨⟨_, rfl⟩, ⟨_, rfl⟩, rcC_len _, rcC_len _⟩ kR rcC_inj) <| tx_done kR <| tk_then <| tk_condP rfl (fun ht25 => ?_) (fun ht25 => ?_)
      · exact s_r <| q_a rfl rfl <| s_n <| tk_retc <| tk_in_ret <| tk_then_ret <| tk_then_ret <| tk_in_ret <| tk_then_ret <| tk_re 4 (.bool false) (.bool (decide (l = m))) rfl (by rw [decide_eq_false (fun h : l = m => ht25 (by rw [h]))]) <| tk_ret (()) (trivial) (.inl rfl) (r1 rfl rfl) (List.Sublist.refl _)
      · exact tk_skip <| tk_in_normal <| tk_then <| tk_region <| q_m rfl rfl <| s_q rfl (y_addN (a := i) (b := 1) rfl rfl oM) <| q_a rfl rfl <| tk_nil <| tk_again (i + 1) (⟨by omega, fun j hj => (Nat.lt_or_ge j i).elim (hI.2 j) (fun h => by rw [show j = i by omega]; exact Classical.not_not.1 ht25)⟩) oM sB (List.Sublist.refl _)
    · exact tk_exit <| tk_then_exit <| tk_then_exit <| tk_in_hit <| tk_then <| s_r <| q_a rfl rfl <| s_n <| tk_retc <| tk_re 4 (.bool true) (.bool (decide (l = m))) rfl (by rw [decide_eq_true (list_ext oM (fun j hj => hI.2 j oM))]) <| tk_ret (()) (trivial) (.inl rfl) (r1 rfl rfl) (List.Sublist.refl _)
theorem cut_step {rows : List Rec} {i : Nat} (h : i < rows.length) : (rows.take i).map cutRec ++ [cutRec (rows.getD i dRec)] = (rows.take (i + 1)).map cutRec := by
  rw [take_snocL (d := dRec) h, List.map_append]; rfl
theorem few18_spec {pv : Value} {rows : List Rec} {w : World} (h1 : Ro (Fs []) w (rdC pv rows.length (rows.flatMap rcC))) (hrl : rows.length < 9223372036854775808) (hnt : ∀ r ∈ rows, r.s.note.length < 9223372036854775808) : Spec Tryz.prog 16 [pv] w [] (fun _ : Value => True) (fun x => x) (fun x => [ownA rcC 36 x ((rows.take (min rows.length 25)).map cutRec) 57]) := by
  refine spec_of (n := 33) Tryz.func16 rfl rfl trivial trivial rfl <| s_r <| q_a rfl rfl <| s_n <| s_r <| q_a rfl rfl <| s_n <| tk_seq <| s_r <| q_a rfl rfl <| s_n <| tk_block <| tk_ownA0 (f := rcC) 36 57 <| tk_R (H1 := []) rfl (show own (.slice none 0 0) (([] : List Rec).length) (([] : List Rec).flatMap rcC) 57 36 = own (.slice none 0 0) (((rows.take 0).map cutRec).length) (((rows.take 0).map cutRec).flatMap rcC) 57 36 from ownA_cast rfl) <| tk_loop (X := Nat × Value) (fun (i, vo) => i ≤ min rows.length 25) (fun (i, vo) => [(0, pv), (2, .slice none 0 0), (3, vo), (4, IN i)]) (fun (i, vo) => [own vo (((rows.take i).map cutRec).length) (((rows.take i).map cutRec).flatMap rcC) 57 36]) (fun (i, vo) => 25 - i) ((0, .slice none 0 0)) (Nat.zero_le _) sB ((List.Sublist.refl _)) ?_
  rintro ⟨i, vo⟩ hI
  try dsimp only at hI ⊢
  have hlt : ((rows.take i).map cutRec).length = i := by rw [List.length_map, List.length_take]; omega
  refine tk_ownA (.head _) fun hfo => tk_seq <| s_r <| q_m rfl rfl <| q_m rfl rfl <| s_q rfl (y_lenE rfl h1.1 rfl) <| tk_qs rfl rfl rfl (y_lss rfl rfl) (fun hs3_3 => ?_) (fun hs3_3 => ?_)
  · refine q_m rfl rfl <| s_g rfl (y_move rfl) <| s_g rfl (y_lss rfl rfl) <| s_q rfl (y_pick1 rfl rfl) <| s_n <| tk_condP rfl (fun ht13 => ?_) (fun ht13 => ?_)
    · have hrh := (rows.getD i dRec).s.h
      have hnr := hnt _ (getD_mem (d := dRec) (l := rows) (i := i) oM)
      refine tk_skip <| tk_then <| tk_seq <| tk_block <| s_r <| q_m rfl rfl <| q_m rfl rfl <| s_q rfl (y_ixE (i := i) (k := 36) rfl rfl h1.1 lenP kR) <| s_q rfl (y_loadE (i := i) (k := 36) (o := 0) (f := rcC) (l := rows) (d0 := dRec) (vs := [I ((rows.getD i dRec).kind), I ((rows.getD i dRec).s.seq), I ((rows.getD i dRec).s.time), Str ((rows.getD i dRec).s.note)] ++ (((rows.getD i dRec).s.root).map B)) 36 rfl kR (by rw [List.length_append, List.length_map, (rows.getD i dRec).s.h]; rfl) rcC_len lenP (rcC_all _) (fun w hw => Ro.rdC h1 hw)) <| tk_act rfl <| a_allocL (cs := [I 0, I 0, I 0, Str []] ++ ((List.replicate 32 0).map B)) kR rfl fun b5 => tk_act rfl <| a_storeW (H1 := []) (vs := [I ((rows.getD i dRec).kind), I ((rows.getD i dRec).s.seq), I ((rows.getD i dRec).s.time), Str ((rows.getD i dRec).s.note)] ++ (((rows.getD i dRec).s.root).map B)) 36 rfl rfl kR rfl ⟨lenP, lenP⟩ (List.forall_mem_append.2 ⟨(List.forall_mem_cons.2 ⟨rfl, (List.forall_mem_cons.2 ⟨rfl, (List.forall_mem_cons.2 ⟨rfl, (List.forall_mem_cons.2 ⟨rfl, (fun _ h => nomatch h)⟩)⟩)⟩)⟩), oneB⟩) <| s_n <| s_r <| s_q rfl (y_fldN (o := 0) 3 rfl kR) <| s_q rfl (y_load rfl rfl (hc (o := 3) (.head _) (rfl))) <| s_q rfl (y_fldN (o := 0) 3 rfl kR) <| s_q rfl (y_load rfl rfl (hc (o := 3) (.head _) (rfl))) <| s_q rfl (y_lenStr (l := (rows.getD i dRec).s.note) rfl rfl) <| s_q rfl (y_minN (a := ((rows.getD i dRec).s.note).length) (b := 1001) rfl rfl) <| s_q rfl (y_cutTh (l := (rows.getD i dRec).s.note) (hi := min (((rows.getD i dRec).s.note).length) 1001) rfl rfl rfl oM) <| s_q rfl (y_fldN (o := 0) 3 rfl kR) <| tk_act rfl ?_; refine a_storeE (H1 := []) (o := 3) (v := Str (((rows.getD i dRec).s.note).take (min (((rows.getD i dRec).s.note).length) 1001))) (cs' := [I ((rows.getD i dRec).kind), I ((rows.getD i dRec).s.seq), I ((rows.getD i dRec).s.time), Str (((rows.getD i dRec).s.note).take (min (((rows.getD i dRec).s.note).length) 1001))] ++ (((rows.getD i dRec).s.root).map B)) rfl rfl kR rfl rfl sW (rfl) <| tk_R (H1 := []) rfl (congrArg (fun z_ => cel b5 z_ 57) (show [I ((rows.getD i dRec).kind), I ((rows.getD i dRec).s.seq), I ((rows.getD i dRec).s.time), Str (((rows.getD i dRec).s.note).take (min (((rows.getD i dRec).s.note).length) 1001))] ++ (((rows.getD i dRec).s.root).map B) = [I ((cutRec (rows.getD i dRec)).kind), I ((cutRec (rows.getD i dRec)).s.seq), I ((cutRec (rows.getD i dRec)).s.time), Str ((cutRec (rows.getD i dRec)).s.note)] ++ (((cutRec (rows.getD i dRec)).s.root).map B) from rfl)) ?_
      have hrh2 := (cutRec (rows.getD i dRec)).s.h
      exact s_n <| tk_region <| q_m rfl rfl <| s_q rfl (y_loadA 36 rfl kR lenP (hcw (.head _))) <| tk_act rfl <| a_slitE (k := 36) (cs := [I ((cutRec (rows.getD i dRec)).kind), I ((cutRec (rows.getD i dRec)).s.seq), I ((cutRec (rows.getD i dRec)).s.time), Str ((cutRec (rows.getD i dRec)).s.note)] ++ (((cutRec (rows.getD i dRec)).s.root).map B)) rfl EL22 lenP dC rfl fun b30 => tk_act rfl <| a_appE (H1 := [_, _]) (f := rcC) (l := (rows.take i).map cutRec) (e := (cutRec (rows.getD i dRec))) (b := b30) (k := 36) rfl rfl EL22 rfl rfl (.head _) (rcC_len _) (List.forall_mem_append.2 ⟨(List.forall_mem_cons.2 ⟨rfl, (List.forall_mem_cons.2 ⟨rfl, (List.forall_mem_cons.2 ⟨rfl, (List.forall_mem_cons.2 ⟨rfl, (fun _ h => nomatch h)⟩)⟩)⟩)⟩), oneB⟩) lenP lenP fun v31 => tk_ownA (mm 2 rfl) fun hfv31 => q_a rfl rfl <| tk_nil <| tk_in_normal <| tk_then <| tk_region <| q_m rfl rfl <| s_q rfl (y_addN (a := i) (b := 1) rfl rfl oM) <| q_a rfl rfl <| tk_nil <| tk_R (H1 := [_, _]) rfl (show own v31 ((((rows.take i).map cutRec) ++ [(cutRec (rows.getD i dRec))]).length) ((((rows.take i).map cutRec) ++ [(cutRec (rows.getD i dRec))]).flatMap rcC) 57 36 = own v31 (((rows.take (i + 1)).map cutRec).length) (((rows.take (i + 1)).map cutRec).flatMap rcC) 57 36 from ownA_cast (cut_step oM)) <| tk_again ((i + 1, v31)) (by dsimp only; omega) (by dsimp only; omega) sB (.cons _ (.cons _ (List.Sublist.refl _)))
    · exact tk_exit <| tk_then_exit <| tk_then_exit <| tk_in_hit <| tk_then <| s_r <| q_m rfl rfl <| q_a rfl rfl <| s_n <| tk_retc <| tk_R (H1 := []) rfl (show own vo (((rows.take i).map cutRec).length) (((rows.take i).map cutRec).flatMap rcC) 57 36 = own vo (((rows.take (min rows.length 25)).map cutRec).length) (((rows.take (min rows.length 25)).map cutRec).flatMap rcC) 57 36 from ownA_cast (by rw [show i = min rows.length 25 by omega])) <| tk_ret (vo) (trivial) (.inl rfl) (r1 rfl rfl) (List.Sublist.refl _)
  · exact q_m rfl rfl <| tk_gno rfl rfl rfl <| tk_gno rfl rfl rfl <| s_q rfl (y_pick0 rfl rfl) <| s_n <| tk_cond0 rfl <| tk_exit <| tk_then_exit <| tk_then_exit <| tk_in_hit <| tk_then <| s_r <| q_m rfl rfl <| q_a rfl rfl <| s_n <| tk_retc <| tk_R (H1 := []) rfl (show own vo (((rows.take i).map cutRec).length) (((rows.take i).map cutRec).flatMap rcC) 57 36 = own vo (((rows.take (min rows.length 25)).map cutRec).length) (((rows.take (min rows.length 25)).map cutRec).flatMap rcC) 57 36 from ownA_cast (by rw [show i = min rows.length 25 by omega])) <| tk_ret (vo) (trivial) (.inl rfl) (r1 rfl rfl) (List.Sublist.refl _)
end Go.Proofs.YtnhpghhibcdklaaGreatDoor
set_option linter.unusedSimpArgs false
set_option linter.unusedVariables false
namespace Go.Proofs.YtnhpghhibcdklaaGreatDoor
open Go Go.RowKit
set_option maxRecDepth 100000
theorem rcC_root (r : Rec) : ((rcC r).drop 4).take 32 = r.s.root.map B := by
  show (r.s.root.map B).take 32 = _
  exact List.take_of_length_le (by simp [r.s.h])
theorem fill_ref {a b c d : Value} {l : List UInt8} (hl : l.length = 32) : fillL [(0, 1), (1, 1), (2, 1), (3, 1), (4, 32)] ([I 0, I 0, I 0, Str []] ++ (List.replicate 32 (0 : UInt8)).map B) [(0, [a]), (1, [b]), (2, [c]), (3, [d]), (4, l.map B)] = some ([a, b, c, d] ++ l.map B) := by
  simp [fillL, hl]
theorem from18_spec {pv : Value} {rs : List Rec} {w : World} (h1 : Ro (Fs []) w (rdC pv rs.length (rs.flatMap rcC))) (hrl : rs.length < 1000000) : Spec Tryz.prog 20 [pv] w [] (fun _ : Value => True) (fun x => x) (fun x => [ownA rcC 36 x rs 57]) := by
  refine spec_of (n := 45) Tryz.func20 rfl rfl trivial trivial rfl <| s_r <| q_a rfl rfl <| s_n <| s_r <| q_a rfl rfl <| s_n <| tk_seq <| s_r <| q_a rfl rfl <| s_n <| tk_block <| tk_ownA0 (f := rcC) 36 57 <| tk_R (H1 := []) rfl (show own (.slice none 0 0) (([] : List Rec).length) (([] : List Rec).flatMap rcC) 57 36 = own (.slice none 0 0) ((rs.take 0).length) ((rs.take 0).flatMap rcC) 57 36 from ownA_cast rfl) <| tk_loop (X := Nat × Value) (fun (i, vo) => i ≤ rs.length) (fun (i, vo) => [(0, pv), (2, .slice none 0 0), (3, vo), (4, IN i)]) (fun (i, vo) => [own vo ((rs.take i).length) ((rs.take i).flatMap rcC) 57 36]) (fun (i, vo) => rs.length - i) ((0, .slice none 0 0)) (Nat.zero_le _) sB ((List.Sublist.refl _)) ?_
  rintro ⟨i, vo⟩ hI
  try dsimp only at hI ⊢
  have hlt : (rs.take i).length = i := by rw [List.length_take]; omega
  refine tk_ownA (.head _) fun hfo => tk_seq <| s_r <| q_m rfl rfl <| q_m rfl rfl <| s_q rfl (y_lenE rfl h1.1 rfl) <| s_q rfl (y_lss rfl rfl) <| s_n <| tk_condP rfl (fun ht8 => ?_) (fun ht8 => ?_)
  · have hrh := (rs.getD i dRec).s.h
    refine tk_skip <| tk_then <| tk_seq <| tk_block <| tk_drawH [] [] kR <| s_x 0 rfl (y_move rfl) <| s_x 1 rfl (y_move rfl) <| s_x 2 rfl (y_move rfl) <| s_x 3 rfl (y_ixE (i := i) (k := 36) rfl rfl h1.1 lenP kR) <| s_x 4 rfl (y_fldE (o := i * 36 + 0) (off := 0) rfl kR) <| s_l 5 rfl (fun _ h => kS [] rfl h) (y_loadE1 (i := i) (k := 36) (o := 0) (f := rcC) (l := rs) (d0 := dRec) (u := I ((rs.getD i dRec).kind)) rfl rfl rcC_len lenP rfl (fun w hw => Ro.rdC h1 hw)) <| s_x 6 rfl (y_move rfl) <| s_x 7 rfl (y_move rfl) <| s_x 8 rfl (y_ixE (i := i) (k := 36) rfl rfl h1.1 lenP kR) <| s_x 9 rfl (y_fldE (o := i * 36 + 0) (off := 1) rfl kR) <| s_x 10 rfl (y_fldE (o := i * 36 + 1) (off := 0) rfl kR) <| s_l 11 rfl (fun _ h => kS [] rfl h) (y_loadE1 (i := i) (k := 36) (o := 1) (f := rcC) (l := rs) (d0 := dRec) (u := I ((rs.getD i dRec).s.seq)) rfl rfl rcC_len lenP rfl (fun w hw => Ro.rdC h1 hw)) <| s_x 12 rfl (y_move rfl) <| s_x 13 rfl (y_move rfl) <| s_x 14 rfl (y_ixE (i := i) (k := 36) rfl rfl h1.1 lenP kR) <| s_x 15 rfl (y_fldE (o := i * 36 + 0) (off := 1) rfl kR) <| s_x 16 rfl (y_fldE (o := i * 36 + 1) (off := 1) rfl kR) <| s_l 17 rfl (fun _ h => kS [] rfl h) (y_loadE1 (i := i) (k := 36) (o := 2) (f := rcC) (l := rs) (d0 := dRec) (u := I ((rs.getD i dRec).s.time)) rfl rfl rcC_len lenP rfl (fun w hw => Ro.rdC h1 hw)) <| s_x 18 rfl (y_move rfl) ?_; refine s_x 19 rfl (y_move rfl) <| s_x 20 rfl (y_ixE (i := i) (k := 36) rfl rfl h1.1 lenP kR) <| s_x 21 rfl (y_fldE (o := i * 36 + 0) (off := 1) rfl kR) <| s_x 22 rfl (y_fldE (o := i * 36 + 1) (off := 2) rfl kR) <| s_l 23 rfl (fun _ h => kS [] rfl h) (y_loadE1 (i := i) (k := 36) (o := 3) (f := rcC) (l := rs) (d0 := dRec) (u := Str ((rs.getD i dRec).s.note)) rfl rfl rcC_len lenP rfl (fun w hw => Ro.rdC h1 hw)) <| s_x 24 rfl (y_move rfl) <| s_x 25 rfl (y_move rfl) <| s_x 26 rfl (y_ixE (i := i) (k := 36) rfl rfl h1.1 lenP kR) <| s_x 27 rfl (y_fldE (o := i * 36 + 0) (off := 1) rfl kR) <| s_x 28 rfl (y_fldE (o := i * 36 + 1) (off := 3) rfl kR) <| s_l 29 rfl (fun _ h => kS [] rfl h) (y_loadE (i := i) (k := 36) (o := 4) (f := rcC) (l := rs) (d0 := dRec) (vs := ((rs.getD i dRec).s.root).map B) 32 rfl kR (by rw [List.length_map]; exact (rs.getD i dRec).s.h) rcC_len lenP (rcC_root _) (fun w hw => Ro.rdC h1 hw)) <| s_x 30 rfl (y_build (v := .agg ([I ((rs.getD i dRec).kind), I ((rs.getD i dRec).s.seq), I ((rs.getD i dRec).s.time), Str ((rs.getD i dRec).s.note)] ++ (((rs.getD i dRec).s.root).map B)).toArray) (vs := [(0, I (rs.getD i dRec).kind), (1, I (rs.getD i dRec).s.seq), (2, I (rs.getD i dRec).s.time), (3, Str (rs.getD i dRec).s.note), (4, .agg ((rs.getD i dRec).s.root.map B).toArray)]) rfl (run_build (zs := [I 0, I 0, I 0, Str []] ++ ((List.replicate 32 0).map B)) (pl := [(0, 1), (1, 1), (2, 1), (3, 1), (4, 32)]) Tryz.underlying57 (fun _ => kR) (fun _ => kR) (fill_ref (rs.getD i dRec).s.h))) <| tx_a 31 rfl kR rfl <| a_slitE (k := 36) (cs := [I ((rs.getD i dRec).kind), I ((rs.getD i dRec).s.seq), I ((rs.getD i dRec).s.time), Str ((rs.getD i dRec).s.note)] ++ (((rs.getD i dRec).s.root).map B)) rfl EL22 lenP dC rfl fun b42 => tk_S (fun _ h => kS [] rfl h) <| tx_more [cel b42 ([I ((rs.getD i dRec).kind), I ((rs.getD i dRec).s.seq), I ((rs.getD i dRec).s.time), Str ((rs.getD i dRec).s.note)] ++ (((rs.getD i dRec).s.root).map B)) 57] (fun _ h => kS [] rfl h) (fun _ h => kS [0] rfl h) <| tx_a 32 rfl kR rfl <| a_appE (H1 := [_]) (f := rcC) (l := rs.take i) (e := (rs.getD i dRec)) (b := b42) (k := 36) rfl rfl EL22 rfl rfl (.head _) (rcC_len _) (List.forall_mem_append.2 ⟨(List.forall_mem_cons.2 ⟨rfl, (List.forall_mem_cons.2 ⟨rfl, (List.forall_mem_cons.2 ⟨rfl, (List.forall_mem_cons.2 ⟨rfl, (fun _ h => nomatch h)⟩)⟩)⟩)⟩), oneB⟩) lenP lenP fun v43 => tk_ownA (mm 1 rfl) fun hfv43 => tk_S (fun _ h => kS [0] rfl h) <| s_x 33 rfl (y_assign rfl) <| tx_done kR <| tk_in_normal <| tk_then ?_; exact tk_region <| q_m rfl rfl <| s_q rfl (y_addN (a := i) (b := 1) rfl rfl oM) <| q_a rfl rfl <| tk_nil <| tk_R (H1 := [_]) rfl (show own v43 (((rs.take i) ++ [(rs.getD i dRec)]).length) (((rs.take i) ++ [(rs.getD i dRec)]).flatMap rcC) 57 36 = own v43 ((rs.take (i + 1)).length) ((rs.take (i + 1)).flatMap rcC) 57 36 from ownA_cast (take_snocL (d := dRec) oM).symm) <| tk_again ((i + 1, v43)) (by dsimp only; omega) (by dsimp only; omega) sB (.cons _ (List.Sublist.refl _))
  · exact tk_exit <| tk_then_exit <| tk_then_exit <| tk_in_hit <| tk_then <| s_r <| q_m rfl rfl <| q_a rfl rfl <| s_n <| tk_retc <| tk_R (H1 := []) rfl (show own vo ((rs.take i).length) ((rs.take i).flatMap rcC) 57 36 = own vo rs.length (rs.flatMap rcC) 57 36 from ownA_cast (by rw [show i = rs.length by omega, List.take_length])) <| tk_ret (vo) (trivial) (.inl rfl) (r1 rfl rfl) (List.Sublist.refl _)
end Go.Proofs.YtnhpghhibcdklaaGreatDoor
set_option linter.unusedSimpArgs false
set_option linter.unusedVariables false
namespace Go.Proofs.YtnhpghhibcdklaaGreatDoor
open Go Go.RowKit
set_option maxRecDepth 100000
attribute [local irreducible] sumL keyedL hexL strL sealF sealL tapeL tapeN
theorem house_spec {w : World} : Spec Tryz.prog 14 [] w [] (fun _ : Nat × Nat × Nat × Nat × Value × Nat => True)
    (fun x => .tuple #[PT x.1, PT x.2.2.1, PT x.2.2.2.2.2, .bool true]) (fun x => [cel x.2.2.2.2.2 ((rq 1).map B ++ ((rq 2).map B ++ ((List.replicate 32 0).map B ++ ([PT x.2.2.2.1, PT x.1, PT x.2.2.1, .slice none 0 0] ++ ((List.replicate 32 0).map B))))) 138, own (.slice none 0 0) (([] : List Rec).length) (([] : List Rec).flatMap rcC) 33 36, cel x.2.2.1 ([PT x.1, I (0)]) 168, cel x.1 ([Value.map (some x.2.1), I ((newS 4194304).left), .bool ((newS 4194304).off), I ((newS 4194304).made), I ((newS 4194304).room)]) 159, mapS x.2.1 (kvO ((newS 4194304).obs)), bag (((newS 4194304).obs).map (obR 5)), cel x.2.2.2.1 ([x.2.2.2.2.1, .int .u64 (((0 : Nat) : Nat) : Int), .slice none 0 0]) 224, ownB x.2.2.2.2.1 [1] 5, ownB (.slice none 0 0) ((tapeL [1] (0 : Nat)).drop (0 : Nat)) 5]) := by
  refine spec_of (n := 45) Tryz.func14 rfl rfl trivial trivial rfl <| s_r <| q_a rfl rfl <| q_a rfl rfl <| q_a rfl rfl <| q_a rfl rfl <| s_n <| s_r <| tk_act rfl <| a_callv [] _ rfl kR rfl (fun w' hw' => shNew_spec (room := 4194304) (by first | decide | omega)) rfl fun ⟨sb, mb⟩ _ => q_m rfl rfl <| s_q rfl (y_extract rfl rfl) <| s_q rfl (y_extract rfl rfl) <| q_a rfl rfl <| q_a rfl rfl <| s_n <| s_r <| q_m rfl rfl <| tk_act rfl <| a_callv [] _ rfl kR rfl (fun w' hw' => cNew_spec (sb := sb)) rfl fun cb18 _ => q_m rfl rfl <| s_q rfl (y_extract rfl rfl) <| s_q rfl (y_extract rfl rfl) <| q_a rfl rfl ?_; refine q_a rfl rfl <| s_n <| s_r <| tk_act rfl <| a_callv [] _ rfl kR rfl (fun w' hw' => pen18_spec (n := 1)) rfl fun ⟨tb, vb⟩ _ => q_m rfl rfl <| s_q rfl (y_extract rfl rfl) <| s_q rfl (y_extract rfl rfl) <| tk_act rfl <| a_allocL (cs := (List.replicate 32 0).map B ++ ((List.replicate 32 0).map B ++ ((List.replicate 32 0).map B ++ ([Value.pointer none])))) kR rfl fun b8 => tk_act rfl <| a_allocL (cs := (List.replicate 32 0).map B ++ ((List.replicate 32 0).map B)) kR rfl fun b9 => tk_act rfl <| a_storeW (H1 := [_]) (vs := (rq 1).map B ++ ((rq 2).map B ++ ((List.replicate 32 0).map B ++ ([PT tb])))) 97 rfl rfl kR rfl ⟨lenP, lenP⟩ (List.forall_mem_append.2 ⟨oneB, (List.forall_mem_append.2 ⟨oneB, (List.forall_mem_append.2 ⟨oneB, (List.forall_mem_cons.2 ⟨rfl, (fun _ h => nomatch h)⟩)⟩)⟩)⟩) <| tk_act rfl <| a_storeW (H1 := []) (vs := (rq 1).map B ++ ((rq 2).map B)) 64 rfl rfl kR rfl ⟨lenP, lenP⟩ (List.forall_mem_append.2 ⟨oneB, oneB⟩) <| s_n <| s_r <| q_m rfl rfl <| s_q rfl (y_loadA 97 rfl kR lenP (hcw (mm 1 rfl))) <| q_m rfl rfl <| tk_act rfl <| tk_ps [7, 7, 7, 7] rfl <| a_callv [] _ rfl kR rfl (fun w' hw' => open0_spec (s := (newS 4194304)) (hk := rq 1) (mk := rq 2) (nk := List.replicate 32 0) (tb := tb) (cb := cb18) (sb := sb) (mb := mb) ⟨lenP, lenP, lenP⟩ (logAt_new.sh.ok dC) rfl (St.pre hw')) rfl fun lb _ => ?_; refine tk_ownA (mm 1 rfl) fun hfpr => q_m rfl rfl <| s_q rfl (y_extract rfl rfl) <| s_q rfl (y_extract rfl rfl) <| q_a rfl rfl <| q_a rfl rfl <| s_n <| s_r <| q_m rfl rfl <| q_m rfl rfl <| q_m rfl rfl <| q_m rfl rfl <| s_q rfl ((y_eql rfl rfl).cast (bool_t dC)) <| q_m rfl rfl <| s_g rfl (y_move rfl) <| s_g rfl ((y_eql rfl rfl).cast (bool_t dC)) <| s_q rfl (y_pick1 rfl rfl) <| q_m rfl rfl <| s_g rfl (y_move rfl) <| s_g rfl ((y_eql rfl rfl).cast (bool_t dC)) <| s_q rfl (y_pick1 rfl rfl) <| q_a rfl rfl <| q_a rfl rfl <| q_a rfl rfl ?_; exact q_a rfl rfl <| s_n <| tk_retc <| tk_ownM0 (f := B) 5 <| tk_R (H1 := []) rfl (show ownB (.slice none 0 0) ([] : List UInt8) 5 = ownB (.slice none 0 0) ((tapeL [1] (0 : Nat)).drop (0 : Nat)) 5 from ownM_cast (by simp [tapeL_0])) <| tk_ps [10, 10, 8, 8, 8, 8, 8, 8] rfl <| tk_ret ((sb, mb, cb18, tb, vb, lb)) (trivial) (.inl rfl) (r4 rfl rfl rfl rfl rfl) (.cons_cons _ (.cons_cons _ (.cons_cons _ (.cons_cons _ (.cons_cons _ (.cons_cons _ (.cons_cons _ (.cons_cons _ (.cons_cons _ (List.nil_sublist _))))))))))
end Go.Proofs.YtnhpghhibcdklaaGreatDoor
set_option linter.unusedSimpArgs false
set_option linter.unusedVariables false
namespace Go.Proofs.YtnhpghhibcdklaaGreatDoor
open Go Go.RowKit
set_option maxRecDepth 100000
attribute [local irreducible] sumL keyedL hexL strL sealF sealL tapeL tapeN
def rec1 : Rec := ⟨1, ⟨0, 0, [], List.replicate 32 0, rfl⟩⟩
def rec0 : Rec := ⟨1, ⟨1, 0, [], List.replicate 32 0, rfl⟩⟩
def rec2 : Rec := ⟨2, ⟨1, 0, [], List.replicate 32 0, rfl⟩⟩
theorem ck1 : checkR [] false 0 rec1 = 0 := by decide +kernel
theorem ck2 : checkR [rec0] false 1 rec2 = 0 := by decide +kernel
theorem ck3e : checkR [rec0, rec2] false 2 rec2 = 6 := by decide +kernel
theorem ck3n : ¬ checkR [rec0, rec2] false 2 rec2 = 0 := by rw [ck3e]; decide
theorem ck3 : Value.tuple #[IN 0, I ((checkR [rec0, rec2] false 2 rec2 : Nat) : Int)] = Value.tuple #[IN 0, IN 6] := by rw [ck3e]
theorem hb1 : Bnd (numR (([] : List Rec).length + 1) rec1) := by unfold Bnd; decide +kernel
theorem hb2 : Bnd (numR ([rec0].length + 1) rec2) := by unfold Bnd; decide +kernel
theorem seal_small {hk mk nm tl la : List UInt8} {p : Nat} {r : Rec} (hla : la.length = 32) (hb : Bnd r) : (sealL hk mk 115 nm (tapeN tl p 16) (bareQ la r)).length ≤ 3000 := by
  have := bareQ_len hla hb
  rw [sealL_len tapeN_len]; omega
theorem logs_spec {w : World} (hg : Ro (Fs []) w glob) : Spec Tryz.prog 10 [] w [] (fun _ : Unit => True) (fun _ => .bool true) (fun _ => []) := by
  refine spec_of (n := 64) Tryz.func10 rfl rfl trivial trivial rfl ?_
  have hlz : (List.replicate 32 (0 : UInt8)).length = 32 := rfl
  refine s_r <| q_a rfl rfl <| s_n <| s_r <| tk_act rfl <| a_callv [] _ rfl kR rfl (fun w' hw' => house_spec) rfl fun ⟨sb, mb, cb, tb, vb, lb⟩ _ => ?_
  dsimp only
  refine tk_ownA (mm 1 rfl) fun hfpr => tk_own1 (mm 7 rfl) fun hfvb => tk_own1 (mm 8 rfl) fun hfvl => q_m rfl rfl <| s_q rfl (y_extract rfl rfl) <| s_q rfl (y_extract rfl rfl) <| s_q rfl (y_extract rfl rfl) <| s_q rfl (y_extract rfl rfl) <| q_a rfl rfl <| q_a rfl rfl <| q_a rfl rfl <| q_a rfl rfl <| s_n <| s_r <| q_m rfl rfl <| s_q rfl (y_build (v := .agg ([I 1, I 0, I 0, Str []] ++ ((List.replicate 32 0).map B)).toArray) (vs := [(0, I 1)]) rfl (fun _ => kR)) <| tk_re 19 (.agg ([I 1, I 0, I 0, Str []] ++ ((List.replicate 32 0).map B)).toArray) (.agg ([I (rec1.kind), I (rec1.s.seq), I (rec1.s.time), Str rec1.s.note] ++ (rec1.s.root.map B)).toArray) rfl (rfl) <| tk_act rfl <| a_callv [] _ rfl kR rfl (fun w' hw' => addok_spec (r := rec1) (s := (newS 4194304)) (cn := 0) (k := 0) (mb := mb) (hk := rq 1) (mk := rq 2) (nk := List.replicate 32 0) (tb := tb) (cb := cb) (lb := lb) (rv := .slice none 0 0) (rs := ([] : List Rec)) (la := List.replicate 32 0) (tl := [1]) (c := (0 : Nat)) (p := (0 : Nat)) (vb := vb) (vl := .slice none 0 0) ⟨lenP, lenP, lenP⟩ lenP lenP dC logAt_new.sh dC logAt_new.calm ck1 rfl hb1 (fun v => logAt_new.pub dC (seal_small hlz hb1) v) ⟨lenP, lenP⟩ lenP lenP (hg.call hw') (St.pre hw')) rfl fun ⟨c20, vl20, v20, w20⟩ hx20 => ?_
  dsimp only at hx20 ⊢
  refine tk_ownA (mm 1 rfl) fun hfw20 => tk_own1 (mm 8 rfl) fun hfvl20 => tk_R (H1 := [_]) rfl (show own w20 ((([] : List Rec) ++ [numR (([] : List Rec).length + 1) rec1]).length) ((([] : List Rec) ++ [numR (([] : List Rec).length + 1) rec1]).flatMap rcC) 33 36 = own w20 ([rec0].length) ([rec0].flatMap rcC) 33 36 from ownA_cast rfl) <| tk_R (H1 := [_, _]) rfl (congrArg (fun z_ => cel cb z_ 168) (show [PT sb, I (((([] : List Rec).length + 1 : Nat) : Int))] = [PT sb, I (1)] from rfl)) <| tk_re 20 (.tuple #[I (((([] : List Rec).length + 1) : Nat) : Int), I 0]) (.tuple #[I 1, I 0]) rfl (rfl) ?_
  have hA1 : LogAt (((newS 4194304).with4 (nameR (([] : List Rec).length + 1)) v20 (sealL (rq 1) (rq 2) 115 (nameR (([] : List Rec).length + 1)) (tapeN [1] (0 : Nat) 16) (bareQ (List.replicate 32 0) (numR (([] : List Rec).length + 1) rec1)))).tick) 1 6 := logAt_new.next dC (seal_small hlz hb1) _
  have hla1 : (sumL (sealL (rq 1) (rq 2) 115 (nameR (([] : List Rec).length + 1)) (tapeN [1] (0 : Nat) 16) (bareQ (List.replicate 32 0) (numR (([] : List Rec).length + 1) rec1)))).length = 32 := sumL_len
  generalize ((newS 4194304).with4 (nameR (([] : List Rec).length + 1)) v20 (sealL (rq 1) (rq 2) 115 (nameR (([] : List Rec).length + 1)) (tapeN [1] (0 : Nat) 16) (bareQ (List.replicate 32 0) (numR (([] : List Rec).length + 1) rec1)))).tick = s1 at hA1 ⊢
  generalize sumL (sealL (rq 1) (rq 2) 115 (nameR (([] : List Rec).length + 1)) (tapeN [1] (0 : Nat) 16) (bareQ (List.replicate 32 0) (numR (([] : List Rec).length + 1) rec1))) = la1 at hla1 ⊢
  refine q_m rfl rfl <| s_q rfl (y_extract rfl rfl) <| s_q rfl (y_extract rfl rfl) <| q_a rfl rfl <| q_a rfl rfl <| s_n <| s_r <| q_m rfl rfl <| s_q rfl (y_build (v := .agg ([I 1, I 0, Str []] ++ ((List.replicate 32 0).map B)).toArray) (vs := [(0, I 1)]) rfl (fun _ => kR)) <| s_q rfl (y_build (v := .agg ([I 2, I 1, I 0, Str []] ++ ((List.replicate 32 0).map B)).toArray) (vs := [(0, I 2), (1, .agg ([I 1, I 0, Str []] ++ ((List.replicate 32 0).map B)).toArray)]) rfl (fun _ => kR)) <| tk_re 26 (.agg ([I 2, I 1, I 0, Str []] ++ ((List.replicate 32 0).map B)).toArray) (.agg ([I (rec2.kind), I (rec2.s.seq), I (rec2.s.time), Str rec2.s.note] ++ (rec2.s.root.map B)).toArray) rfl (rfl) <| tk_act rfl <| a_callv [] _ rfl kR rfl (fun w' hw' => addok_spec (r := rec2) (s := s1) (cn := 1) (k := 6) (mb := mb) (hk := rq 1) (mk := rq 2) (nk := List.replicate 32 0) (tb := tb) (cb := cb) (lb := lb) (rv := w20) (rs := [rec0]) (la := la1) (tl := [1]) (c := c20) (p := ((0 : Nat) + 16)) (vb := vb) (vl := vl20) ⟨lenP, lenP, lenP⟩ lenP lenP dC hA1.sh dC hA1.calm (by rw [hA1.calm.off]; exact ck2) rfl hb2 (fun v => hA1.pub dC (seal_small hla1 hb2) v) ⟨lenP, lenP⟩ lenP lenP (hg.call hw') (St.pre hw')) rfl fun ⟨c27, vl27, v27, w27⟩ hx27 => ?_
  dsimp only at hx27 ⊢
  refine tk_ownA (mm 1 rfl) fun hfw27 => tk_own1 (mm 8 rfl) fun hfvl27 => tk_R (H1 := [_]) rfl (show own w27 (([rec0] ++ [numR ([rec0].length + 1) rec2]).length) (([rec0] ++ [numR ([rec0].length + 1) rec2]).flatMap rcC) 33 36 = own w27 ([rec0, rec2].length) ([rec0, rec2].flatMap rcC) 33 36 from ownA_cast rfl) <| tk_R (H1 := [_, _]) rfl (congrArg (fun z_ => cel cb z_ 168) (show [PT sb, I ((([rec0].length + 1 : Nat) : Int))] = [PT sb, I (2)] from rfl)) <| tk_re 27 (.tuple #[I ((([rec0].length + 1) : Nat) : Int), I 0]) (.tuple #[I 2, I 0]) rfl (rfl) ?_
  have hA2 : LogAt ((s1.with4 (nameR ([rec0].length + 1)) v27 (sealL (rq 1) (rq 2) 115 (nameR ([rec0].length + 1)) (tapeN [1] ((0 : Nat) + 16) 16) (bareQ la1 (numR ([rec0].length + 1) rec2)))).tick) 2 12 := hA1.next dC (seal_small hla1 hb2) _
  have hla2 : (sumL (sealL (rq 1) (rq 2) 115 (nameR ([rec0].length + 1)) (tapeN [1] ((0 : Nat) + 16) 16) (bareQ la1 (numR ([rec0].length + 1) rec2)))).length = 32 := sumL_len
  generalize (s1.with4 (nameR ([rec0].length + 1)) v27 (sealL (rq 1) (rq 2) 115 (nameR ([rec0].length + 1)) (tapeN [1] ((0 : Nat) + 16) 16) (bareQ la1 (numR ([rec0].length + 1) rec2)))).tick = s2 at hA2 ⊢
  generalize sumL (sealL (rq 1) (rq 2) 115 (nameR ([rec0].length + 1)) (tapeN [1] ((0 : Nat) + 16) 16) (bareQ la1 (numR ([rec0].length + 1) rec2))) = la2 at hla2 ⊢
  refine q_m rfl rfl <| s_q rfl (y_extract rfl rfl) <| s_q rfl (y_extract rfl rfl) <| q_a rfl rfl <| q_a rfl rfl <| s_n <| s_r <| q_m rfl rfl <| s_q rfl (y_build (v := .agg ([I 1, I 0, Str []] ++ ((List.replicate 32 0).map B)).toArray) (vs := [(0, I 1)]) rfl (fun _ => kR)) <| s_q rfl (y_build (v := .agg ([I 2, I 1, I 0, Str []] ++ ((List.replicate 32 0).map B)).toArray) (vs := [(0, I 2), (1, .agg ([I 1, I 0, Str []] ++ ((List.replicate 32 0).map B)).toArray)]) rfl (fun _ => kR)) <| tk_re 33 (.agg ([I 2, I 1, I 0, Str []] ++ ((List.replicate 32 0).map B)).toArray) (.agg ([I (rec2.kind), I (rec2.s.seq), I (rec2.s.time), Str rec2.s.note] ++ (rec2.s.root.map B)).toArray) rfl (rfl) <| tk_act rfl <| a_callv [] _ rfl kR rfl (fun w' hw' => addno_spec (r := rec2) (s := s2) (cn := 2) (mb := mb) (hk := rq 1) (mk := rq 2) (nk := List.replicate 32 0) (tb := tb) (cb := cb) (lb := lb) (rv := w27) (rs := [rec0, rec2]) (la := la2) ⟨lenP, lenP, lenP⟩ lenP lenP dC (hA2.sh.ok dC) (by rw [hA2.calm.off]; exact ck3n) (St.pre hw')) rfl fun _ _ => tk_re 34 (.tuple #[I 0, I ((checkR [rec0, rec2] s2.off 2 rec2 : Nat) : Int)]) (.tuple #[I 0, I 6]) rfl (by rw [hA2.calm.off]; exact ck3) <| q_m rfl rfl <| s_q rfl (y_extract rfl rfl) <| s_q rfl (y_extract rfl rfl) <| q_a rfl rfl <| q_a rfl rfl <| s_n <| s_r <| q_m rfl rfl <| q_m rfl rfl <| s_g rfl (y_move rfl) ?_; refine s_g rfl ((y_eql rfl rfl).cast (bool_t dC)) <| s_q rfl (y_pick1 rfl rfl) <| q_m rfl rfl <| s_g rfl (y_move rfl) <| s_g rfl ((y_eql rfl rfl).cast (bool_t dC)) <| s_q rfl (y_pick1 rfl rfl) <| q_m rfl rfl <| s_g rfl (y_move rfl) <| s_g rfl ((y_eql rfl rfl).cast (bool_t dC)) <| s_q rfl (y_pick1 rfl rfl) <| q_m rfl rfl <| s_g rfl (y_move rfl) <| s_g rfl ((y_eql rfl rfl).cast (bool_t dC)) <| s_q rfl (y_pick1 rfl rfl) <| q_m rfl rfl <| s_g rfl (y_move rfl) <| s_g rfl ((y_eql rfl rfl).cast (bool_t dC)) <| s_q rfl (y_pick1 rfl rfl) <| q_m rfl rfl <| s_g rfl (y_move rfl) <| tk_gact rfl <| a_callv [] _ rfl kR rfl (fun w' hw' => snaps_spec (hk := rq 1) (mk := rq 2) (nk := List.replicate 32 0) (tb := tb) (cb := cb) (lb := lb) (rv := w27) (rs := [rec0, rec2]) (la := la2) ⟨lenP, lenP, lenP⟩ lenP lenP (St.pre hw')) rfl fun v60 _ => tk_ownA (.head _) fun hfv60 => s_g rfl (y_lenE rfl hfv60.choose_spec rfl) ?_; exact tk_gqe (.bool true) rfl rfl rfl (y_eql rfl rfl) (bool_t (by decide +kernel)) <| s_q rfl (y_pick1 rfl rfl) <| q_a rfl rfl <| s_n <| tk_retc <| tk_ret (()) (trivial) (.inl rfl) (r1 rfl rfl) (List.nil_sublist _)
end Go.Proofs.YtnhpghhibcdklaaGreatDoor
set_option linter.unusedSimpArgs false
set_option linter.unusedVariables false
namespace Go.Proofs.YtnhpghhibcdklaaGreatDoor
open Go
attribute [local irreducible] sumL keyedL hexL strL sealF sealL tapeL tapeN
end Go.Proofs.YtnhpghhibcdklaaGreatDoor
set_option linter.unusedSimpArgs false
set_option linter.unusedVariables false
namespace Go.Proofs.YtnhpghhibcdklaaGreatDoor
open Go
attribute [local irreducible] sumL keyedL hexL strL sealF sealL tapeL tapeN
theorem lk_addL {l : List Ob} {o : Ob} {n : List UInt8} (h : n ≠ o.name) : lkO (l ++ [o]) n = lkO l n := by
  unfold lkO
  rw [List.find?_append]
  have : [o].find? (fun o => decide (o.name = n)) = none := by simp; exact fun q => h q.symm
  rw [this, Option.or_none]
theorem fold_bnd {rs : List Rec} (h : ∀ i, i < rs.length → Bnd (rs.getD i dRec)) : ∀ z ∈ foldR rs, 0 ≤ z.seq ∧ z.seq < 1000000 := by
  have key : ∀ n, n ≤ rs.length → ∀ z ∈ foldR (rs.take n), 0 ≤ z.seq ∧ z.seq < 1000000 := fun n => by
    induction n with
    | zero => intro _ z hz; rw [List.take_zero] at hz; cases hz
    | succ n ih =>
      intro hn z hz
      rw [foldR_succ (by omega)] at hz
      unfold stepR at hz
      split at hz
      · rcases List.mem_append.1 hz with hz | hz
        · exact ih (by omega) z hz
        · rw [List.mem_singleton.1 hz]; exact (h n (by omega)).2.1
      split at hz
      · exact ih (by omega) z (List.mem_filter.1 hz).1
      · exact ih (by omega) z hz
  have := key rs.length (Nat.le_refl _)
  rwa [List.take_length] at this
theorem num_bnd {rs : List Rec} {r : Rec} (h : radd rs r = 0) (hb : ∀ i, i < rs.length → Bnd (rs.getD i dRec)) (hl : rs.length < 999) : Bnd (numR (rs.length + 1) r) ∧ rightR (numR (rs.length + 1) r) ∧ fitsR rs (numR (rs.length + 1) r) := by
  have hr := ra_ok h
  refine ⟨?_, right_num hr, ra_fits h⟩
  have hr0 := hr
  unfold rightR at hr
  rcases right_kind hr0 with hk | hk
  · rw [numR_1 hk]
    unfold Bnd
    have h3 : r.s.note.length ≤ 1000 := hr.2.2.elim (fun h => h.2) (fun h => by have := h.1; omega)
    exact ⟨⟨by dsimp only; omega, by dsimp only; omega⟩, ⟨by dsimp only; omega, by dsimp only; omega⟩, ⟨hr.1, hr.2.1⟩, h3⟩
  · rw [numR_0 (by omega)]
    have h3 : hasS (foldR rs) r.s.seq := Classical.not_not.1 fun q => by rw [ra_6 hr0 hk q] at h; cases h
    obtain ⟨z, hz, e⟩ := h3
    have h4 := fold_bnd hb z hz
    rw [e] at h4
    have h5 : r.s.note.length ≤ 1000 := hr.2.2.elim (fun h => h.2) (fun h => by rw [h.2.1]; exact Nat.zero_le _)
    exact ⟨⟨by omega, by omega⟩, h4, ⟨hr.1, hr.2.1⟩, h5⟩
def NsX (rs : List Rec) (Ns : Nat → List UInt8) (Nn : List UInt8) (i : Nat) : List UInt8 := if i = rs.length then Nn else Ns i
section
variable {hk mk Nn : List UInt8} {rs : List Rec} {Ns : Nat → List UInt8} {q : Rec}
theorem getD_snoc {i : Nat} (h : i < rs.length) : (rs ++ [q]).getD i dRec = rs.getD i dRec := by
  rw [List.getD_eq_getElem?_getD, List.getElem?_append_left h, List.getD_eq_getElem?_getD]
theorem getD_last : (rs ++ [q]).getD rs.length dRec = q := by
  rw [List.getD_eq_getElem?_getD, List.getElem?_append_right (Nat.le_refl _), Nat.sub_self]; rfl
theorem laAt_snoc : ∀ {i : Nat}, i ≤ rs.length → laAt hk mk (rs ++ [q]) (NsX rs Ns Nn) i = laAt hk mk rs Ns i
  | 0, _ => by rw [laAt, laAt]
  | i + 1, h => by
    have e : NsX rs Ns Nn i = Ns i := by unfold NsX; rw [if_neg (by omega)]
    rw [laAt, laAt, laAt_snoc (by omega), getD_snoc (by omega), e]
theorem laAt_last : laAt hk mk (rs ++ [q]) (NsX rs Ns Nn) (rs.length + 1) = sumL (sealL hk mk 115 (nameR (rs.length + 1)) Nn (bareQ (laAt hk mk rs Ns rs.length) q)) := by
  have e : NsX rs Ns Nn rs.length = Nn := by unfold NsX; rw [if_pos rfl]
  rw [laAt, laAt_snoc (Nat.le_refl _), getD_last, e]
theorem hasLog_next {s : Sh} {k : Int} {v : Value} (hA : LogAt s rs.length k) (h : HasLog hk mk s rs Ns) (hn : rs.length + 1 < 100) (hq : Bnd q ∧ rightR q ∧ fitsR rs q) (hN : Nn.length = 16) :
    HasLog hk mk (s.with4 (nameR (rs.length + 1)) v (sealL hk mk 115 (nameR (rs.length + 1)) Nn (bareQ (laAt hk mk rs Ns rs.length) q))).tick (rs ++ [q]) (NsX rs Ns Nn) := by
  have hl : (rs ++ [q]).length = rs.length + 1 := by simp
  have hof : s.off = false := hA.calm.off
  have hof1 : ¬ s.off = true := by rw [hof]; decide
  have hno := hA.hasnt hn
  refine ⟨fun {i} hi => ?_, fun {i} hi => ?_, fun {i} hi => ?_, fun {i} hi => ?_, fun {i} hi => ?_⟩
  · have hof2 : ¬ (s.with4 (nameR (rs.length + 1)) v (sealL hk mk 115 (nameR (rs.length + 1)) Nn (bareQ (laAt hk mk rs Ns rs.length) q))).tick.off = true := hof1
    rw [Sh.get, if_neg hof2]
    show (if ¬ hasO (s.obs ++ [_]) _ then _ else ((0 : Nat), (lkO (s.obs ++ [_]) _).b)) = _
    by_cases e : i = rs.length
    · subst e
      rw [if_neg (fun q => q (has_snoc.2 (.inr rfl))), laAt_snoc (Nat.le_refl _), getD_last, show NsX rs Ns Nn rs.length = Nn by unfold NsX; rw [if_pos rfl]]
      have := lk_snoc (l := s.obs) (o := ⟨nameR (rs.length + 1), v, sealL hk mk 115 (nameR (rs.length + 1)) Nn (bareQ (laAt hk mk rs Ns rs.length) q), true⟩) hno
      exact congrArg (fun o : Ob => ((0 : Nat), o.b)) this
    · have hi2 : i < rs.length := by omega
      have h0 := h.get hi2
      rw [Sh.get, if_neg hof1] at h0
      by_cases hh : hasO s.obs (nameR (i + 1))
      · rw [if_neg (fun q => q hh)] at h0
        rw [if_neg (fun q => q (has_snoc.2 (.inl hh))), laAt_snoc (by omega), getD_snoc hi2, show NsX rs Ns Nn i = Ns i by unfold NsX; rw [if_neg e], ← h0]
        have hne : nameR (i + 1) ≠ nameR (rs.length + 1) := fun e2 => by have := nameR_inj (by omega) (by omega) e2; omega
        exact congrArg (fun o : Ob => ((0 : Nat), o.b)) (lk_addL (o := ⟨nameR (rs.length + 1), v, sealL hk mk 115 (nameR (rs.length + 1)) Nn (bareQ (laAt hk mk rs Ns rs.length) q), true⟩) hne)
      · rw [if_pos hh] at h0; cases h0
  · by_cases e : i = rs.length
    · unfold NsX; rw [if_pos e]; exact hN
    · unfold NsX; rw [if_neg e]; exact h.nonce (by omega)
  · by_cases e : i = rs.length
    · subst e; rw [getD_last]; exact hq.1
    · rw [getD_snoc (by omega)]; exact h.bnd (by omega)
  · by_cases e : i = rs.length
    · subst e; rw [getD_last]; exact hq.2.1
    · rw [getD_snoc (by omega)]; exact h.right (by omega)
  · by_cases e : i = rs.length
    · subst e; rw [getD_last, List.take_append_of_le_length (Nat.le_refl _), List.take_length]; exact hq.2.2
    · rw [getD_snoc (by omega), List.take_append_of_le_length (by omega)]; exact h.fits (by omega)
end
end Go.Proofs.YtnhpghhibcdklaaGreatDoor
set_option linter.unusedSimpArgs false
set_option linter.unusedVariables false
namespace Go.Proofs.YtnhpghhibcdklaaGreatDoor
open Go
attribute [local irreducible] sumL keyedL hexL strL sealF sealL tapeL tapeN
section
variable {hk mk Nn : List UInt8} {rs : List Rec} {Ns : Nat → List UInt8} {q : Rec}
theorem laAt_zero {Ns : Nat → List UInt8} : laAt hk mk [] Ns ([] : List Rec).length = List.replicate 32 0 := by rw [show ([] : List Rec).length = 0 from rfl, laAt]
end
abbrev NsT := Nat → List UInt8
/-- what LogAdds' loop keeps -/
structure AdI (R : List Rec) (i : Nat) (rs : List Rec) (Ns : Nat → List UInt8) (s : Sh) (c p : Nat) : Prop where
  il : i ≤ R.length
  rl : rs.length ≤ i
  at_ : LogAt s rs.length (6 * (i : Int))
  has : HasLog (rq 1) (rq 2) s rs Ns
  tp : p ≤ 32 * c ∧ 32 * c < p + 32
  pp : p ≤ 16 * i
theorem LogAt.mono {s : Sh} {n : Nat} {k j : Int} (h : LogAt s n k) (hk : k ≤ j) : LogAt s n j := ⟨h.sh.mono hk, h.calm, h.names, h.small, h.room⟩
section
variable {R : List Rec} {i : Nat} {rs : List Rec} {Ns : Nat → List UInt8} {s : Sh} {c p : Nat}
theorem AdI.skip (h : AdI R i rs Ns s c p) (hi : i < R.length) : AdI R (i + 1) rs Ns s c p :=
  ⟨by omega, by have := h.rl; omega, h.at_.mono (by omega), h.has, h.tp, by have := h.pp; omega⟩
theorem AdI.next (h : AdI R i rs Ns s c p) (hi : i < R.length) (hR : R.length < 99) {q : Rec} {c2 : Nat} {v : Value} {Nn : List UInt8} (hq : Bnd q ∧ rightR q ∧ fitsR rs q) (hN : Nn.length = 16) (hx : p + 16 ≤ 32 * c2 ∧ 32 * c2 < p + 16 + 32) :
    AdI R (i + 1) (rs ++ [q]) (NsX rs Ns Nn) (s.with4 (nameR (rs.length + 1)) v (sealL (rq 1) (rq 2) 115 (nameR (rs.length + 1)) Nn (bareQ (laAt (rq 1) (rq 2) rs Ns rs.length) q))).tick c2 (p + 16) := by
  have h1 := h.rl
  have hb : (sealL (rq 1) (rq 2) 115 (nameR (rs.length + 1)) Nn (bareQ (laAt (rq 1) (rq 2) rs Ns rs.length) q)).length ≤ 3000 := by
    have := bareQ_len (la := laAt (rq 1) (rq 2) rs Ns rs.length) laAt_len hq.1
    rw [sealL_len hN]; omega
  have hl : (rs ++ [q]).length = rs.length + 1 := by simp
  refine ⟨by omega, by omega, ?_, hasLog_next h.at_ h.has (by omega) hq hN, hx, by have := h.pp; omega⟩
  rw [hl]
  exact (h.at_.next (by omega) hb v).mono (by omega)
end
end Go.Proofs.YtnhpghhibcdklaaGreatDoor
set_option linter.unusedSimpArgs false
set_option linter.unusedVariables false
namespace Go.Proofs.YtnhpghhibcdklaaGreatDoor
open Go Go.RowKit
set_option maxRecDepth 100000
attribute [local irreducible] sumL keyedL hexL strL sealF sealL openF tapeL tapeN
end Go.Proofs.YtnhpghhibcdklaaGreatDoor
set_option linter.unusedSimpArgs false
set_option linter.unusedVariables false
namespace Go.Proofs.YtnhpghhibcdklaaGreatDoor
open Go
theorem spend_or {s : Sh} (h : s.off = false) : (s.spend.2 = 9 ∧ s.spend.1.off = true) ∨ (s.spend.2 = 0 ∧ s.spend.1.off = false) := by
  unfold Sh.spend
  split
  · exact .inl ⟨rfl, rfl⟩
  · exact .inr ⟨rfl, h⟩
/-- a change that may be made: the power goes, or it is made -/
theorem chg {s : Sh} {d : Sh → Sh} (h : s.off = false) : (s.change 0 d = (s.spend.1, 9) ∧ s.spend.1.off = true) ∨ (s.change 0 d = (d s.spend.1, 0) ∧ s.spend.1.off = false) := by
  have h0 : ¬ s.off = true := by rw [h]; decide
  rcases spend_or h with ⟨h1, h2⟩ | ⟨h1, h2⟩
  · left
    refine ⟨?_, h2⟩
    rw [change_sp h0 rfl (by rw [h1]; decide)]
    exact Prod.ext rfl h1
  · right
    exact ⟨change_ok h0 rfl h1, h2⟩
theorem chgNo {s : Sh} {c : Nat} {d : Sh → Sh} (h : s.off = false) (hc : ¬ c = 0) : s.change c d = (s, c) := change_no (by rw [h]; decide) hc
theorem del_off {s : Sh} {a : List UInt8} (h : s.off = true) : s.del a = (s, 9) := by rw [Sh.del, change_off h]
theorem nine0 {t : Sh} : ¬ ((t, 9) : Sh × Nat).2 = 0 := (by decide : ¬ (9 : Nat) = 0)
/-- Publish: it is done; or the power went: nothing is there, or a draft -/
theorem pub_or {s : Sh} {nm b : List UInt8} {v : Value} (h : s.off = false) (hn : isNm nm) (h1 : ¬ hasO s.obs nm) (h2 : ¬ hasO s.obs (drL nm)) (h3 : drL nm ≠ nm) (hb : b.length ≤ 1048576) (hr : ¬ (s.room - (sumO s.obs : Int) < (b.length : Int))) (hl : s.obs.length < 2000) :
    (∃ t, s.pub nm v b = (t, 0) ∧ t.obs = s.obs ++ [⟨nm, v, b, true⟩] ∧ t.off = false ∧ t.room = s.room) ∨
    (∃ t, s.pub nm v b = (t, 9) ∧ t.off = true ∧ t.room = s.room ∧ (t.obs = s.obs ∨ ∃ su, t.obs = s.obs ++ [⟨drL nm, v, b, su⟩])) := by
  have e1 : s.del (drL nm) = (s, 6) := by rw [Sh.del, delC, if_pos h2, chgNo h (by decide)]
  have c1 : ¬ (¬ (s.del (drL nm)).2 = 0 ∧ ¬ (s.del (drL nm)).2 = 6) := by rw [e1]; exact fun q => q.2 rfl
  have hp : putC s (drL nm) b = 0 := by rw [putC, if_neg (fun q => q drL_nm), if_neg h2, if_neg (by omega), if_neg (fun q => q.elim hr (by omega))]
  have eP : s.put (drL nm) v b = s.change 0 (fun s => s.obsTo (s.obs ++ [⟨drL nm, v, b, false⟩])) := by rw [Sh.put, hp]
  rcases chg (d := fun s => s.obsTo (s.obs ++ [⟨drL nm, v, b, false⟩])) h with ⟨q1, q2⟩ | ⟨q1, q2⟩
  · refine .inr ⟨s.spend.1, ?_, q2, spend_obs.2, .inl spend_obs.1⟩
    rw [pub_d2 hn c1 (by rw [e1]; dsimp only; rw [eP, q1]; exact nine0), e1]
    dsimp only; rw [eP, q1]
  -- the draft is there
  generalize hs1 : s.spend.1 = s1 at q1 q2
  have ho1 : s1.obs = s.obs := by rw [← hs1]; exact spend_obs.1
  have hr1 : s1.room = s.room := by rw [← hs1]; exact spend_obs.2
  rw [ho1] at q1
  rw [pub_d3 hn c1 (by rw [e1]; dsimp only; rw [eP, q1]), e1]
  dsimp only
  rw [eP, q1]
  dsimp only
  have f2 : (s1.obsTo (s.obs ++ [⟨drL nm, v, b, false⟩])).off = false := q2
  rcases chg (d := id) f2 with ⟨u1, u2⟩ | ⟨u1, u2⟩
  · have en : (s1.obsTo (s.obs ++ [⟨drL nm, v, b, false⟩])).nudge = ((s1.obsTo (s.obs ++ [⟨drL nm, v, b, false⟩])).spend.1, 9) := u1
    have es : (s1.obsTo (s.obs ++ [⟨drL nm, v, b, false⟩])).sync1 (drL nm) = ((s1.obsTo (s.obs ++ [⟨drL nm, v, b, false⟩])).spend.1, 9) := by rw [sync1_no (by rw [en]; exact nine0), en]
    refine .inr ⟨(s1.obsTo (s.obs ++ [⟨drL nm, v, b, false⟩])).spend.1, ?_, u2, spend_obs.2.trans hr1, .inr ⟨false, spend_obs.1⟩⟩
    rw [es, pubK_1 (show ¬ (9 : Nat) = 0 by decide)]
    dsimp only
    rw [del_off u2]
  generalize hs2 : (s1.obsTo (s.obs ++ [⟨drL nm, v, b, false⟩])).spend.1 = s2 at u1 u2
  have ho2 : s2.obs = s.obs ++ [⟨drL nm, v, b, false⟩] := by rw [← hs2]; exact spend_obs.1
  have hr2 : s2.room = s.room := by rw [← hs2]; exact spend_obs.2.trans hr1
  have en : (s1.obsTo (s.obs ++ [⟨drL nm, v, b, false⟩])).nudge = (s2, 0) := u1
  have es : (s1.obsTo (s.obs ++ [⟨drL nm, v, b, false⟩])).sync1 (drL nm) = (s2.obsTo (s.obs ++ [⟨drL nm, v, b, true⟩]), 0) := by
    rw [sync1_ok (by rw [en]) (by rw [en]; show hasO s2.obs _; rw [ho2]; exact has_snoc.2 (.inr rfl)), en]
    show (Sh.obsTo s2 (syncO s2.obs (drL nm)), 0) = _
    rw [ho2, sync_snoc h2]
  rw [es]
  have f3 : (s2.obsTo (s.obs ++ [⟨drL nm, v, b, true⟩])).off = false := u2
  have hc : renC (s2.obsTo (s.obs ++ [⟨drL nm, v, b, true⟩])) (drL nm) nm = 0 := by
    rw [renC, if_neg (fun q => q hn), if_neg (fun q => q (has_snoc.2 (.inr rfl))), if_neg (fun q => ?_)]
    rcases has_snoc.1 q.1 with q | q
    · exact h1 q
    · exact h3 q
  have eR : (s2.obsTo (s.obs ++ [⟨drL nm, v, b, true⟩])).ren (drL nm) nm = (s2.obsTo (s.obs ++ [⟨drL nm, v, b, true⟩])).change 0 (fun s => s.obsTo (delO s.obs (drL nm) ++ [nameTo (lkO s.obs (drL nm)) nm])) := by rw [Sh.ren, hc]
  rcases chg (d := fun s => s.obsTo (delO s.obs (drL nm) ++ [nameTo (lkO s.obs (drL nm)) nm])) f3 with ⟨w1, w2⟩ | ⟨w1, w2⟩
  · refine .inr ⟨(s2.obsTo (s.obs ++ [⟨drL nm, v, b, true⟩])).spend.1, ?_, w2, spend_obs.2.trans hr2, .inr ⟨true, spend_obs.1⟩⟩
    rw [pubK_2 rfl (by dsimp only; rw [eR, w1]; exact nine0)]
    dsimp only
    rw [eR, w1]
    dsimp only
    rw [del_off w2]
  · generalize hs3 : (s2.obsTo (s.obs ++ [⟨drL nm, v, b, true⟩])).spend.1 = s3 at w1 w2
    have ho3 : s3.obs = s.obs ++ [⟨drL nm, v, b, true⟩] := by rw [← hs3]; exact spend_obs.1
    have hr3 : s3.room = s.room := by rw [← hs3]; exact spend_obs.2.trans hr2
    refine .inl ⟨s3.obsTo (delO s3.obs (drL nm) ++ [nameTo (lkO s3.obs (drL nm)) nm]), ?_, ?_, w2, hr3⟩
    · rw [pubK_3 rfl (by dsimp only; rw [eR, w1])]; dsimp only; rw [eR, w1]
    · show delO s3.obs (drL nm) ++ [nameTo (lkO s3.obs (drL nm)) nm] = _
      have d1 := del_snoc (o := ⟨drL nm, v, b, true⟩) h2
      have d2 := lk_snoc (o := ⟨drL nm, v, b, true⟩) h2
      dsimp only at d1 d2
      rw [ho3, d1, d2]; rfl
/-- Raise likewise -/
theorem raise_or {s : Sh} {cn m : Int} (h : s.off = false) (h1 : cn < m) (h2 : m ≤ 4611686018427387903) : (∃ t, raiseF s cn m = (t, cn, 9) ∧ t.off = true ∧ t.obs = s.obs ∧ t.room = s.room) ∨ (∃ t, raiseF s cn m = (t, m, 0) ∧ t.off = false ∧ t.obs = s.obs ∧ t.room = s.room) := by
  rw [raiseF, if_neg (by rw [h]; decide), if_neg (by omega)]
  rcases chg (d := id) h with ⟨u1, u2⟩ | ⟨u1, u2⟩
  · have en : s.nudge = (s.spend.1, 9) := u1
    rw [en]
    exact .inl ⟨s.spend.1, if_pos nine0, u2, spend_obs.1, spend_obs.2⟩
  · have en : s.nudge = (s.spend.1, 0) := u1
    rw [en]
    exact .inr ⟨s.spend.1, if_neg (fun q => q rfl), u2, spend_obs.1, spend_obs.2⟩
end Go.Proofs.YtnhpghhibcdklaaGreatDoor
set_option linter.unusedSimpArgs false
set_option linter.unusedVariables false
namespace Go.Proofs.YtnhpghhibcdklaaGreatDoor
open Go Go.RowKit
set_option maxRecDepth 100000
set_option maxHeartbeats 2000000
attribute [local irreducible] sumL keyedL hexL strL sealF sealL tapeL tapeN
/-- what Add leaves: the number, the answer, the store, the cell, the log, the tape -/
structure AdZ where
  n : Nat
  e : Nat
  t : Sh
  cn : Int
  rv : Value
  rs : List Rec
  la : List UInt8
  c : Nat
  p : Nat
  vl : Value
def AddR (hk mk la tl : List UInt8) (rs : List Rec) (r : Rec) (s : Sh) (cn : Int) (p : Nat) (z : AdZ) : Prop := (p + 16 ≤ 32 * z.c ∧ 32 * z.c < p + 16 + 32) ∧ z.p = p + 16 ∧ ∃ v : Value,
  ((¬ (s.pub (nameR (rs.length + 1)) v (sealL hk mk 115 (nameR (rs.length + 1)) (tapeN tl p 16) (bareQ la (numR (rs.length + 1) r)))).2 = 0 ∧ z.n = 0 ∧ z.e = (if (s.pub (nameR (rs.length + 1)) v (sealL hk mk 115 (nameR (rs.length + 1)) (tapeN tl p 16) (bareQ la (numR (rs.length + 1) r)))).2 = 7 then 12 else (s.pub (nameR (rs.length + 1)) v (sealL hk mk 115 (nameR (rs.length + 1)) (tapeN tl p 16) (bareQ la (numR (rs.length + 1) r)))).2) ∧ z.t = (s.pub (nameR (rs.length + 1)) v (sealL hk mk 115 (nameR (rs.length + 1)) (tapeN tl p 16) (bareQ la (numR (rs.length + 1) r)))).1 ∧ z.cn = cn ∧ z.rs = rs ∧ z.la = la) ∨
   ((s.pub (nameR (rs.length + 1)) v (sealL hk mk 115 (nameR (rs.length + 1)) (tapeN tl p 16) (bareQ la (numR (rs.length + 1) r)))).2 = 0 ∧ ¬ (raiseF (s.pub (nameR (rs.length + 1)) v (sealL hk mk 115 (nameR (rs.length + 1)) (tapeN tl p 16) (bareQ la (numR (rs.length + 1) r)))).1 cn (((rs.length + 1) : Nat) : Int)).2.2 = 0 ∧ z.n = 0 ∧ z.e = (raiseF (s.pub (nameR (rs.length + 1)) v (sealL hk mk 115 (nameR (rs.length + 1)) (tapeN tl p 16) (bareQ la (numR (rs.length + 1) r)))).1 cn (((rs.length + 1) : Nat) : Int)).2.2 ∧ z.t = (raiseF (s.pub (nameR (rs.length + 1)) v (sealL hk mk 115 (nameR (rs.length + 1)) (tapeN tl p 16) (bareQ la (numR (rs.length + 1) r)))).1 cn (((rs.length + 1) : Nat) : Int)).1 ∧ z.cn = (raiseF (s.pub (nameR (rs.length + 1)) v (sealL hk mk 115 (nameR (rs.length + 1)) (tapeN tl p 16) (bareQ la (numR (rs.length + 1) r)))).1 cn (((rs.length + 1) : Nat) : Int)).2.1 ∧ z.rs = rs ∧ z.la = la) ∨
   ((s.pub (nameR (rs.length + 1)) v (sealL hk mk 115 (nameR (rs.length + 1)) (tapeN tl p 16) (bareQ la (numR (rs.length + 1) r)))).2 = 0 ∧ (raiseF (s.pub (nameR (rs.length + 1)) v (sealL hk mk 115 (nameR (rs.length + 1)) (tapeN tl p 16) (bareQ la (numR (rs.length + 1) r)))).1 cn (((rs.length + 1) : Nat) : Int)).2.2 = 0 ∧ z.n = rs.length + 1 ∧ z.e = 0 ∧ z.t = (raiseF (s.pub (nameR (rs.length + 1)) v (sealL hk mk 115 (nameR (rs.length + 1)) (tapeN tl p 16) (bareQ la (numR (rs.length + 1) r)))).1 cn (((rs.length + 1) : Nat) : Int)).1 ∧ z.cn = (raiseF (s.pub (nameR (rs.length + 1)) v (sealL hk mk 115 (nameR (rs.length + 1)) (tapeN tl p 16) (bareQ la (numR (rs.length + 1) r)))).1 cn (((rs.length + 1) : Nat) : Int)).2.1 ∧ z.rs = rs ++ [numR (rs.length + 1) r] ∧ z.la = sumL (sealL hk mk 115 (nameR (rs.length + 1)) (tapeN tl p 16) (bareQ la (numR (rs.length + 1) r)))))
theorem addany_spec {r : Rec} {s : Sh} {cn k : Int} {mb c p : Nat} {hk mk nk la : List UInt8} {lb tb sb cb : Nat} {rv : Value} {rs : List Rec} {tl : List UInt8} {vb vl : Value} {w : World} (h3 : hk.length = 32 ∧ mk.length = 32 ∧ nk.length = 32) (hla : la.length = 32) (hrl : rs.length + 1 < 100) (hnt : r.s.note.length < 9223372036854775808) (hat : ShAt s k) (hkk : k < 4611686018427387000) (hc0 : checkR rs s.off cn r = 0) (hcn : cn = (rs.length : Int)) (hbnd : Bnd (numR (rs.length + 1) r))
    (hI0 : p ≤ 32 * c ∧ 32 * c < p + 32) (hp0 : p < 100000000000) (hlb : tl.length < 1099511627776) (hg : Ro (Fs [cel lb (hk.map B ++ (mk.map B ++ (nk.map B ++ ([PT tb, PT sb, PT cb, rv] ++ (la.map B))))) 138, own rv rs.length (rs.flatMap rcC) 33 36, cel cb ([PT sb, I (cn)]) 168, cel sb ([Value.map (some mb), I (s.left), .bool s.off, I (s.made), I (s.room)]) 159, mapS mb (kvO s.obs), bag (s.obs.map (obR 5)), cel tb ([vb, .int .u64 ((c : Nat) : Int), vl]) 224, ownB vb tl 5, ownB vl ((tapeL tl c).drop p) 5]) w glob) (hh : Pre w [cel lb (hk.map B ++ (mk.map B ++ (nk.map B ++ ([PT tb, PT sb, PT cb, rv] ++ (la.map B))))) 138, own rv rs.length (rs.flatMap rcC) 33 36, cel cb ([PT sb, I (cn)]) 168, cel sb ([Value.map (some mb), I (s.left), .bool s.off, I (s.made), I (s.room)]) 159, mapS mb (kvO s.obs), bag (s.obs.map (obR 5)), cel tb ([vb, .int .u64 ((c : Nat) : Int), vl]) 224, ownB vb tl 5, ownB vl ((tapeL tl c).drop p) 5]) :
    Spec Tryz.prog 9 [PT lb, .agg ([I (r.kind), I (r.s.seq), I (r.s.time), Str r.s.note] ++ (r.s.root.map B)).toArray] w [cel lb (hk.map B ++ (mk.map B ++ (nk.map B ++ ([PT tb, PT sb, PT cb, rv] ++ (la.map B))))) 138, own rv rs.length (rs.flatMap rcC) 33 36, cel cb ([PT sb, I (cn)]) 168, cel sb ([Value.map (some mb), I (s.left), .bool s.off, I (s.made), I (s.room)]) 159, mapS mb (kvO s.obs), bag (s.obs.map (obR 5)), cel tb ([vb, .int .u64 ((c : Nat) : Int), vl]) 224, ownB vb tl 5, ownB vl ((tapeL tl c).drop p) 5] (AddR hk mk la tl rs r s cn p) (fun z => .tuple #[IN z.n, IN z.e]) (fun z => [cel lb (hk.map B ++ (mk.map B ++ (nk.map B ++ ([PT tb, PT sb, PT cb, z.rv] ++ (z.la.map B))))) 138, own z.rv z.rs.length (z.rs.flatMap rcC) 33 36, cel cb ([PT sb, I (z.cn)]) 168, cel sb ([Value.map (some mb), I (z.t.left), .bool z.t.off, I (z.t.made), I (z.t.room)]) 159, mapS mb (kvO z.t.obs), bag (z.t.obs.map (obR 5)), cel tb ([vb, .int .u64 ((z.c : Nat) : Int), z.vl]) 224, ownB vb tl 5, ownB z.vl ((tapeL tl z.c).drop z.p) 5]) := by
  refine spec_of (n := 97) Tryz.func9 rfl rfl hh.1 hh.2 rfl ?_
  have hok := hat.ok oM
  obtain ⟨hk32, mk32, nk32⟩ := h3
  refine tk_ownA (mm 1 rfl) fun hfr => ?_
  have hrh := r.s.h
  refine tk_own1 (by repeat (first | exact .head _ | refine .tail _ ?_)) fun hfb => ?_; refine tk_own1 (by repeat (first | exact .head _ | refine .tail _ ?_)) fun hfl => ?_
  have hrh2 := (numR (rs.length + 1) r).s.h
  have hnrn := (nameR_nm (n := (rs.length + 1)) oM).2
  refine s_r <| tk_act rfl <| a_boxL (cs := [I (r.kind), I (r.s.seq), I (r.s.time), Str r.s.note] ++ (r.s.root.map B)) rfl rfl fun b3 => q_a rfl rfl <| q_a rfl rfl <| s_n <| tk_seq <| s_r <| q_m rfl rfl <| s_q rfl (y_pnil rfl rfl rfl) <| s_n <| tk_cond0 rfl <| tk_skip <| tk_then <| tk_seq <| s_r <| q_m rfl rfl <| s_q rfl (y_loadA 36 rfl kR (by simp [hrh, hrh2, hk32, mk32, nk32]) (hcw (.head _))) <| tk_act rfl <| tk_ps [6, 6, 6, 6, 6, 6] rfl <| a_callv [] _ rfl kR rfl (fun w' hw' => check_spec (r := r) (s := s) (cn := cn) (hk := hk) (mk := mk) (nk := nk) (tb := tb) (cb := cb) (lb := lb) (rv := rv) (rs := rs) (la := la) ⟨lenP, lenP, lenP⟩ lenP lenP hnt hok (St.pre hw')) rfl fun _ _ => q_a rfl rfl <| s_n <| s_r ?_; refine q_m rfl rfl <| tk_qe (.bool false) rfl rfl rfl (y_neq rfl rfl) (bool_f oM) <| s_n <| tk_cond0 rfl <| tk_skip <| tk_then <| s_r <| q_m rfl rfl <| s_q rfl (y_nilCheck rfl) <| s_q rfl (y_fldN (o := 0) 99 rfl kR) <| s_q rfl (y_load rfl rfl (hc (o := 99) (.head _) (gA (k := 32) (i := 67) (by rw [List.length_map]; exact hk32) oM (gA (k := 32) (i := 35) (by rw [List.length_map]; exact mk32) oM (gA (k := 32) (i := 3) (by rw [List.length_map]; exact nk32) oM (rfl)))))) <| s_q rfl (y_lenE rfl hfr.choose_spec rfl) <| s_q rfl (y_addN (a := rs.length) (b := 1) rfl rfl oM) <| tk_re 26 (I ((rs.length + 1 : Nat) : Int)) (I (((rs.length + 1) : Nat) : Int)) rfl (rfl) <| q_a rfl rfl <| s_n ?_; refine tk_seqI (X := Unit) (fun _ => True) (fun _ => [(0, PT lb), (3, PT b3), (4, I 0), (5, I 0), (7, I (((rs.length + 1) : Nat) : Int))]) (fun _ => [cel lb (hk.map B ++ (mk.map B ++ (nk.map B ++ ([PT tb, PT sb, PT cb, rv] ++ (la.map B))))) 138, own rv rs.length (rs.flatMap rcC) 33 36, cel cb ([PT sb, I (cn)]) 168, cel sb ([Value.map (some mb), I (s.left), .bool s.off, I (s.made), I (s.room)]) 159, mapS mb (kvO s.obs), bag (s.obs.map (obR 5)), cel tb ([vb, .int .u64 ((c : Nat) : Int), vl]) 224, ownB vb tl 5, ownB vl ((tapeL tl c).drop p) 5, cel b3 ([I ((numR (rs.length + 1) r).kind), I ((numR (rs.length + 1) r).s.seq), I ((numR (rs.length + 1) r).s.time), Str ((numR (rs.length + 1) r).s.note)] ++ (((numR (rs.length + 1) r).s.root).map B)) 33]) ?_ ?_
  · refine s_r <| s_q rfl (y_fld0 (o := 0) rfl kR) <| s_q rfl (y_load rfl rfl (hc (o := 0) (mm 6 rfl) (rfl))) <| s_q rfl (y_eql rfl rfl) <| s_n <| tk_condP rfl (fun ht29 => ?_) (fun ht29 => ?_)
    · exact tk_region <| q_m rfl rfl <| s_q rfl (y_fldN (o := 0) 1 rfl kR) <| s_q rfl (y_fld0 (o := 1) rfl kR) <| tk_act rfl <| a_storeE (H1 := [_, _, _, _, _, _]) (o := 1) (v := I (((rs.length + 1) : Nat) : Int)) (cs' := [I (r.kind), I (((rs.length + 1) : Nat) : Int), I (r.s.time), Str r.s.note] ++ (r.s.root.map B)) rfl rfl kR rfl rfl sW (rfl) <| tk_nil <| tk_R (H1 := [_, _, _, _, _, _]) rfl (congrArg (fun z_ => cel b3 z_ 33) (show [I (r.kind), I (((rs.length + 1) : Nat) : Int), I (r.s.time), Str r.s.note] ++ (r.s.root.map B) = [I ((numR (rs.length + 1) r).kind), I ((numR (rs.length + 1) r).s.seq), I ((numR (rs.length + 1) r).s.time), Str ((numR (rs.length + 1) r).s.note)] ++ (((numR (rs.length + 1) r).s.root).map B) from by rw [numR_1 ht29])) <| tk_ps [6, 9, 9, 9, 9, 9, 9, 9, 9, 9] rfl <| tk_to (()) (by first | exact trivial | omega | (dsimp only; omega)) sB (List.Sublist.refl _)
    · exact tk_skip <| tk_R (H1 := [_, _, _, _, _, _]) rfl (congrArg (fun z_ => cel b3 z_ 33) (show [I (r.kind), I (r.s.seq), I (r.s.time), Str r.s.note] ++ (r.s.root.map B) = [I ((numR (rs.length + 1) r).kind), I ((numR (rs.length + 1) r).s.seq), I ((numR (rs.length + 1) r).s.time), Str ((numR (rs.length + 1) r).s.note)] ++ (((numR (rs.length + 1) r).s.root).map B) from by rw [numR_0 ht29])) <| tk_ps [6, 9, 9, 9, 9, 9, 9, 9, 9, 9] rfl <| tk_to (()) (by first | exact trivial | omega | (dsimp only; omega)) sB (List.Sublist.refl _)
  · rintro _ _
    refine s_r <| q_m rfl rfl <| s_q rfl (y_loadA 36 rfl kR (by simp [hrh, hrh2, hk32, mk32, nk32]) (hcw (mm 9 rfl))) <| tk_act rfl <| a_callv [] _ rfl kR rfl (fun w' hw' => lbareR_spec (r := (numR (rs.length + 1) r)) (hk := hk) (mk := mk) (nk := nk) (tb := tb) (cb := cb) (lb := lb) (rv := rv) (rs := rs) (la := la) ⟨lenP, lenP, lenP⟩ lenP hbnd (St.pre hw')) rfl fun v36 _ => ?_
    have hbl := bareQ_len hla hbnd
    refine tk_own1 (.head _) fun hf36 => q_m rfl rfl <| s_q rfl (y_extract rfl rfl) <| s_q rfl (y_extract rfl rfl) <| q_a rfl rfl <| q_a rfl rfl <| s_n <| tk_seq <| s_r <| q_m rfl rfl <| s_q rfl ((y_neq rfl rfl).cast (bool_f dC)) <| s_n <| tk_cond0 rfl <| tk_skip <| tk_then <| tk_seq <| tk_drawH [ownB v36 (bareQ la ((numR (rs.length + 1) r))) 5, cel lb (hk.map B ++ (mk.map B ++ (nk.map B ++ ([PT tb, PT sb, PT cb, rv] ++ (la.map B))))) 138, own rv rs.length (rs.flatMap rcC) 33 36, cel cb ([PT sb, I (cn)]) 168, cel sb ([Value.map (some mb), I (s.left), .bool s.off, I (s.made), I (s.room)]) 159, mapS mb (kvO s.obs), bag (s.obs.map (obR 5)), ownB vb tl 5, cel b3 ([I ((numR (rs.length + 1) r).kind), I ((numR (rs.length + 1) r).s.seq), I ((numR (rs.length + 1) r).s.time), Str ((numR (rs.length + 1) r).s.note)] ++ (((numR (rs.length + 1) r).s.root).map B)) 33] [] kR <| s_x 0 rfl (y_move rfl) <| s_x 1 rfl (y_nilCheck rfl) <| s_x 2 rfl (y_fld0 (o := 0) rfl kR) <| s_l 3 rfl (fun _ h => kT [0, 0, 0, 0, 0, 0, 0, 1] 1 rfl h) (y_loadA (vs := hk.map B ++ (mk.map B ++ (nk.map B ++ ([PT tb])))) 97 rfl kR (by simp [hrh, hrh2, hk32, mk32, nk32]) (hseg (pre := ([] : List Value)) (post := [PT sb, PT cb, rv] ++ (la.map B)) (mm 1 rfl) (by simp [hrh, hrh2, hk32, mk32, nk32]) sI)) <| s_x 4 rfl (y_move rfl) <| s_x 6 rfl (y_move rfl) <| tx_all (is := [5, 7]) kR rfl ⟨⟨_, rfl, rfl, ?_⟩, ⟨_, rfl, rfl, ?_⟩, trivial⟩
    · refine a_callv [] _ rfl kR rfl (fun w' hw' => lname_spec (n := (rs.length + 1)) lenP) rfl fun _ _ => tk_S (fun _ h => kT [0, 0, 0, 0, 0, 0, 0, 1] 1 rfl h) <| tx_a 7 rfl kR rfl <| a_slitN (vs := [v36]) rfl (List.forall_mem_cons.2 ⟨(RdS.one hf36.choose_spec), (fun _ h => nomatch h)⟩) (EL208) rfl rfl dC fun b50 => tk_S (fun _ h => kT [1, 0, 0, 0, 0, 0, 0, 1] 1 rfl h) <| tx_more [cel b50 ([v36]) 64, ownB v36 (bareQ la ((numR (rs.length + 1) r))) 5, cel lb (hk.map B ++ (mk.map B ++ (nk.map B ++ ([PT tb, PT sb, PT cb, rv] ++ (la.map B))))) 138, own rv rs.length (rs.flatMap rcC) 33 36, cel cb ([PT sb, I (cn)]) 168, cel sb ([Value.map (some mb), I (s.left), .bool s.off, I (s.made), I (s.room)]) 159, mapS mb (kvO s.obs), bag (s.obs.map (obR 5)), ownB vb tl 5, cel b3 ([I ((numR (rs.length + 1) r).kind), I ((numR (rs.length + 1) r).s.seq), I ((numR (rs.length + 1) r).s.time), Str ((numR (rs.length + 1) r).s.note)] ++ (((numR (rs.length + 1) r).s.root).map B)) 33] (fun _ h => kD 1 rfl h) (fun _ h => kT [0, 0, 0, 0, 0, 0, 0, 0, 1] 1 rfl h) <| tx_a 8 rfl kR rfl <| tk_ps [10, 10, 10] rfl <| a_callv [] _ rfl kR rfl (fun w' hw' => write_spec (hk := hk) (mk := mk) (nk := nk) (name := nameR (rs.length + 1)) (L := bareQ la (numR (rs.length + 1) r)) (kind := 115) (ps := [(v36, bareQ la (numR (rs.length + 1) r))]) (tb := tb) (c := c) (p := p) (vb := vb) (vl := vl) (b := tl) ⟨lenP, lenP, lenP⟩ ⟨lenP, lenP⟩ lenP lenP (Ro.cel (vs := [v36]) hw' (.head _) rS rfl dC) (List.forall_mem_cons.2 ⟨(Ro.own (H0 := _) hw' (mm 1 rfl)), (fun _ h => nomatch h)⟩) sI ⟨lenP, lenP, lenP⟩ (hg.call hw') (St.pre hw')) rfl fun ⟨c51, vl51, v51⟩ hx51 => tk_S (fun _ h => ((((((((((h.perm (pk 12 rfl)).perm (pk 3 rfl)).perm (pk 12 rfl)).perm (pk 12 rfl)).perm (pk 12 rfl)).perm (pk 12 rfl)).perm (pk 12 rfl)).perm (pk 12 rfl)).perm (pk 12 rfl)).perm (pk 12 rfl)).sub (.cons_cons _ (.cons_cons _ (.cons_cons _ (.cons_cons _ (.cons_cons _ (.cons_cons _ (.cons_cons _ (.cons_cons _ (.cons_cons _ (.cons_cons _ (List.nil_sublist _)))))))))))) <| tk_R (H1 := []) rfl (show ownB v51 ((sealF hk mk 115 (nameR (rs.length + 1)) (tapeN tl p 16) (bareQ la (numR (rs.length + 1) r))).1) 5 = ownB v51 (sealL hk mk 115 ((nameR (rs.length + 1))) (tapeN tl p 16) (bareQ la (numR (rs.length + 1) r))) 5 from ownM_cast (by rw [sealF_ok lenP lenP])) <| tk_re 51 (.tuple #[v51, I (((sealF hk mk 115 (nameR (rs.length + 1)) (tapeN tl p 16) (bareQ la (numR (rs.length + 1) r))).2 : Nat) : Int)]) (.tuple #[v51, I 0]) rfl (by rw [sealF_ok lenP lenP]; rfl) ?_
      have hslv51 : (sealL hk mk 115 ((nameR (rs.length + 1))) (tapeN tl p 16) (bareQ la (numR (rs.length + 1) r))).length = (bareQ la (numR (rs.length + 1) r)).length + 48 := sealL_len tapeN_len
      refine tk_own1 (.head _) fun hfv51 => s_x 9 rfl (y_move rfl) <| s_x 10 rfl (y_extract rfl rfl) <| s_x 11 rfl (y_extract rfl rfl) <| s_x 12 rfl (y_assign rfl) <| s_x 13 rfl (y_assign rfl) <| tx_done kR <| tk_then <| tk_seq <| s_r <| q_m rfl rfl <| s_q rfl ((y_neq rfl rfl).cast (bool_f dC)) <| s_n <| tk_cond0 rfl <| tk_skip <| tk_then <| tk_seq <| tk_seq <| tk_drawH [ownB v51 (sealL hk mk 115 ((nameR (rs.length + 1))) (tapeN tl p 16) (bareQ la (numR (rs.length + 1) r))) 5, cel tb ([vb, .int .u64 ((c51 : Nat) : Int), vl51]) 224, ownB vb tl 5, ownB vl51 ((tapeL tl c51).drop (p + 16)) 5, cel b50 ([v36]) 64, ownB v36 (bareQ la ((numR (rs.length + 1) r))) 5, cel lb (hk.map B ++ (mk.map B ++ (nk.map B ++ ([PT tb, PT sb, PT cb, rv] ++ (la.map B))))) 138, own rv rs.length (rs.flatMap rcC) 33 36, cel cb ([PT sb, I (cn)]) 168, cel b3 ([I ((numR (rs.length + 1) r).kind), I ((numR (rs.length + 1) r).s.seq), I ((numR (rs.length + 1) r).s.time), Str ((numR (rs.length + 1) r).s.note)] ++ (((numR (rs.length + 1) r).s.root).map B)) 33] [] kR <| s_x 0 rfl (y_move rfl) <| s_x 1 rfl (y_nilCheck rfl) <| s_x 2 rfl (y_fldN (o := 0) 97 rfl kR) <| s_l 3 rfl (fun _ h => kT [0, 0, 0, 0, 0, 0, 0, 0, 0] 3 rfl h) (y_load rfl rfl (hc (o := 97) (mm 6 rfl) (gA (k := 32) (i := 65) (by rw [List.length_map]; exact hk32) oM (gA (k := 32) (i := 33) (by rw [List.length_map]; exact mk32) oM (gA (k := 32) (i := 1) (by rw [List.length_map]; exact nk32) oM (rfl)))))) <| s_x 4 rfl (y_move rfl) ?_; refine s_x 6 rfl (y_move rfl) <| tx_a 5 rfl kR rfl <| a_callv [] _ rfl kR rfl (fun w' hw' => lname_spec (n := (rs.length + 1)) lenP) rfl fun _ _ => tk_S (fun _ h => kT [0, 0, 0, 0, 0, 0, 0, 0, 0] 3 rfl h) <| tx_a 7 rfl kR rfl <| tk_ps [11, 11, 11] rfl <| a_callv [] _ rfl kR rfl (fun w' hw' => pub_spec (s := s) (sb := sb) (mb := mb) (nm := nameR (rs.length + 1)) (b := sealL hk mk 115 ((nameR (rs.length + 1))) (tapeN tl p 16) (bareQ la (numR (rs.length + 1) r))) hat hkk lenP lenP (Ro.own (H0 := _) hw' (.head _)) (hg.call hw') (St.pre hw')) rfl fun v64 _ => tk_S (fun _ h => kD 3 rfl h) ?_
      have hok5 : ShOk (s.pub (nameR (rs.length + 1)) v64 (sealL hk mk 115 (nameR (rs.length + 1)) (tapeN tl p 16) (bareQ la (numR (rs.length + 1) r)))).1 := (at_pub (nm := nameR (rs.length + 1)) (v := v64) (b := sealL hk mk 115 (nameR (rs.length + 1)) (tapeN tl p 16) (bareQ la (numR (rs.length + 1) r))) hat).ok oM
      refine s_x 8 rfl (y_assign rfl) <| tx_done kR <| tk_then <| s_r <| q_m rfl rfl <| s_n <| tk_block <| s_r <| s_q rfl (y_eql rfl rfl) <| q_a rfl rfl <| s_n <| tk_condP rfl (fun ht67 => ?_) (fun ht67 => ?_)
      · refine tk_skip <| tk_in_normal <| tk_then <| tk_seq <| s_r <| q_m rfl rfl <| s_q rfl (y_nilCheck rfl) <| s_q rfl (y_fldN (o := 0) 98 rfl kR) <| s_q rfl (y_load rfl rfl (hc (o := 98) (mm 9 rfl) (gA (k := 32) (i := 66) (by rw [List.length_map]; exact hk32) oM (gA (k := 32) (i := 34) (by rw [List.length_map]; exact mk32) oM (gA (k := 32) (i := 2) (by rw [List.length_map]; exact nk32) oM (rfl)))))) <| q_m rfl rfl <| tk_act rfl <| tk_ps [2, 2, 2, 11] rfl <| a_callv [] _ rfl kR rfl (fun w' hw' => raise_spec (s := (s.pub (nameR (rs.length + 1)) v64 (sealL hk mk 115 ((nameR (rs.length + 1))) (tapeN tl p 16) (bareQ la (numR (rs.length + 1) r)))).1) (cb := cb) (cn := cn) (m := (((rs.length + 1) : Nat) : Int)) hok5 (St.pre hw')) rfl fun _ _ => q_a rfl rfl <| s_n <| s_r <| q_m rfl rfl <| s_q rfl (y_neq rfl rfl) <| s_n <| tk_condP rfl (fun ht78 => ?_) (fun ht78 => ?_)
        · exact s_r <| q_m rfl rfl <| q_a rfl rfl <| q_a rfl rfl <| s_n <| tk_retc <| tk_then_ret <| tk_ps [7, 7, 7, 6, 6, 6, 6, 11, 11] rfl <| tk_ret ((⟨0, (raiseF (s.pub (nameR (rs.length + 1)) v64 (sealL hk mk 115 (nameR (rs.length + 1)) (tapeN tl p 16) (bareQ la (numR (rs.length + 1) r)))).1 cn (((rs.length + 1) : Nat) : Int)).2.2, (raiseF (s.pub (nameR (rs.length + 1)) v64 (sealL hk mk 115 (nameR (rs.length + 1)) (tapeN tl p 16) (bareQ la (numR (rs.length + 1) r)))).1 cn (((rs.length + 1) : Nat) : Int)).1, (raiseF (s.pub (nameR (rs.length + 1)) v64 (sealL hk mk 115 (nameR (rs.length + 1)) (tapeN tl p 16) (bareQ la (numR (rs.length + 1) r)))).1 cn (((rs.length + 1) : Nat) : Int)).2.1, rv, rs, la, c51, p + 16, vl51⟩ : AdZ)) (⟨by simpa using hx51, rfl, v64, .inr (.inl ⟨by omega, by omega, rfl, rfl, rfl, rfl, rfl, rfl⟩)⟩) (.inl rfl) (r2 rfl rfl rfl) (.cons_cons _ (.cons_cons _ (.cons_cons _ (.cons_cons _ (.cons_cons _ (.cons_cons _ (.cons_cons _ (.cons_cons _ (.cons_cons _ (List.nil_sublist _))))))))))
        · refine tk_skip <| tk_then <| tk_seq <| tk_drawH [cel cb ([PT sb, I ((raiseF ((s.pub (nameR (rs.length + 1)) v64 (sealL hk mk 115 ((nameR (rs.length + 1))) (tapeN tl p 16) (bareQ la (numR (rs.length + 1) r)))).1) cn ((((rs.length + 1) : Nat) : Int))).2.1)]) 168, cel sb ([Value.map (some mb), I ((raiseF ((s.pub (nameR (rs.length + 1)) v64 (sealL hk mk 115 ((nameR (rs.length + 1))) (tapeN tl p 16) (bareQ la (numR (rs.length + 1) r)))).1) cn ((((rs.length + 1) : Nat) : Int))).1.left), .bool ((raiseF ((s.pub (nameR (rs.length + 1)) v64 (sealL hk mk 115 ((nameR (rs.length + 1))) (tapeN tl p 16) (bareQ la (numR (rs.length + 1) r)))).1) cn ((((rs.length + 1) : Nat) : Int))).1.off), I ((raiseF ((s.pub (nameR (rs.length + 1)) v64 (sealL hk mk 115 ((nameR (rs.length + 1))) (tapeN tl p 16) (bareQ la (numR (rs.length + 1) r)))).1) cn ((((rs.length + 1) : Nat) : Int))).1.made), I ((raiseF ((s.pub (nameR (rs.length + 1)) v64 (sealL hk mk 115 ((nameR (rs.length + 1))) (tapeN tl p 16) (bareQ la (numR (rs.length + 1) r)))).1) cn ((((rs.length + 1) : Nat) : Int))).1.room)]) 159, mapS mb (kvO ((raiseF ((s.pub (nameR (rs.length + 1)) v64 (sealL hk mk 115 ((nameR (rs.length + 1))) (tapeN tl p 16) (bareQ la (numR (rs.length + 1) r)))).1) cn ((((rs.length + 1) : Nat) : Int))).1.obs)), bag (((raiseF ((s.pub (nameR (rs.length + 1)) v64 (sealL hk mk 115 ((nameR (rs.length + 1))) (tapeN tl p 16) (bareQ la (numR (rs.length + 1) r)))).1) cn ((((rs.length + 1) : Nat) : Int))).1.obs).map (obR 5)), ownB v51 (sealL hk mk 115 ((nameR (rs.length + 1))) (tapeN tl p 16) (bareQ la (numR (rs.length + 1) r))) 5, cel tb ([vb, .int .u64 ((c51 : Nat) : Int), vl51]) 224, ownB vb tl 5, ownB vl51 ((tapeL tl c51).drop (p + 16)) 5, cel b50 ([v36]) 64, ownB v36 (bareQ la ((numR (rs.length + 1) r))) 5, cel lb (hk.map B ++ (mk.map B ++ (nk.map B ++ ([PT tb, PT sb, PT cb, rv] ++ (la.map B))))) 138, cel b3 ([I ((numR (rs.length + 1) r).kind), I ((numR (rs.length + 1) r).s.seq), I ((numR (rs.length + 1) r).s.time), Str ((numR (rs.length + 1) r).s.note)] ++ (((numR (rs.length + 1) r).s.root).map B)) 33] [10] kR <| s_x 0 rfl (y_move rfl) <| s_x 1 rfl (y_move rfl) <| s_x 2 rfl (y_nilCheck rfl) <| s_x 3 rfl (y_fldN (o := 0) 99 rfl kR) <| s_l 4 rfl (fun _ h => kT [0, 0, 0, 0, 0, 0, 0, 0, 0, 0, 0] 1 rfl h) (y_load rfl rfl (hc (o := 99) (mm 10 rfl) (gA (k := 32) (i := 67) (by rw [List.length_map]; exact hk32) oM (gA (k := 32) (i := 35) (by rw [List.length_map]; exact mk32) oM (gA (k := 32) (i := 3) (by rw [List.length_map]; exact nk32) oM (rfl)))))) <| s_l 5 rfl (fun _ h => kT [0, 0, 0, 0, 0, 0, 0, 0, 0, 0, 0] 1 rfl h) (y_loadA 36 rfl kR (by simp [hrh, hrh2, hk32, mk32, nk32]) (hcw (mm 11 rfl))) ?_; refine tx_a 6 rfl kR rfl <| a_slitE (k := 36) (cs := [I ((numR (rs.length + 1) r).kind), I ((numR (rs.length + 1) r).s.seq), I ((numR (rs.length + 1) r).s.time), Str ((numR (rs.length + 1) r).s.note)] ++ (((numR (rs.length + 1) r).s.root).map B)) rfl EL35 lenP dC rfl fun b86 => tk_S (fun _ h => kT [1, 0, 0, 0, 0, 0, 0, 0, 0, 0, 0] 1 rfl h) <| tx_a 7 rfl kR rfl <| a_appE (H1 := [_, _, _, _, _, _, _, _, _, _, _, _]) (f := rcC) (l := rs) (e := numR (rs.length + 1) r) (b := b86) (k := 36) rfl rfl EL35 rfl rfl (.head _) (rcC_len _) (List.forall_mem_append.2 ⟨(List.forall_mem_cons.2 ⟨rfl, (List.forall_mem_cons.2 ⟨rfl, (List.forall_mem_cons.2 ⟨rfl, (List.forall_mem_cons.2 ⟨rfl, (fun _ h => nomatch h)⟩)⟩)⟩)⟩), oneB⟩) lenP lenP fun v87 => tk_ownA (mm 12 rfl) fun hfv87 => tk_S (fun _ h => kT [1, 0, 0, 0, 0, 0, 0, 0, 0, 0, 0] 1 rfl h) <| s_x 8 rfl (y_nilCheck rfl) <| s_x 9 rfl (y_fldN (o := 0) 99 rfl kR) <| tx_x 10 rfl kR rfl rfl <| a_storeE (H1 := [_, _, _, _, _, _, _, _, _, _, _]) (o := 99) (v := v87) (cs' := hk.map B ++ (mk.map B ++ (nk.map B ++ ([PT tb, PT sb, PT cb, v87] ++ (la.map B))))) rfl rfl kR (RdC.one hfv87.choose_spec) rfl sW (sA (k := 32) (i := 67) (by rw [List.length_map]; exact hk32) oM (sA (k := 32) (i := 35) (by rw [List.length_map]; exact mk32) oM (sA (k := 32) (i := 3) (by rw [List.length_map]; exact nk32) oM (rfl)))) <| tx_done kR <| tk_then <| s_r <| q_m rfl rfl <| q_m rfl rfl <| tk_act rfl <| a_slitN (vs := [v51]) rfl (List.forall_mem_cons.2 ⟨(RdS.one hfv51.choose_spec), (fun _ h => nomatch h)⟩) (EL208) rfl rfl dC fun b92 => tk_act rfl <| a_callv [] _ rfl kR rfl (fun w' hw' => of_spec (ps := [(v51, sealL hk mk 115 ((nameR (rs.length + 1))) (tapeN tl p 16) (bareQ la (numR (rs.length + 1) r)))]) (L := sealL hk mk 115 ((nameR (rs.length + 1))) (tapeN tl p 16) (bareQ la (numR (rs.length + 1) r))) (Ro.cel (vs := [v51]) hw' (.head _) rS rfl dC) (List.forall_mem_cons.2 ⟨(Ro.own (H0 := []) hw' (mm 6 rfl)), (fun _ h => nomatch h)⟩) sI lenP lenP (hg.call hw')) rfl fun _ _ => s_q rfl (y_nilCheck rfl) <| s_q rfl (y_fldN (o := 0) 100 rfl kR) <| tk_act rfl <| a_storeLE (H1 := [_, _, _, _, _, _, _, _, _, _, _, _]) (pre := hk.map B ++ (mk.map B ++ (nk.map B ++ ([PT tb, PT sb, PT cb, v87])))) (mid := la.map B) (post := ([] : List Value)) (vs := (sumL (sealL hk mk 115 ((nameR (rs.length + 1))) (tapeN tl p 16) (bareQ la (numR (rs.length + 1) r)))).map B) (cs' := hk.map B ++ (mk.map B ++ (nk.map B ++ ([PT tb, PT sb, PT cb, v87] ++ ((sumL (sealL hk mk 115 ((nameR (rs.length + 1))) (tapeN tl p 16) (bareQ la (numR (rs.length + 1) r)))).map B))))) 32 rfl rfl kR rfl ⟨lenP, lenP, lenP⟩ oneB sI sI ?_; exact s_n <| s_r <| q_m rfl rfl <| q_a rfl rfl <| q_a rfl rfl <| s_n <| tk_retc <| tk_ps [9, 9, 9, 8, 8, 8, 8, 13, 13] rfl <| tk_ret ((⟨(rs.length + 1), 0, (raiseF (s.pub (nameR (rs.length + 1)) v64 (sealL hk mk 115 (nameR (rs.length + 1)) (tapeN tl p 16) (bareQ la (numR (rs.length + 1) r)))).1 cn (((rs.length + 1) : Nat) : Int)).1, (raiseF (s.pub (nameR (rs.length + 1)) v64 (sealL hk mk 115 (nameR (rs.length + 1)) (tapeN tl p 16) (bareQ la (numR (rs.length + 1) r)))).1 cn (((rs.length + 1) : Nat) : Int)).2.1, v87, rs ++ [numR (rs.length + 1) r], sumL (sealL hk mk 115 (nameR (rs.length + 1)) (tapeN tl p 16) (bareQ la (numR (rs.length + 1) r))), c51, p + 16, vl51⟩ : AdZ)) (⟨by simpa using hx51, rfl, v64, .inr (.inr ⟨by omega, by omega, rfl, rfl, rfl, rfl, rfl, rfl⟩)⟩) (.inl rfl) (r2 rfl rfl rfl) (.cons_cons _ (.cons_cons _ (.cons_cons _ (.cons_cons _ (.cons_cons _ (.cons_cons _ (.cons_cons _ (.cons_cons _ (.cons_cons _ (List.nil_sublist _))))))))))
      · refine s_r <| s_q rfl (y_eql rfl rfl) <| q_a rfl rfl <| s_n <| tk_condP rfl (fun ht69 => ?_) (fun ht69 => ?_)
        · exact s_r <| q_a rfl rfl <| q_a rfl rfl <| s_n <| tk_retc <| tk_in_ret <| tk_then_ret <| tk_ps [6, 6, 6, 5, 5, 5, 11, 11, 11] rfl <| tk_ret ((⟨0, 12, (s.pub (nameR (rs.length + 1)) v64 (sealL hk mk 115 (nameR (rs.length + 1)) (tapeN tl p 16) (bareQ la (numR (rs.length + 1) r)))).1, cn, rv, rs, la, c51, p + 16, vl51⟩ : AdZ)) (⟨by simpa using hx51, rfl, v64, .inl ⟨by omega, rfl, by rw [if_pos oM], rfl, rfl, rfl, rfl⟩⟩) (.inl rfl) (r2 rfl rfl rfl) (.cons_cons _ (.cons_cons _ (.cons_cons _ (.cons_cons _ (.cons_cons _ (.cons_cons _ (.cons_cons _ (.cons_cons _ (.cons_cons _ (List.nil_sublist _))))))))))
        · exact s_r <| q_m rfl rfl <| q_a rfl rfl <| q_a rfl rfl <| s_n <| tk_retc <| tk_in_ret <| tk_then_ret <| tk_ps [6, 6, 6, 5, 5, 5, 11, 11, 11] rfl <| tk_ret ((⟨0, (s.pub (nameR (rs.length + 1)) v64 (sealL hk mk 115 (nameR (rs.length + 1)) (tapeN tl p 16) (bareQ la (numR (rs.length + 1) r)))).2, (s.pub (nameR (rs.length + 1)) v64 (sealL hk mk 115 (nameR (rs.length + 1)) (tapeN tl p 16) (bareQ la (numR (rs.length + 1) r)))).1, cn, rv, rs, la, c51, p + 16, vl51⟩ : AdZ)) (⟨by simpa using hx51, rfl, v64, .inl ⟨by omega, rfl, by rw [if_neg oM], rfl, rfl, rfl, rfl⟩⟩) (.inl rfl) (r2 rfl rfl rfl) (.cons_cons _ (.cons_cons _ (.cons_cons _ (.cons_cons _ (.cons_cons _ (.cons_cons _ (.cons_cons _ (.cons_cons _ (.cons_cons _ (List.nil_sublist _))))))))))
    · refine a_slitN (vs := [v36]) rfl (List.forall_mem_cons.2 ⟨(RdS.one hf36.choose_spec), (fun _ h => nomatch h)⟩) (EL208) rfl rfl dC fun b50 => tk_S (fun _ h => kT [1, 0, 0, 0, 0, 0, 0, 1] 1 rfl h) <| tx_more [cel b50 ([v36]) 64, ownB v36 (bareQ la ((numR (rs.length + 1) r))) 5, cel lb (hk.map B ++ (mk.map B ++ (nk.map B ++ ([PT tb, PT sb, PT cb, rv] ++ (la.map B))))) 138, own rv rs.length (rs.flatMap rcC) 33 36, cel cb ([PT sb, I (cn)]) 168, cel sb ([Value.map (some mb), I (s.left), .bool s.off, I (s.made), I (s.room)]) 159, mapS mb (kvO s.obs), bag (s.obs.map (obR 5)), ownB vb tl 5, cel b3 ([I ((numR (rs.length + 1) r).kind), I ((numR (rs.length + 1) r).s.seq), I ((numR (rs.length + 1) r).s.time), Str ((numR (rs.length + 1) r).s.note)] ++ (((numR (rs.length + 1) r).s.root).map B)) 33] (fun _ h => kD 1 rfl h) (fun _ h => kT [0, 0, 0, 0, 0, 0, 0, 0, 1] 1 rfl h) <| tx_a 5 rfl kR rfl <| a_callv [] _ rfl kR rfl (fun w' hw' => lname_spec (n := (rs.length + 1)) lenP) rfl fun _ _ => tk_S (fun _ h => kT [0, 0, 0, 0, 0, 0, 0, 0, 1] 1 rfl h) <| tx_a 8 rfl kR rfl <| tk_ps [10, 10, 10] rfl <| a_callv [] _ rfl kR rfl (fun w' hw' => write_spec (hk := hk) (mk := mk) (nk := nk) (name := nameR (rs.length + 1)) (L := bareQ la (numR (rs.length + 1) r)) (kind := 115) (ps := [(v36, bareQ la (numR (rs.length + 1) r))]) (tb := tb) (c := c) (p := p) (vb := vb) (vl := vl) (b := tl) ⟨lenP, lenP, lenP⟩ ⟨lenP, lenP⟩ lenP lenP (Ro.cel (vs := [v36]) hw' (.head _) rS rfl dC) (List.forall_mem_cons.2 ⟨(Ro.own (H0 := _) hw' (mm 1 rfl)), (fun _ h => nomatch h)⟩) sI ⟨lenP, lenP, lenP⟩ (hg.call hw') (St.pre hw')) rfl fun ⟨c51, vl51, v51⟩ hx51 => tk_S (fun _ h => ((((((((((h.perm (pk 12 rfl)).perm (pk 3 rfl)).perm (pk 12 rfl)).perm (pk 12 rfl)).perm (pk 12 rfl)).perm (pk 12 rfl)).perm (pk 12 rfl)).perm (pk 12 rfl)).perm (pk 12 rfl)).perm (pk 12 rfl)).sub (.cons_cons _ (.cons_cons _ (.cons_cons _ (.cons_cons _ (.cons_cons _ (.cons_cons _ (.cons_cons _ (.cons_cons _ (.cons_cons _ (.cons_cons _ (List.nil_sublist _)))))))))))) <| tk_R (H1 := []) rfl (show ownB v51 ((sealF hk mk 115 (nameR (rs.length + 1)) (tapeN tl p 16) (bareQ la (numR (rs.length + 1) r))).1) 5 = ownB v51 (sealL hk mk 115 ((nameR (rs.length + 1))) (tapeN tl p 16) (bareQ la (numR (rs.length + 1) r))) 5 from ownM_cast (by rw [sealF_ok lenP lenP])) <| tk_re 51 (.tuple #[v51, I (((sealF hk mk 115 (nameR (rs.length + 1)) (tapeN tl p 16) (bareQ la (numR (rs.length + 1) r))).2 : Nat) : Int)]) (.tuple #[v51, I 0]) rfl (by rw [sealF_ok lenP lenP]; rfl) ?_
      have hslv51 : (sealL hk mk 115 ((nameR (rs.length + 1))) (tapeN tl p 16) (bareQ la (numR (rs.length + 1) r))).length = (bareQ la (numR (rs.length + 1) r)).length + 48 := sealL_len tapeN_len
      refine tk_own1 (.head _) fun hfv51 => s_x 9 rfl (y_move rfl) <| s_x 10 rfl (y_extract rfl rfl) <| s_x 11 rfl (y_extract rfl rfl) <| s_x 12 rfl (y_assign rfl) <| s_x 13 rfl (y_assign rfl) <| tx_done kR <| tk_then <| tk_seq <| s_r <| q_m rfl rfl <| s_q rfl ((y_neq rfl rfl).cast (bool_f dC)) <| s_n <| tk_cond0 rfl <| tk_skip <| tk_then <| tk_seq <| tk_seq <| tk_drawH [ownB v51 (sealL hk mk 115 ((nameR (rs.length + 1))) (tapeN tl p 16) (bareQ la (numR (rs.length + 1) r))) 5, cel tb ([vb, .int .u64 ((c51 : Nat) : Int), vl51]) 224, ownB vb tl 5, ownB vl51 ((tapeL tl c51).drop (p + 16)) 5, cel b50 ([v36]) 64, ownB v36 (bareQ la ((numR (rs.length + 1) r))) 5, cel lb (hk.map B ++ (mk.map B ++ (nk.map B ++ ([PT tb, PT sb, PT cb, rv] ++ (la.map B))))) 138, own rv rs.length (rs.flatMap rcC) 33 36, cel cb ([PT sb, I (cn)]) 168, cel b3 ([I ((numR (rs.length + 1) r).kind), I ((numR (rs.length + 1) r).s.seq), I ((numR (rs.length + 1) r).s.time), Str ((numR (rs.length + 1) r).s.note)] ++ (((numR (rs.length + 1) r).s.root).map B)) 33] [] kR <| s_x 0 rfl (y_move rfl) <| s_x 1 rfl (y_nilCheck rfl) <| s_x 2 rfl (y_fldN (o := 0) 97 rfl kR) <| s_l 3 rfl (fun _ h => kT [0, 0, 0, 0, 0, 0, 0, 0, 0] 3 rfl h) (y_load rfl rfl (hc (o := 97) (mm 6 rfl) (gA (k := 32) (i := 65) (by rw [List.length_map]; exact hk32) oM (gA (k := 32) (i := 33) (by rw [List.length_map]; exact mk32) oM (gA (k := 32) (i := 1) (by rw [List.length_map]; exact nk32) oM (rfl)))))) <| s_x 4 rfl (y_move rfl) ?_; refine s_x 6 rfl (y_move rfl) <| tx_a 5 rfl kR rfl <| a_callv [] _ rfl kR rfl (fun w' hw' => lname_spec (n := (rs.length + 1)) lenP) rfl fun _ _ => tk_S (fun _ h => kT [0, 0, 0, 0, 0, 0, 0, 0, 0] 3 rfl h) <| tx_a 7 rfl kR rfl <| tk_ps [11, 11, 11] rfl <| a_callv [] _ rfl kR rfl (fun w' hw' => pub_spec (s := s) (sb := sb) (mb := mb) (nm := nameR (rs.length + 1)) (b := sealL hk mk 115 ((nameR (rs.length + 1))) (tapeN tl p 16) (bareQ la (numR (rs.length + 1) r))) hat hkk lenP lenP (Ro.own (H0 := _) hw' (.head _)) (hg.call hw') (St.pre hw')) rfl fun v64 _ => tk_S (fun _ h => kD 3 rfl h) ?_
      have hok5 : ShOk (s.pub (nameR (rs.length + 1)) v64 (sealL hk mk 115 (nameR (rs.length + 1)) (tapeN tl p 16) (bareQ la (numR (rs.length + 1) r)))).1 := (at_pub (nm := nameR (rs.length + 1)) (v := v64) (b := sealL hk mk 115 (nameR (rs.length + 1)) (tapeN tl p 16) (bareQ la (numR (rs.length + 1) r))) hat).ok oM
      refine s_x 8 rfl (y_assign rfl) <| tx_done kR <| tk_then <| s_r <| q_m rfl rfl <| s_n <| tk_block <| s_r <| s_q rfl (y_eql rfl rfl) <| q_a rfl rfl <| s_n <| tk_condP rfl (fun ht67 => ?_) (fun ht67 => ?_)
      · refine tk_skip <| tk_in_normal <| tk_then <| tk_seq <| s_r <| q_m rfl rfl <| s_q rfl (y_nilCheck rfl) <| s_q rfl (y_fldN (o := 0) 98 rfl kR) <| s_q rfl (y_load rfl rfl (hc (o := 98) (mm 9 rfl) (gA (k := 32) (i := 66) (by rw [List.length_map]; exact hk32) oM (gA (k := 32) (i := 34) (by rw [List.length_map]; exact mk32) oM (gA (k := 32) (i := 2) (by rw [List.length_map]; exact nk32) oM (rfl)))))) <| q_m rfl rfl <| tk_act rfl <| tk_ps [2, 2, 2, 11] rfl <| a_callv [] _ rfl kR rfl (fun w' hw' => raise_spec (s := (s.pub (nameR (rs.length + 1)) v64 (sealL hk mk 115 ((nameR (rs.length + 1))) (tapeN tl p 16) (bareQ la (numR (rs.length + 1) r)))).1) (cb := cb) (cn := cn) (m := (((rs.length + 1) : Nat) : Int)) hok5 (St.pre hw')) rfl fun _ _ => q_a rfl rfl <| s_n <| s_r <| q_m rfl rfl <| s_q rfl (y_neq rfl rfl) <| s_n <| tk_condP rfl (fun ht78 => ?_) (fun ht78 => ?_)
        · exact s_r <| q_m rfl rfl <| q_a rfl rfl <| q_a rfl rfl <| s_n <| tk_retc <| tk_then_ret <| tk_ps [7, 7, 7, 6, 6, 6, 6, 11, 11] rfl <| tk_ret ((⟨0, (raiseF (s.pub (nameR (rs.length + 1)) v64 (sealL hk mk 115 (nameR (rs.length + 1)) (tapeN tl p 16) (bareQ la (numR (rs.length + 1) r)))).1 cn (((rs.length + 1) : Nat) : Int)).2.2, (raiseF (s.pub (nameR (rs.length + 1)) v64 (sealL hk mk 115 (nameR (rs.length + 1)) (tapeN tl p 16) (bareQ la (numR (rs.length + 1) r)))).1 cn (((rs.length + 1) : Nat) : Int)).1, (raiseF (s.pub (nameR (rs.length + 1)) v64 (sealL hk mk 115 (nameR (rs.length + 1)) (tapeN tl p 16) (bareQ la (numR (rs.length + 1) r)))).1 cn (((rs.length + 1) : Nat) : Int)).2.1, rv, rs, la, c51, p + 16, vl51⟩ : AdZ)) (⟨by simpa using hx51, rfl, v64, .inr (.inl ⟨by omega, by omega, rfl, rfl, rfl, rfl, rfl, rfl⟩)⟩) (.inl rfl) (r2 rfl rfl rfl) (.cons_cons _ (.cons_cons _ (.cons_cons _ (.cons_cons _ (.cons_cons _ (.cons_cons _ (.cons_cons _ (.cons_cons _ (.cons_cons _ (List.nil_sublist _))))))))))
        · refine tk_skip <| tk_then <| tk_seq <| tk_drawH [cel cb ([PT sb, I ((raiseF ((s.pub (nameR (rs.length + 1)) v64 (sealL hk mk 115 ((nameR (rs.length + 1))) (tapeN tl p 16) (bareQ la (numR (rs.length + 1) r)))).1) cn ((((rs.length + 1) : Nat) : Int))).2.1)]) 168, cel sb ([Value.map (some mb), I ((raiseF ((s.pub (nameR (rs.length + 1)) v64 (sealL hk mk 115 ((nameR (rs.length + 1))) (tapeN tl p 16) (bareQ la (numR (rs.length + 1) r)))).1) cn ((((rs.length + 1) : Nat) : Int))).1.left), .bool ((raiseF ((s.pub (nameR (rs.length + 1)) v64 (sealL hk mk 115 ((nameR (rs.length + 1))) (tapeN tl p 16) (bareQ la (numR (rs.length + 1) r)))).1) cn ((((rs.length + 1) : Nat) : Int))).1.off), I ((raiseF ((s.pub (nameR (rs.length + 1)) v64 (sealL hk mk 115 ((nameR (rs.length + 1))) (tapeN tl p 16) (bareQ la (numR (rs.length + 1) r)))).1) cn ((((rs.length + 1) : Nat) : Int))).1.made), I ((raiseF ((s.pub (nameR (rs.length + 1)) v64 (sealL hk mk 115 ((nameR (rs.length + 1))) (tapeN tl p 16) (bareQ la (numR (rs.length + 1) r)))).1) cn ((((rs.length + 1) : Nat) : Int))).1.room)]) 159, mapS mb (kvO ((raiseF ((s.pub (nameR (rs.length + 1)) v64 (sealL hk mk 115 ((nameR (rs.length + 1))) (tapeN tl p 16) (bareQ la (numR (rs.length + 1) r)))).1) cn ((((rs.length + 1) : Nat) : Int))).1.obs)), bag (((raiseF ((s.pub (nameR (rs.length + 1)) v64 (sealL hk mk 115 ((nameR (rs.length + 1))) (tapeN tl p 16) (bareQ la (numR (rs.length + 1) r)))).1) cn ((((rs.length + 1) : Nat) : Int))).1.obs).map (obR 5)), ownB v51 (sealL hk mk 115 ((nameR (rs.length + 1))) (tapeN tl p 16) (bareQ la (numR (rs.length + 1) r))) 5, cel tb ([vb, .int .u64 ((c51 : Nat) : Int), vl51]) 224, ownB vb tl 5, ownB vl51 ((tapeL tl c51).drop (p + 16)) 5, cel b50 ([v36]) 64, ownB v36 (bareQ la ((numR (rs.length + 1) r))) 5, cel lb (hk.map B ++ (mk.map B ++ (nk.map B ++ ([PT tb, PT sb, PT cb, rv] ++ (la.map B))))) 138, cel b3 ([I ((numR (rs.length + 1) r).kind), I ((numR (rs.length + 1) r).s.seq), I ((numR (rs.length + 1) r).s.time), Str ((numR (rs.length + 1) r).s.note)] ++ (((numR (rs.length + 1) r).s.root).map B)) 33] [10] kR <| s_x 0 rfl (y_move rfl) <| s_x 1 rfl (y_move rfl) <| s_x 2 rfl (y_nilCheck rfl) <| s_x 3 rfl (y_fldN (o := 0) 99 rfl kR) <| s_l 4 rfl (fun _ h => kT [0, 0, 0, 0, 0, 0, 0, 0, 0, 0, 0] 1 rfl h) (y_load rfl rfl (hc (o := 99) (mm 10 rfl) (gA (k := 32) (i := 67) (by rw [List.length_map]; exact hk32) oM (gA (k := 32) (i := 35) (by rw [List.length_map]; exact mk32) oM (gA (k := 32) (i := 3) (by rw [List.length_map]; exact nk32) oM (rfl)))))) <| s_l 5 rfl (fun _ h => kT [0, 0, 0, 0, 0, 0, 0, 0, 0, 0, 0] 1 rfl h) (y_loadA 36 rfl kR (by simp [hrh, hrh2, hk32, mk32, nk32]) (hcw (mm 11 rfl))) ?_; refine tx_a 6 rfl kR rfl <| a_slitE (k := 36) (cs := [I ((numR (rs.length + 1) r).kind), I ((numR (rs.length + 1) r).s.seq), I ((numR (rs.length + 1) r).s.time), Str ((numR (rs.length + 1) r).s.note)] ++ (((numR (rs.length + 1) r).s.root).map B)) rfl EL35 lenP dC rfl fun b86 => tk_S (fun _ h => kT [1, 0, 0, 0, 0, 0, 0, 0, 0, 0, 0] 1 rfl h) <| tx_a 7 rfl kR rfl <| a_appE (H1 := [_, _, _, _, _, _, _, _, _, _, _, _]) (f := rcC) (l := rs) (e := numR (rs.length + 1) r) (b := b86) (k := 36) rfl rfl EL35 rfl rfl (.head _) (rcC_len _) (List.forall_mem_append.2 ⟨(List.forall_mem_cons.2 ⟨rfl, (List.forall_mem_cons.2 ⟨rfl, (List.forall_mem_cons.2 ⟨rfl, (List.forall_mem_cons.2 ⟨rfl, (fun _ h => nomatch h)⟩)⟩)⟩)⟩), oneB⟩) lenP lenP fun v87 => tk_ownA (mm 12 rfl) fun hfv87 => tk_S (fun _ h => kT [1, 0, 0, 0, 0, 0, 0, 0, 0, 0, 0] 1 rfl h) <| s_x 8 rfl (y_nilCheck rfl) <| s_x 9 rfl (y_fldN (o := 0) 99 rfl kR) <| tx_x 10 rfl kR rfl rfl <| a_storeE (H1 := [_, _, _, _, _, _, _, _, _, _, _]) (o := 99) (v := v87) (cs' := hk.map B ++ (mk.map B ++ (nk.map B ++ ([PT tb, PT sb, PT cb, v87] ++ (la.map B))))) rfl rfl kR (RdC.one hfv87.choose_spec) rfl sW (sA (k := 32) (i := 67) (by rw [List.length_map]; exact hk32) oM (sA (k := 32) (i := 35) (by rw [List.length_map]; exact mk32) oM (sA (k := 32) (i := 3) (by rw [List.length_map]; exact nk32) oM (rfl)))) <| tx_done kR <| tk_then <| s_r <| q_m rfl rfl <| q_m rfl rfl <| tk_act rfl <| a_slitN (vs := [v51]) rfl (List.forall_mem_cons.2 ⟨(RdS.one hfv51.choose_spec), (fun _ h => nomatch h)⟩) (EL208) rfl rfl dC fun b92 => tk_act rfl <| a_callv [] _ rfl kR rfl (fun w' hw' => of_spec (ps := [(v51, sealL hk mk 115 ((nameR (rs.length + 1))) (tapeN tl p 16) (bareQ la (numR (rs.length + 1) r)))]) (L := sealL hk mk 115 ((nameR (rs.length + 1))) (tapeN tl p 16) (bareQ la (numR (rs.length + 1) r))) (Ro.cel (vs := [v51]) hw' (.head _) rS rfl dC) (List.forall_mem_cons.2 ⟨(Ro.own (H0 := []) hw' (mm 6 rfl)), (fun _ h => nomatch h)⟩) sI lenP lenP (hg.call hw')) rfl fun _ _ => s_q rfl (y_nilCheck rfl) <| s_q rfl (y_fldN (o := 0) 100 rfl kR) <| tk_act rfl <| a_storeLE (H1 := [_, _, _, _, _, _, _, _, _, _, _, _]) (pre := hk.map B ++ (mk.map B ++ (nk.map B ++ ([PT tb, PT sb, PT cb, v87])))) (mid := la.map B) (post := ([] : List Value)) (vs := (sumL (sealL hk mk 115 ((nameR (rs.length + 1))) (tapeN tl p 16) (bareQ la (numR (rs.length + 1) r)))).map B) (cs' := hk.map B ++ (mk.map B ++ (nk.map B ++ ([PT tb, PT sb, PT cb, v87] ++ ((sumL (sealL hk mk 115 ((nameR (rs.length + 1))) (tapeN tl p 16) (bareQ la (numR (rs.length + 1) r)))).map B))))) 32 rfl rfl kR rfl ⟨lenP, lenP, lenP⟩ oneB sI sI ?_; exact s_n <| s_r <| q_m rfl rfl <| q_a rfl rfl <| q_a rfl rfl <| s_n <| tk_retc <| tk_ps [9, 9, 9, 8, 8, 8, 8, 13, 13] rfl <| tk_ret ((⟨(rs.length + 1), 0, (raiseF (s.pub (nameR (rs.length + 1)) v64 (sealL hk mk 115 (nameR (rs.length + 1)) (tapeN tl p 16) (bareQ la (numR (rs.length + 1) r)))).1 cn (((rs.length + 1) : Nat) : Int)).1, (raiseF (s.pub (nameR (rs.length + 1)) v64 (sealL hk mk 115 (nameR (rs.length + 1)) (tapeN tl p 16) (bareQ la (numR (rs.length + 1) r)))).1 cn (((rs.length + 1) : Nat) : Int)).2.1, v87, rs ++ [numR (rs.length + 1) r], sumL (sealL hk mk 115 (nameR (rs.length + 1)) (tapeN tl p 16) (bareQ la (numR (rs.length + 1) r))), c51, p + 16, vl51⟩ : AdZ)) (⟨by simpa using hx51, rfl, v64, .inr (.inr ⟨by omega, by omega, rfl, rfl, rfl, rfl, rfl, rfl⟩)⟩) (.inl rfl) (r2 rfl rfl rfl) (.cons_cons _ (.cons_cons _ (.cons_cons _ (.cons_cons _ (.cons_cons _ (.cons_cons _ (.cons_cons _ (.cons_cons _ (.cons_cons _ (List.nil_sublist _))))))))))
      · refine s_r <| s_q rfl (y_eql rfl rfl) <| q_a rfl rfl <| s_n <| tk_condP rfl (fun ht69 => ?_) (fun ht69 => ?_)
        · exact s_r <| q_a rfl rfl <| q_a rfl rfl <| s_n <| tk_retc <| tk_in_ret <| tk_then_ret <| tk_ps [6, 6, 6, 5, 5, 5, 11, 11, 11] rfl <| tk_ret ((⟨0, 12, (s.pub (nameR (rs.length + 1)) v64 (sealL hk mk 115 (nameR (rs.length + 1)) (tapeN tl p 16) (bareQ la (numR (rs.length + 1) r)))).1, cn, rv, rs, la, c51, p + 16, vl51⟩ : AdZ)) (⟨by simpa using hx51, rfl, v64, .inl ⟨by omega, rfl, by rw [if_pos oM], rfl, rfl, rfl, rfl⟩⟩) (.inl rfl) (r2 rfl rfl rfl) (.cons_cons _ (.cons_cons _ (.cons_cons _ (.cons_cons _ (.cons_cons _ (.cons_cons _ (.cons_cons _ (.cons_cons _ (.cons_cons _ (List.nil_sublist _))))))))))
        · exact s_r <| q_m rfl rfl <| q_a rfl rfl <| q_a rfl rfl <| s_n <| tk_retc <| tk_in_ret <| tk_then_ret <| tk_ps [6, 6, 6, 5, 5, 5, 11, 11, 11] rfl <| tk_ret ((⟨0, (s.pub (nameR (rs.length + 1)) v64 (sealL hk mk 115 (nameR (rs.length + 1)) (tapeN tl p 16) (bareQ la (numR (rs.length + 1) r)))).2, (s.pub (nameR (rs.length + 1)) v64 (sealL hk mk 115 (nameR (rs.length + 1)) (tapeN tl p 16) (bareQ la (numR (rs.length + 1) r)))).1, cn, rv, rs, la, c51, p + 16, vl51⟩ : AdZ)) (⟨by simpa using hx51, rfl, v64, .inl ⟨by omega, rfl, by rw [if_neg oM], rfl, rfl, rfl, rfl⟩⟩) (.inl rfl) (r2 rfl rfl rfl) (.cons_cons _ (.cons_cons _ (.cons_cons _ (.cons_cons _ (.cons_cons _ (.cons_cons _ (.cons_cons _ (.cons_cons _ (.cons_cons _ (List.nil_sublist _))))))))))
end Go.Proofs.YtnhpghhibcdklaaGreatDoor
set_option linter.unusedSimpArgs false
set_option linter.unusedVariables false
namespace Go.Proofs.YtnhpghhibcdklaaGreatDoor
open Go
set_option maxHeartbeats 1000000
attribute [local irreducible] sumL keyedL hexL strL sealF sealL tapeL tapeN
/-- what lies there of a log's records -/
structure RecO (hk mk : List UInt8) (l : List Ob) (rs : List Rec) (Ns : Nat → List UInt8) : Prop where
  lies : ∀ {i}, i < rs.length → hasO l (nameR (i + 1)) ∧ (lkO l (nameR (i + 1))).b = sealL hk mk 115 (nameR (i + 1)) (Ns i) (bareQ (laAt hk mk rs Ns i) (rs.getD i dRec)) ∧ (lkO l (nameR (i + 1))).sure = true
  nonce : ∀ {i}, i < rs.length → (Ns i).length = 16
  bnd : ∀ {i}, i < rs.length → Bnd (rs.getD i dRec)
  right : ∀ {i}, i < rs.length → rightR (rs.getD i dRec)
  fits : ∀ {i}, i < rs.length → fitsR (rs.take i) (rs.getD i dRec)
variable {hk mk Nn : List UInt8} {rs : List Rec} {Ns : Nat → List UInt8} {q : Rec} {s t : Sh} {k : Int}
theorem RecO.log (h : RecO hk mk s.obs rs Ns) (hof : s.off = false) : HasLog hk mk s rs Ns :=
  ⟨fun {i} hi => by
    obtain ⟨h1, h2, _⟩ := h.lies hi
    rw [Sh.get, if_neg (by rw [hof]; decide), if_neg (fun q => q h1), h2], h.nonce, h.bnd, h.right, h.fits⟩
theorem RecO.nil {l : List Ob} : RecO hk mk l [] Ns := ⟨fun h => absurd h (Nat.not_lt_zero _), fun h => absurd h (Nat.not_lt_zero _), fun h => absurd h (Nat.not_lt_zero _), fun h => absurd h (Nat.not_lt_zero _), fun h => absurd h (Nat.not_lt_zero _)⟩
/-- objects that are added by other names take nothing away -/
theorem RecO.more {l : List Ob} {o : Ob} (h : RecO hk mk l rs Ns) (hn : ∀ i, i < rs.length → nameR (i + 1) ≠ o.name) : RecO hk mk (l ++ [o]) rs Ns :=
  ⟨fun {i} hi => by
    obtain ⟨h1, h2, h3⟩ := h.lies hi
    rw [lk_addL (hn i hi)]
    exact ⟨has_snoc.2 (.inl h1), h2, h3⟩, h.nonce, h.bnd, h.right, h.fits⟩
theorem RecO.next {l : List Ob} {v : Value} (h : RecO hk mk l rs Ns) (hno : ¬ hasO l (nameR (rs.length + 1))) (hn : rs.length + 1 < 100) (hq : Bnd q ∧ rightR q ∧ fitsR rs q) (hN : Nn.length = 16) :
    RecO hk mk (l ++ [⟨nameR (rs.length + 1), v, sealL hk mk 115 (nameR (rs.length + 1)) Nn (bareQ (laAt hk mk rs Ns rs.length) q), true⟩]) (rs ++ [q]) (NsX rs Ns Nn) := by
  have hl : (rs ++ [q]).length = rs.length + 1 := by simp
  refine ⟨fun {i} hi => ?_, fun {i} hi => ?_, fun {i} hi => ?_, fun {i} hi => ?_, fun {i} hi => ?_⟩
  · by_cases e : i = rs.length
    · subst e
      rw [laAt_snoc (Nat.le_refl _), getD_last, show NsX rs Ns Nn rs.length = Nn by unfold NsX; rw [if_pos rfl]]
      have := lk_snoc (l := l) (o := ⟨nameR (rs.length + 1), v, sealL hk mk 115 (nameR (rs.length + 1)) Nn (bareQ (laAt hk mk rs Ns rs.length) q), true⟩) hno
      dsimp only at this
      rw [this]
      exact ⟨has_snoc.2 (.inr rfl), rfl, rfl⟩
    · have hi2 : i < rs.length := by omega
      obtain ⟨h1, h2, h3⟩ := h.lies hi2
      have hne : nameR (i + 1) ≠ nameR (rs.length + 1) := fun e2 => by have := nameR_inj (by omega) (by omega) e2; omega
      rw [laAt_snoc (by omega), getD_snoc hi2, show NsX rs Ns Nn i = Ns i by unfold NsX; rw [if_neg e], lk_addL (o := ⟨nameR (rs.length + 1), v, sealL hk mk 115 (nameR (rs.length + 1)) Nn (bareQ (laAt hk mk rs Ns rs.length) q), true⟩) hne]
      exact ⟨has_snoc.2 (.inl h1), h2, h3⟩
  · by_cases e : i = rs.length
    · unfold NsX; rw [if_pos e]; exact hN
    · unfold NsX; rw [if_neg e]; exact h.nonce (by omega)
  · by_cases e : i = rs.length
    · subst e; rw [getD_last]; exact hq.1
    · rw [getD_snoc (by omega)]; exact h.bnd (by omega)
  · by_cases e : i = rs.length
    · subst e; rw [getD_last]; exact hq.2.1
    · rw [getD_snoc (by omega)]; exact h.right (by omega)
  · by_cases e : i = rs.length
    · subst e; rw [getD_last, List.take_append_of_le_length (Nat.le_refl _), List.take_length]; exact hq.2.2
    · rw [getD_snoc (by omega), List.take_append_of_le_length (by omega)]; exact h.fits (by omega)
/-- the power is on, and may end -/
structure LogOn (s : Sh) (n : Nat) (k : Int) : Prop where
  sh : ShAt s k
  off : s.off = false
  names : s.obs.map Ob.name = (List.range n).map (fun i => nameR (i + 1))
  small : ∀ o ∈ s.obs, o.b.length ≤ 3000
  room : s.room = 4194304
theorem LogOn.len {n : Nat} (h : LogOn s n k) : s.obs.length = n := by
  have := congrArg List.length h.names
  simpa using this
theorem LogOn.hasnt {n : Nat} (h : LogOn s n k) (hn : n + 1 < 100) : ¬ hasO s.obs (nameR (n + 1)) := fun q => by
  unfold hasO at q
  rw [h.names] at q
  obtain ⟨i, hi, e⟩ := List.mem_map.1 q
  have hi := List.mem_range.1 hi
  have := nameR_inj (by omega) (by omega) e
  omega
theorem LogOn.hasd {n : Nat} (h : LogOn s n k) {mm : List UInt8} : ¬ hasO s.obs (drL mm) := fun q => by
  unfold hasO at q
  rw [h.names] at q
  obtain ⟨i, _, e⟩ := List.mem_map.1 q
  exact drL_ne (k := i + 1) rfl e.symm
/-- the power is gone: the records are there; behind them at most one object more -/
structure LogOff (hk mk : List UInt8) (t : Sh) (rs : List Rec) (Ns : Nat → List UInt8) (k : Int) : Prop where
  sh : ShAt t k
  rec_ : RecO hk mk t.obs rs Ns
  small : ∀ o ∈ t.obs, o.b.length ≤ 3000
  room : t.room = 4194304
  rest : ∃ l x, t.obs = l ++ x ∧ l.map Ob.name = (List.range rs.length).map (fun i => nameR (i + 1)) ∧ (x = [] ∨ ∃ o, x = [o] ∧ (o.name = nameR (rs.length + 1) ∨ o.name = drL (nameR (rs.length + 1))))
theorem LogOn.add {n : Nat} {b : List UInt8} {cn : Int} (h : LogOn s n k) (hn : n + 1 < 100) (hb : b.length ≤ 3000) (hcn : cn = (n : Int)) (v : Value) :
    (∃ t, raiseF (s.pub (nameR (n + 1)) v b).1 cn ((n + 1 : Nat) : Int) = (t, ((n + 1 : Nat) : Int), 0) ∧ (s.pub (nameR (n + 1)) v b).2 = 0 ∧ t.obs = s.obs ++ [⟨nameR (n + 1), v, b, true⟩] ∧ LogOn t (n + 1) (k + 6)) ∨
    ((s.pub (nameR (n + 1)) v b).2 = 0 ∧ ∃ t, raiseF (s.pub (nameR (n + 1)) v b).1 cn ((n + 1 : Nat) : Int) = (t, cn, 9) ∧ t.off = true ∧ t.room = s.room ∧ t.obs = s.obs ++ [⟨nameR (n + 1), v, b, true⟩]) ∨
    ((s.pub (nameR (n + 1)) v b).2 = 9 ∧ (s.pub (nameR (n + 1)) v b).1.off = true ∧ (s.pub (nameR (n + 1)) v b).1.room = s.room ∧ ((s.pub (nameR (n + 1)) v b).1.obs = s.obs ∨ ∃ su, (s.pub (nameR (n + 1)) v b).1.obs = s.obs ++ [⟨drL (nameR (n + 1)), v, b, su⟩])) := by
  have h1 := sumO_small h.small
  have h2 := h.len
  have hat := at_pub (nm := nameR (n + 1)) (v := v) (b := b) h.sh
  rcases pub_or (v := v) h.off (nameR_nm hn).1 (h.hasnt hn) h.hasd (drL_ne rfl) (show b.length ≤ 1048576 by omega) (by rw [h.room]; omega) (by omega) with ⟨t, e, e1, e2, e3⟩ | ⟨t, e, e1, e2, e3⟩
  · rw [e] at hat ⊢
    dsimp only at hat ⊢
    rcases raise_or (cn := cn) (m := ((n + 1 : Nat) : Int)) e2 (by omega) (by omega) with ⟨u, f, f1, f2, f3⟩ | ⟨u, f, f1, f2, f3⟩
    · exact .inr (.inl ⟨rfl, u, f, f1, f3.trans e3, f2.trans e1⟩)
    · refine .inl ⟨u, f, rfl, f2.trans e1, ?_, f1, ?_, ?_, (f3.trans e3).trans h.room⟩
      · have hr := at_nudge hat
        have : u = t.nudge.1 := by
          unfold raiseF at f
          rw [if_neg (by rw [e2]; decide), if_neg (by omega)] at f
          split at f
          · next q => exact absurd (congrArg (fun z : Sh × Int × Nat => z.2.2) f) q
          · exact (congrArg Prod.fst f).symm
        rw [this]; exact hr.mono (by omega)
      · rw [f2, e1, List.map_append, h.names, List.range_succ, List.map_append]; rfl
      · intro o ho
        rw [f2, e1] at ho
        rcases List.mem_append.1 ho with ho | ho
        · exact h.small o ho
        · rw [List.mem_singleton.1 ho]; exact hb
  · rw [e]
    exact .inr (.inr ⟨rfl, e1, e2, e3⟩)
end Go.Proofs.YtnhpghhibcdklaaGreatDoor
set_option linter.unusedSimpArgs false
set_option linter.unusedVariables false
namespace Go.Proofs.YtnhpghhibcdklaaGreatDoor
open Go Go.RowKit
def modU (z : Int) : Nat := (z % 18446744073709551616).toNat
section
variable {L : Sl} {P : Program} {n : Nat} {S : World → Prop} {dst : Option Tmp} {rty : TypeId} {pos : String} {af : Array Edge} {gd : Option (Nat × Bool)} {t t' : TypeId} {x : Operand}
theorem y_convU {k' : IntKind} {z : Int} (hx : ev L x = some (.int k' z)) (hs : (P.underlying t).isSome = true) (hd : P.underlying t' = some (.int .u64)) : Y P n S L ⟨dst, .convert t t' x, rty, pos, af, gd⟩ (.int .u64 ((modU z : Nat) : Int)) :=
  (y_conv hx hs hd).cast (by rw [IntKind.wrap_u64, modU, Int.toNat_of_nonneg (Int.emod_nonneg _ (by decide))])
end
end Go.Proofs.YtnhpghhibcdklaaGreatDoor
set_option linter.unusedSimpArgs false
set_option linter.unusedVariables false
namespace Go.Proofs.YtnhpghhibcdklaaGreatDoor
open Go
def cutOb (o : Ob) (j : Nat) : Ob := ⟨o.name, cutR o.v 0 j, o.b.take j, true⟩
def cutO (l : List Ob) (k : List UInt8) (j : Nat) : List Ob := l.map (fun o => if o.name = k then cutOb o j else o)
/-- what is picked for an object of so many bytes -/
def pkN (p : List Int) (n : Nat) : Nat := modU (p.getD 0 0) % (n + 2)
def crQ (q : Sh × List Int) (n : List UInt8) : Sh × List Int :=
  if (lkO q.1.obs n).sure = true then q else
  (q.1.obsTo (if pkN q.2 (lkO q.1.obs n).b.length = 0 then delO q.1.obs n else cutO q.1.obs n (pkN q.2 (lkO q.1.obs n).b.length - 1)), q.2.tail)
def Sh.calmed (t : Sh) : Sh := { t with off := false, left := -1 }
def nmS (s : Sh) : List (List UInt8) := sortN (s.obs.map Ob.name)
def Sh.crash (s : Sh) (p : List Int) : Sh := ((nmS s).foldl crQ (s, p)).1.calmed
theorem pkN_lt {p : List Int} {n : Nat} : pkN p n < n + 2 := Nat.mod_lt _ (by omega)
theorem crQ_sure {q : Sh × List Int} {n : List UInt8} (h : (lkO q.1.obs n).sure = true) : crQ q n = q := by rw [crQ, if_pos h]
theorem crQ_del {t : Sh} {p : List Int} {n : List UInt8} (h : ¬ (lkO t.obs n).sure = true) (h0 : pkN p (lkO t.obs n).b.length = 0) : crQ (t, p) n = (t.obsTo (delO t.obs n), p.tail) := by rw [crQ, if_neg h, if_pos h0]
theorem crQ_cut {t : Sh} {p : List Int} {n : List UInt8} (h : ¬ (lkO t.obs n).sure = true) (h0 : ¬ pkN p (lkO t.obs n).b.length = 0) : crQ (t, p) n = (t.obsTo (cutO t.obs n (pkN p (lkO t.obs n).b.length - 1)), p.tail) := by rw [crQ, if_neg h, if_neg h0]
theorem cut_names {l : List Ob} {k : List UInt8} {j : Nat} : (cutO l k j).map Ob.name = l.map Ob.name := by
  unfold cutO
  rw [List.map_map]
  refine List.map_congr_left (fun o _ => ?_)
  simp only [Function.comp]
  split <;> rfl
theorem sumO_cut {l : List Ob} {k : List UInt8} {j : Nat} : sumO (cutO l k j) ≤ sumO l := by
  unfold sumO cutO
  induction l with
  | nil => simp
  | cons o l ih =>
    simp only [List.map_cons, List.sum_cons] at ih ⊢
    have : (if o.name = k then cutOb o j else o).b.length ≤ o.b.length := by
      split
      · show (o.b.take j).length ≤ _; rw [List.length_take]; omega
      · exact Nat.le_refl _
    omega
theorem kvO_cut {l : List Ob} {k : List UInt8} {j : Nat} (hn : (l.map Ob.name).Nodup) (h : hasO l k) : setS (kvO l) k (.agg [cutR (lkO l k).v 0 j, .bool true].toArray) = kvO (cutO l k j) := by
  rw [setS, kvO_some, decide_eq_true h, if_pos rfl]
  unfold putS kvO cutO
  rw [List.map_map, List.map_map]
  refine List.map_congr_left (fun o ho => ?_)
  simp only [Function.comp]
  by_cases e : o.name = k
  · rw [if_pos e, if_pos e]
    have : lkO l k = o := one_name hn (lkO_name h).2 ho ((lkO_name h).1.trans e.symm)
    rw [this, ← e]; rfl
  · rw [if_neg e, if_neg e]
/-- one store beside another behind a crash -/
structure CrR (a b : Sh) : Prop where
  nodup : (b.obs.map Ob.name).Nodup
  sum : sumO b.obs ≤ sumO a.obs
  len : b.obs.length ≤ a.obs.length
  mem : ∀ o ∈ b.obs, ∃ u ∈ a.obs, o.name = u.name ∧ o.b.length ≤ u.b.length ∧ (u.sure = true → o = u)
  sure : ∀ o ∈ a.obs, o.sure = true → o ∈ b.obs
  same : b.left = a.left ∧ b.off = a.off ∧ b.made = a.made ∧ b.room = a.room
theorem CrR.refl {a : Sh} (h : (a.obs.map Ob.name).Nodup) : CrR a a := ⟨h, Nat.le_refl _, Nat.le_refl _, fun o ho => ⟨o, ho, rfl, Nat.le_refl _, fun _ => rfl⟩, fun _ ho _ => ho, rfl, rfl, rfl, rfl⟩
theorem CrR.trans {a b c : Sh} (h : CrR a b) (g : CrR b c) : CrR a c :=
  ⟨g.nodup, Nat.le_trans g.sum h.sum, Nat.le_trans g.len h.len, fun o ho => by
    obtain ⟨u, hu, h1, h2, h3⟩ := g.mem o ho
    obtain ⟨v, hv, h4, h5, h6⟩ := h.mem u hu
    refine ⟨v, hv, h1.trans h4, Nat.le_trans h2 h5, fun q => ?_⟩
    have e := h6 q
    rw [← e] at q
    rw [h3 q, e], fun o ho hs => g.sure o (h.sure o ho hs) hs, g.same.1.trans h.same.1, g.same.2.1.trans h.same.2.1, g.same.2.2.1.trans h.same.2.2.1, g.same.2.2.2.trans h.same.2.2.2⟩
theorem crR_step {t : Sh} {p : List Int} {n : List UInt8} (hn : (t.obs.map Ob.name).Nodup) (hh : hasO t.obs n) : CrR t (crQ (t, p) n).1 := by
  by_cases h : (lkO t.obs n).sure = true
  · rw [crQ_sure h]; exact .refl hn
  have hne : ∀ o ∈ t.obs, o.sure = true → o.name ≠ n := fun o ho hs e => by
    have : lkO t.obs n = o := one_name hn (lkO_name hh).2 ho ((lkO_name hh).1.trans e.symm)
    rw [this] at h; exact h hs
  by_cases h0 : pkN p (lkO t.obs n).b.length = 0
  · rw [crQ_del h h0]
    exact ⟨del_nodup hn, sumO_del, List.length_filter_le _ _, fun o ho => ⟨o, (List.mem_filter.1 ho).1, rfl, Nat.le_refl _, fun _ => rfl⟩, fun o ho hs => List.mem_filter.2 ⟨ho, by simpa using hne o ho hs⟩, rfl, rfl, rfl, rfl⟩
  · rw [crQ_cut h h0]
    refine ⟨by show ((cutO _ _ _).map Ob.name).Nodup; rw [cut_names]; exact hn, sumO_cut, by show (cutO _ _ _).length ≤ _; unfold cutO; rw [List.length_map]; exact Nat.le_refl _, fun o ho => ?_, fun o ho hs => ?_, rfl, rfl, rfl, rfl⟩
    · obtain ⟨u, hu, e⟩ := List.mem_map.1 (show o ∈ t.obs.map _ from ho)
      refine ⟨u, hu, ?_, ?_, ?_⟩
      · rw [← e]; split <;> rfl
      · rw [← e]; split
        · show (u.b.take _).length ≤ _; rw [List.length_take]; omega
        · exact Nat.le_refl _
      · intro q
        rw [← e, if_neg (hne u hu q)]
    · exact List.mem_map.2 ⟨o, ho, by rw [if_neg (hne o ho hs)]⟩
theorem CrR.has {a b : Sh} (h : CrR a b) {n : List UInt8} (hb : hasO b.obs n) : hasO a.obs n := by
  obtain ⟨o, ho, e⟩ := List.mem_map.1 hb
  obtain ⟨u, hu, h1, _⟩ := h.mem o ho
  exact List.mem_map.2 ⟨u, hu, h1.symm.trans e⟩
/-- others' names stay -/
theorem crQ_has {t : Sh} {p : List Int} {n m : List UInt8} (hm : m ≠ n) (h : hasO t.obs m) : hasO (crQ (t, p) n).1.obs m := by
  by_cases hs : (lkO t.obs n).sure = true
  · rw [crQ_sure hs]; exact h
  by_cases h0 : pkN p (lkO t.obs n).b.length = 0
  · rw [crQ_del hs h0]; exact del_has.2 ⟨h, hm⟩
  · rw [crQ_cut hs h0]; show hasO (cutO _ _ _) m; unfold hasO; rw [cut_names]; exact h
structure CrI (s : Sh) (p0 : List Int) (i : Nat) (t : Sh) (p : List Int) : Prop where
  run : ((nmS s).take i).foldl crQ (s, p0) = (t, p)
  rel : CrR s t
  has : ∀ j, i ≤ j → j < (nmS s).length → hasO t.obs ((nmS s).getD j [])
  len : p.length ≤ p0.length
  i5 : i ≤ (nmS s).length
theorem nmS_len {s : Sh} : (nmS s).length = s.obs.length := by unfold nmS sortN; rw [List.length_mergeSort, List.length_map]
theorem crI_0 {s : Sh} {p0 : List Int} (h : (s.obs.map Ob.name).Nodup) : CrI s p0 0 s p0 := ⟨rfl, .refl h, fun j _ hj => by
  have : (nmS s).getD j [] ∈ nmS s := by rw [List.getD_eq_getElem?_getD, List.getElem?_eq_getElem hj]; exact List.getElem_mem hj
  unfold nmS sortN at this ⊢
  exact List.mem_mergeSort.1 this, Nat.le_refl _, Nat.zero_le _⟩
theorem crI_next {s t : Sh} {p0 p : List Int} {i : Nat} (h : CrI s p0 i t p) (hs : (s.obs.map Ob.name).Nodup) (hi : i < (nmS s).length) : CrI s p0 (i + 1) (crQ (t, p) ((nmS s).getD i [])).1 (crQ (t, p) ((nmS s).getD i [])).2 := by
  have hg : (nmS s).getD i [] = (nmS s)[i] := by rw [List.getD_eq_getElem?_getD, List.getElem?_eq_getElem hi]; rfl
  refine ⟨?_, h.rel.trans (crR_step h.rel.nodup (h.has i (Nat.le_refl _) hi)), fun j h1 h2 => ?_, ?_, by omega⟩
  · rw [List.take_add_one, List.getElem?_eq_getElem hi, List.foldl_append, h.run, hg]; rfl
  · refine crQ_has (fun e => ?_) (h.has j (by omega) h2)
    have hnd : (nmS s).Nodup := by unfold nmS sortN; exact (List.mergeSort_perm _ _).nodup_iff.2 hs
    rw [hg, List.getD_eq_getElem?_getD, List.getElem?_eq_getElem h2] at e
    have := (List.nodup_iff_pairwise_ne.1 hnd)
    have h3 := List.pairwise_iff_getElem.1 this i j hi h2 (by omega)
    exact h3 e.symm
  · have := h.len
    unfold crQ
    split
    · exact this
    · show p.tail.length ≤ _; rw [List.length_tail]; omega
theorem crI_sure {s t : Sh} {p0 p : List Int} {i : Nat} (h : CrI s p0 i t p) (hs : (s.obs.map Ob.name).Nodup) (hi : i < (nmS s).length) (q : (lkO t.obs ((nmS s).getD i [])).sure = true) : CrI s p0 (i + 1) t p := by
  have := crI_next h hs hi; rwa [crQ_sure q] at this
theorem crI_del {s t : Sh} {p0 p : List Int} {i : Nat} (h : CrI s p0 i t p) (hs : (s.obs.map Ob.name).Nodup) (hi : i < (nmS s).length) (q : ¬ (lkO t.obs ((nmS s).getD i [])).sure = true) (q0 : pkN p (lkO t.obs ((nmS s).getD i [])).b.length = 0) : CrI s p0 (i + 1) (t.obsTo (delO t.obs ((nmS s).getD i []))) p.tail := by
  have := crI_next h hs hi; rwa [crQ_del q q0] at this
theorem crI_cut {s t : Sh} {p0 p : List Int} {i : Nat} (h : CrI s p0 i t p) (hs : (s.obs.map Ob.name).Nodup) (hi : i < (nmS s).length) (q : ¬ (lkO t.obs ((nmS s).getD i [])).sure = true) (q0 : ¬ pkN p (lkO t.obs ((nmS s).getD i [])).b.length = 0) : CrI s p0 (i + 1) (t.obsTo (cutO t.obs ((nmS s).getD i []) (pkN p (lkO t.obs ((nmS s).getD i [])).b.length - 1))) p.tail := by
  have := crI_next h hs hi; rwa [crQ_cut q q0] at this
theorem crI_end {s t : Sh} {p0 p : List Int} (h : CrI s p0 (nmS s).length t p) : s.crash p0 = t.calmed := by
  have := h.run
  rw [List.take_length] at this
  unfold Sh.crash; rw [this]
theorem CrR.ok {s t : Sh} (h : CrR s t) (hs : ShOk s) : ShOk t :=
  ⟨h.nodup, by rw [h.same.1]; exact hs.left, by rw [h.same.2.2.1]; exact hs.made, by rw [h.same.2.2.2]; exact hs.room, by have := hs.sum; have := h.sum; omega, by have := hs.len; have := h.len; omega, fun o ho => by
    obtain ⟨u, hu, e, _⟩ := h.mem o ho
    rw [e]; exact hs.names u hu, fun o ho => by
    obtain ⟨u, hu, _, e, _⟩ := h.mem o ho
    have := hs.bytes u hu; omega⟩
theorem crash_rel {s : Sh} {p : List Int} (h : (s.obs.map Ob.name).Nodup) : ∃ t, CrR s t ∧ s.crash p = t.calmed := by
  have key : ∀ i, i ≤ (nmS s).length → ∃ t q, CrI s p i t q := fun i => by
    induction i with
    | zero => exact fun _ => ⟨s, p, crI_0 h⟩
    | succ i ih =>
      intro hi
      obtain ⟨t, q, h1⟩ := ih (by omega)
      exact ⟨_, _, crI_next h1 h (by omega)⟩
  obtain ⟨t, q, h1⟩ := key _ (Nat.le_refl _)
  exact ⟨t, h1.rel, crI_end h1⟩
theorem crash_at {s : Sh} {p : List Int} {k : Int} (h : ShAt s k) : ShAt (s.crash p) k := by
  obtain ⟨t, h1, h2⟩ := crash_rel (p := p) h.nodup
  rw [h2]
  exact ⟨h1.nodup, ⟨by show -1 ≤ (-1 : Int); omega, by show (-1 : Int) < _; omega⟩, by show 0 ≤ t.made ∧ t.made ≤ k; rw [h1.same.2.2.1]; exact h.made, by show 0 ≤ t.room ∧ t.room ≤ 1073741824; rw [h1.same.2.2.2]; exact h.room, by show ((sumO t.obs : Nat) : Int) ≤ t.room; rw [h1.same.2.2.2]; have := h.sum; have := h1.sum; omega, by show t.obs.length ≤ 2000; have := h.len; have := h1.len; omega, fun o ho => by
    obtain ⟨u, hu, e, _⟩ := h1.mem o ho
    rw [e]; exact h.names u hu, fun o ho => by
    obtain ⟨u, hu, _, e, _⟩ := h1.mem o ho
    have := h.bytes u hu; omega⟩
/-- an owned row's beginning, as a part of it -/
theorem own_take {v : Value} {b : List UInt8} {T : TypeId} {w : World} {j : Nat} (h : (ownB v b T).holds w) (hj : j ≤ b.length) : (ownB (cutR v 0 j) (b.take j) T).holds w ∧ ∀ k, (cutR v 0 j).ownBlock = some k → v.ownBlock = some k := by
  have hl : (b.take j).length = j := by rw [List.length_take]; omega
  obtain ⟨h1, h2⟩ := h
  rcases h2 with ⟨rfl, h0⟩ | ⟨g, o, cap, cur, fr, T', rfl, hg, hf, hc, hm, hs, ht⟩
  · have : j = 0 := by omega
    subst this
    exact ⟨⟨by simp, .inl ⟨by simp [cutR, cutAd], by simp⟩⟩, fun k hk => by simp [cutR, cutAd, Value.ownBlock] at hk⟩
  · have e : cutR (.slice (some ⟨g, o, none⟩) b.length cap) 0 j = .slice (some ⟨g, o, none⟩) j cap := cutR_0
    rw [e]
    refine ⟨⟨by simp, .inr ⟨g, o, cap, cur, fr, T', by rw [hl], hg, hf, by omega, hm, hs, ?_⟩⟩, fun k hk => hk⟩
    rw [List.map_take, ← ht, List.take_take, hl]
    congr 1; omega
theorem own_block {v : Value} {j k : Nat} (h : (cutR v 0 j).ownBlock = some k) : v.ownBlock = some k := by
  cases v with
  | slice ad n cap =>
    cases ad with
    | none => simp [cutR, cutAd, Value.ownBlock] at h
    | some a =>
      by_cases e : cap = 0
      · simpa [cutR, cutAd, e, Value.ownBlock] using h
      · simpa [cutR, cutAd, e, Value.ownBlock, Addr.add] using h
  | _ => exact h
theorem bagW_cut {T : TypeId} {n : List UInt8} {j : Nat} : ∀ {l : List Ob}, (∀ o ∈ l, o.name = n → j ≤ o.b.length) → (∀ w, Hs w (l.map (obR T)) → Hs w ((cutO l n j).map (obR T))) ∧ ∀ k, Fs ((cutO l n j).map (obR T)) k → Fs (l.map (obR T)) k
  | [], _ => ⟨fun _ h => h, fun _ h => h⟩
  | o :: l, h => by
    obtain ⟨h1, h2⟩ := bagW_cut (T := T) (n := n) (j := j) (l := l) (fun u hu => h u (List.mem_cons_of_mem _ hu))
    by_cases e : o.name = n
    · have e2 : cutO (o :: l) n j = cutOb o j :: cutO l n j := by unfold cutO; rw [List.map_cons, if_pos e]
      rw [e2]
      have ho := h o (List.mem_cons_self ..) e
      refine ⟨fun w hw => ⟨(own_take (T := T) hw.1 ho).1, h1 w hw.2⟩, fun k hk => ?_⟩
      rcases hk with hk | hk
      · refine .inl ?_
        have hk' : (cutR o.v 0 j).ownBlock = some k := hk
        exact own_block hk'
      · exact .inr (h2 k hk)
    · have e2 : cutO (o :: l) n j = o :: cutO l n j := by unfold cutO; rw [List.map_cons, if_neg e]
      rw [e2]
      exact ⟨fun w hw => ⟨hw.1, h1 w hw.2⟩, fun k hk => hk.imp id (h2 k)⟩
end Go.Proofs.YtnhpghhibcdklaaGreatDoor
set_option linter.unusedSimpArgs false
set_option linter.unusedVariables false
namespace Go.Proofs.YtnhpghhibcdklaaGreatDoor
open Go
attribute [local irreducible] sumL keyedL hexL strL sealF sealL tapeL tapeN
variable {hk mk : List UInt8} {rs : List Rec} {Ns : Nat → List UInt8} {s t : Sh} {k : Int}
theorem crash_keep {p : List Int} {n : List UInt8} (hn : (s.obs.map Ob.name).Nodup) (hh : hasO s.obs n) (hs : (lkO s.obs n).sure = true) : hasO (s.crash p).obs n ∧ lkO (s.crash p).obs n = lkO s.obs n := by
  obtain ⟨t, h1, h2⟩ := crash_rel (p := p) hn
  rw [h2]
  have hm := h1.sure _ (lkO_name hh).2 hs
  have hh2 : hasO t.obs n := List.mem_map.2 ⟨_, hm, (lkO_name hh).1⟩
  exact ⟨hh2, one_name h1.nodup (lkO_name hh2).2 hm ((lkO_name hh2).1.trans (lkO_name hh).1.symm)⟩
theorem RecO.crash {p : List Int} (h : RecO hk mk s.obs rs Ns) (hn : (s.obs.map Ob.name).Nodup) : RecO hk mk (s.crash p).obs rs Ns :=
  ⟨fun {i} hi => by
    obtain ⟨h1, h2, h3⟩ := h.lies hi
    obtain ⟨q1, q2⟩ := crash_keep (p := p) hn h1 h3
    rw [q2]
    exact ⟨q1, h2, h3⟩, h.nonce, h.bnd, h.right, h.fits⟩
theorem crash_calm {p : List Int} (hn : (s.obs.map Ob.name).Nodup) : Calm (s.crash p) := by
  obtain ⟨t, _, h2⟩ := crash_rel (p := p) hn
  rw [h2]; exact ⟨rfl, rfl⟩
theorem crash_names {p : List Int} (hn : (s.obs.map Ob.name).Nodup) {n : List UInt8} (h : hasO (s.crash p).obs n) : hasO s.obs n := by
  obtain ⟨t, h1, h2⟩ := crash_rel (p := p) hn
  rw [h2] at h
  exact h1.has h
theorem crash_small {p : List Int} (hn : (s.obs.map Ob.name).Nodup) (h : ∀ o ∈ s.obs, o.b.length ≤ 3000) : (∀ o ∈ (s.crash p).obs, o.b.length ≤ 3000) ∧ (s.crash p).room = s.room ∧ (s.crash p).obs.length ≤ s.obs.length := by
  obtain ⟨t, h1, h2⟩ := crash_rel (p := p) hn
  rw [h2]
  exact ⟨fun o ho => by
    obtain ⟨u, hu, _, q, _⟩ := h1.mem o ho
    have := h u hu
    omega, h1.same.2.2.2, h1.len⟩
/-- a draft that a crash left goes ahead of publishing -/
theorem pub_del {nm b : List UInt8} {v : Value} (h : Calm s) (hn : isNm nm) (hd : hasO s.obs (drL nm)) : s.pub nm v b = (s.del (drL nm)).1.pub nm v b ∧ Calm (s.del (drL nm)).1 ∧ (s.del (drL nm)).1.obs = delO s.obs (drL nm) ∧ (s.del (drL nm)).1.room = s.room := by
  have e1 : s.del (drL nm) = (s.tick.obsTo (delO s.obs (drL nm)), 0) := by
    have : delC s (drL nm) = 0 := by rw [delC, if_neg (fun q => q hd)]
    rw [Sh.del, this, change_calm h]; rfl
  have c2 : Calm (s.tick.obsTo (delO s.obs (drL nm))) := calm_obs (calm_tick h)
  have e2 : (s.tick.obsTo (delO s.obs (drL nm))).del (drL nm) = (s.tick.obsTo (delO s.obs (drL nm)), 6) := by
    have : delC (s.tick.obsTo (delO s.obs (drL nm))) (drL nm) = 6 := by unfold delC; exact if_pos (fun q => (del_has.1 (show hasO (delO s.obs (drL nm)) (drL nm) from q)).2 rfl)
    rw [Sh.del, this, change_calmNo c2 (by decide)]
  refine ⟨?_, by rw [e1]; exact c2, by rw [e1]; rfl, by rw [e1]; rfl⟩
  rw [e1]
  dsimp only
  by_cases hp : ((s.tick.obsTo (delO s.obs (drL nm))).put (drL nm) v b).2 = 0
  · rw [pub_d3 hn (by rw [e1]; exact fun q => q.1 rfl) (by rw [e1]; exact hp), pub_d3 hn (by rw [e2]; exact fun q => q.2 rfl) (by rw [e2]; exact hp), e1, e2]
  · rw [pub_d2 hn (by rw [e1]; exact fun q => q.1 rfl) (by rw [e1]; exact hp), pub_d2 hn (by rw [e2]; exact fun q => q.2 rfl) (by rw [e2]; exact hp), e1, e2]
theorem drL_ne1 {mm : List UInt8} {j : Nat} : nameR (j + 1) ≠ drL mm := fun e => drL_ne (k := j + 1) rfl e.symm
/-- what is left when the power went in Add -/
theorem LogOn.gone {v : Value} {b : List UInt8} (h : LogOn s rs.length k) (hr : RecO hk mk s.obs rs Ns) (hn : rs.length + 1 < 100) (hb : b.length ≤ 3000) {k' : Int} (hat : ShAt t k') (ht : t.room = s.room) (ho : t.obs = s.obs ∨ (∃ su, t.obs = s.obs ++ [⟨drL (nameR (rs.length + 1)), v, b, su⟩]) ∨ t.obs = s.obs ++ [⟨nameR (rs.length + 1), v, b, true⟩]) : LogOff hk mk t rs Ns k' := by
  have hsm : ∀ (o : Ob), o.b = b → ∀ u ∈ s.obs ++ [o], u.b.length ≤ 3000 := fun o e u hu => by
    rcases List.mem_append.1 hu with hu | hu
    · exact h.small u hu
    · rw [List.mem_singleton.1 hu, e]; exact hb
  rcases ho with e | ⟨su, e⟩ | e
  · exact ⟨hat, by rw [e]; exact hr, by rw [e]; exact h.small, ht.trans h.room, ⟨s.obs, [], by rw [e, List.append_nil], h.names, .inl rfl⟩⟩
  · exact ⟨hat, by rw [e]; exact hr.more (fun i _ => drL_ne1), by rw [e]; exact hsm _ rfl, ht.trans h.room, ⟨s.obs, _, e, h.names, .inr ⟨_, rfl, .inr rfl⟩⟩⟩
  · refine ⟨hat, ?_, by rw [e]; exact hsm _ rfl, ht.trans h.room, ⟨s.obs, _, e, h.names, .inr ⟨_, rfl, .inl rfl⟩⟩⟩
    rw [e]
    exact hr.more (fun i hi e2 => by
      have e2 : nameR (i + 1) = nameR (rs.length + 1) := e2
      have := nameR_inj (by omega) (by omega) e2
      omega)
/-- the store behind the crash -/
structure LogBack (hk mk : List UInt8) (t : Sh) (rs : List Rec) (Ns : Nat → List UInt8) (k : Int) : Prop where
  sh : ShAt t k
  calm : Calm t
  rec_ : RecO hk mk t.obs rs Ns
  small : ∀ o ∈ t.obs, o.b.length ≤ 3000
  room : t.room = 4194304
  len : t.obs.length ≤ rs.length + 1
  names : ∀ n, hasO t.obs n → (∃ i, i < rs.length ∧ n = nameR (i + 1)) ∨ n = nameR (rs.length + 1) ∨ n = drL (nameR (rs.length + 1))
theorem names_of {l : List Ob} {m : Nat} (h : l.map Ob.name = (List.range m).map (fun i => nameR (i + 1))) {n : List UInt8} (hn : hasO l n) : ∃ i, i < m ∧ n = nameR (i + 1) := by
  unfold hasO at hn
  rw [h] at hn
  obtain ⟨i, hi, e⟩ := List.mem_map.1 hn
  exact ⟨i, List.mem_range.1 hi, e.symm⟩
theorem LogOff.back {p : List Int} (h : LogOff hk mk t rs Ns k) : LogBack hk mk (t.crash p) rs Ns k := by
  obtain ⟨q1, q2, q3⟩ := crash_small (p := p) h.sh.nodup h.small
  obtain ⟨l, x, e, e1, e2⟩ := h.rest
  have hl : l.length = rs.length := by have := congrArg List.length e1; simpa using this
  refine ⟨crash_at h.sh, crash_calm h.sh.nodup, h.rec_.crash h.sh.nodup, q1, q2.trans h.room, ?_, fun n hn => ?_⟩
  · rw [e, List.length_append, hl] at q3
    rcases e2 with rfl | ⟨o, rfl, _⟩
    · simp only [List.length_nil] at q3; omega
    · simpa using q3
  · have h1 := crash_names (p := p) h.sh.nodup hn
    rw [e] at h1
    rcases e2 with rfl | ⟨o, rfl, e3⟩
    · rw [List.append_nil] at h1; exact .inl (names_of e1 h1)
    · rcases has_snoc.1 h1 with h1 | h1
      · exact .inl (names_of e1 h1)
      · exact .inr (h1 ▸ e3)
theorem LogOn.back {p : List Int} (h : LogOn t rs.length k) (hr : RecO hk mk t.obs rs Ns) : LogBack hk mk (t.crash p) rs Ns k :=
  LogOff.back ⟨h.sh, hr, h.small, h.room, ⟨t.obs, [], (List.append_nil _).symm, h.names, .inl rfl⟩⟩
end Go.Proofs.YtnhpghhibcdklaaGreatDoor
set_option linter.unusedSimpArgs false
set_option linter.unusedVariables false
namespace Go.Proofs.YtnhpghhibcdklaaGreatDoor
open Go
attribute [local irreducible] sumL keyedL hexL strL sealF sealL tapeL tapeN laAt
/-- what lies there while the power is on -/
structure FlI (R : List Rec) (n0 : Nat) (k0 : Int) (p0 : Nat) (s0 : Sh) (i : Nat) (rs : List Rec) (Ns : NsT) (s : Sh) (c p : Nat) : Prop where
  il : i ≤ R.length
  rl : rs.length ≤ n0 + i
  on : LogOn s rs.length (k0 + 6 * (i : Int))
  rec_ : RecO (rq 1) (rq 2) s.obs rs Ns
  tp : p ≤ 32 * c ∧ 32 * c < p + 32
  pp : p ≤ p0 + 16 * i
  calm : Calm s0 → Calm s
theorem flI_0 {R : List Rec} {k0 : Int} {s : Sh} {rs : List Rec} {Ns : NsT} {c p : Nat} (h : LogOn s rs.length k0) (h2 : RecO (rq 1) (rq 2) s.obs rs Ns) (h3 : p ≤ 32 * c ∧ 32 * c < p + 32) : FlI R rs.length k0 p s 0 rs Ns s c p :=
  ⟨Nat.zero_le _, Nat.le_refl _, by have e : k0 + 6 * ((0 : Nat) : Int) = k0 := by omega
                                    rw [e]; exact h, h2, h3, Nat.le_refl _, fun h => h⟩
theorem LogOn.mono {s : Sh} {n : Nat} {k j : Int} (h : LogOn s n k) (hk : k ≤ j) : LogOn s n j := ⟨h.sh.mono hk, h.off, h.names, h.small, h.room⟩
theorem LogOff.mono {hk mk : List UInt8} {s : Sh} {rs : List Rec} {Ns : NsT} {k j : Int} (h : LogOff hk mk s rs Ns k) (hj : k ≤ j) : LogOff hk mk s rs Ns j := ⟨h.sh.mono hj, h.rec_, h.small, h.room, h.rest⟩
theorem LogAt.on {s : Sh} {n : Nat} {k : Int} (h : LogAt s n k) : LogOn s n k := ⟨h.sh, h.calm.off, h.names, h.small, h.room⟩
theorem LogOn.calm {s : Sh} {n : Nat} {k : Int} (h : LogOn s n k) (hc : Calm s) : LogAt s n k := ⟨h.sh, hc, h.names, h.small, h.room⟩
/-- what a row leaves: the store, the cell, the log, the tape, the records that were answered -/
structure FlZ where
  t : Sh
  cn : Int
  rv : Value
  rs : List Rec
  la : List UInt8
  Ns : NsT
  c : Nat
  p : Nat
  vl : Value
  vm : Value
  vw : Value
def FillR (n0 : Nat) (k0 : Int) (p0 : Nat) (s0 : Sh) (z : FlZ) : Prop :=
  z.cn = (z.rs.length : Int) ∧ z.la = laAt (rq 1) (rq 2) z.rs z.Ns z.rs.length ∧ z.rs.length ≤ n0 + 25 ∧ (z.p ≤ 32 * z.c ∧ 32 * z.c < z.p + 32) ∧ z.p ≤ p0 + 416 ∧
  ((LogOn z.t z.rs.length (k0 + 150) ∧ RecO (rq 1) (rq 2) z.t.obs z.rs z.Ns ∧ (Calm s0 → Calm z.t)) ∨ (¬ Calm s0 ∧ LogOff (rq 1) (rq 2) z.t z.rs z.Ns (k0 + 156)))
section
variable {R : List Rec} {n0 : Nat} {k0 : Int} {p0 : Nat} {s0 : Sh} {i : Nat} {rs : List Rec} {Ns : NsT} {s : Sh} {c p : Nat}
theorem FlI.skip (h : FlI R n0 k0 p0 s0 i rs Ns s c p) (hi : i < R.length) : FlI R n0 k0 p0 s0 (i + 1) rs Ns s c p :=
  ⟨by omega, by have := h.rl; omega, h.on.mono (by omega), h.rec_, h.tp, by have := h.pp; omega, h.calm⟩
/-- Add: done, or the power went -/
theorem FlI.add (h : FlI R n0 k0 p0 s0 i rs Ns s c p) (hi : i < R.length) (hR : R.length ≤ 25) (hn0 : n0 ≤ 30) {r : Rec} (h0 : radd rs r = 0) {z : AdZ} (hz : AddR (rq 1) (rq 2) (laAt (rq 1) (rq 2) rs Ns rs.length) [1] rs r s (rs.length : Int) p z) :
    (z.e = 0 ∧ z.cn = (rs.length : Int) + 1 ∧ z.rs = rs ++ [numR (rs.length + 1) r] ∧ z.la = laAt (rq 1) (rq 2) (rs ++ [numR (rs.length + 1) r]) (NsX rs Ns (tapeN [1] p 16)) (rs.length + 1) ∧ FlI R n0 k0 p0 s0 (i + 1) (rs ++ [numR (rs.length + 1) r]) (NsX rs Ns (tapeN [1] p 16)) z.t z.c z.p) ∨
    (z.e = 9 ∧ z.cn = (rs.length : Int) ∧ z.rs = rs ∧ z.la = laAt (rq 1) (rq 2) rs Ns rs.length ∧ ¬ Calm s0 ∧ LogOff (rq 1) (rq 2) z.t rs Ns (k0 + 156) ∧ z.p = p + 16 ∧ (z.p ≤ 32 * z.c ∧ 32 * z.c < z.p + 32)) := by
  have hrl := h.rl
  have hq := num_bnd h0 (fun i hi => h.rec_.bnd hi) (by omega)
  have hb : (sealL (rq 1) (rq 2) 115 (nameR (rs.length + 1)) (tapeN [1] p 16) (bareQ (laAt (rq 1) (rq 2) rs Ns rs.length) (numR (rs.length + 1) r))).length ≤ 3000 := by
    have := bareQ_len (la := laAt (rq 1) (rq 2) rs Ns rs.length) laAt_len hq.1
    rw [sealL_len tapeN_len]; omega
  have hl : (rs ++ [numR (rs.length + 1) r]).length = rs.length + 1 := by simp
  obtain ⟨htp, hpp, v, hz⟩ := hz
  have hno := h.on.hasnt (show rs.length + 1 < 100 by omega)
  have hca : Calm s0 → s.pub (nameR (rs.length + 1)) v (sealL (rq 1) (rq 2) 115 (nameR (rs.length + 1)) (tapeN [1] p 16) (bareQ (laAt (rq 1) (rq 2) rs Ns rs.length) (numR (rs.length + 1) r))) = (s.with4 (nameR (rs.length + 1)) v (sealL (rq 1) (rq 2) 115 (nameR (rs.length + 1)) (tapeN [1] p 16) (bareQ (laAt (rq 1) (rq 2) rs Ns rs.length) (numR (rs.length + 1) r))), 0) := fun hc => (h.on.calm (h.calm hc)).pub (by omega) hb v
  have hat := at_pub (nm := nameR (rs.length + 1)) (v := v) (b := sealL (rq 1) (rq 2) 115 (nameR (rs.length + 1)) (tapeN [1] p 16) (bareQ (laAt (rq 1) (rq 2) rs Ns rs.length) (numR (rs.length + 1) r))) h.on.sh
  generalize hB : sealL (rq 1) (rq 2) 115 (nameR (rs.length + 1)) (tapeN [1] p 16) (bareQ (laAt (rq 1) (rq 2) rs Ns rs.length) (numR (rs.length + 1) r)) = B at *
  rcases h.on.add (by omega) hb (cn := (rs.length : Int)) rfl v with ⟨t, e1, e2, e3, e4⟩ | ⟨e2, t, e1, e3, e4, e5⟩ | ⟨e2, e3, e4, e5⟩
  · -- done
    rw [e1, e2] at hz
    rcases hz with ⟨q, _⟩ | ⟨_, q, _⟩ | ⟨_, _, z1, z2, z3, z4, z5, z6⟩
    · exact absurd rfl q
    · exact absurd rfl q
    · refine .inl ⟨z2, by rw [z4]; dsimp only; omega, z5, ?_, ?_⟩
      · rw [z6, laAt_last, hB]
      · refine ⟨by omega, by omega, ?_, ?_, ⟨by omega, by omega⟩, by have := h.pp; omega, fun hc => ?_⟩
        · rw [z3, hl]; exact e4.mono (by omega)
        · rw [z3]; dsimp only; rw [e3, ← hB]; exact h.rec_.next hno (by omega) hq tapeN_len
        · rw [z3]; dsimp only
          have := raise_calm (m := ((rs.length + 1 : Nat) : Int)) (cn := (rs.length : Int)) (with4_calm (nm := nameR (rs.length + 1)) (v := v) (b := B) (h.calm hc)) (by omega) (by omega)
          rw [hca hc] at e1
          rw [this] at e1
          have := congrArg Prod.fst e1
          dsimp only at this
          rw [← this]; exact calm_tick (with4_calm (h.calm hc))
  · -- the record is there, the cell isn't raised
    have hnc : ¬ Calm s0 := fun hc => by
      have := raise_calm (m := ((rs.length + 1 : Nat) : Int)) (cn := (rs.length : Int)) (with4_calm (nm := nameR (rs.length + 1)) (v := v) (b := B) (h.calm hc)) (by omega) (by omega)
      rw [hca hc, this] at e1
      have := congrArg (fun z : Sh × Int × Nat => z.2.2) e1
      exact absurd this (show ¬ (0 : Nat) = 9 by decide)
    have htn : t = (s.pub (nameR (rs.length + 1)) v B).1.nudge.1 ∨ t = (s.pub (nameR (rs.length + 1)) v B).1 := by
      unfold raiseF at e1
      split at e1
      · exact .inr (congrArg Prod.fst e1).symm
      split at e1
      · exact .inr (congrArg Prod.fst e1).symm
      split at e1
      · exact .inl (congrArg Prod.fst e1).symm
      · exact .inl (congrArg Prod.fst e1).symm
    have hat2 : ShAt t (k0 + 156) := by
      rcases htn with e | e
      · rw [e]; exact (at_nudge hat).mono (by omega)
      · rw [e]; exact hat.mono (by omega)
    rw [e1, e2] at hz
    rcases hz with ⟨q, _⟩ | ⟨_, _, z1, z2, z3, z4, z5, z6⟩ | ⟨_, q, _⟩
    · exact absurd rfl q
    · exact .inr ⟨z2, z4, z5, z6, hnc, by rw [z3]; exact h.on.gone h.rec_ (by omega) hb hat2 e4 (.inr (.inr e5)), hpp, ⟨by omega, by omega⟩⟩
    · exact absurd q (show ¬ (9 : Nat) = 0 by decide)
  · -- a draft at most
    have hnc : ¬ Calm s0 := fun hc => by rw [hca hc] at e2; exact absurd e2 (show ¬ (0 : Nat) = 9 by decide)
    rw [e2] at hz
    rcases hz with ⟨_, z1, z2, z3, z4, z5, z6⟩ | ⟨q, _⟩ | ⟨q, _⟩
    · refine .inr ⟨by rw [z2]; rfl, z4, z5, z6, hnc, ?_, hpp, ⟨by omega, by omega⟩⟩
      rw [z3]
      exact h.on.gone h.rec_ (by omega) hb (hat.mono (by omega)) e4 (e5.elim .inl (fun q => .inr (.inl q)))
    · exact absurd q (by decide)
    · exact absurd q (by decide)
end
end Go.Proofs.YtnhpghhibcdklaaGreatDoor
set_option linter.unusedSimpArgs false
set_option linter.unusedVariables false
namespace Go.Proofs.YtnhpghhibcdklaaGreatDoor
open Go Go.RowKit
set_option maxRecDepth 100000
set_option maxHeartbeats 2000000
attribute [local irreducible] sumL keyedL hexL strL sealF sealL tapeL tapeN laAt
theorem ra_lt {rs : List Rec} {r : Rec} : radd rs r < 9 := by
  unfold radd
  split
  · decide
  split
  · split <;> decide
  · split <;> decide
theorem fill_spec {fv rv0 vl0 vm0 vb : Value} {rows rs0 : List Rec} {Ns0 : NsT} {s0 : Sh} {k0 : Int} {c0 p0 lb tb sb cb mb : Nat} {w : World} (h1 : Ro (Fs [cel lb ((rq 1).map B ++ ((rq 2).map B ++ ((List.replicate 32 0).map B ++ ([PT tb, PT sb, PT cb, rv0] ++ ((laAt (rq 1) (rq 2) rs0 Ns0 rs0.length).map B))))) 138, own rv0 rs0.length (rs0.flatMap rcC) 33 36, cel cb ([PT sb, I (((rs0.length : Nat) : Int))]) 168, cel sb ([Value.map (some mb), I (s0.left), .bool s0.off, I (s0.made), I (s0.room)]) 159, mapS mb (kvO s0.obs), bag (s0.obs.map (obR 5)), cel tb ([vb, .int .u64 ((c0 : Nat) : Int), vl0]) 224, ownB vb [1] 5, ownB vl0 ((tapeL [1] c0).drop p0) 5, own vm0 rs0.length (rs0.flatMap rcC) 57 36]) w (rdC fv rows.length (rows.flatMap rcC))) (hrl : rows.length < 9223372036854775808) (hnt : ∀ r ∈ rows, r.s.note.length < 9223372036854775808)
    (hn0 : rs0.length ≤ 30) (hon : LogOn s0 rs0.length k0) (hrec : RecO (rq 1) (rq 2) s0.obs rs0 Ns0) (hk0 : k0 < 1000000) (hp0 : p0 ≤ 32 * c0 ∧ 32 * c0 < p0 + 32) (hpp0 : p0 ≤ 1000000) (hg : Ro (Fs [cel lb ((rq 1).map B ++ ((rq 2).map B ++ ((List.replicate 32 0).map B ++ ([PT tb, PT sb, PT cb, rv0] ++ ((laAt (rq 1) (rq 2) rs0 Ns0 rs0.length).map B))))) 138, own rv0 rs0.length (rs0.flatMap rcC) 33 36, cel cb ([PT sb, I (((rs0.length : Nat) : Int))]) 168, cel sb ([Value.map (some mb), I (s0.left), .bool s0.off, I (s0.made), I (s0.room)]) 159, mapS mb (kvO s0.obs), bag (s0.obs.map (obR 5)), cel tb ([vb, .int .u64 ((c0 : Nat) : Int), vl0]) 224, ownB vb [1] 5, ownB vl0 ((tapeL [1] c0).drop p0) 5, own vm0 rs0.length (rs0.flatMap rcC) 57 36]) w glob) (hh : Pre w [cel lb ((rq 1).map B ++ ((rq 2).map B ++ ((List.replicate 32 0).map B ++ ([PT tb, PT sb, PT cb, rv0] ++ ((laAt (rq 1) (rq 2) rs0 Ns0 rs0.length).map B))))) 138, own rv0 rs0.length (rs0.flatMap rcC) 33 36, cel cb ([PT sb, I (((rs0.length : Nat) : Int))]) 168, cel sb ([Value.map (some mb), I (s0.left), .bool s0.off, I (s0.made), I (s0.room)]) 159, mapS mb (kvO s0.obs), bag (s0.obs.map (obR 5)), cel tb ([vb, .int .u64 ((c0 : Nat) : Int), vl0]) 224, ownB vb [1] 5, ownB vl0 ((tapeL [1] c0).drop p0) 5, own vm0 rs0.length (rs0.flatMap rcC) 57 36]) : Spec Tryz.prog 28 [PT lb, fv, vm0] w [cel lb ((rq 1).map B ++ ((rq 2).map B ++ ((List.replicate 32 0).map B ++ ([PT tb, PT sb, PT cb, rv0] ++ ((laAt (rq 1) (rq 2) rs0 Ns0 rs0.length).map B))))) 138, own rv0 rs0.length (rs0.flatMap rcC) 33 36, cel cb ([PT sb, I (((rs0.length : Nat) : Int))]) 168, cel sb ([Value.map (some mb), I (s0.left), .bool s0.off, I (s0.made), I (s0.room)]) 159, mapS mb (kvO s0.obs), bag (s0.obs.map (obR 5)), cel tb ([vb, .int .u64 ((c0 : Nat) : Int), vl0]) 224, ownB vb [1] 5, ownB vl0 ((tapeL [1] c0).drop p0) 5, own vm0 rs0.length (rs0.flatMap rcC) 57 36] (FillR rs0.length k0 p0 s0) (fun z => .tuple #[z.vm, z.vw]) (fun z => [cel lb ((rq 1).map B ++ ((rq 2).map B ++ ((List.replicate 32 0).map B ++ ([PT tb, PT sb, PT cb, z.rv] ++ (z.la.map B))))) 138, own z.rv z.rs.length (z.rs.flatMap rcC) 33 36, cel cb ([PT sb, I (z.cn)]) 168, cel sb ([Value.map (some mb), I (z.t.left), .bool z.t.off, I (z.t.made), I (z.t.room)]) 159, mapS mb (kvO z.t.obs), bag (z.t.obs.map (obR 5)), cel tb ([vb, .int .u64 ((z.c : Nat) : Int), z.vl]) 224, ownB vb [1] 5, ownB z.vl ((tapeL [1] z.c).drop z.p) 5, own z.vm z.rs.length (z.rs.flatMap rcC) 57 36]) := by
  refine spec_of (n := 51) Tryz.func28 rfl rfl hh.1 hh.2 rfl <| tk_ownA (mm 9 rfl) fun hfm0 => s_r <| q_a rfl rfl <| q_a rfl rfl <| s_n <| s_r <| q_m rfl rfl <| tk_act rfl <| a_callv [] _ rfl kR rfl (fun w' hw' => few18_spec (rows := rows) (Ro.call (H0 := []) h1 hw') hrl hnt) rfl fun v15 _ => ?_
  have hRl : ((rows.take (min rows.length 25)).map cutRec).length ≤ 25 := by rw [List.length_map, List.length_take]; omega
  have hRn : ∀ r ∈ ((rows.take (min rows.length 25)).map cutRec), r.s.note.length ≤ 1001 := fun r hr => by obtain ⟨q, _, rfl⟩ := List.mem_map.1 hr; exact cut_len
  generalize ((rows.take (min rows.length 25)).map cutRec) = R at hRl hRn ⊢
  refine tk_ownA (.head _) fun hfv15 => q_a rfl rfl <| s_n <| tk_seq <| s_r <| q_a rfl rfl <| s_n <| tk_block <| tk_loop (X := Nat × List Rec × NsT × Sh × Nat × Nat × Value × Value × Value) (fun (i, rs, Ns, s, c, p, vl, rv, vm) => FlI R rs0.length k0 p0 s0 i rs Ns s c p) (fun (i, rs, Ns, s, c, p, vl, rv, vm) => [(0, PT lb), (1, v15), (2, vm), (8, IN i)]) (fun (i, rs, Ns, s, c, p, vl, rv, vm) => [own v15 R.length (R.flatMap rcC) 57 36, cel lb ((rq 1).map B ++ ((rq 2).map B ++ ((List.replicate 32 0).map B ++ ([PT tb, PT sb, PT cb, rv] ++ ((laAt (rq 1) (rq 2) rs Ns rs.length).map B))))) 138, own rv rs.length (rs.flatMap rcC) 33 36, cel cb ([PT sb, I (((rs.length : Nat) : Int))]) 168, cel sb ([Value.map (some mb), I (s.left), .bool s.off, I (s.made), I (s.room)]) 159, mapS mb (kvO s.obs), bag (s.obs.map (obR 5)), cel tb ([vb, .int .u64 ((c : Nat) : Int), vl]) 224, ownB vb [1] 5, ownB vl ((tapeL [1] c).drop p) 5, own vm rs.length (rs.flatMap rcC) 57 36]) (fun (i, rs, Ns, s, c, p, vl, rv, vm) => R.length - i) ((0, rs0, Ns0, s0, c0, p0, vl0, rv0, vm0)) (flI_0 hon hrec hp0) sB ((List.Sublist.refl _)) ?_
  rintro ⟨i, rs, Ns, s, c, p, vl, rv, vm⟩ hI
  dsimp only at hI ⊢
  have hla : (laAt (rq 1) (rq 2) rs Ns rs.length).length = 32 := laAt_len
  refine tk_ownA (mm 10 rfl) fun hfm => tk_ownA (mm 2 rfl) fun hfr => tk_own1 (mm 9 rfl) fun hfl => ?_
  have htp0 := hI.tp
  have hil0 := hI.il
  have hpp0 := hI.pp
  have hrl0 := hI.rl
  refine tk_seq <| s_r <| q_m rfl rfl <| q_m rfl rfl <| s_q rfl (y_lenE rfl hfv15.choose_spec rfl) <| s_q rfl (y_lss rfl rfl) <| s_n <| tk_condP rfl (fun ht19 => ?_) (fun ht19 => ?_)
  · refine tk_skip <| tk_then <| tk_seq <| tk_block <| tk_seq ?_
    by_cases h0 : radd rs (R.getD i dRec) = 0
    · have hiR : i < R.length := by omega
      have hrl := hI.rl
      have hntR : (R.getD i dRec).s.note.length < 9223372036854775808 := by have := hRn _ (getD_mem (d := dRec) (l := R) (i := i) oM); omega
      have hrh := (R.getD i dRec).s.h
      have hpp := hI.pp
      have htp := hI.tp
      have hflr := foldR_len (l := rs)
      have hof : s.off = false := hI.on.off
      have hq := num_bnd h0 (fun i hi => hI.rec_.bnd hi) oM
      have hl2 : (rs ++ [numR (rs.length + 1) (R.getD i dRec)]).length = rs.length + 1 := by simp
      refine tk_region <| q_m rfl rfl <| q_m rfl rfl <| q_m rfl rfl <| s_q rfl (y_ixE (i := i) (k := 36) rfl rfl hfv15.choose_spec lenP kR) <| s_q rfl (y_loadE (i := i) (k := 36) (o := 0) (f := rcC) (l := R) (d0 := dRec) (vs := [I ((R.getD i dRec).kind), I ((R.getD i dRec).s.seq), I ((R.getD i dRec).s.time), Str ((R.getD i dRec).s.note)] ++ (((R.getD i dRec).s.root).map B)) 36 rfl kR (by rw [List.length_append, List.length_map, (R.getD i dRec).s.h]; rfl) rcC_len lenP (rcC_all _) (fun w hw => own_rdC (hw.mem (.head _)))) <| tk_act rfl <| a_callv [] _ rfl kR rfl (fun w' hw' => to18_spec (r := (R.getD i dRec))) rfl fun _ _ => tk_act rfl <| tk_ps [9, 9, 9, 9, 9, 9, 9, 9, 9] rfl <| a_callv [] _ rfl kR rfl (fun w' hw' => addany_spec (r := (R.getD i dRec)) (s := s) (cn := (((rs.length : Nat) : Int))) (k := (k0 + 6 * (i : Int))) (mb := mb) (hk := rq 1) (mk := rq 2) (nk := List.replicate 32 0) (tb := tb) (cb := cb) (lb := lb) (rv := rv) (rs := rs) (la := laAt (rq 1) (rq 2) rs Ns rs.length) (tl := [1]) (c := c) (p := p) (vb := vb) (vl := vl) ⟨lenP, lenP, lenP⟩ lenP lenP hntR hI.on.sh oM (by rw [hof]; exact (ck_ra oM).trans h0) rfl hq.1 ⟨lenP, lenP⟩ lenP lenP (hg.call hw') (St.pre hw')) rfl fun z29 hz29 => tk_ownA (mm 1 rfl) fun hfz29 => tk_own1 (mm 8 rfl) fun hflz29 => ?_
      have hA := hI.add hiR hRl hn0 h0 hz29
      have hzl29 : z29.la.length = 32 := hA.elim (fun q => by rw [q.2.2.2.1]; exact laAt_len) (fun q => by rw [q.2.2.2.1]; exact laAt_len)
      refine q_m rfl rfl <| s_q rfl (y_extract rfl rfl) <| s_q rfl (y_extract rfl rfl) <| q_a rfl rfl <| q_a rfl rfl <| s_n <| s_r <| q_m rfl rfl <| q_m rfl rfl <| q_m rfl rfl <| s_q rfl (y_ixE (i := i) (k := 36) rfl rfl hfv15.choose_spec lenP kR) <| s_q rfl (y_loadE (i := i) (k := 36) (o := 0) (f := rcC) (l := R) (d0 := dRec) (vs := [I ((R.getD i dRec).kind), I ((R.getD i dRec).s.seq), I ((R.getD i dRec).s.time), Str ((R.getD i dRec).s.note)] ++ (((R.getD i dRec).s.root).map B)) 36 rfl kR (by rw [List.length_append, List.length_map, (R.getD i dRec).s.h]; rfl) rcC_len lenP (rcC_all _) (fun w hw => own_rdC (hw.mem (mm 9 rfl)))) <| tk_act rfl <| a_callv [] _ rfl kR rfl (fun w' hw' => raddok_spec (rs := rs) (r := (R.getD i dRec)) (ro_ownC (H0 := []) hw' (mm 10 rfl)) lenP hntR h0) rfl fun v38 _ => tk_ownA (.head _) fun hfv38 => q_m rfl rfl <| s_q rfl (y_extract rfl rfl) <| s_q rfl (y_extract rfl rfl) <| s_q rfl (y_extract rfl rfl) <| q_a rfl rfl <| q_a rfl rfl <| q_a rfl rfl <| s_n <| tk_seq ?_; refine s_r <| q_m rfl rfl <| s_q rfl (y_eql rfl rfl) <| s_n <| tk_condP rfl (fun ht43 => ?_) (fun ht43 => ?_)
      · obtain ⟨he, hcn, hrs, hla9, hnc, hoff, hzp, hzt⟩ := hA.resolve_left (fun q => by have := q.1; omega)
        exact s_r <| q_m rfl rfl <| q_m rfl rfl <| q_a rfl rfl <| q_a rfl rfl <| s_n <| tk_retc <| tk_then_ret <| tk_in_ret <| tk_then_ret <| tk_then_ret <| tk_in_ret <| tk_then_ret <| tk_R (H1 := [_, _]) rfl (show own z29.rv z29.rs.length (z29.rs.flatMap rcC) 33 36 = own z29.rv rs.length (rs.flatMap rcC) 33 36 from by rw [hrs]) <| tk_ret ((⟨z29.t, z29.cn, z29.rv, rs, z29.la, Ns, z29.c, z29.p, z29.vl, vm, v38⟩ : FlZ)) (⟨hcn, hla9, by dsimp only; omega, hzt, by dsimp only; omega, .inr ⟨hnc, hoff⟩⟩) (.inl rfl) (r2 rfl rfl rfl) (.cons _ (.cons_cons _ (.cons_cons _ (.cons_cons _ (.cons_cons _ (.cons_cons _ (.cons_cons _ (.cons_cons _ (.cons_cons _ (.cons_cons _ (.cons _ (List.Sublist.refl _))))))))))))
      · obtain ⟨he, hcn, hrs, hla9, hnx⟩ := hA.resolve_right (fun q => by have := q.1; omega)
        exact tk_skip <| tk_then <| s_r <| q_m rfl rfl <| s_q rfl ((y_eql rfl rfl).cast (bool_t dC)) <| s_n <| tk_cond1 rfl <| tk_region <| q_m rfl rfl <| q_a rfl rfl <| tk_nil <| tk_in_normal <| tk_then <| tk_region <| q_m rfl rfl <| s_q rfl (y_addN (a := i) (b := 1) rfl rfl oM) <| q_a rfl rfl <| tk_nil <| tk_R (H1 := [_, _]) rfl (show own z29.rv z29.rs.length (z29.rs.flatMap rcC) 33 36 = own z29.rv (((rs ++ [numR (rs.length + 1) (R.getD i dRec)])).length) (((rs ++ [numR (rs.length + 1) (R.getD i dRec)])).flatMap rcC) 33 36 from by rw [hrs]) <| tk_R (H1 := [_]) rfl (congrArg (fun z_ => cel lb z_ 138) (show (rq 1).map B ++ ((rq 2).map B ++ ((List.replicate 32 0).map B ++ ([PT tb, PT sb, PT cb, z29.rv] ++ (z29.la.map B)))) = (rq 1).map B ++ ((rq 2).map B ++ ((List.replicate 32 0).map B ++ ([PT tb, PT sb, PT cb, z29.rv] ++ ((laAt (rq 1) (rq 2) ((rs ++ [numR (rs.length + 1) (R.getD i dRec)])) ((NsX rs Ns (tapeN [1] p 16))) ((rs ++ [numR (rs.length + 1) (R.getD i dRec)])).length).map B)))) from by rw [hla9, hl2])) <| tk_R (H1 := [_, _, _]) rfl (congrArg (fun z_ => cel cb z_ 168) (show [PT sb, I (z29.cn)] = [PT sb, I ((((rs ++ [numR (rs.length + 1) (R.getD i dRec)]).length : Nat) : Int))] from by rw [show z29.cn = (((rs ++ [numR (rs.length + 1) (R.getD i dRec)]).length : Nat) : Int) by omega])) <| tk_ps [9, 9, 9, 9, 9, 9, 9, 9, 9, 10] rfl <| tk_again ((i + 1, (rs ++ [numR (rs.length + 1) (R.getD i dRec)]), (NsX rs Ns (tapeN [1] p 16)), z29.t, z29.c, z29.p, z29.vl, z29.rv, v38)) (hnx) (by dsimp only; omega) sB (.cons_cons _ (.cons_cons _ (.cons_cons _ (.cons_cons _ (.cons_cons _ (.cons_cons _ (.cons_cons _ (.cons_cons _ (.cons_cons _ (.cons_cons _ (.cons_cons _ (List.nil_sublist _))))))))))))
    · have hiR : i < R.length := by omega
      have hrl := hI.rl
      have hntR : (R.getD i dRec).s.note.length < 9223372036854775808 := by have := hRn _ (getD_mem (d := dRec) (l := R) (i := i) oM); omega
      have hrh := (R.getD i dRec).s.h
      have hpp := hI.pp
      have htp := hI.tp
      have hflr := foldR_len (l := rs)
      have hof : s.off = false := hI.on.off
      have hra9 := ra_lt (rs := rs) (r := (R.getD i dRec))
      refine tk_region <| q_m rfl rfl <| q_m rfl rfl <| q_m rfl rfl <| s_q rfl (y_ixE (i := i) (k := 36) rfl rfl hfv15.choose_spec lenP kR) <| s_q rfl (y_loadE (i := i) (k := 36) (o := 0) (f := rcC) (l := R) (d0 := dRec) (vs := [I ((R.getD i dRec).kind), I ((R.getD i dRec).s.seq), I ((R.getD i dRec).s.time), Str ((R.getD i dRec).s.note)] ++ (((R.getD i dRec).s.root).map B)) 36 rfl kR (by rw [List.length_append, List.length_map, (R.getD i dRec).s.h]; rfl) rcC_len lenP (rcC_all _) (fun w hw => own_rdC (hw.mem (.head _)))) <| tk_act rfl <| a_callv [] _ rfl kR rfl (fun w' hw' => to18_spec (r := (R.getD i dRec))) rfl fun _ _ => tk_act rfl <| tk_ps [6, 6, 6, 6, 6, 6] rfl <| a_callv [] _ rfl kR rfl (fun w' hw' => addno_spec (r := (R.getD i dRec)) (s := s) (cn := (((rs.length : Nat) : Int))) (mb := mb) (hk := rq 1) (mk := rq 2) (nk := List.replicate 32 0) (tb := tb) (cb := cb) (lb := lb) (rv := rv) (rs := rs) (la := laAt (rq 1) (rq 2) rs Ns rs.length) ⟨lenP, lenP, lenP⟩ lenP lenP hntR (hI.on.sh.ok oM) (by rw [hof]; exact fun q => h0 ((ck_ra oM).symm.trans q)) (St.pre hw')) rfl fun _ _ => tk_re 29 (.tuple #[I 0, I ((checkR rs s.off ((rs.length : Nat) : Int) (R.getD i dRec) : Nat) : Int)]) (.tuple #[I 0, I ((radd rs (R.getD i dRec) : Nat) : Int)]) rfl (by rw [hof, ck_ra oM]) <| q_m rfl rfl <| s_q rfl (y_extract rfl rfl) <| s_q rfl (y_extract rfl rfl) <| q_a rfl rfl <| q_a rfl rfl <| s_n <| s_r <| q_m rfl rfl <| q_m rfl rfl <| q_m rfl rfl <| s_q rfl (y_ixE (i := i) (k := 36) rfl rfl hfv15.choose_spec lenP kR) <| s_q rfl (y_loadE (i := i) (k := 36) (o := 0) (f := rcC) (l := R) (d0 := dRec) (vs := [I ((R.getD i dRec).kind), I ((R.getD i dRec).s.seq), I ((R.getD i dRec).s.time), Str ((R.getD i dRec).s.note)] ++ (((R.getD i dRec).s.root).map B)) 36 rfl kR (by rw [List.length_append, List.length_map, (R.getD i dRec).s.h]; rfl) rcC_len lenP (rcC_all _) (fun w hw => own_rdC (hw.mem (mm 6 rfl)))) ?_; refine tk_act rfl <| a_callv [] _ rfl kR rfl (fun w' hw' => raddno_spec (rs := rs) (r := (R.getD i dRec)) (ro_ownC (H0 := []) hw' (mm 10 rfl)) lenP hntR h0) rfl fun _ _ => q_m rfl rfl <| s_q rfl (y_extract rfl rfl) <| s_q rfl (y_extract rfl rfl) <| s_q rfl (y_extract rfl rfl) <| q_a rfl rfl <| q_a rfl rfl <| q_a rfl rfl <| s_n <| tk_seq <| s_r <| q_m rfl rfl <| tk_qe (.bool false) rfl rfl rfl (y_eql rfl rfl) (bool_f oM) <| s_n <| tk_cond0 rfl <| tk_skip <| tk_then <| s_r <| q_m rfl rfl <| tk_qe (.bool false) rfl rfl rfl (y_eql rfl rfl) (bool_f oM) <| s_n <| tk_cond0 rfl <| tk_skip ?_; exact tk_in_normal <| tk_then <| tk_region <| q_m rfl rfl <| s_q rfl (y_addN (a := i) (b := 1) rfl rfl oM) <| q_a rfl rfl <| tk_nil <| tk_ps [10, 10, 10, 10, 9, 9, 9, 9, 9, 9, 10] rfl <| tk_again ((i + 1, rs, Ns, s, c, p, vl, rv, vm)) (hI.skip hiR) (by dsimp only; omega) sB (List.Sublist.refl _)
  · exact tk_exit <| tk_then_exit <| tk_then_exit <| tk_in_hit <| tk_then <| s_r <| q_m rfl rfl <| q_m rfl rfl <| q_a rfl rfl <| q_a rfl rfl <| s_n <| tk_retc <| tk_ret ((⟨s, ((rs.length : Nat) : Int), rv, rs, laAt (rq 1) (rq 2) rs Ns rs.length, Ns, c, p, vl, vm, vm⟩ : FlZ)) (⟨rfl, rfl, by dsimp only; omega, hI.tp, by dsimp only; omega, .inl ⟨hI.on.mono oM, hI.rec_, hI.calm⟩⟩) (.inl rfl) (r2 rfl rfl rfl) (.cons _ (List.Sublist.refl _))
end Go.Proofs.YtnhpghhibcdklaaGreatDoor
set_option linter.unusedSimpArgs false
set_option linter.unusedVariables false
namespace Go.Proofs.YtnhpghhibcdklaaGreatDoor
open Go
/-- what a lock says -/
structure Mk where
  c : Nat
  a : Bool
  t : Nat
/-- does a name begin so? -/
def preB (m l : List UInt8) : Bool := decide (m.length ≤ l.length ∧ l.take m.length = m)
/-- the names of a store that begin so, rising -/
def lsN (s : Sh) (m : List UInt8) : List (List UInt8) := (sortN (s.obs.map Ob.name)).filter (preB m)
theorem lsN_mem {s : Sh} {m n : List UInt8} : n ∈ lsN s m ↔ hasO s.obs n ∧ preB m n = true := by
  unfold lsN sortN hasO
  rw [List.mem_filter, List.mem_mergeSort]
/-- does a lock hold? (as time goes on alone) -/
def holdsP (now : Nat) (m : Mk) : Prop := now - m.t ≤ 1000
instance (now : Nat) (m : Mk) : Decidable (holdsP now m) := by unfold holdsP; infer_instance
def meets (mo : List UInt8 → Mk) (now : Nat) (alone : Bool) (n : List UInt8) : Prop := holdsP now (mo n) ∧ (alone = true ∨ (mo n).a = true)
instance (mo : List UInt8 → Mk) (now : Nat) (alone : Bool) (n : List UInt8) : Decidable (meets mo now alone n) := by unfold meets; infer_instance
/-- a client's hand -/
structure Lk where
  cl : Nat
  made : Nat
  own : List UInt8
  asks : Nat
  want : Bool
  next : List UInt8
  shown : Bool
  m : Mk
def Lk.asked (x : Lk) (b : Bool) : Lk := { x with asks := 1, want := b }
/-- a hand after show -/
def Lk.up (x : Lk) (e : Nat) : Lk := { x with made := if e = 0 then x.made + 1 else x.made }
end Go.Proofs.YtnhpghhibcdklaaGreatDoor
set_option linter.unusedSimpArgs false
set_option linter.unusedVariables false
namespace Go.Proofs.YtnhpghhibcdklaaGreatDoor
open Go
theorem nm_le : ∀ {i j : Nat}, i < 60 → j < 60 → i ≤ j → leB (nameR i) (nameR j) = true := by
  have : ∀ i, i < 60 → ∀ j, j < 60 → i ≤ j → leB (nameR i) (nameR j) = true := by decide +kernel
  exact fun {i j} h1 h2 h3 => this i h1 j h2 h3
end Go.Proofs.YtnhpghhibcdklaaGreatDoor
set_option linter.unusedSimpArgs false
set_option linter.unusedVariables false
namespace Go.Proofs.YtnhpghhibcdklaaGreatDoor
open Go Go.RowKit
set_option maxRecDepth 100000
end Go.Proofs.YtnhpghhibcdklaaGreatDoor
set_option linter.unusedSimpArgs false
set_option linter.unusedVariables false
namespace Go.Proofs.YtnhpghhibcdklaaGreatDoor
open Go Go.RowKit
set_option maxRecDepth 100000
theorem drop_getS {l m : List (List UInt8)} {j : Nat} (h : m.drop j = l.drop j) : m.getD j [] = l.getD j [] := by
  have := congrArg (fun l => l.getD 0 []) h
  simpa [List.getD_eq_getElem?_getD, List.getElem?_drop] using this
theorem dropS_next {α : Type} {l m : List α} {j : Nat} (h : m.drop j = l.drop j) : m.drop (j + 1) = l.drop (j + 1) := by
  have := congrArg (List.drop 1) h
  rwa [List.drop_drop, List.drop_drop] at this
theorem takeS_succ {l : List (List UInt8)} {j : Nat} (h : j < l.length) : l.take (j + 1) = l.take j ++ [l.getD j []] := by
  have e : l.getD j [] = l[j] := by rw [List.getD_eq_getElem?_getD, List.getElem?_eq_getElem h]; rfl
  rw [e, List.take_add_one, List.getElem?_eq_getElem h]; rfl
theorem filtS_all {l : List (List UInt8)} {p : List UInt8 → Bool} {i : Nat} (hi : i ≤ l.length) (h : ∀ j, j < i → p (l.getD j []) = true) : (l.take i).filter p = l.take i := by
  induction i with
  | zero => rfl
  | succ i ih => rw [takeS_succ oM, List.filter_append, ih oM (fun j hj => h j oM), List.filter_cons, if_pos (h i oM), List.filter_nil]
theorem filtS_init {l : List (List UInt8)} {p : List UInt8 → Bool} {i : Nat} (hi : i < l.length) (hb : ∀ j, j < i → p (l.getD j []) = true) (hz : ¬ p (l.getD i []) = true) : l.take i = (l.take (i + 1)).filter p := by
  rw [takeS_succ hi, List.filter_append, filtS_all oM hb, List.filter_cons, if_neg hz, List.filter_nil, List.append_nil]
theorem filtS_none {l : List (List UInt8)} {p : List UInt8 → Bool} (h : ∀ j, j < l.length → p (l.getD j []) = true) : l.filter p = l := by
  have := filtS_all (Nat.le_refl _) h
  rwa [List.take_length] at this
theorem filtS_keep {l m : List (List UInt8)} {p : List UInt8 → Bool} {i j : Nat} (hi : i < m.length) (hj : j < l.length) (h : m.take i = (l.take j).filter p) (hp : p (l.getD j []) = true) : (m.set i (l.getD j [])).take (i + 1) = (l.take (j + 1)).filter p := by
  rw [takeS_succ (by rw [List.length_set]; exact hi), takeS_succ hj, List.filter_append, List.filter_cons, if_pos hp, List.filter_nil, ← h, List.take_set_of_le (Nat.le_refl _)]
  congr 2
  rw [List.getD_eq_getElem?_getD, List.getElem?_set_self hi]; rfl
theorem filtS_skip {l m : List (List UInt8)} {p : List UInt8 → Bool} {i j : Nat} (hj : j < l.length) (h : m.take i = (l.take j).filter p) (hp : ¬ p (l.getD j []) = true) : m.take i = (l.take (j + 1)).filter p := by
  rw [takeS_succ hj, List.filter_append, List.filter_cons, if_neg hp, List.filter_nil, List.append_nil, h]
theorem kvO_names {l : List Ob} : (kvO l).map Prod.fst = l.map Ob.name := by simp [kvO]
def Sh.list (s : Sh) (m : List UInt8) : Nat × List (List UInt8) := if s.off = true then (9, []) else (0, lsN s m)
theorem ls1_spec {n m : List UInt8} {cb : Nat} {w : World} (hn : n.length < 9223372036854775808) (hm : m.length < 9223372036854775808) (hh : Pre w [cel cb ([Str m]) 9]) : Spec Tryz.prog 73 [Str n, PT cb] w [cel cb ([Str m]) 9] (fun _ : Unit => True) (fun _ => .bool (decide (¬ preB m n = true))) (fun _ => [cel cb ([Str m]) 9]) := by
  exact spec_of (n := 8) Tryz.func73 rfl rfl hh.1 hh.2 rfl <| s_r <| q_a rfl rfl <| s_n <| s_r <| q_m rfl rfl <| s_q rfl (y_load rfl rfl (hc (o := 0) (.head _) (rfl))) <| tk_act rfl <| a_callv [] _ rfl kR rfl (fun w' hw' => pre_spec (l := n) (m := m) lenP lenP) rfl fun _ _ => s_q rfl ((y_not rfl).cast (notdec _)) <| q_a rfl rfl <| s_n <| tk_retc <| tk_re 3 (.bool (decide (¬ (m.length ≤ n.length ∧ n.take m.length = m)))) (.bool (decide (¬ preB m n = true))) rfl (by unfold preB; congr 1; rw [decide_eq_decide, decide_eq_true_eq]) <| tk_ret (()) (trivial) (.inl rfl) (r1 rfl rfl) (List.Sublist.refl _)
theorem ixs_spec {v : Value} {l : List (List UInt8)} {cb : Nat} {m : List UInt8} {w : World} (hll : l.length < 1000000) (hsl : ∀ n ∈ l, n.length < 9223372036854775808) (hm : m.length < 9223372036854775808) (hh : Pre w [ownM Str v l 9, cel cb ([Str m]) 9]) : Spec Tryz.prog 133 [v, .func (.func 73) #[] #[PT cb]] w [ownM Str v l 9, cel cb ([Str m]) 9]
    (fun r : Int => (r = -1 ∧ ∀ j, j < l.length → preB m (l.getD j []) = true) ∨ (∃ i : Nat, r = (i : Int) ∧ i < l.length ∧ ¬ preB m (l.getD i []) = true ∧ ∀ j, j < i → preB m (l.getD j []) = true)) (fun r => I r) (fun _ => [ownM Str v l 9, cel cb ([Str m]) 9]) := by
  refine spec_of (n := 19) Tryz.func133 rfl rfl hh.1 hh.2 rfl <| tk_own1 (.head _) fun hfe => s_r <| q_a rfl rfl <| s_n <| tk_seq <| s_r <| q_m rfl rfl <| s_q rfl (y_lenRN (n' := l.length) rfl hfe.choose_spec rfl (by first | rfl | (rw [List.length_map]; omega) | simp)) <| q_m rfl rfl <| s_n <| tk_block <| tk_loop (X := Nat) (fun i => i ≤ l.length ∧ ∀ j, j < i → preB m (l.getD j []) = true) (fun i => [(0, v), (1, .func (.func 73) #[] #[PT cb]), (7, IN l.length), (8, IN i)]) (fun i => [own v l.length (l.map Str) 9 1, cel cb ([Str m]) 9]) (fun i => l.length - i) (0) (⟨Nat.zero_le _, fun _ h => absurd h oM⟩) sB ((List.Sublist.refl _)) ?_
  rintro i hI
  try dsimp only at hI ⊢
  refine s_r <| s_q rfl (y_lss rfl rfl) <| s_n <| tk_seq <| tk_condP rfl (fun ht9 => ?_) (fun ht9 => ?_)
  · refine tk_skip <| tk_then <| tk_seq <| tk_block <| s_r <| q_m rfl rfl <| q_a rfl rfl <| s_n <| s_r <| q_m rfl rfl <| q_m rfl rfl <| q_m rfl rfl <| s_q rfl (y_ixR (j := i) rfl rfl hfe.choose_spec lenP kR) <| s_q rfl (y_load rfl rfl (fun w hw => ((fun w hw => own_rdS (hw.mem (.head _))) w hw).cell (gM (d := []) lenP))) <| tk_act rfl <| tk_ps [1] rfl <| a_callc [] _ rfl rfl kR rfl (fun w' hw' => ls1_spec (n := l.getD i []) (m := m) (cb := cb) (hsl _ (getD_mem lenP)) lenP (St.pre hw')) rfl fun _ _ => s_n <| tk_condP rfl (fun ht16 => ?_) (fun ht16 => ?_)
    · exact s_r <| q_m rfl rfl <| q_a rfl rfl <| s_n <| tk_retc <| tk_in_ret <| tk_then_ret <| tk_then_ret <| tk_in_ret <| tk_then_ret <| tk_ps [1] rfl <| tk_ret ((i : Int)) (.inr ⟨i, rfl, by omega, ht16, hI.2⟩) (.inl rfl) (r1 rfl rfl) (List.Sublist.refl _)
    · exact tk_skip <| tk_in_normal <| tk_then <| tk_region <| s_q rfl (y_addN (a := i) (b := 1) rfl rfl oM) <| q_m rfl rfl <| tk_nil <| tk_ps [1] rfl <| tk_again (i + 1) (⟨by omega, fun j hj => (Nat.lt_or_ge j i).elim (hI.2 j) (fun h => by rw [show j = i by omega]; exact Classical.not_not.1 ht16)⟩) oM sB (List.Sublist.refl _)
  · exact tk_exit <| tk_then_exit <| tk_then_exit <| tk_in_hit <| tk_then <| s_r <| q_a rfl rfl <| s_n <| tk_retc <| tk_ret (-1) (.inl ⟨rfl, fun j hj => hI.2 j oM⟩) (.inl rfl) (r1 rfl rfl) (List.Sublist.refl _)
theorem dls_spec {v : Value} {l : List (List UInt8)} {cb : Nat} {m : List UInt8} {w : World} (hll : l.length < 1000000) (hsl : ∀ n ∈ l, n.length < 9223372036854775808) (hm : m.length < 9223372036854775808) (hh : Pre w [ownM Str v l 9, cel cb ([Str m]) 9]) : Spec Tryz.prog 72 [v, .func (.func 73) #[] #[PT cb]] w [ownM Str v l 9, cel cb ([Str m]) 9]
    (fun _ : Value => True) (fun x => x) (fun x => [ownM Str x (l.filter (preB m)) 9, cel cb ([Str m]) 9]) := by
  refine spec_of (n := 42) Tryz.func72 rfl rfl hh.1 hh.2 rfl <| tk_own1 (.head _) fun hfe => s_r <| q_a rfl rfl <| s_n <| s_r <| q_m rfl rfl <| q_m rfl rfl <| tk_act rfl <| a_callv [] _ rfl kR rfl (fun w' hw' => ixs_spec (v := v) (l := l) (cb := cb) (m := m) lenP hsl lenP (St.pre hw')) rfl fun r10 hr10 => q_a rfl rfl <| s_n <| tk_seq <| s_r <| q_m rfl rfl <| s_q rfl (y_eql rfl rfl) <| s_n <| tk_condP rfl (fun ht12 => ?_) (fun ht12 => ?_)
  · exact s_r <| q_m rfl rfl <| q_a rfl rfl <| s_n <| tk_retc <| tk_then_ret <| tk_R (H1 := []) rfl (show own v l.length (l.map Str) 9 1 = own v ((l.filter (preB m)).length) ((l.filter (preB m)).map Str) 9 1 from ownM_cast (filtS_none (hr10.elim (fun h => h.2) (fun h => by obtain ⟨i, e, _⟩ := h; omega))).symm) <| tk_ret (v) (trivial) (.inl rfl) (r1 rfl rfl) (List.Sublist.refl _)
  · obtain ⟨i0, rfl, hi0, hz0, hb0⟩ := hr10.resolve_left (fun h => ht12 h.1)
    refine tk_skip <| tk_then <| tk_seq <| s_r <| q_m rfl rfl <| s_q rfl (y_addN (a := i0) (b := 1) rfl rfl oM) <| q_a rfl rfl <| s_n <| tk_block <| tk_loop (X := Nat × Nat × List (List UInt8)) (fun (i, j, m') => m'.length = l.length ∧ i < j ∧ j ≤ l.length ∧ m'.take i = (l.take j).filter (preB m) ∧ m'.drop j = l.drop j) (fun (i, j, m') => [(0, v), (1, .func (.func 73) #[] #[PT cb]), (4, .slice none 0 0), (5, IN i), (6, IN j)]) (fun (i, j, m') => [own v m'.length (m'.map Str) 9 1, cel cb ([Str m]) 9]) (fun (i, j, m') => l.length - j) ((i0, i0 + 1, l)) (⟨rfl, by omega, by omega, filtS_init hi0 hb0 hz0, rfl⟩) sB ((List.Sublist.refl _)) ?_
    rintro ⟨i, j, m'⟩ hI
    try dsimp only at hI ⊢
    have hml := hI.1
    refine tk_own1 (.head _) fun hfm => tk_seq <| s_r <| q_m rfl rfl <| q_m rfl rfl <| s_q rfl (y_lenRN (n' := m'.length) rfl hfm.choose_spec rfl (by first | rfl | (rw [List.length_map]; omega) | simp)) <| s_q rfl (y_lss rfl rfl) <| s_n <| tk_condP rfl (fun ht19 => ?_) (fun ht19 => ?_)
    · have hmj := drop_getS hI.2.2.2.2
      refine tk_skip <| tk_then <| tk_seq <| tk_block <| s_r <| q_m rfl rfl <| q_m rfl rfl <| s_q rfl (y_ixR (j := j) rfl rfl hfm.choose_spec lenP kR) <| s_q rfl (y_load rfl rfl (fun w hw => ((fun w hw => own_rdS (hw.mem (.head _))) w hw).cell (gM (d := []) lenP))) <| tk_re 25 (Str (m'.getD j [])) (Str (l.getD j [])) rfl (by rw [hmj]) <| q_a rfl rfl <| s_n <| s_r <| q_m rfl rfl <| q_m rfl rfl <| tk_act rfl <| tk_ps [1] rfl <| a_callc [] _ rfl rfl kR rfl (fun w' hw' => ls1_spec (n := (l.getD j [])) (m := m) (cb := cb) (hsl _ (getD_mem lenP)) lenP (St.pre hw')) rfl fun _ _ => s_q rfl ((y_not rfl).cast (notdec _)) <| s_n <| tk_condP rfl (fun ht29 => ?_) (fun ht29 => ?_)
      · exact s_r <| q_m rfl rfl <| q_m rfl rfl <| q_m rfl rfl <| s_q rfl (y_ixR (j := i) rfl rfl hfm.choose_spec lenP kR) <| tk_act rfl <| a_storeM (H1 := [_]) (f := Str) (l := m') (i := i) (q := (l.getD j [])) rfl rfl rfl kR rfl lenP <| s_n <| tk_region <| q_m rfl rfl <| s_q rfl (y_addN (a := i) (b := 1) rfl rfl oM) <| q_a rfl rfl <| tk_nil <| tk_in_normal <| tk_then <| tk_region <| q_m rfl rfl <| s_q rfl (y_addN (a := j) (b := 1) rfl rfl oM) <| q_a rfl rfl <| tk_nil <| tk_ps [1] rfl <| tk_again ((i + 1, j + 1, m'.set i (l.getD j []))) (⟨by rw [List.length_set]; exact hml, by dsimp only; omega, by dsimp only; omega, filtS_keep oM oM hI.2.2.2.1 (Classical.not_not.1 ht29), by dsimp only; rw [List.drop_set_of_lt oM]; exact dropS_next hI.2.2.2.2⟩) (by dsimp only; omega) sB (List.Sublist.refl _)
      · exact tk_skip <| tk_in_normal <| tk_then <| tk_region <| q_m rfl rfl <| s_q rfl (y_addN (a := j) (b := 1) rfl rfl oM) <| q_a rfl rfl <| tk_nil <| tk_ps [1] rfl <| tk_again ((i, j + 1, m')) (⟨hml, by dsimp only; omega, by dsimp only; omega, filtS_skip oM hI.2.2.2.1 (fun h => ht29 (fun q => q h)), dropS_next hI.2.2.2.2⟩) (by dsimp only; omega) sB (List.Sublist.refl _)
    · exact tk_exit <| tk_then_exit <| tk_then_exit <| tk_in_hit <| tk_then <| s_r <| q_m rfl rfl <| q_m rfl rfl <| s_q rfl ((y_cutRl i rfl rfl hfm.choose_spec kR ⟨rfl, (by rw [List.length_map]; omega)⟩).cast (u := cutR v i m'.length) (by rw [List.length_map])) <| tk_act rfl <| a_clearM (H1 := []) (f := Str) (l := m') (z := []) (i := i) rfl Tryz.underlying81 (fun _ => kR) rfl rfl rfl lenP <| s_n <| s_r <| q_m rfl rfl <| q_m rfl rfl <| s_q rfl (y_cutRh i rfl rfl hfm.choose_spec kR ⟨rfl, (by rw [List.length_map]; omega)⟩) <| q_a rfl rfl <| s_n <| tk_retc <| tk_R (H1 := []) rfl (show own (cutR v 0 i) ((m'.take i).length) ((m'.take i).map Str) 9 1 = own (cutR v 0 i) ((l.filter (preB m)).length) ((l.filter (preB m)).map Str) 9 1 from ownM_cast (by rw [hI.2.2.2.1, show j = l.length by omega, List.take_length])) <| tk_ret (cutR v 0 i) (trivial) (.inl rfl) (r1 rfl rfl) (List.Sublist.refl _)
theorem names_spec {s : Sh} {sb mb : Nat} {w : World} (hok : ShOk s) (hh : Pre w [cel sb ([Value.map (some mb), I (s.left), .bool s.off, I (s.made), I (s.room)]) 159, mapS mb (kvO s.obs), bag (s.obs.map (obR 5))]) : Spec Tryz.prog 71 [PT sb] w [cel sb ([Value.map (some mb), I (s.left), .bool s.off, I (s.made), I (s.room)]) 159, mapS mb (kvO s.obs), bag (s.obs.map (obR 5))] (fun _ : Value => True) (fun x => x) (fun x => [ownM Str x (sortN (s.obs.map Ob.name)) 9, cel sb ([Value.map (some mb), I (s.left), .bool s.off, I (s.made), I (s.room)]) 159, mapS mb (kvO s.obs), bag (s.obs.map (obR 5))]) := by
  exact spec_of (n := 9) Tryz.func71 rfl rfl hh.1 hh.2 rfl <| s_r <| q_a rfl rfl <| s_n <| s_r <| q_m rfl rfl <| s_q rfl (y_nilCheck rfl) <| s_q rfl (y_fld0 (o := 0) rfl kR) <| s_q rfl (y_load rfl rfl (hc (o := 0) (.head _) (rfl))) <| tk_act rfl <| a_callv [] _ rfl kR rfl (fun w' hw' => keys132_spec (mb := mb)) rfl fun kb7 _ => tk_act rfl <| tk_ps [2, 1] rfl <| a_callv [] _ rfl kR rfl (fun w' hw' => sorted132_spec (b := kb7) (mb := mb) (kv := (kvO s.obs)) (fun p hp => by obtain ⟨o, ho, rfl⟩ := List.mem_map.1 hp; have := hok.names o ho; simp only [maxLen]; omega) (by rw [kvO_len]; have := hok.len; omega) (St.pre hw')) rfl fun v8 _ => tk_own1 (.head _) fun hfv8 => q_a rfl rfl <| s_n <| tk_retc <| tk_R (H1 := []) rfl (show own v8 ((sortN ((kvO s.obs).map Prod.fst)).length) ((sortN ((kvO s.obs).map Prod.fst)).map Str) 9 1 = own v8 ((sortN (s.obs.map Ob.name)).length) ((sortN (s.obs.map Ob.name)).map Str) 9 1 from ownM_cast (by rw [kvO_names])) <| tk_ps [4, 3, 4, 3] rfl <| tk_ret (v8) (trivial) (.inl rfl) (r1 rfl rfl) (.cons_cons _ (.cons_cons _ (.cons_cons _ (.cons_cons _ (List.nil_sublist _)))))
theorem list_spec {s : Sh} {sb mb : Nat} {m : List UInt8} {w : World} (hok : ShOk s) (hm : m.length < 1000000) (hh : Pre w [cel sb ([Value.map (some mb), I (s.left), .bool s.off, I (s.made), I (s.room)]) 159, mapS mb (kvO s.obs), bag (s.obs.map (obR 5))]) : Spec Tryz.prog 31 [PT sb, Str m] w [cel sb ([Value.map (some mb), I (s.left), .bool s.off, I (s.made), I (s.room)]) 159, mapS mb (kvO s.obs), bag (s.obs.map (obR 5))] (fun _ : Value => True) (fun x => .tuple #[x, IN (s.list m).1]) (fun x => [ownM Str x (s.list m).2 9, cel sb ([Value.map (some mb), I (s.left), .bool s.off, I (s.made), I (s.room)]) 159, mapS mb (kvO s.obs), bag (s.obs.map (obR 5))]) := by
  refine spec_of (n := 18) Tryz.func31 rfl rfl hh.1 hh.2 rfl <| s_r <| tk_act rfl <| a_box1 rfl rfl rfl fun b3 => q_a rfl rfl <| q_a rfl rfl <| s_n <| tk_seq <| s_r <| q_m rfl rfl <| tk_act rfl <| tk_ps [1] rfl <| a_callv [] _ rfl kR rfl (fun w' hw' => look_spec (s := s) (sb := sb) (mb := mb) (St.pre hw')) rfl fun _ _ => q_a rfl rfl <| s_n <| s_r <| q_m rfl rfl <| s_q rfl (y_neq rfl rfl) <| s_n <| tk_condP rfl (fun ht10 => ?_) (fun ht10 => ?_)
  · have hof : s.off = true := Classical.not_not.1 fun h => by rw [if_neg h] at ht10; omega
    exact s_r <| q_m rfl rfl <| q_a rfl rfl <| q_a rfl rfl <| s_n <| tk_retc <| tk_then_ret <| tk_ownM0 (f := Str) 9 <| tk_R (H1 := []) rfl (show own (.slice none 0 0) ((([] : List (List UInt8))).length) ((([] : List (List UInt8))).map Str) 9 1 = own (.slice none 0 0) (((s.list m).2).length) (((s.list m).2).map Str) 9 1 from ownM_cast (by rw [Sh.list, if_pos hof])) <| tk_re 5 (I (((if s.off = true then 9 else 0) : Nat) : Int)) (I (((s.list m).1 : Nat) : Int)) rfl (by rw [if_pos hof, Sh.list, if_pos hof]) <| tk_ret ((.slice none 0 0)) (trivial) (.inl rfl) (r2 rfl rfl rfl) (.cons_cons _ (.cons_cons _ (.cons _ (List.Sublist.refl _))))
  · have hno : ¬ s.off = true := fun h => by rw [if_pos h] at ht10; omega
    have hsl : (sortN (s.obs.map Ob.name)).length = s.obs.length := by unfold sortN; rw [List.length_mergeSort, List.length_map]
    have hol := hok.len
    exact tk_skip <| tk_then <| s_r <| q_m rfl rfl <| s_q rfl (y_nilCheck rfl) <| s_q rfl (y_fld0 (o := 0) rfl kR) <| tk_act rfl <| tk_ps [3, 3, 2] rfl <| a_callv [] _ rfl kR rfl (fun w' hw' => names_spec (s := s) (sb := sb) (mb := mb) hok (St.pre hw')) rfl fun v15 _ => tk_own1 (.head _) fun hfv15 => s_q rfl (y_makeFunc (cs := [PT b3]) rfl) <| tk_act rfl <| tk_ps [4, 1] rfl <| a_callv [] _ rfl kR rfl (fun w' hw' => dls_spec (v := v15) (l := sortN (s.obs.map Ob.name)) (cb := b3) (m := m) lenP (fun n hn => by obtain ⟨o, ho, rfl⟩ := List.mem_map.1 (List.mem_mergeSort.1 hn); have := hok.names o ho; omega) lenP (St.pre hw')) rfl fun v17 _ => tk_own1 (.head _) fun hfv17 => q_a rfl rfl <| q_a rfl rfl <| s_n <| tk_retc <| tk_R (H1 := []) rfl (show own v17 (((sortN (s.obs.map Ob.name)).filter (preB m)).length) (((sortN (s.obs.map Ob.name)).filter (preB m)).map Str) 9 1 = own v17 (((s.list m).2).length) (((s.list m).2).map Str) 9 1 from ownM_cast (by rw [Sh.list, if_neg hno]; rfl)) <| tk_re 5 (I 0) (I (((s.list m).1 : Nat) : Int)) rfl (by rw [Sh.list, if_neg hno]; rfl) <| tk_ret (v17) (trivial) (.inl rfl) (r2 rfl rfl rfl) (.cons_cons _ (.cons _ (List.Sublist.refl _)))
end Go.Proofs.YtnhpghhibcdklaaGreatDoor
set_option linter.unusedSimpArgs false
set_option linter.unusedVariables false
namespace Go.Proofs.YtnhpghhibcdklaaGreatDoor
open Go
attribute [local irreducible] sumL keyedL hexL strL sealF sealL tapeL tapeN laAt
theorem nm_pre {n : Nat} (h : n < 100) : preB [115, 47] (nameR n) = true := by
  have : ∀ n, n < 100 → preB [115, 47] (nameR n) = true := by decide +kernel
  exact this n h
theorem dr_pre {m : List UInt8} : preB [115, 47] (drL m) = false := by unfold preB drL; simp
theorem nmRange {m : Nat} (hm : m < 60) : ((List.range m).map (fun i => nameR (i + 1))).Nodup :=
  List.pairwise_map.2 (List.nodup_range.imp_of_mem fun {i j} hi hj hne e => hne (by have := nameR_inj (by have := List.mem_range.1 hi; omega) (by have := List.mem_range.1 hj; omega) e; omega))
theorem nmSorted {m : Nat} (hm : m < 59) : ((List.range m).map (fun i => nameR (i + 1))).Pairwise (fun a b => leB a b = true) :=
  List.pairwise_map.2 (List.pairwise_lt_range.imp_of_mem fun {i j} hi hj hlt => nm_le (by have := List.mem_range.1 hi; omega) (by have := List.mem_range.1 hj; omega) (by omega))
theorem lsN_log {s : Sh} {m : Nat} (hn : (s.obs.map Ob.name).Nodup) (hm : m < 59) (h : ∀ n, (hasO s.obs n ∧ preB [115, 47] n = true) ↔ ∃ i, i < m ∧ n = nameR (i + 1)) : lsN s [115, 47] = (List.range m).map (fun i => nameR (i + 1)) := by
  have tr : ∀ a b c : List UInt8, leB a b = true → leB b c = true → leB a c = true := fun a b c h1 h2 => by simp only [leB, decide_eq_true_eq] at *; exact List.le_trans h1 h2
  have tot : ∀ a b : List UInt8, (leB a b || leB b a) = true := fun a b => by simp only [leB, Bool.or_eq_true, decide_eq_true_eq]; exact List.le_total a b
  have hnd : (lsN s [115, 47]).Nodup := by
    unfold lsN sortN
    exact List.Nodup.sublist List.filter_sublist ((List.mergeSort_perm _ _).nodup_iff.2 hn)
  refine List.Perm.eq_of_pairwise (le := fun a b => leB a b = true) (fun a b _ _ h1 h2 => ?_) ?_ (nmSorted hm) ((List.perm_ext_iff_of_nodup hnd (nmRange (by omega))).2 fun x => ?_)
  · simp only [leB, decide_eq_true_eq] at h1 h2
    exact List.le_antisymm h1 h2
  · unfold lsN sortN
    exact List.Pairwise.sublist List.filter_sublist (List.pairwise_mergeSort tr tot _)
  · rw [lsN_mem, h, List.mem_map]
    exact ⟨fun ⟨i, h1, h2⟩ => ⟨i, List.mem_range.2 h1, h2.symm⟩, fun ⟨i, h1, h2⟩ => ⟨i, List.mem_range.1 h1, h2.symm⟩⟩
variable {hk mk : List UInt8} {rs : List Rec} {Ns : NsT} {t u : Sh} {k : Int}
/-- the names of the records behind the crash -/
theorem LogBack.ls (h : LogBack hk mk t rs Ns k) (hr : rs.length < 58) : ∃ m, m ≤ rs.length + 1 ∧ rs.length ≤ m ∧ (rs.length < m → hasO t.obs (nameR (rs.length + 1))) ∧ (¬ rs.length < m → ¬ hasO t.obs (nameR (rs.length + 1))) ∧ lsN t [115, 47] = (List.range m).map (fun i => nameR (i + 1)) := by
  by_cases hh : hasO t.obs (nameR (rs.length + 1))
  · refine ⟨rs.length + 1, Nat.le_refl _, by omega, fun _ => hh, fun q => absurd q (by omega), lsN_log h.sh.nodup (by omega) fun n => ⟨fun ⟨q1, q2⟩ => ?_, fun ⟨i, q1, q2⟩ => ?_⟩⟩
    · rcases h.names n q1 with ⟨i, q3, q4⟩ | q3 | q3
      · exact ⟨i, by omega, q4⟩
      · exact ⟨rs.length, by omega, q3⟩
      · rw [q3, dr_pre] at q2; cases q2
    · refine ⟨?_, by rw [q2]; exact nm_pre (by omega)⟩
      rw [q2]
      by_cases e : i < rs.length
      · exact (h.rec_.lies e).1
      · rw [show i = rs.length by omega]; exact hh
  · refine ⟨rs.length, by omega, Nat.le_refl _, fun q => absurd q (by omega), fun _ => hh, lsN_log h.sh.nodup (by omega) fun n => ⟨fun ⟨q1, q2⟩ => ?_, fun ⟨i, q1, q2⟩ => ?_⟩⟩
    · rcases h.names n q1 with ⟨i, q3, q4⟩ | q3 | q3
      · exact ⟨i, q3, q4⟩
      · rw [q3] at q1; exact absurd q1 hh
      · rw [q3, dr_pre] at q2; cases q2
    · exact ⟨by rw [q2]; exact (h.rec_.lies q1).1, by rw [q2]; exact nm_pre (by omega)⟩
/-- while Mend goes on -/
def mendS (t : Sh) (n i : Nat) : Sh := if i ≤ n then t else (t.del (nameR (n + 1))).1
theorem mendS_le {n i : Nat} (h : i ≤ n) : mendS t n i = t := by rw [mendS, if_pos h]
theorem mendS_gt {n i : Nat} (h : n < i) : mendS t n i = (t.del (nameR (n + 1))).1 := by rw [mendS, if_neg (by omega)]
/-- the store that is mended -/
structure LogFix (hk mk : List UInt8) (u : Sh) (rs : List Rec) (Ns : NsT) (k : Int) : Prop where
  sh : ShAt u k
  calm : Calm u
  rec_ : RecO hk mk u.obs rs Ns
  small : ∀ o ∈ u.obs, o.b.length ≤ 3000
  room : u.room = 4194304
  len : u.obs.length ≤ rs.length + 1
  names : ∀ n, hasO u.obs n → (∃ i, i < rs.length ∧ n = nameR (i + 1)) ∨ n = drL (nameR (rs.length + 1))
theorem lk_del {l : List Ob} {n a : List UInt8} (h : n ≠ a) : lkO (delO l a) n = lkO l n := by
  unfold lkO delO
  rw [List.find?_filter]
  congr 1
  refine congrArg (fun p => List.find? p l) (funext fun o => ?_)
  by_cases e : o.name = n
  · have : o.name ≠ a := by rw [e]; exact h
    simp [e, h]
  · simp [e]
theorem RecO.del {l : List Ob} {a : List UInt8} (h : RecO hk mk l rs Ns) (ha : ∀ i, i < rs.length → nameR (i + 1) ≠ a) : RecO hk mk (delO l a) rs Ns :=
  ⟨fun {i} hi => by
    obtain ⟨h1, h2, h3⟩ := h.lies hi
    rw [lk_del (ha i hi)]
    exact ⟨del_has.2 ⟨h1, ha i hi⟩, h2, h3⟩, h.nonce, h.bnd, h.right, h.fits⟩
theorem del_calm {s : Sh} {a : List UInt8} (h : Calm s) (hh : hasO s.obs a) : s.del a = (s.tick.obsTo (delO s.obs a), 0) := by
  have : delC s a = 0 := by rw [delC, if_neg (fun q => q hh)]
  rw [Sh.del, this, change_calm h]; rfl
theorem LogBack.fix (h : LogBack hk mk t rs Ns k) (hr : rs.length < 58) {m : Nat} (h1 : m ≤ rs.length + 1) (h2 : rs.length < m → hasO t.obs (nameR (rs.length + 1))) (h3 : ¬ rs.length < m → ¬ hasO t.obs (nameR (rs.length + 1))) : LogFix hk mk (mendS t rs.length m) rs Ns (k + 1) := by
  by_cases e : rs.length < m
  · rw [mendS_gt e]
    have hat := at_del (a := nameR (rs.length + 1)) h.sh
    rw [del_calm h.calm (h2 e)] at hat ⊢
    dsimp only at hat ⊢
    refine ⟨hat, calm_obs (calm_tick h.calm), h.rec_.del (fun i hi q => by have := nameR_inj (by omega) (by omega) q; omega), fun o ho => h.small o (List.mem_filter.1 ho).1, h.room, ?_, fun n hn => ?_⟩
    · show (delO t.obs _).length ≤ _
      exact Nat.le_trans (List.length_filter_le _ _) h.len
    · obtain ⟨q1, q2⟩ := del_has.1 (show hasO (delO t.obs _) n from hn)
      rcases h.names n q1 with q | q | q
      · exact .inl q
      · exact absurd q q2
      · exact .inr q
  · rw [mendS_le (by omega)]
    refine ⟨h.sh.mono (by omega), h.calm, h.rec_, h.small, h.room, h.len, fun n hn => ?_⟩
    rcases h.names n hn with q | q | q
    · exact .inl q
    · rw [q] at hn; exact absurd hn (h3 e)
    · exact .inr q
/-- Publish behind it: the draft that may be there goes first -/
theorem LogFix.pub (h : LogFix hk mk u rs Ns k) (hr : rs.length < 58) {b : List UInt8} (hb : b.length ≤ 3000) (v : Value) : ∃ u1, u.pub (nameR (rs.length + 1)) v b = (u1.with4 (nameR (rs.length + 1)) v b, 0) ∧ Calm u1 ∧ (∀ n, hasO u1.obs n ↔ ∃ i, i < rs.length ∧ n = nameR (i + 1)) := by
  have hno : ¬ hasO u.obs (nameR (rs.length + 1)) := fun q => by
    rcases h.names _ q with ⟨i, q1, q2⟩ | q1
    · have := nameR_inj (by omega) (by omega) q2; omega
    · exact drL_ne1 q1
  by_cases hd : hasO u.obs (drL (nameR (rs.length + 1)))
  · obtain ⟨e1, e2, e3, e4⟩ := pub_del (v := v) (b := b) h.calm (nameR_nm (n := rs.length + 1) (by omega)).1 hd
    refine ⟨(u.del (drL (nameR (rs.length + 1)))).1, ?_, e2, fun n => ?_⟩
    · rw [e1]
      have hl : (delO u.obs (drL (nameR (rs.length + 1)))).length ≤ u.obs.length := List.length_filter_le _ _
      have hs := sumO_small (l := delO u.obs (drL (nameR (rs.length + 1)))) (fun o ho => h.small o (List.mem_filter.1 ho).1)
      have hl2 := h.len
      exact pub_calm e2 (nameR_nm (by omega)).1 (by rw [e3]; exact fun q => hno (del_has.1 q).1) (by rw [e3]; exact fun q => (del_has.1 q).2 rfl) (drL_ne rfl) (by omega) (by rw [e3, e4, h.room]; omega) (by rw [e3]; omega)
    · rw [e3]
      refine ⟨fun q => ?_, fun ⟨i, q1, q2⟩ => ?_⟩
      · obtain ⟨q1, q2⟩ := del_has.1 q
        exact (h.names n q1).resolve_right q2
      · rw [q2]; exact del_has.2 ⟨(h.rec_.lies q1).1, drL_ne1⟩
  · have hs := sumO_small h.small
    have hl2 := h.len
    refine ⟨u, pub_calm h.calm (nameR_nm (by omega)).1 hno hd (drL_ne rfl) (by omega) (by rw [h.room]; omega) (by omega), h.calm, fun n => ⟨fun q => ?_, fun ⟨i, q1, q2⟩ => by rw [q2]; exact (h.rec_.lies q1).1⟩⟩
    rcases h.names n q with q1 | q1
    · exact q1
    · rw [q1] at q; exact absurd q hd
theorem radd_1 (h : rs.length < 200) : radd rs rec1 = 0 := by
  have := foldR_len (l := rs)
  exact ra_0 (by unfold rightR; decide) (by decide) (by omega)
theorem LogFix.add (h : LogFix (rq 1) (rq 2) u rs Ns k) (hr : rs.length < 58) {la tl : List UInt8} (hla : la.length = 32) {p : Nat} {z : AdZ} (hz : AddR (rq 1) (rq 2) la tl rs rec1 u (rs.length : Int) p z) :
    z.e = 0 ∧ z.n = rs.length + 1 ∧ z.rs = rs ++ [numR (rs.length + 1) rec1] ∧ z.la.length = 32 ∧ z.t.off = false ∧ ShAt z.t (k + 6) ∧ (lsN z.t [115, 47]).length = rs.length + 1 := by
  have hb : Bnd (numR (rs.length + 1) rec1) := (num_bnd (radd_1 (by omega)) (fun i hi => h.rec_.bnd hi) (by omega)).1
  obtain ⟨_, _, v, hz⟩ := hz
  have hbl : (sealL (rq 1) (rq 2) 115 (nameR (rs.length + 1)) (tapeN tl p 16) (bareQ la (numR (rs.length + 1) rec1))).length ≤ 3000 := by
    have := bareQ_len hla hb
    rw [sealL_len tapeN_len]; omega
  have hat := at_pub (nm := nameR (rs.length + 1)) (v := v) (b := sealL (rq 1) (rq 2) 115 (nameR (rs.length + 1)) (tapeN tl p 16) (bareQ la (numR (rs.length + 1) rec1))) h.sh
  generalize hB : sealL (rq 1) (rq 2) 115 (nameR (rs.length + 1)) (tapeN tl p 16) (bareQ la (numR (rs.length + 1) rec1)) = B at *
  obtain ⟨u1, e1, e2, e3⟩ := h.pub hr hbl v
  have e4 := raise_calm (m := ((rs.length + 1 : Nat) : Int)) (cn := (rs.length : Int)) (with4_calm (nm := nameR (rs.length + 1)) (v := v) (b := B) e2) (by omega) (by omega)
  rw [e1] at hz hat
  dsimp only at hz hat
  rw [e4] at hz
  dsimp only at hz
  rcases hz with ⟨q, _⟩ | ⟨_, q, _⟩ | ⟨_, _, z1, z2, z3, z4, z5, z6⟩
  · exact absurd rfl q
  · exact absurd rfl q
  · have hnd : ((u1.with4 (nameR (rs.length + 1)) v B).tick.obs.map Ob.name).Nodup := hat.nodup
    refine ⟨z2, z1, z5, by rw [z6]; exact sumL_len, by rw [z3]; exact e2.off, by rw [z3]; exact ⟨hat.nodup, hat.left, ⟨by have := hat.made.1; show 0 ≤ _ + 1; (try dsimp only at this); omega, by have := hat.made.2; show _ + 1 ≤ k + 6; (try dsimp only at this); omega⟩, hat.room, hat.sum, hat.len, hat.names, hat.bytes⟩, ?_⟩
    rw [z3, lsN_log (m := rs.length + 1) hnd (by omega) fun n => ⟨fun ⟨q1, q2⟩ => ?_, fun ⟨i, q1, q2⟩ => ?_⟩]
    · simp
    · rcases has_snoc.1 (show hasO (u1.obs ++ [⟨nameR (rs.length + 1), v, B, true⟩]) n from q1) with q | q
      · obtain ⟨i, a1, a2⟩ := (e3 n).1 q
        exact ⟨i, by omega, a2⟩
      · exact ⟨rs.length, by omega, q.symm⟩
    · refine ⟨?_, by rw [q2]; exact nm_pre (by omega)⟩
      show hasO (u1.obs ++ [⟨nameR (rs.length + 1), v, B, true⟩]) n
      by_cases e : i < rs.length
      · exact has_snoc.2 (.inl ((e3 n).2 ⟨i, e, q2⟩))
      · exact has_snoc.2 (.inr (by rw [q2, show i = rs.length by omega]))
end Go.Proofs.YtnhpghhibcdklaaGreatDoor
set_option linter.unusedSimpArgs false
set_option linter.unusedVariables false
namespace Go.Proofs.YtnhpghhibcdklaaGreatDoor
open Go Go.RowKit
set_option maxRecDepth 100000
attribute [local irreducible] sumL keyedL hexL strL sealF sealL tapeL tapeN laAt
theorem nmGet {m i : Nat} (h : i < m) : ((List.range m).map (fun i => nameR (i + 1))).getD i [] = nameR (i + 1) := by
  rw [List.getD_eq_getElem?_getD, List.getElem?_map, List.getElem?_range h]; rfl
theorem mendS_ok {t : Sh} {n i : Nat} {k : Int} (h : ShAt t k) (hk : k < 1000000) : ShOk (mendS t n i) := by
  unfold mendS
  split
  · exact h.ok oM
  · exact (at_del h).ok oM
theorem mend_spec {hk mk nk la : List UInt8} {lb tb sb cb : Nat} {rv : Value} {rs : List Rec} {t : Sh} {m mb : Nat} {k : Int} {w : World} (h3 : hk.length = 32 ∧ mk.length = 32 ∧ nk.length = 32) (hla : la.length = 32) (hrl : rs.length < 58) (hat : ShAt t k) (hkk : k < 1000000) (hca : Calm t) (h1 : m ≤ rs.length + 1) (h2 : rs.length < m → hasO t.obs (nameR (rs.length + 1))) (hls : lsN t [115, 47] = (List.range m).map (fun i => nameR (i + 1))) (hh : Pre w [cel lb (hk.map B ++ (mk.map B ++ (nk.map B ++ ([PT tb, PT sb, PT cb, rv] ++ (la.map B))))) 138, own rv rs.length (rs.flatMap rcC) 33 36, cel sb ([Value.map (some mb), I (t.left), .bool t.off, I (t.made), I (t.room)]) 159, mapS mb (kvO t.obs), bag (t.obs.map (obR 5))]) :
    Spec Tryz.prog 13 [PT lb] w [cel lb (hk.map B ++ (mk.map B ++ (nk.map B ++ ([PT tb, PT sb, PT cb, rv] ++ (la.map B))))) 138, own rv rs.length (rs.flatMap rcC) 33 36, cel sb ([Value.map (some mb), I (t.left), .bool t.off, I (t.made), I (t.room)]) 159, mapS mb (kvO t.obs), bag (t.obs.map (obR 5))] (fun _ : Unit => True) (fun _ => I 0) (fun _ => [cel lb (hk.map B ++ (mk.map B ++ (nk.map B ++ ([PT tb, PT sb, PT cb, rv] ++ (la.map B))))) 138, own rv rs.length (rs.flatMap rcC) 33 36, cel sb ([Value.map (some mb), I ((mendS t rs.length m).left), .bool ((mendS t rs.length m).off), I ((mendS t rs.length m).made), I ((mendS t rs.length m).room)]) 159, mapS mb (kvO ((mendS t rs.length m).obs)), bag (((mendS t rs.length m).obs).map (obR 5))]) := by
  refine spec_of (n := 56) Tryz.func13 rfl rfl hh.1 hh.2 rfl ?_
  obtain ⟨hk32, mk32, nk32⟩ := h3
  have hok : ShOk t := hat.ok oM
  have hli : t.list [115, 47] = (0, (List.range m).map (fun i => nameR (i + 1))) := by rw [Sh.list, if_neg (by rw [hca.off]; decide), hls]
  refine tk_ownA (mm 1 rfl) fun hfr => s_r <| q_a rfl rfl <| s_n <| tk_seq <| s_r <| q_m rfl rfl <| s_q rfl (y_pnil rfl rfl rfl) <| s_n <| tk_cond0 rfl <| tk_skip <| tk_then <| s_r <| q_m rfl rfl <| s_q rfl (y_nilCheck rfl) <| s_q rfl (y_fldN (o := 0) 97 rfl kR) <| s_q rfl (y_load rfl rfl (hc (o := 97) (.head _) (gA (k := 32) (i := 65) (by rw [List.length_map]; exact hk32) oM (gA (k := 32) (i := 33) (by rw [List.length_map]; exact mk32) oM (gA (k := 32) (i := 1) (by rw [List.length_map]; exact nk32) oM (rfl)))))) <| tk_act rfl <| tk_ps [4, 4, 4] rfl <| a_callv [] _ rfl kR rfl (fun w' hw' => list_spec (s := t) (sb := sb) (mb := mb) (m := [115, 47]) hok lenP (St.pre hw')) rfl fun v15 _ => tk_R (H1 := []) rfl (show own v15 (((t.list [115, 47]).2).length) (((t.list [115, 47]).2).map Str) 9 1 = own v15 (((List.range m).map (fun i => nameR (i + 1))).length) (((List.range m).map (fun i => nameR (i + 1))).map Str) 9 1 from ownM_cast (by rw [hli])) <| tk_own1 (.head _) fun hfv15 => tk_re 15 (.tuple #[v15, I (((t.list [115, 47]).1 : Nat) : Int)]) (.tuple #[v15, I 0]) rfl (by rw [hli]; rfl) <| q_m rfl rfl ?_; refine s_q rfl (y_extract rfl rfl) <| s_q rfl (y_extract rfl rfl) <| q_a rfl rfl <| q_a rfl rfl <| s_n <| tk_seq <| s_r <| q_m rfl rfl <| s_q rfl ((y_neq rfl rfl).cast (bool_f dC)) <| s_n <| tk_cond0 rfl <| tk_skip <| tk_then <| tk_seq <| s_r <| q_m rfl rfl <| s_q rfl (y_lenRN (n' := m) rfl hfv15.choose_spec rfl (by first | rfl | (rw [List.length_map]; omega) | simp)) <| q_m rfl rfl <| s_n <| tk_block <| tk_R (H1 := [_]) rfl (congrArg (fun z_ => cel sb z_ 159) (show [Value.map (some mb), I (t.left), .bool t.off, I (t.made), I (t.room)] = [Value.map (some mb), I ((mendS t rs.length 0).left), .bool ((mendS t rs.length 0).off), I ((mendS t rs.length 0).made), I ((mendS t rs.length 0).room)] from by rw [mendS_le (Nat.zero_le _)])) <| tk_R (H1 := [_, _]) rfl (show mapS mb (kvO t.obs) = mapS mb (kvO ((mendS t rs.length 0).obs)) from by rw [mendS_le (Nat.zero_le _)]) <| tk_R (H1 := [_, _, _]) rfl (show bag (t.obs.map (obR 5)) = bag (((mendS t rs.length 0).obs).map (obR 5)) from by rw [mendS_le (Nat.zero_le _)]) <| tk_loop (X := Nat) (fun i => i ≤ m) (fun i => [(0, PT lb), (21, v15), (22, IN m), (23, IN i)]) (fun i => [own v15 (((List.range m).map (fun i => nameR (i + 1))).length) (((List.range m).map (fun i => nameR (i + 1))).map Str) 9 1, cel sb ([Value.map (some mb), I ((mendS t rs.length i).left), .bool ((mendS t rs.length i).off), I ((mendS t rs.length i).made), I ((mendS t rs.length i).room)]) 159, mapS mb (kvO ((mendS t rs.length i).obs)), bag (((mendS t rs.length i).obs).map (obR 5)), cel lb (hk.map B ++ (mk.map B ++ (nk.map B ++ ([PT tb, PT sb, PT cb, rv] ++ (la.map B))))) 138, own rv rs.length (rs.flatMap rcC) 33 36]) (fun i => m - i) (0) (Nat.zero_le _) sB ((List.Sublist.refl _)) ?_
  rintro i hI
  try dsimp only at hI ⊢
  refine s_r <| s_q rfl (y_lss rfl rfl) <| s_n <| tk_seq <| tk_condP rfl (fun ht24 => ?_) (fun ht24 => ?_)
  · refine tk_skip <| tk_then <| tk_seq <| tk_block <| s_r <| q_m rfl rfl <| s_q rfl (y_ixR (j := i) rfl rfl hfv15.choose_spec lenP kR) <| s_q rfl (y_load rfl rfl (fun w hw => ((fun w hw => own_rdS (hw.mem (.head _))) w hw).cell (gM (d := []) lenP))) <| tk_re 27 (Str (((List.range m).map (fun i => nameR (i + 1))).getD i [])) (Str (nameR (i + 1))) rfl (by rw [nmGet oM]) <| q_a rfl rfl <| q_a rfl rfl <| s_n <| tk_seq <| s_r <| q_m rfl rfl <| q_m rfl rfl <| s_q rfl (y_nilCheck rfl) <| s_q rfl (y_fldN (o := 0) 99 rfl kR) <| s_q rfl (y_load rfl rfl (hc (o := 99) (mm 4 rfl) (gA (k := 32) (i := 67) (by rw [List.length_map]; exact hk32) oM (gA (k := 32) (i := 35) (by rw [List.length_map]; exact mk32) oM (gA (k := 32) (i := 3) (by rw [List.length_map]; exact nk32) oM (rfl)))))) <| s_q rfl (y_lenE rfl hfr.choose_spec rfl) <| tk_qs rfl rfl rfl (y_lss rfl rfl) (fun hs9_6 => ?_) (fun hs9_6 => ?_)
    · exact q_m rfl rfl <| s_g rfl (y_move rfl) <| s_g rfl (y_move rfl) <| s_g rfl (y_addN (a := i) (b := 1) rfl rfl oM) <| tk_gact rfl <| a_callv [] _ rfl kR rfl (fun w' hw' => lname_spec (n := i + 1) lenP) rfl fun _ _ => s_g rfl ((y_strEq (l := nameR (i + 1)) (m := nameR (i + 1)) rfl rfl).cast (bool_t rfl)) <| s_q rfl (y_pick1 rfl rfl) <| s_n <| tk_cond1 rfl <| tk_exit <| tk_then_exit <| tk_in_hit <| tk_then <| tk_region <| s_q rfl (y_addN (a := i) (b := 1) rfl rfl oM) <| q_m rfl rfl <| tk_nil <| tk_R (H1 := [_]) rfl (congrArg (fun z_ => cel sb z_ 159) (show [Value.map (some mb), I ((mendS t rs.length i).left), .bool ((mendS t rs.length i).off), I ((mendS t rs.length i).made), I ((mendS t rs.length i).room)] = [Value.map (some mb), I ((mendS t rs.length (i + 1)).left), .bool ((mendS t rs.length (i + 1)).off), I ((mendS t rs.length (i + 1)).made), I ((mendS t rs.length (i + 1)).room)] from by rw [mendS_le oM, mendS_le oM])) <| tk_R (H1 := [_, _]) rfl (show mapS mb (kvO ((mendS t rs.length i).obs)) = mapS mb (kvO ((mendS t rs.length (i + 1)).obs)) from by rw [mendS_le oM, mendS_le oM]) <| tk_R (H1 := [_, _, _]) rfl (show bag (((mendS t rs.length i).obs).map (obR 5)) = bag (((mendS t rs.length (i + 1)).obs).map (obR 5)) from by rw [mendS_le oM, mendS_le oM]) <| tk_again (i + 1) oM oM sB (List.Sublist.refl _)
    · refine q_m rfl rfl <| tk_gno rfl rfl rfl <| tk_gno rfl rfl rfl <| tk_gno rfl rfl rfl <| tk_gno rfl rfl rfl <| tk_gno rfl rfl rfl <| s_q rfl (y_pick0 rfl rfl) <| s_n <| tk_cond0 rfl <| tk_skip <| tk_then <| s_r <| q_m rfl rfl <| s_q rfl (y_nilCheck rfl) <| s_q rfl (y_fldN (o := 0) 97 rfl kR) <| s_q rfl (y_load rfl rfl (hc (o := 97) (mm 4 rfl) (gA (k := 32) (i := 65) (by rw [List.length_map]; exact hk32) oM (gA (k := 32) (i := 33) (by rw [List.length_map]; exact mk32) oM (gA (k := 32) (i := 1) (by rw [List.length_map]; exact nk32) oM (rfl)))))) <| q_m rfl rfl <| tk_act rfl <| tk_ps [3, 3, 3] rfl <| a_callv [] _ rfl kR rfl (fun w' hw' => del_spec (s := (mendS t rs.length i)) (sb := sb) (mb := mb) (na := nameR (i + 1)) (mendS_ok hat oM)  (St.pre hw')) rfl fun _ _ => ?_
      have hie : i = rs.length := by omega
      exact tk_re 47 (I ((((mendS t rs.length i).del (nameR (i + 1))).2 : Nat) : Int)) (I 0) rfl (by rw [hie, mendS_le (Nat.le_refl _), del_calm hca (h2 oM)]; rfl) <| tk_R (H1 := []) rfl (congrArg (fun z_ => cel sb z_ 159) (show [Value.map (some mb), I (((mendS t rs.length i).del (nameR (i + 1))).1.left), .bool (((mendS t rs.length i).del (nameR (i + 1))).1.off), I (((mendS t rs.length i).del (nameR (i + 1))).1.made), I (((mendS t rs.length i).del (nameR (i + 1))).1.room)] = [Value.map (some mb), I ((mendS t rs.length (i + 1)).left), .bool ((mendS t rs.length (i + 1)).off), I ((mendS t rs.length (i + 1)).made), I ((mendS t rs.length (i + 1)).room)] from by rw [hie, mendS_le (Nat.le_refl _), mendS_gt oM])) <| tk_R (H1 := [_]) rfl (show mapS mb (kvO (((mendS t rs.length i).del (nameR (i + 1))).1.obs)) = mapS mb (kvO ((mendS t rs.length (i + 1)).obs)) from by rw [hie, mendS_le (Nat.le_refl _), mendS_gt oM]) <| tk_R (H1 := [_, _]) rfl (show bag ((((mendS t rs.length i).del (nameR (i + 1))).1.obs).map (obR 5)) = bag (((mendS t rs.length (i + 1)).obs).map (obR 5)) from by rw [hie, mendS_le (Nat.le_refl _), mendS_gt oM]) <| q_a rfl rfl <| s_n <| s_r <| q_m rfl rfl <| s_q rfl ((y_neq rfl rfl).cast (bool_f dC)) <| q_m rfl rfl <| tk_gno rfl rfl rfl <| tk_gno rfl rfl rfl <| s_q rfl (y_pick0 rfl rfl) <| s_n <| tk_cond0 rfl <| tk_skip <| tk_in_normal <| tk_then <| tk_region <| s_q rfl (y_addN (a := i) (b := 1) rfl rfl oM) <| q_m rfl rfl <| tk_nil <| tk_ps [5, 5, 4, 4, 4, 5] rfl <| tk_again (i + 1) oM oM sB (List.Sublist.refl _)
  · exact tk_exit <| tk_then_exit <| tk_then_exit <| tk_in_hit <| tk_then <| s_r <| q_a rfl rfl <| s_n <| tk_retc <| tk_R (H1 := [_]) rfl (congrArg (fun z_ => cel sb z_ 159) (show [Value.map (some mb), I ((mendS t rs.length i).left), .bool ((mendS t rs.length i).off), I ((mendS t rs.length i).made), I ((mendS t rs.length i).room)] = [Value.map (some mb), I ((mendS t rs.length m).left), .bool ((mendS t rs.length m).off), I ((mendS t rs.length m).made), I ((mendS t rs.length m).room)] from by rw [show i = m by omega])) <| tk_R (H1 := [_, _]) rfl (show mapS mb (kvO ((mendS t rs.length i).obs)) = mapS mb (kvO ((mendS t rs.length m).obs)) from by rw [show i = m by omega]) <| tk_R (H1 := [_, _, _]) rfl (show bag (((mendS t rs.length i).obs).map (obR 5)) = bag (((mendS t rs.length m).obs).map (obR 5)) from by rw [show i = m by omega]) <| tk_ps [3, 3, 3, 5, 5] rfl <| tk_ret (()) (trivial) (.inl rfl) (r1 rfl rfl) (.cons_cons _ (.cons_cons _ (.cons_cons _ (.cons_cons _ (.cons_cons _ (List.nil_sublist _))))))
end Go.Proofs.YtnhpghhibcdklaaGreatDoor
set_option linter.unusedSimpArgs false
set_option linter.unusedVariables false
namespace Go.Proofs.YtnhpghhibcdklaaGreatDoor
open Go Go.RowKit
set_option maxRecDepth 100000
def Sh.armed (s : Sh) (n : Nat) : Sh := { s with left := (n : Int) }
theorem arm_spec {s : Sh} {sb mb n : Nat} {w : World} (hok : ShOk s) (hn : n < 1000000) (hh : Pre w [cel sb ([Value.map (some mb), I (s.left), .bool s.off, I (s.made), I (s.room)]) 159, mapS mb (kvO s.obs), bag (s.obs.map (obR 5))]) : Spec Tryz.prog 29 [PT sb, IN n] w [cel sb ([Value.map (some mb), I (s.left), .bool s.off, I (s.made), I (s.room)]) 159, mapS mb (kvO s.obs), bag (s.obs.map (obR 5))] (fun _ : Unit => True) (fun _ => .tuple #[]) (fun _ => [cel sb ([Value.map (some mb), I ((s.armed n).left), .bool ((s.armed n).off), I ((s.armed n).made), I ((s.armed n).room)]) 159, mapS mb (kvO ((s.armed n).obs)), bag (((s.armed n).obs).map (obR 5))]) := by
  exact spec_of (n := 12) Tryz.func29 rfl rfl hh.1 hh.2 rfl <| s_r <| q_m rfl rfl <| s_q rfl (y_pnnil rfl rfl rfl) <| s_n <| tk_cond1 rfl <| tk_region <| q_m rfl rfl <| q_m rfl rfl <| s_q rfl (y_maxN (a := n) (b := 0) rfl rfl) <| s_q rfl (y_nilCheck rfl) <| s_q rfl (y_fldN (o := 0) 1 rfl kR) <| s_q rfl (y_fld0 (o := 1) rfl kR) <| tk_act rfl <| a_storeE (H1 := []) (o := 1) (v := IN (max n 0)) (cs' := [Value.map (some mb), IN (max n 0), .bool s.off, I (s.made), I (s.room)]) rfl rfl kR rfl rfl sW (rfl) <| tk_nil <| tk_R (H1 := []) rfl (congrArg (fun z_ => cel sb z_ 159) (show [Value.map (some mb), IN (max n 0), .bool s.off, I (s.made), I (s.room)] = [Value.map (some mb), I ((s.armed n).left), .bool ((s.armed n).off), I ((s.armed n).made), I ((s.armed n).room)] from by rw [Nat.max_eq_left (Nat.zero_le n)]; rfl)) <| tk_ret (()) (trivial) (.inr rfl) (r0 rfl) (List.Sublist.refl _)
theorem ro_tail {E : Nat → Prop} {w : World} {v : Value} {p : List Int} (h : Ro E w (rd v (p.map I))) (hp : 1 ≤ p.length) : Ro E w (rd (cutR v 1 p.length) (p.tail.map I)) := by
  have h1 := RdS.cut h.1 (lo := 1) (hi := p.length) (by rw [List.length_map]; omega)
  rw [← List.map_drop, ← List.map_take, List.take_of_length_le (by rw [List.length_drop]; omega), List.drop_one] at h1
  exact ⟨h1, fun k hk => h.2 k ⟨fun e => hk.1 (by
    cases p with
    | nil => simp at hp
    | cons a l => simp at e), by rw [← hk.2, adOf_cut]⟩⟩
theorem ro_nil2 {E : Nat → Prop} {w : World} {v : Value} {p : List Int} (h0 : p = []) (h : Ro E w (rd v (p.map I))) : Ro E w (rd v (p.tail.map I)) := by subst h0; exact h
theorem cut_le {l : List Ob} {n : List UInt8} {p : List Int} {o : Ob} (hn : (l.map Ob.name).Nodup) (hh : hasO l n) (ho : o ∈ l) (e : o.name = n) : pkN p (lkO l n).b.length - 1 ≤ o.b.length := by
  have h1 : lkO l n = o := one_name hn (lkO_name hh).2 ho ((lkO_name hh).1.trans e.symm)
  have := pkN_lt (p := p) (n := (lkO l n).b.length)
  rw [h1] at this ⊢; omega
theorem crash_spec {s : Sh} {sb mb : Nat} {pv0 : Value} {p0 : List Int} {w : World} (hok : ShOk s) (hpl : p0.length < 9223372036854775808) (hp : Ro (Fs [cel sb ([Value.map (some mb), I (s.left), .bool s.off, I (s.made), I (s.room)]) 159, mapS mb (kvO s.obs), bag (s.obs.map (obR 5))]) w (rd pv0 (p0.map I))) (hh : Pre w [cel sb ([Value.map (some mb), I (s.left), .bool s.off, I (s.made), I (s.room)]) 159, mapS mb (kvO s.obs), bag (s.obs.map (obR 5))]) : Spec Tryz.prog 30 [PT sb, pv0] w [cel sb ([Value.map (some mb), I (s.left), .bool s.off, I (s.made), I (s.room)]) 159, mapS mb (kvO s.obs), bag (s.obs.map (obR 5))] (fun _ : Unit => True) (fun _ => .tuple #[]) (fun _ => [cel sb ([Value.map (some mb), I ((s.crash p0).left), .bool ((s.crash p0).off), I ((s.crash p0).made), I ((s.crash p0).room)]) 159, mapS mb (kvO ((s.crash p0).obs)), bag (((s.crash p0).obs).map (obR 5))]) := by
  refine spec_of (n := 73) Tryz.func30 rfl rfl hh.1 hh.2 rfl <| tk_seq <| s_r <| q_m rfl rfl <| s_q rfl (y_pnil rfl rfl rfl) <| s_n <| tk_cond0 rfl <| tk_skip <| tk_then <| tk_seq <| s_r <| q_m rfl rfl <| s_q rfl (y_nilCheck rfl) <| s_q rfl (y_fld0 (o := 0) rfl kR) <| tk_act rfl <| a_callv [] _ rfl kR rfl (fun w' hw' => names_spec (s := s) (sb := sb) (mb := mb) hok (St.pre hw')) rfl fun v13 _ => tk_own1 (.head _) fun hfv13 => s_q rfl (y_lenRN (n' := (sortN (s.obs.map Ob.name)).length) rfl hfv13.choose_spec rfl (by first | rfl | (rw [List.length_map]; omega) | simp)) <| q_m rfl rfl <| s_n <| tk_block <| tk_loop (X := Nat × Sh × List Int × Value) (fun (i, t, p, pv) => CrI s p0 i t p ∧ Ro (Fs [cel sb ([Value.map (some mb), I (s.left), .bool s.off, I (s.made), I (s.room)]) 159, mapS mb (kvO s.obs), bag (s.obs.map (obR 5))]) w (rd pv (p.map I))) (fun (i, t, p, pv) => [(0, PT sb), (1, pv), (13, v13), (14, I (((sortN (s.obs.map Ob.name)).length : Nat) : Int)), (15, IN i)]) (fun (i, t, p, pv) => [own v13 ((sortN (s.obs.map Ob.name)).length) ((sortN (s.obs.map Ob.name)).map Str) 9 1, cel sb ([Value.map (some mb), I (t.left), .bool t.off, I (t.made), I (t.room)]) 159, mapS mb (kvO t.obs), bag (t.obs.map (obR 5))]) (fun (i, t, p, pv) => s.obs.length - i) ((0, s, p0, pv0)) (⟨crI_0 hok.nodup, hp⟩) sB ((List.Sublist.refl _)) ?_
  rintro ⟨i, t, p, pv⟩ hI
  dsimp only at hI ⊢
  have hCr := hI.1
  have hokt := hCr.rel.ok hok
  have hpln := hCr.len
  refine s_r <| s_q rfl (y_lss rfl rfl) <| s_n <| tk_seq <| tk_condP rfl (fun ht16 => ?_) (fun ht16 => ?_)
  · have hii : i < (nmS s).length := by unfold nmS; omega
    have hil : i < 1000000 := by have := hok.len; have := nmS_len (s := s); omega
    have hhi := hCr.has i (Nat.le_refl _) hii
    refine tk_bagO (mm 3 rfl) fun hbo => ?_
    have hlk := lk_one hbo
    have hbl := hokt.bytes _ (lkO_name hhi).2
    refine tk_skip <| tk_then <| tk_seq <| tk_block <| s_r <| s_q rfl (y_ixR (j := i) rfl rfl hfv13.choose_spec lenP kR) <| s_q rfl (y_load rfl rfl (fun w hw => ((fun w hw => own_rdS (hw.mem (.head _))) w hw).cell (gM (d := []) lenP))) <| q_a rfl rfl <| s_n <| s_r <| q_m rfl rfl <| s_q rfl (y_nilCheck rfl) <| s_q rfl (y_fld0 (o := 0) rfl kR) <| s_q rfl (y_fld0 (o := 0) rfl kR) <| s_q rfl (y_load rfl rfl (hc (o := 0) (mm 1 rfl) (rfl))) <| q_m rfl rfl <| s_q rfl ((y_getS (b := mb) (kv := (kvO t.obs)) (k := (sortN (s.obs.map Ob.name)).getD i []) (zv := .agg [Value.slice none 0 0, .bool false].toArray) rfl rfl Tryz.underlying153 Tryz.underlying9 (fun _ => kR) (fun w hw => hw.mem (mm 2 rfl))).cast (kvO_get)) <| tk_act rfl <| a_allocL (cs := [Value.slice none 0 0, .bool false]) kR rfl fun b6 => tk_act rfl <| a_storeW (H1 := []) (vs := [(lkO t.obs (((nmS s).getD i []))).v, .bool ((lkO t.obs (((nmS s).getD i []))).sure)]) 2 rfl rfl kR rfl ⟨lenP, lenP⟩ (List.forall_mem_cons.2 ⟨(hlk _), (List.forall_mem_cons.2 ⟨rfl, (fun _ h => nomatch h)⟩)⟩) <| s_n <| tk_seq <| s_r ?_; refine s_q rfl (y_fldN (o := 0) 1 rfl kR) <| s_q rfl (y_load rfl rfl (hc (o := 1) (.head _) (rfl))) <| s_n <| tk_cond rfl (fun ht27 => ?_) (fun ht27 => ?_)
    · exact tk_exit <| tk_then_exit <| tk_in_hit <| tk_then <| tk_region <| s_q rfl (y_addN (a := i) (b := 1) rfl rfl oM) <| q_m rfl rfl <| tk_nil <| tk_again ((i + 1, t, p, pv)) (⟨crI_sure hCr hok.nodup hii (by assumption), hI.2⟩) (by dsimp only; have := hCr.i5; rw [nmS_len] at hii; omega) sB (.cons _ (List.Sublist.refl _))
    · have hsu : ¬ (lkO t.obs ((nmS s).getD i [])).sure = true := by simp_all
      refine tk_skip <| tk_then <| s_r <| q_a rfl rfl <| s_n <| tk_seq <| s_r <| q_m rfl rfl <| s_q rfl (y_lenRN (n' := p.length) rfl hI.2.1 rfl (by first | rfl | (rw [List.length_map]; omega) | simp)) <| s_q rfl (y_gtr rfl rfl) <| s_n <| tk_condP rfl (fun ht30 => ?_) (fun ht30 => ?_)
      · refine tk_drawH [cel b6 ([(lkO t.obs ((nmS s).getD i [])).v, .bool ((lkO t.obs ((nmS s).getD i [])).sure)]) 151, own v13 ((sortN (s.obs.map Ob.name)).length) ((sortN (s.obs.map Ob.name)).map Str) 9 1, cel sb ([Value.map (some mb), I (t.left), .bool t.off, I (t.made), I (t.room)]) 159, mapS mb (kvO t.obs), bag (t.obs.map (obR 5))] [] kR <| s_x 0 rfl (y_move rfl) <| s_x 1 rfl (y_ixR (j := 0) rfl rfl hI.2.1 lenP kR) <| s_l 2 rfl (fun _ h => h) (y_load rfl rfl (fun w hw => ((fun w hw => Ro.rd hI.2 hw) w hw).cell (gM (f := I) (d := 0) lenP))) <| s_x 3 rfl (y_convU (z := p.getD 0 0) rfl rfl rfl) <| s_x 4 rfl (y_move rfl) <| s_x 5 rfl ((y_cutRl (vs := p.map I) 1 rfl rfl hI.2.1 kR ⟨rfl, by rw [List.length_map]; omega⟩).cast (by rw [List.length_map])) <| s_x 6 rfl (y_assign rfl) <| s_x 7 rfl (y_assign rfl) <| tx_done kR <| tk_then <| tk_seq <| tk_re 7 (.int .u64 ((modU (p.getD 0 0) : Nat) : Int)) (.int .u64 ((modU (p.getD 0 0) : Nat) : Int)) rfl (by first | rfl | (rw [hp0]; rfl)) <| tk_region <| q_m rfl rfl <| s_q rfl (y_fld0 (o := 0) rfl kR) <| s_q rfl (y_load rfl rfl (hc (o := 0) (.head _) (rfl))) <| s_q rfl (y_lenRN (n' := ((lkO t.obs ((nmS s).getD i [])).b).length) rfl (hbo _ (lkO_name hhi).2).choose_spec rfl (by first | rfl | (rw [List.length_map]; omega) | simp)) <| s_q rfl (y_addN (a := ((lkO t.obs ((nmS s).getD i [])).b).length) (b := 2) rfl rfl oM) <| s_q rfl (y_convi64 (m := (((lkO t.obs ((nmS s).getD i [])).b).length) + 2) rfl rfl rfl (wrap_u64 oM)) <| s_q rfl (y_remU (a := modU (p.getD 0 0)) (b := (((lkO t.obs ((nmS s).getD i [])).b).length) + 2) rfl rfl oM) <| q_a rfl rfl <| s_n <| tk_seq ?_; refine tk_re 7 (.int .u64 (((modU (p.getD 0 0)) % ((((lkO t.obs ((nmS s).getD i [])).b).length) + 2) : Nat) : Int)) (.int .u64 (((pkN p (lkO t.obs ((nmS s).getD i [])).b.length) : Nat) : Int)) rfl (rfl) <| tk_region <| q_m rfl rfl <| s_q rfl (y_eql rfl rfl) <| s_n <| tk_condP rfl (fun ht45 => ?_) (fun ht45 => ?_)
        · have hpk : (pkN p (lkO t.obs ((nmS s).getD i [])).b.length) = 0 := by omega
          exact tk_region <| q_m rfl rfl <| s_q rfl (y_nilCheck rfl) <| s_q rfl (y_fld0 (o := 0) rfl kR) <| s_q rfl (y_fld0 (o := 0) rfl kR) <| s_q rfl (y_load rfl rfl (hc (o := 0) (mm 2 rfl) (rfl))) <| q_m rfl rfl <| tk_act rfl <| a_delS (H1 := [_, _, _]) (b := mb) (kv := (kvO t.obs)) (k := (sortN (s.obs.map Ob.name)).getD i []) rfl rfl Tryz.underlying153 Tryz.underlying9 rfl <| tk_nil <| tk_in_normal <| tk_then <| tk_region <| s_q rfl (y_addN (a := i) (b := 1) rfl rfl oM) <| q_m rfl rfl <| tk_nil <| tk_R (H1 := [_, _, _]) rfl (show mapS mb (delS (kvO t.obs) ((sortN (s.obs.map Ob.name)).getD i [])) = mapS mb (kvO (delO t.obs ((nmS s).getD i []))) from mapS_cast kvO_del) <| tk_ps [4] rfl <| tk_bagW (qs := (delO t.obs ((nmS s).getD i [])).map (obR 5)) (bagW_sub (List.Sublist.map _ List.filter_sublist)) <| tk_ps [4, 4, 4] rfl <| tk_again ((i + 1, t.obsTo (delO t.obs ((nmS s).getD i [])), p.tail, cutR pv 1 p.length)) (⟨crI_del hCr hok.nodup hii (by simpa using hsu) hpk, ro_tail hI.2 oM⟩) (by dsimp only; have := hCr.i5; rw [nmS_len] at hii; omega) sB (.cons_cons _ (.cons_cons _ (.cons_cons _ (.cons_cons _ (List.nil_sublist _)))))
        · have hpk : ¬ (pkN p (lkO t.obs ((nmS s).getD i [])).b.length) = 0 := by omega
          have hpl2 : (pkN p (lkO t.obs ((nmS s).getD i [])).b.length) < (lkO t.obs ((nmS s).getD i [])).b.length + 2 := pkN_lt
          refine tk_drawH [cel b6 ([(lkO t.obs ((nmS s).getD i [])).v, .bool ((lkO t.obs ((nmS s).getD i [])).sure)]) 151, own v13 ((sortN (s.obs.map Ob.name)).length) ((sortN (s.obs.map Ob.name)).map Str) 9 1, cel sb ([Value.map (some mb), I (t.left), .bool t.off, I (t.made), I (t.room)]) 159, bag (t.obs.map (obR 5))] [] kR <| s_x 0 rfl (y_move rfl) <| s_x 1 rfl (y_nilCheck rfl) <| s_x 2 rfl (y_fld0 (o := 0) rfl kR) <| s_x 3 rfl (y_fld0 (o := 0) rfl kR) <| s_l 4 rfl (fun _ h => kT [0, 0, 0] 1 rfl h) (y_load rfl rfl (hc (o := 0) (mm 2 rfl) (rfl))) <| s_x 5 rfl (y_move rfl) <| s_x 6 rfl (y_fld0 (o := 0) rfl kR) <| s_l 7 rfl (fun _ h => kT [0, 0, 0] 1 rfl h) (y_load rfl rfl (hc (o := 0) (.head _) (rfl))) <| s_x 8 rfl (y_move rfl) <| s_x 9 rfl (y_subU (a := (pkN p (lkO t.obs ((nmS s).getD i [])).b.length)) (b := 1) rfl rfl oM) <| s_x 10 rfl (y_cutRBh (l := (lkO t.obs ((nmS s).getD i [])).b) (((pkN p (lkO t.obs ((nmS s).getD i [])).b.length)) - 1) rfl rfl (hbo _ (lkO_name hhi).2).choose_spec kR lenP rfl) <| s_x 11 rfl (y_build (v := .agg ([cutR ((lkO t.obs ((nmS s).getD i [])).v) 0 (((pkN p (lkO t.obs ((nmS s).getD i [])).b.length)) - 1), .bool true]).toArray) (vs := [(0, cutR ((lkO t.obs ((nmS s).getD i [])).v) 0 (((pkN p (lkO t.obs ((nmS s).getD i [])).b.length)) - 1)), (1, .bool true)]) rfl (run_build (zs := [Value.slice none 0 0, .bool false]) (pl := [(0, 1), (1, 1)]) Tryz.underlying151 (fun _ => kR) (fun _ => kR) (fill_sv (RdS.cells (RdS.cutBh (hbo _ (lkO_name hhi).2).choose_spec (hi := ((pkN p (lkO t.obs ((nmS s).getD i [])).b.length)) - 1) lenP)) rfl))) <| tx_a 12 rfl kR rfl <| a_setS (H1 := [_, _, _]) (b := mb) (kv := (kvO t.obs)) (k := (sortN (s.obs.map Ob.name)).getD i []) (v := (Value.agg ([cutR ((lkO t.obs ((nmS s).getD i [])).v) 0 (((pkN p (lkO t.obs ((nmS s).getD i [])).b.length)) - 1), .bool true]).toArray)) rfl rfl rfl Tryz.underlying153 Tryz.underlying9 rfl <| tk_S (fun _ h => kT [0, 0, 0] 1 rfl h) <| tx_done kR <| tk_in_normal <| tk_then <| tk_region <| s_q rfl (y_addN (a := i) (b := 1) rfl rfl oM) <| q_m rfl rfl <| tk_nil <| tk_R (H1 := [_, _, _]) rfl (show mapS mb (setS (kvO t.obs) ((sortN (s.obs.map Ob.name)).getD i []) ((Value.agg ([cutR ((lkO t.obs ((nmS s).getD i [])).v) 0 (((pkN p (lkO t.obs ((nmS s).getD i [])).b.length)) - 1), .bool true]).toArray))) = mapS mb (kvO (cutO t.obs ((nmS s).getD i []) ((pkN p (lkO t.obs ((nmS s).getD i [])).b.length) - 1))) from mapS_cast (kvO_cut hCr.rel.nodup hhi)) ?_; exact tk_ps [4] rfl <| tk_bagW (qs := (cutO t.obs ((nmS s).getD i []) ((pkN p (lkO t.obs ((nmS s).getD i [])).b.length) - 1)).map (obR 5)) (bagW_cut (fun o ho e => cut_le hCr.rel.nodup hhi ho e)) <| tk_ps [4, 4, 4] rfl <| tk_again ((i + 1, t.obsTo (cutO t.obs ((nmS s).getD i []) ((pkN p (lkO t.obs ((nmS s).getD i [])).b.length) - 1)), p.tail, cutR pv 1 p.length)) (⟨crI_cut hCr hok.nodup hii (by simpa using hsu) hpk, ro_tail hI.2 oM⟩) (by dsimp only; have := hCr.i5; rw [nmS_len] at hii; omega) sB (.cons_cons _ (.cons_cons _ (.cons_cons _ (.cons_cons _ (List.nil_sublist _)))))
      · have hp0 : p = [] := List.eq_nil_of_length_eq_zero oM
        refine tk_skip <| tk_then <| tk_seq <| tk_re 7 (.int .u64 0) (.int .u64 ((modU (p.getD 0 0) : Nat) : Int)) rfl (by first | rfl | (rw [hp0]; rfl)) <| tk_region <| q_m rfl rfl <| s_q rfl (y_fld0 (o := 0) rfl kR) <| s_q rfl (y_load rfl rfl (hc (o := 0) (.head _) (rfl))) <| s_q rfl (y_lenRN (n' := ((lkO t.obs ((nmS s).getD i [])).b).length) rfl (hbo _ (lkO_name hhi).2).choose_spec rfl (by first | rfl | (rw [List.length_map]; omega) | simp)) <| s_q rfl (y_addN (a := ((lkO t.obs ((nmS s).getD i [])).b).length) (b := 2) rfl rfl oM) <| s_q rfl (y_convi64 (m := (((lkO t.obs ((nmS s).getD i [])).b).length) + 2) rfl rfl rfl (wrap_u64 oM)) <| s_q rfl (y_remU (a := modU (p.getD 0 0)) (b := (((lkO t.obs ((nmS s).getD i [])).b).length) + 2) rfl rfl oM) <| q_a rfl rfl <| s_n <| tk_seq <| tk_re 7 (.int .u64 (((modU (p.getD 0 0)) % ((((lkO t.obs ((nmS s).getD i [])).b).length) + 2) : Nat) : Int)) (.int .u64 (((pkN p (lkO t.obs ((nmS s).getD i [])).b.length) : Nat) : Int)) rfl (rfl) <| tk_region <| q_m rfl rfl <| s_q rfl (y_eql rfl rfl) <| s_n <| tk_condP rfl (fun ht45 => ?_) (fun ht45 => ?_)
        · have hpk : (pkN p (lkO t.obs ((nmS s).getD i [])).b.length) = 0 := by omega
          exact tk_region <| q_m rfl rfl <| s_q rfl (y_nilCheck rfl) <| s_q rfl (y_fld0 (o := 0) rfl kR) <| s_q rfl (y_fld0 (o := 0) rfl kR) <| s_q rfl (y_load rfl rfl (hc (o := 0) (mm 2 rfl) (rfl))) <| q_m rfl rfl <| tk_act rfl <| a_delS (H1 := [_, _, _]) (b := mb) (kv := (kvO t.obs)) (k := (sortN (s.obs.map Ob.name)).getD i []) rfl rfl Tryz.underlying153 Tryz.underlying9 rfl <| tk_nil <| tk_in_normal <| tk_then <| tk_region <| s_q rfl (y_addN (a := i) (b := 1) rfl rfl oM) <| q_m rfl rfl <| tk_nil <| tk_R (H1 := [_, _, _]) rfl (show mapS mb (delS (kvO t.obs) ((sortN (s.obs.map Ob.name)).getD i [])) = mapS mb (kvO (delO t.obs ((nmS s).getD i []))) from mapS_cast kvO_del) <| tk_ps [4] rfl <| tk_bagW (qs := (delO t.obs ((nmS s).getD i [])).map (obR 5)) (bagW_sub (List.Sublist.map _ List.filter_sublist)) <| tk_ps [4, 4, 4] rfl <| tk_again ((i + 1, t.obsTo (delO t.obs ((nmS s).getD i [])), p.tail, pv)) (⟨crI_del hCr hok.nodup hii (by simpa using hsu) hpk, ro_nil2 hp0 hI.2⟩) (by dsimp only; have := hCr.i5; rw [nmS_len] at hii; omega) sB (.cons_cons _ (.cons_cons _ (.cons_cons _ (.cons_cons _ (List.nil_sublist _)))))
        · have hpk : ¬ (pkN p (lkO t.obs ((nmS s).getD i [])).b.length) = 0 := by omega
          have hpl2 : (pkN p (lkO t.obs ((nmS s).getD i [])).b.length) < (lkO t.obs ((nmS s).getD i [])).b.length + 2 := pkN_lt
          refine tk_drawH [cel b6 ([(lkO t.obs ((nmS s).getD i [])).v, .bool ((lkO t.obs ((nmS s).getD i [])).sure)]) 151, own v13 ((sortN (s.obs.map Ob.name)).length) ((sortN (s.obs.map Ob.name)).map Str) 9 1, cel sb ([Value.map (some mb), I (t.left), .bool t.off, I (t.made), I (t.room)]) 159, bag (t.obs.map (obR 5))] [] kR <| s_x 0 rfl (y_move rfl) <| s_x 1 rfl (y_nilCheck rfl) <| s_x 2 rfl (y_fld0 (o := 0) rfl kR) <| s_x 3 rfl (y_fld0 (o := 0) rfl kR) <| s_l 4 rfl (fun _ h => kT [0, 0, 0] 1 rfl h) (y_load rfl rfl (hc (o := 0) (mm 2 rfl) (rfl))) <| s_x 5 rfl (y_move rfl) <| s_x 6 rfl (y_fld0 (o := 0) rfl kR) <| s_l 7 rfl (fun _ h => kT [0, 0, 0] 1 rfl h) (y_load rfl rfl (hc (o := 0) (.head _) (rfl))) <| s_x 8 rfl (y_move rfl) <| s_x 9 rfl (y_subU (a := (pkN p (lkO t.obs ((nmS s).getD i [])).b.length)) (b := 1) rfl rfl oM) <| s_x 10 rfl (y_cutRBh (l := (lkO t.obs ((nmS s).getD i [])).b) (((pkN p (lkO t.obs ((nmS s).getD i [])).b.length)) - 1) rfl rfl (hbo _ (lkO_name hhi).2).choose_spec kR lenP rfl) <| s_x 11 rfl (y_build (v := .agg ([cutR ((lkO t.obs ((nmS s).getD i [])).v) 0 (((pkN p (lkO t.obs ((nmS s).getD i [])).b.length)) - 1), .bool true]).toArray) (vs := [(0, cutR ((lkO t.obs ((nmS s).getD i [])).v) 0 (((pkN p (lkO t.obs ((nmS s).getD i [])).b.length)) - 1)), (1, .bool true)]) rfl (run_build (zs := [Value.slice none 0 0, .bool false]) (pl := [(0, 1), (1, 1)]) Tryz.underlying151 (fun _ => kR) (fun _ => kR) (fill_sv (RdS.cells (RdS.cutBh (hbo _ (lkO_name hhi).2).choose_spec (hi := ((pkN p (lkO t.obs ((nmS s).getD i [])).b.length)) - 1) lenP)) rfl))) <| tx_a 12 rfl kR rfl <| a_setS (H1 := [_, _, _]) (b := mb) (kv := (kvO t.obs)) (k := (sortN (s.obs.map Ob.name)).getD i []) (v := (Value.agg ([cutR ((lkO t.obs ((nmS s).getD i [])).v) 0 (((pkN p (lkO t.obs ((nmS s).getD i [])).b.length)) - 1), .bool true]).toArray)) rfl rfl rfl Tryz.underlying153 Tryz.underlying9 rfl <| tk_S (fun _ h => kT [0, 0, 0] 1 rfl h) <| tx_done kR <| tk_in_normal <| tk_then <| tk_region <| s_q rfl (y_addN (a := i) (b := 1) rfl rfl oM) <| q_m rfl rfl <| tk_nil <| tk_R (H1 := [_, _, _]) rfl (show mapS mb (setS (kvO t.obs) ((sortN (s.obs.map Ob.name)).getD i []) ((Value.agg ([cutR ((lkO t.obs ((nmS s).getD i [])).v) 0 (((pkN p (lkO t.obs ((nmS s).getD i [])).b.length)) - 1), .bool true]).toArray))) = mapS mb (kvO (cutO t.obs ((nmS s).getD i []) ((pkN p (lkO t.obs ((nmS s).getD i [])).b.length) - 1))) from mapS_cast (kvO_cut hCr.rel.nodup hhi)) ?_; exact tk_ps [4] rfl <| tk_bagW (qs := (cutO t.obs ((nmS s).getD i []) ((pkN p (lkO t.obs ((nmS s).getD i [])).b.length) - 1)).map (obR 5)) (bagW_cut (fun o ho e => cut_le hCr.rel.nodup hhi ho e)) <| tk_ps [4, 4, 4] rfl <| tk_again ((i + 1, t.obsTo (cutO t.obs ((nmS s).getD i []) ((pkN p (lkO t.obs ((nmS s).getD i [])).b.length) - 1)), p.tail, pv)) (⟨crI_cut hCr hok.nodup hii (by simpa using hsu) hpk, ro_nil2 hp0 hI.2⟩) (by dsimp only; have := hCr.i5; rw [nmS_len] at hii; omega) sB (.cons_cons _ (.cons_cons _ (.cons_cons _ (.cons_cons _ (List.nil_sublist _)))))
  · refine tk_exit <| tk_then_exit <| tk_then_exit <| tk_in_hit <| tk_then <| tk_region <| q_m rfl rfl <| q_m rfl rfl <| s_q rfl (y_nilCheck rfl) <| s_q rfl (y_fldN (o := 0) 1 rfl kR) <| s_q rfl (y_fldN (o := 1) 1 rfl kR) <| tk_act rfl <| a_storeE (H1 := [_]) (o := 2) (v := .bool false) (cs' := [Value.map (some mb), I (t.left), .bool false, I (t.made), I (t.room)]) rfl rfl kR rfl rfl sW (rfl) <| s_q rfl (y_nilCheck rfl) <| s_q rfl (y_fldN (o := 0) 1 rfl kR) <| s_q rfl (y_fld0 (o := 1) rfl kR) <| tk_act rfl <| a_storeE (H1 := [_]) (o := 1) (v := I (-1)) (cs' := [Value.map (some mb), I (-1), .bool false, I (t.made), I (t.room)]) rfl rfl kR rfl rfl sW (rfl) <| tk_nil ?_
    obtain hie : i = (nmS s).length := by have := hCr.i5; have : (nmS s).length = (sortN (s.obs.map Ob.name)).length := rfl; omega
    have hcr := crI_end (hie ▸ hCr)
    exact tk_R (H1 := [_]) rfl (congrArg (fun z_ => cel sb z_ 159) (show [Value.map (some mb), I (-1), .bool false, I (t.made), I (t.room)] = [Value.map (some mb), I ((s.crash p0).left), .bool ((s.crash p0).off), I ((s.crash p0).made), I ((s.crash p0).room)] from by rw [hcr]; rfl)) <| tk_R (H1 := [_, _]) rfl (show mapS mb (kvO t.obs) = mapS mb (kvO ((s.crash p0).obs)) from by rw [hcr]; rfl) <| tk_R (H1 := [_, _, _]) rfl (show bag (t.obs.map (obR 5)) = bag (((s.crash p0).obs).map (obR 5)) from by rw [hcr]; rfl) <| tk_ret (()) (trivial) (.inr rfl) (r0 rfl) (.cons _ (List.Sublist.refl _))
end Go.Proofs.YtnhpghhibcdklaaGreatDoor
set_option linter.unusedSimpArgs false
set_option linter.unusedVariables false
namespace Go.Proofs.YtnhpghhibcdklaaGreatDoor
open Go
attribute [local irreducible] sumL keyedL hexL strL sealF sealL tapeL tapeN laAt
theorem LogOn.arm {s : Sh} {n j : Nat} {k : Int} (h : LogOn s n k) (hj : j < 1000) : LogOn (s.armed j) n k :=
  ⟨⟨h.sh.nodup, ⟨by show -1 ≤ (j : Int); omega, by show (j : Int) < _; omega⟩, h.sh.made, h.sh.room, h.sh.sum, h.sh.len, h.sh.names, h.sh.bytes⟩, h.off, h.names, h.small, h.room⟩
theorem LogBack.mono {hk mk : List UInt8} {t : Sh} {rs : List Rec} {Ns : NsT} {k j : Int} (h : LogBack hk mk t rs Ns k) (hj : k ≤ j) : LogBack hk mk t rs Ns j := ⟨h.sh.mono hj, h.calm, h.rec_, h.small, h.room, h.len, h.names⟩
section
variable {n0 : Nat} {k0 : Int} {p0 : Nat} {s0 : Sh} {z : FlZ}
theorem FillR.at_ (h : FillR n0 k0 p0 s0 z) : ShAt z.t (k0 + 156) := h.2.2.2.2.2.elim (fun q => q.1.sh.mono (by omega)) (fun q => q.2.sh)
theorem FillR.back (h : FillR n0 k0 p0 s0 z) {p : List Int} : LogBack (rq 1) (rq 2) (z.t.crash p) z.rs z.Ns (k0 + 156) :=
  h.2.2.2.2.2.elim (fun q => (q.1.back q.2.1).mono (by omega)) (fun q => q.2.back)
theorem FillR.calm (h : FillR n0 k0 p0 s0 z) (hc : Calm s0) : LogOn z.t z.rs.length (k0 + 150) ∧ RecO (rq 1) (rq 2) z.t.obs z.rs z.Ns :=
  h.2.2.2.2.2.elim (fun q => ⟨q.1, q.2.1⟩) (fun q => absurd hc q.1)
end
end Go.Proofs.YtnhpghhibcdklaaGreatDoor
