/- Texts of the claim LockRaces, part 5 of 5: LockCalm, LockTake, LogD, LogE, LockI, LockJ, LockLst, LockK, LockWd, LockRace, LockM, RaceInv, LockN. Own work. -/
import Derived.Test.YtkkjfojgjmglpaaGreatDoorPtLockRaces4
set_option linter.unusedSimpArgs false
set_option linter.unusedVariables false
namespace Go.Proofs.YtkkjfojgjmglpaaGreatDoor
open Go
structure Qt (s : Sh) (N : Nat) : Prop where
  calm : Calm s
  room : s.room = 100000
  small : ∀ o ∈ s.obs, o.b.length ≤ 200
  len : s.obs.length ≤ N
theorem Qt.mono {s : Sh} {N M : Nat} (h : Qt s N) (hM : N ≤ M) : Qt s M := ⟨h.calm, h.room, h.small, Nat.le_trans h.len hM⟩
theorem Qt.off {s : Sh} {N : Nat} (h : Qt s N) : ¬ s.off = true := by rw [h.calm.off]; decide
theorem sumO_le200 {l : List Ob} (h : ∀ o ∈ l, o.b.length ≤ 200) : sumO l ≤ 200 * l.length := by
  induction l with
  | nil => exact Nat.zero_le _
  | cons o l ih =>
    have h1 := h o (List.mem_cons_self ..)
    have h2 := ih (fun o ho => h o (List.mem_cons_of_mem _ ho))
    unfold sumO at h2 ⊢
    rw [List.map_cons, List.sum_cons, List.length_cons]; omega
theorem del_q {s : Sh} {N : Nat} {a : List UInt8} (h : Qt s N) : ((s.del a).2 = 0 ∨ (s.del a).2 = 6) ∧ (hasO s.obs a → (s.del a).2 = 0) ∧ Qt (s.del a).1 N := by
  by_cases ha : hasO s.obs a
  · have e : s.del a = (s.tick.obsTo (delO s.obs a), 0) := by
      have : delC s a = 0 := by rw [delC, if_neg (fun q => q ha)]
      rw [Sh.del, this, change_calm h.calm]; rfl
    rw [e]
    refine ⟨.inl rfl, fun _ => rfl, ⟨⟨h.calm.off, h.calm.left⟩, h.room, fun o ho => h.small o (List.mem_filter.1 ho).1, ?_⟩⟩
    exact Nat.le_trans (List.length_filter_le _ _) h.len
  · have e : s.del a = (s, 6) := by rw [Sh.del, delC, if_pos ha, change_calmNo h.calm (by decide)]
    rw [e]
    exact ⟨.inr rfl, fun q => (ha q).elim, h⟩
theorem put_q {s : Sh} {N : Nat} {a b : List UInt8} {v : Value} (h : Qt s N) (ha : isNm a) (hn : ¬ hasO s.obs a) (hb : b.length ≤ 200) (hN : N < 400) : (s.put a v b).2 = 0 ∧ Qt (s.put a v b).1 (N + 1) := by
  have h1 := sumO_le200 h.small
  have h2 := h.len
  have h3 := h.room
  have e : s.put a v b = (s.tick.obsTo (s.obs ++ [⟨a, v, b, false⟩]), 0) := by
    have : putC s a b = 0 := by rw [putC, if_neg (fun q => q ha), if_neg hn, if_neg (by omega), if_neg (by omega)]
    rw [Sh.put, this, change_calm h.calm]; rfl
  rw [e]
  refine ⟨rfl, ⟨⟨h.calm.off, h.calm.left⟩, h.room, fun o ho => ?_, ?_⟩⟩
  · rcases List.mem_append.1 ho with ho | ho
    · exact h.small o ho
    · rw [List.mem_singleton.1 ho]; exact hb
  · show (s.obs ++ [_]).length ≤ _
    rw [List.length_append]; simp; exact h2
theorem nudge_q {s : Sh} {N : Nat} (h : Qt s N) : s.nudge = (s.tick, 0) := by rw [Sh.nudge, change_calm h.calm]; rfl
theorem sync_q2 {s : Sh} {N : Nat} {a : List UInt8} (h : Qt s N) (ha : hasO s.obs a) : (s.sync1 a).2 = 0 ∧ Qt (s.sync1 a).1 N := by
  have e : s.sync1 a = (s.tick.obsTo (syncO s.obs a), 0) := by rw [sync1_ok (by rw [nudge_q h]) (by rw [nudge_q h]; exact ha), nudge_q h]; rfl
  rw [e]
  refine ⟨rfl, ⟨⟨h.calm.off, h.calm.left⟩, h.room, fun o ho => ?_, ?_⟩⟩
  · obtain ⟨u, hu, e2⟩ := List.mem_map.1 (show o ∈ s.obs.map _ from ho)
    have := h.small u hu
    rw [← e2]; split <;> exact this
  · show (syncO s.obs a).length ≤ N
    unfold syncO; rw [List.length_map]; exact h.len
theorem ren_q {s : Sh} {N : Nat} {a b : List UInt8} (h : Qt s N) (ha : hasO s.obs a) (hb : isNm b) (hab : a ≠ b) : ((s.ren a b).2 = if hasO s.obs b then 7 else 0) ∧ Qt (s.ren a b).1 N := by
  by_cases hh : hasO s.obs b
  · have e : s.ren a b = (s, 7) := by
      have : renC s a b = 7 := by rw [renC, if_neg (fun q => q hb), if_neg (fun q => q ha), if_pos ⟨hh, hab⟩]
      rw [Sh.ren, this, change_calmNo h.calm (by decide)]
    rw [e, if_pos hh]; exact ⟨rfl, h⟩
  · have e : s.ren a b = (s.tick.obsTo (delO s.obs a ++ [nameTo (lkO s.obs a) b]), 0) := by
      have : renC s a b = 0 := by rw [renC, if_neg (fun q => q hb), if_neg (fun q => q ha), if_neg (fun q => hh q.1)]
      rw [Sh.ren, this, change_calm h.calm]; rfl
    rw [e, if_neg hh]
    refine ⟨rfl, ⟨⟨h.calm.off, h.calm.left⟩, h.room, fun o ho => ?_, ?_⟩⟩
    · rcases List.mem_append.1 ho with ho | ho
      · exact h.small o (List.mem_filter.1 ho).1
      · rw [List.mem_singleton.1 ho]; have h9 := h.small _ (lkO_name ha).2; exact h9
    · show (delO s.obs a ++ [_]).length ≤ N
      have h1 : (delO s.obs a).length < s.obs.length := by
        unfold delO
        rw [← List.countP_eq_length_filter]
        refine Nat.lt_of_le_of_ne (List.countP_le_length) (fun q => ?_)
        have := List.countP_eq_length.1 q _ (lkO_name ha).2
        rw [(lkO_name ha).1] at this; simp at this
      have := h.len
      rw [List.length_append]; simp; omega
theorem write_q {s : Sh} {N : Nat} {d b : List UInt8} {v : Value} (h : Qt s N) (hd : isNm d) (hb : b.length ≤ 200) (hN : N < 400) : (writeF s d v b).2 = 0 ∧ Qt (writeF s d v b).1 (N + 1) := by
  obtain ⟨h1, h1b, h2⟩ := del_q (a := d) h
  have hn : ¬ hasO (s.del d).1.obs d := by
    rw [← vw_none, vw_del]
    split
    · rfl
    · next q => rw [vw_none]; exact fun r => q ⟨h1b r, rfl⟩
  obtain ⟨h3, h4⟩ := put_q (v := v) h2 hd hn hb hN
  have hx : hasO ((s.del d).1.put d v b).1.obs d := ((vw_some (b := b)).1 (by rw [vw_put, if_pos ⟨h3, rfl⟩])).1
  obtain ⟨h5, h6⟩ := sync_q2 (a := d) h4 hx
  rw [wr_4 h1 h3 h5]
  exact ⟨rfl, h6⟩
theorem show_q {s : Sh} {N : Nat} {d n : List UInt8} (h : Qt s N) (hd : hasO s.obs d) (hn : isNm n) (hdn : d ≠ n) : (showF s d n).2 = 0 ∧ Qt (showF s d n).1 N ∧ vw (showF s d n).1 n = vw s d ∧ vw (showF s d n).1 d = none := by
  obtain ⟨h1, h2⟩ := ren_q h hd hn hdn
  by_cases hh : hasO s.obs n
  · rw [if_pos hh] at h1
    have h8 : (s.ren d n).1 = s := by
      have : renC s d n = 7 := by rw [renC, if_neg (fun q => q hn), if_neg (fun q => q hd), if_pos ⟨hh, hdn⟩]
      rw [Sh.ren, this, change_calmNo h.calm (by decide)]
    obtain ⟨_, h3, h4⟩ := del_q (a := n) h
    have h3 := h3 hh
    have hd2 : hasO (s.del n).1.obs d := by
      have : vw (s.del n).1 d = vw s d := by rw [vw_del, if_neg (fun q => hdn q.2)]
      rw [(vw_some (b := (lkO s.obs d).b)).2 ⟨hd, rfl⟩] at this
      exact (vw_some.1 this).1
    obtain ⟨h5, h6⟩ := ren_q h4 hd2 hn hdn
    have hn2 : ¬ hasO (s.del n).1.obs n := by rw [← vw_none, vw_del, if_pos ⟨h3, rfl⟩]
    rw [if_neg hn2] at h5
    have e : showR s d n = ((s.del n).1.ren d n) := by rw [sh_3 h1 (by rw [h8]; exact h3), h8]
    rw [sf_0 (show showR s d n = (((s.del n).1.ren d n).1, ((s.del n).1.ren d n).2) from e) h5]
    refine ⟨rfl, h6, ?_, ?_⟩
    · show vw ((s.del n).1.ren d n).1 n = _
      rw [vw_ren hdn, if_pos h5, if_pos rfl, vw_del, if_neg (fun q => hdn q.2)]
    · show vw ((s.del n).1.ren d n).1 d = _
      rw [vw_ren hdn, if_pos h5, if_neg hdn, if_pos rfl]
  · rw [if_neg hh] at h1
    rw [sf_0 (show showR s d n = ((s.ren d n).1, (s.ren d n).2) from sh_1 (by omega)) h1]
    refine ⟨rfl, h2, ?_, ?_⟩
    · show vw (s.ren d n).1 n = _
      rw [vw_ren hdn, if_pos h1, if_pos rfl]
    · show vw (s.ren d n).1 d = _
      rw [vw_ren hdn, if_pos h1, if_neg hdn, if_pos rfl]
theorem sw_q {del : List UInt8 → Bool} {N : Nat} {l : List (List UInt8)} : ∀ {q : Sh × Nat}, Qt q.1 N → q.2 = 0 → Qt (l.foldl (swQ del) q).1 N ∧ (l.foldl (swQ del) q).2 = 0 ∧ ∀ m, vw (l.foldl (swQ del) q).1 m = if m ∈ l ∧ del m = true then none else vw q.1 m := by
  induction l with
  | nil => intro q h h0; exact ⟨h, h0, fun m => by rw [if_neg (fun r => nomatch r.1)]; rfl⟩
  | cons n l ih =>
    intro q h h0
    by_cases hd : del n = true
    · have e : swQ del q n = ((q.1.del n).1, if (q.1.del n).2 = 6 then 0 else (q.1.del n).2) := by rw [swQ, if_pos ⟨h0, hd⟩]
      obtain ⟨h1, h1b, h2⟩ := del_q (a := n) h
      have e0 : (swQ del q n).2 = 0 := by rw [e]; dsimp only; split <;> omega
      have e1 : (swQ del q n).1 = (q.1.del n).1 := by rw [e]
      obtain ⟨i1, i2, i3⟩ := ih (q := swQ del q n) (by rw [e1]; exact h2) e0
      refine ⟨i1, i2, fun m => ?_⟩
      rw [List.foldl_cons, i3 m, e1]
      by_cases hm : m ∈ l ∧ del m = true
      · rw [if_pos hm, if_pos ⟨List.mem_cons_of_mem _ hm.1, hm.2⟩]
      · rw [if_neg hm]
        by_cases hmn : m = n
        · subst hmn
          rw [if_pos ⟨List.mem_cons_self .., hd⟩, vw_del]
          by_cases hh : hasO q.1.obs m
          · rw [if_pos ⟨h1b hh, rfl⟩]
          · split
            · rfl
            · exact vw_none.2 hh
        · rw [vw_del, if_neg (fun r => hmn r.2), if_neg (fun r => by
            rcases List.mem_cons.1 r.1 with r1 | r1
            · exact hmn r1
            · exact hm ⟨r1, r.2⟩)]
    · have e : swQ del q n = q := by rw [swQ, if_neg (fun r => hd r.2)]
      obtain ⟨i1, i2, i3⟩ := ih (q := swQ del q n) (by rw [e]; exact h) (by rw [e]; exact h0)
      refine ⟨i1, i2, fun m => ?_⟩
      rw [List.foldl_cons, i3 m, e]
      by_cases hm : m ∈ l ∧ del m = true
      · rw [if_pos hm, if_pos ⟨List.mem_cons_of_mem _ hm.1, hm.2⟩]
      · rw [if_neg hm, if_neg (fun r => by
          rcases List.mem_cons.1 r.1 with r1 | r1
          · rw [r1] at r; exact hd r.2
          · exact hm ⟨r1, r.2⟩)]
/-- a lock of these words lies by this name -/
def HasL (hk mk : List UInt8) (s : Sh) (now : Nat) (n : List UInt8) (m : Mk) : Prop := n.length < 256 ∧ preB [108, 47] n = true ∧ ∃ b, vw s n = some b ∧ MkAt hk mk now n b m
/-- is there one that a client would meet? -/
def Conf (hk mk : List UInt8) (s : Sh) (now cl : Nat) (b : Bool) : Prop := ∃ n m, HasL hk mk s now n m ∧ ¬ m.c = cl ∧ holdsP now m ∧ (b = true ∨ m.a = true)
theorem free_q {hk mk : List UInt8} {s : Sh} {now cl N : Nat} {b : Bool} (hW : LkW hk mk s now) (hnow : now ≤ 1099511627776) (h : Qt s N) :
    (Conf hk mk s now cl b → (if s.off = true then 9 else freeE (moOf hk mk s now) now b (othN (moOf hk mk s now) cl (lsN s [108, 47]))) = 12) ∧ (¬ Conf hk mk s now cl b → (if s.off = true then 9 else freeE (moOf hk mk s now) now b (othN (moOf hk mk s now) cl (lsN s [108, 47]))) = 0) := by
  rw [if_neg h.off]
  have key : (∃ n ∈ othN (moOf hk mk s now) cl (lsN s [108, 47]), meets (moOf hk mk s now) now b n) ↔ Conf hk mk s now cl b := by
    constructor
    · rintro ⟨n, hn, hm⟩
      obtain ⟨h1, h2⟩ := List.mem_filter.1 hn
      obtain ⟨h3, h4⟩ := lsN_mem.1 h1
      obtain ⟨h5, m, h6⟩ := hW n _ (vw_some.2 ⟨h3, rfl⟩) h4
      have e := mo_at h5 hnow (vw_some.2 ⟨h3, rfl⟩) h6
      rw [e] at h2
      unfold meets at hm
      rw [e] at hm
      exact ⟨n, m, ⟨h5, h4, _, vw_some.2 ⟨h3, rfl⟩, h6⟩, by simpa using h2, hm⟩
    · rintro ⟨n, m, ⟨h1, h2, bb, h3, h4⟩, h5, h6⟩
      have e := mo_at h1 hnow h3 h4
      refine ⟨n, List.mem_filter.2 ⟨lsN_mem.2 ⟨(vw_some.1 h3).1, h2⟩, by rw [e]; simpa using h5⟩, ?_⟩
      unfold meets
      rw [e]; exact h6
  constructor
  · intro q; rw [freeE, if_pos (key.2 q)]
  · intro q; rw [freeE, if_neg (fun r => q (key.1 r))]
theorem seal_small {hk mk tl : List UInt8} {n : List UInt8} {p : Nat} {m : Mk} (hm : m.c < 100 ∧ m.t ≤ 1099511627776) : (sealL hk mk 108 n (tapeN tl p 16) (mkY m)).length ≤ 200 := by
  have := mkY_len hm
  rw [sealL_len tapeN_len]; omega
section
variable {hk mk tl : List UInt8} {s : Sh} {x : Lk} {now c p N : Nat} {vl : Value} {z : Stp}
theorem step1_q (hW : LkW hk mk s now) (hnow : now ≤ 1099511627776) (h : Qt s N) (h1 : x.asks = 1) (hz : StepR hk mk tl (moOf hk mk s now) s x now c p vl z) :
    z.t = s ∧ z.y = x ∧ (Conf hk mk s now x.cl x.want → z.e = 12) ∧ (¬ Conf hk mk s now x.cl x.want → z.e = 0) := by
  rcases hz with ⟨_, rfl⟩ | ⟨q, _⟩ | ⟨q, _⟩ | ⟨q, _⟩
  · exact ⟨rfl, rfl, (free_q hW hnow h).1, (free_q hW hnow h).2⟩
  · omega
  · omega
  · omega
theorem step2_q (hcl : x.cl < 100) (hnow : now ≤ 1099511627776) (h : Qt s N) (hN : N < 400) (h1 : x.asks = 2) (hz : StepR hk mk tl (moOf hk mk s now) s x now c p vl z) :
    z.e = 0 ∧ Qt z.t (N + 1) ∧ z.y = { x with next := lkName x.cl x.made, m := ⟨x.cl, x.want, now⟩ } ∧ (∃ b, vw z.t (dfName x.cl) = some b ∧ MkAt hk mk now (lkName x.cl x.made) b ⟨x.cl, x.want, now⟩) ∧ ∀ n, n ≠ dfName x.cl → vw z.t n = vw s n := by
  rcases hz with ⟨q, _⟩ | ⟨_, c', vl', v, _, rfl⟩ | ⟨q, _⟩ | ⟨q, _⟩
  · omega
  · obtain ⟨h2, h3⟩ := write_q (v := v) h (dfName_nm hcl).1 (seal_small (hk := hk) (mk := mk) (tl := tl) (n := lkName x.cl x.made) (p := p) (m := ⟨x.cl, x.want, now⟩) ⟨hcl, hnow⟩) hN
    refine ⟨h2, h3, ?_, ⟨_, write_ok h2, hcl, Nat.le_refl _, _, tapeN_len, rfl⟩, fun n hn => vw_write hn⟩
    show x.wrote _ _ _ = _
    rw [h2]; rfl
  · omega
  · omega
theorem step3_q (hcl : x.cl < 100) (hmd : x.made < 100) (hn : x.next = lkName x.cl x.made) (hd : hasO s.obs (dfName x.cl)) (h : Qt s N) (h1 : x.asks = 3) (hz : StepR hk mk tl (moOf hk mk s now) s x now c p vl z) :
    z.e = 0 ∧ Qt z.t N ∧ z.y = { x with made := x.made + 1, shown := true } ∧ vw z.t x.next = vw s (dfName x.cl) ∧ vw z.t (dfName x.cl) = none ∧ ∀ n, n ≠ dfName x.cl → n ≠ x.next → vw z.t n = vw s n := by
  rcases hz with ⟨q, _⟩ | ⟨q, _⟩ | ⟨_, rfl⟩ | ⟨q, _⟩
  · omega
  · omega
  · have hne : dfName x.cl ≠ x.next := by rw [hn]; exact df_lk
    obtain ⟨h2, h3, h4, h5⟩ := show_q h hd (by rw [hn]; exact lkName_nm hcl hmd) hne
    refine ⟨h2, h3, ?_, h4, h5, fun n q1 q2 => vw_show hne q1 q2⟩
    show x.shw _ = _
    rw [h2]; rfl
  · omega
theorem step4_q (hW : LkW hk mk s now) (hnow : now ≤ 1099511627776) (h : Qt s N) (h1 : x.asks = 4) (hz : StepR hk mk tl (moOf hk mk s now) s x now c p vl z) :
    (Conf hk mk s now x.cl x.want → z.e = 12 ∧ z.t = s ∧ z.y = x) ∧ (¬ Conf hk mk s now x.cl x.want → z.e = 0 ∧ Qt z.t N ∧ z.y = { x with own := x.next } ∧
      ∀ n, vw z.t n = vw s n ∨ (vw z.t n = none ∧ x.want = true ∧ ∃ m, HasL hk mk s now n m ∧ ¬ m.c = x.cl ∧ ¬ holdsP now m)) ∧
      (¬ Conf hk mk s now x.cl x.want → x.want = true → ∀ n m, HasL hk mk s now n m → ¬ m.c = x.cl → vw z.t n = none) := by
  rcases hz with ⟨q, _⟩ | ⟨q, _⟩ | ⟨q, _⟩ | ⟨_, rfl⟩
  · omega
  · omega
  · omega
  · have hf := free_q (b := x.want) (cl := x.cl) hW hnow h
    refine ⟨fun hc => ?_, fun hc => ?_, fun hc hw n m hl hmc => ?_⟩
    · have he := hf.1 hc
      have e1 : st4 (moOf hk mk s now) s x now = (s, 12) := by rw [st4_e (by rw [he]; decide), he]
      rw [e1]
      exact ⟨rfl, rfl, took_1 (show ¬ (12 : Nat) = 0 by omega)⟩
    · have he := hf.2 hc
      by_cases hw : x.want = true
      · have e1 := st4_w (mo := moOf hk mk s now) he hw
        obtain ⟨i1, i2, i3⟩ := sw_q (del := delB (moOf hk mk s now) x.cl now) (l := lsN s [108, 47]) (q := (s, 0)) h rfl
        rw [e1]
        refine ⟨i2, i1, ?_, fun n => ?_⟩
        · show x.took _ = _
          exact took_0 i2
        · have hv := i3 n
          by_cases hd : n ∈ lsN s [108, 47] ∧ delB (moOf hk mk s now) x.cl now n = true
          · rw [if_pos hd] at hv
            obtain ⟨h3, h4⟩ := lsN_mem.1 hd.1
            obtain ⟨h5, m, h6⟩ := hW n _ (vw_some.2 ⟨h3, rfl⟩) h4
            have e := mo_at h5 hnow (vw_some.2 ⟨h3, rfl⟩) h6
            have h7 := of_decide_eq_true hd.2
            rw [e] at h7
            exact .inr ⟨hv, hw, m, ⟨h5, h4, _, vw_some.2 ⟨h3, rfl⟩, h6⟩, h7⟩
          · rw [if_neg hd] at hv; exact .inl hv
      · rw [st4_0 he (by simpa using hw)]
        exact ⟨rfl, h, took_0 rfl, fun n => .inl rfl⟩
    · have he := hf.2 hc
      have e1 := st4_w (mo := moOf hk mk s now) he hw
      obtain ⟨i1, i2, i3⟩ := sw_q (del := delB (moOf hk mk s now) x.cl now) (l := lsN s [108, 47]) (q := (s, 0)) h rfl
      rw [e1]
      show vw ((lsN s [108, 47]).foldl (swQ (delB (moOf hk mk s now) x.cl now)) (s, 0)).1 n = _
      obtain ⟨h1, h2, bb, h3, h4⟩ := hl
      have e := mo_at h1 hnow h3 h4
      have hh : ¬ holdsP now m := fun hh => hc ⟨n, m, ⟨h1, h2, bb, h3, h4⟩, hmc, hh, .inl hw⟩
      rw [i3 n, if_pos ⟨lsN_mem.2 ⟨(vw_some.1 h3).1, h2⟩, decide_eq_true (by rw [e]; exact ⟨hmc, hh⟩)⟩]
end
end Go.Proofs.YtkkjfojgjmglpaaGreatDoor
set_option linter.unusedSimpArgs false
set_option linter.unusedVariables false
namespace Go.Proofs.YtkkjfojgjmglpaaGreatDoor
open Go
set_option maxHeartbeats 2000000
attribute [local irreducible] sealL tapeN tapeL lkName dfName preB
variable {hk mk tl : List UInt8} {s : Sh} {x : Lk} {now c p N : Nat} {vl : Value}
/-- a hand that has taken a lock; one that was refused -/
def Lk.has (x : Lk) (b : Bool) (now : Nat) : Lk := { x with made := x.made + 1, own := lkName x.cl x.made, asks := 0, want := b, next := [], shown := false, m := ⟨x.cl, b, now⟩ }
def Lk.not (x : Lk) (b : Bool) : Lk := { x with asks := 0, want := b, next := [], shown := false }
theorem fin_e {z : Stp} (h : ¬ z.e = 0) : fin z = true := decide_eq_true (.inl h)
theorem HasL.one {n : List UInt8} {m m' : Mk} (hnow : now ≤ 1099511627776) (h : HasL hk mk s now n m) (h' : HasL hk mk s now n m') : m = m' := by
  obtain ⟨h1, _, b, h2, h3⟩ := h
  obtain ⟨_, _, b', h2', h3'⟩ := h'
  rw [h2] at h2'; cases h2'
  exact h3.one h1 hnow h3'
theorem HasL.vw {t : Sh} {n : List UInt8} {m : Mk} (h : HasL hk mk s now n m) (e : vw t n = vw s n) : HasL hk mk t now n m := ⟨h.1, h.2.1, by rw [e]; exact h.2.2⟩
theorem LkW.has {n : List UInt8} (h : LkW hk mk s now) (hn : hasO s.obs n) (hp : preB [108, 47] n = true) : ∃ m, HasL hk mk s now n m := by
  obtain ⟨h1, m, h2⟩ := h n _ (vw_some.2 ⟨hn, rfl⟩) hp
  exact ⟨m, h1, hp, _, vw_some.2 ⟨hn, rfl⟩, h2⟩
/-- what a store says when a client has its lock -/
structure TkQ (hk mk : List UInt8) (s t : Sh) (now : Nat) (cl n : Nat) (b : Bool) : Prop where
  mine : HasL hk mk t now (lkName cl n) ⟨cl, b, now⟩
  keep : ∀ m, m ≠ dfName cl → m ≠ lkName cl n → vw t m = vw s m ∨ (vw t m = none ∧ b = true ∧ ∃ q, HasL hk mk s now m q ∧ ¬ q.c = cl ∧ ¬ holdsP now q)
  df : vw t (dfName cl) = none
  alone : b = true → ∀ m q, HasL hk mk s now m q → ¬ q.c = cl → m ≠ lkName cl n → vw t m = none
theorem stepT_no {z : Stp} (h : z.e = 0) : stepT z = z.t := by rw [stepT, if_neg (fun q => q.1 h)]
theorem stepY_on {z : Stp} (h : z.e = 0) (h2 : z.y.asks < 4) : stepY z = z.y.on := by rw [stepY, if_neg (fun q => by omega)]
theorem stepY_end {z : Stp} (h : ¬ z.e = 0 ∨ 4 < z.y.asks + 1) : stepY z = z.y.done := by rw [stepY, if_pos h]
theorem fin_no {z : Stp} (h : z.e = 0) (h2 : z.y.asks < 4) : fin z = false := decide_eq_false (fun q => by omega)
/-- the first three steps -/
structure Up3 (hk mk : List UInt8) (s t : Sh) (x y : Lk) (now N : Nat) (b : Bool) : Prop where
  hand : y = { x with made := x.made + 1, asks := 4, want := b, next := lkName x.cl x.made, shown := true, m := ⟨x.cl, b, now⟩ }
  qt : Qt t (N + 1)
  mine : HasL hk mk t now (lkName x.cl x.made) ⟨x.cl, b, now⟩
  keep : ∀ m, m ≠ dfName x.cl → m ≠ lkName x.cl x.made → vw t m = vw s m
  df : vw t (dfName x.cl) = none
theorem name_small {c n : Nat} (h : c < 100) : (lkName c n).length < 256 := by
  have h5 := lkName_len (n := n) h
  have h6 := dec2_len (n := n)
  omega
theorem run_li {u r : St5} {k : Int} {j i e : Nat} (hL : LI hk mk u.s u.x now k j) (h1 : u.x.asks = 1) (hj : j < 90) (hI0 : u.p ≤ 32 * u.c ∧ 32 * u.c < u.p + 32) (hi : i ≤ 3) (hR : Run hk mk tl now u i r e) : LI hk mk r.s r.x now (k + 2005 * i) (j + i) ∧ r.x.asks = i + 1 := by
  induction i generalizing r e with
  | zero => obtain ⟨rfl, _⟩ := hR; exact ⟨hL.mono (by simp) (by omega), h1⟩
  | succ i ih =>
    obtain ⟨r0, z, e0, hR0, hz, hf, rfl, rfl⟩ := hR
    obtain ⟨h2, h3⟩ := ih (by omega) hR0
    have hx := stepR_x hz
    refine ⟨(h2.step ⟨by omega, by omega⟩ (by omega) hz).mono (by omega) (by omega), ?_⟩
    show (stepY z).asks = _
    rw [(stepY_asks hf).1, hx.1, h3]
theorem take_q {k : Int} {j : Nat} {q : St5} {e : Nat} (hL : LI hk mk s x now k j) (hj : j < 90) (hnow : now ≤ 1099511627776) (h : Qt s N) (hN : N < 400) (hI0 : p ≤ 32 * c ∧ 32 * c < p + 32) {b : Bool} (hsh : x.shown = false)
    (hT : Took hk mk tl now ⟨s, x.asked b, c, p, vl⟩ q e) :
    (Conf hk mk s now x.cl b ∧ e = 12 ∧ q.s = s ∧ q.x = x.not b) ∨ (¬ Conf hk mk s now x.cl b ∧ e = 0 ∧ Qt q.s (N + 1) ∧ q.x = x.has b now ∧ TkQ hk mk s q.s now x.cl x.made b) := by
  have hcl := hL.cl
  have hmd := hL.md
  have h0 : LI hk mk s (x.asked b) now k j := ⟨hL.at_, hL.ok, hL.cl, hL.md, hL.nx, fun q => by cases q⟩
  obtain ⟨i, r, z, e0, hi, hR, hz, hf, rfl, rfl⟩ := hT
  have first : ∀ z1, StepR hk mk tl (moOf hk mk s now) s (x.asked b) now c p vl z1 → (z1.t = s ∧ z1.y = x.asked b ∧ (Conf hk mk s now x.cl b → z1.e = 12) ∧ (¬ Conf hk mk s now x.cl b → z1.e = 0)) :=
    fun z1 h1 => step1_q hL.ok hnow h rfl h1
  -- after one step
  have one : ∀ r e, Run hk mk tl now ⟨s, x.asked b, c, p, vl⟩ 1 r e → ¬ Conf hk mk s now x.cl b ∧ r.s = s ∧ r.x = { x with asks := 2, want := b } := fun r e hr => by
    obtain ⟨r0, z1, e1, ⟨rfl, _⟩, hz1, hf1, rfl, rfl⟩ := hr
    obtain ⟨f1, f2, f3, f4⟩ := first z1 hz1
    have he := (stepY_asks hf1).2
    refine ⟨fun hc => (by rw [f3 hc] at he; cases he), ?_, ?_⟩
    · show stepT z1 = s; rw [stepT_no he, f1]
    · show stepY z1 = _; rw [stepY_on he (by rw [f2]; exact (by decide : 1 < 4)), f2]; rfl
  have two : ∀ r e, Run hk mk tl now ⟨s, x.asked b, c, p, vl⟩ 2 r e → ¬ Conf hk mk s now x.cl b ∧ Qt r.s (N + 1) ∧ r.x = { x with asks := 3, want := b, next := lkName x.cl x.made, m := ⟨x.cl, b, now⟩ } ∧ (∃ bb, vw r.s (dfName x.cl) = some bb ∧ MkAt hk mk now (lkName x.cl x.made) bb ⟨x.cl, b, now⟩) ∧ ∀ n, n ≠ dfName x.cl → vw r.s n = vw s n := fun r e hr => by
    obtain ⟨r0, z2, e1, hr0, hz2, hf2, rfl, rfl⟩ := hr
    obtain ⟨g1, g2, g3⟩ := one r0 e1 hr0
    obtain ⟨rs, rx, rc, rp, rv⟩ := r0
    dsimp only at g2 g3 hz2
    subst g2 g3
    obtain ⟨f1, f2, f3, f4, f5⟩ := step2_q (x := { x with asks := 2, want := b }) hcl hnow h hN rfl hz2
    refine ⟨g1, ?_, ?_, ?_, ?_⟩
    · show Qt (stepT z2) _; rw [stepT_no f1]; exact f2
    · show stepY z2 = _; rw [stepY_on f1 (by rw [f3]; exact (by decide : 2 < 4)), f3]; rfl
    · show ∃ bb, vw (stepT z2) _ = _ ∧ _; rw [stepT_no f1]; exact f4
    · show ∀ n, n ≠ _ → vw (stepT z2) n = _; rw [stepT_no f1]; exact f5
  have three : ∀ r e, Run hk mk tl now ⟨s, x.asked b, c, p, vl⟩ 3 r e → ¬ Conf hk mk s now x.cl b ∧ Up3 hk mk s r.s x r.x now N b := fun r e hr => by
    obtain ⟨r0, z3, e1, hr0, hz3, hf3, rfl, rfl⟩ := hr
    obtain ⟨g1, g2, g3, ⟨bb, g4, g4b⟩, g5⟩ := two r0 e1 hr0
    obtain ⟨rs, rx, rc, rp, rv⟩ := r0
    dsimp only at g2 g3 g4 g5 hz3
    subst g3
    obtain ⟨f1, f2, f3, f4, f5, f6⟩ := step3_q (x := { x with asks := 3, want := b, next := lkName x.cl x.made, m := ⟨x.cl, b, now⟩ }) hcl (by show x.made < 100; omega) rfl (vw_some.1 g4).1 g2 rfl hz3
    refine ⟨g1, ?_, ?_, ?_, ?_, ?_⟩
    · show stepY z3 = _; rw [stepY_on f1 (by rw [f3]; exact (by decide : 3 < 4)), f3]; rfl
    · show Qt (stepT z3) _; rw [stepT_no f1]; exact f2
    · show HasL hk mk (stepT z3) _ _ _
      rw [stepT_no f1]
      exact ⟨name_small hcl, lkName_pre, bb, by rw [show vw z3.t (lkName x.cl x.made) = _ from f4]; exact g4, g4b⟩
    · intro m q1 q2
      show vw (stepT z3) m = _
      rw [stepT_no f1, f6 m q1 q2, g5 m q1]
    · show vw (stepT z3) _ = none; rw [stepT_no f1]; exact f5
  rcases (show i = 0 ∨ i = 1 ∨ i = 2 ∨ i = 3 by omega) with rfl | rfl | rfl | rfl
  · obtain ⟨rfl, _⟩ := hR
    obtain ⟨f1, f2, f3, f4⟩ := first z hz
    have hc : Conf hk mk s now x.cl b := Classical.not_not.1 fun hc => by
      rw [fin_no (f4 hc) (by rw [f2]; exact (by decide : 1 < 4))] at hf; cases hf
    have e12 := f3 hc
    refine .inl ⟨hc, e12, ?_, ?_⟩
    · show stepT z = s
      rw [stepT, f2, if_neg (fun q => by have : (x.asked b).shown = x.shown := rfl; rw [this, hsh] at q; cases q.2), f1]
    · show stepY z = _
      rw [stepY_end (.inl (by rw [e12]; omega)), f2]; rfl
  · obtain ⟨g1, g2, g3⟩ := one r e0 hR
    obtain ⟨rs, rx, rc, rp, rv⟩ := r
    dsimp only at g2 g3 hz
    subst g2 g3
    obtain ⟨f1, f2, f3, f4, f5⟩ := step2_q (x := { x with asks := 2, want := b }) hcl hnow h hN rfl hz
    rw [fin_no f1 (by rw [f3]; exact (by decide : 2 < 4))] at hf; cases hf
  · obtain ⟨g1, g2, g3, ⟨bb, g4, g4b⟩, g5⟩ := two r e0 hR
    obtain ⟨rs, rx, rc, rp, rv⟩ := r
    dsimp only at g2 g3 g4 g5 hz
    subst g3
    obtain ⟨f1, f2, f3, f4, f5, f6⟩ := step3_q (x := { x with asks := 3, want := b, next := lkName x.cl x.made, m := ⟨x.cl, b, now⟩ }) hcl (by show x.made < 100; omega) rfl (vw_some.1 g4).1 g2 rfl hz
    rw [fin_no f1 (by rw [f3]; exact (by decide : 3 < 4))] at hf; cases hf
  · obtain ⟨g1, g2⟩ := three r e0 hR
    have hli := (run_li (u := ⟨s, x.asked b, c, p, vl⟩) h0 rfl hj hI0 (by omega) hR).1
    obtain ⟨rs, rx, rc, rp, rv⟩ := r
    dsimp only at g2 hz hli
    have hw := g2.hand
    subst hw
    -- whom it meets is as it was ahead
    have hc2 : ¬ Conf hk mk rs now x.cl b := fun hc => by
      obtain ⟨n, m, h1, h2, h3⟩ := hc
      have hn1 : n ≠ dfName x.cl := fun e => by rw [e] at h1; have := h1.2.1; rw [dfName_pre] at this; cases this
      have hn2 : n ≠ lkName x.cl x.made := fun e => by
        rw [e] at h1
        have := h1.one hnow g2.mine
        rw [this] at h2; exact h2 rfl
      exact g1 ⟨n, m, h1.vw (g2.keep n hn1 hn2).symm, h2, h3⟩
    obtain ⟨_, f2, f3⟩ := step4_q hli.ok hnow g2.qt rfl hz
    obtain ⟨e1, e2, e3, e4⟩ := f2 hc2
    have hT : stepT z = z.t := stepT_no e1
    have hasY : (stepY z) = x.has b now := by rw [stepY_end (.inr (by rw [e3]; exact (by decide : 4 < 4 + 1))), e3]; rfl
    have mine2 : HasL hk mk z.t now (lkName x.cl x.made) ⟨x.cl, b, now⟩ := by
      refine g2.mine.vw ?_
      rcases e4 (lkName x.cl x.made) with q | ⟨_, _, m, q1, q2, _⟩
      · exact q
      · rw [q1.one hnow g2.mine] at q2; exact (q2 rfl).elim
    have back : ∀ m q, HasL hk mk rs now m q → ¬ q.c = x.cl → HasL hk mk s now m q := fun m q h1 h2 => by
      have hn1 : m ≠ dfName x.cl := fun e => by rw [e] at h1; have := h1.2.1; rw [dfName_pre] at this; cases this
      have hn2 : m ≠ lkName x.cl x.made := fun e => by
        rw [e] at h1; rw [h1.one hnow g2.mine] at h2; exact h2 rfl
      exact h1.vw (g2.keep m hn1 hn2).symm
    refine .inr ⟨g1, e1, ?_, hasY, ?_, ?_, ?_, ?_⟩
    · show Qt (stepT z) _; rw [hT]; exact e2
    · show HasL hk mk (stepT z) _ _ _; rw [hT]; exact mine2
    · intro m q1 q2
      show vw (stepT z) m = _ ∨ vw (stepT z) m = _ ∧ _
      rw [hT]
      rcases e4 m with q | ⟨q, hb, mm, r1, r2, r3⟩
      · exact .inl (q.trans (g2.keep m q1 q2))
      · exact .inr ⟨q, hb, mm, back m mm r1 r2, r2, r3⟩
    · show vw (stepT z) _ = none
      rw [hT]
      rcases e4 (dfName x.cl) with q | ⟨q, _⟩
      · rw [q]; exact g2.df
      · exact q
    · intro hb m q r1 r2 r3
      show vw (stepT z) m = none
      rw [hT]
      have hn1 : m ≠ dfName x.cl := fun e => by rw [e] at r1; have := r1.2.1; rw [dfName_pre] at this; cases this
      exact f3 hc2 hb m q (r1.vw (g2.keep m hn1 r3)) r2
end Go.Proofs.YtkkjfojgjmglpaaGreatDoor
set_option linter.unusedSimpArgs false
set_option linter.unusedVariables false
namespace Go.Proofs.YtkkjfojgjmglpaaGreatDoor
open Go Go.RowKit
set_option maxRecDepth 100000
attribute [local irreducible] sumL keyedL hexL strL sealF sealL tapeL tapeN
end Go.Proofs.YtkkjfojgjmglpaaGreatDoor
set_option linter.unusedSimpArgs false
set_option linter.unusedVariables false
namespace Go.Proofs.YtkkjfojgjmglpaaGreatDoor
open Go Go.RowKit
set_option maxRecDepth 100000
attribute [local irreducible] sumL keyedL hexL strL sealF sealL tapeL tapeN
def rq (k : UInt8) : List UInt8 := [k, 0, 0, 0, 0, 0, 0, 0, 0, 0, 0, 0, 0, 0, 0, 0, 0, 0, 0, 0, 0, 0, 0, 0, 0, 0, 0, 0, 0, 0, 0, 0]
@[simp] theorem rq_len {k : UInt8} : (rq k).length = 32 := rfl
end Go.Proofs.YtkkjfojgjmglpaaGreatDoor
set_option linter.unusedSimpArgs false
set_option linter.unusedVariables false
namespace Go.Proofs.YtkkjfojgjmglpaaGreatDoor
open Go Go.RowKit
set_option maxRecDepth 100000
attribute [local irreducible] sumL keyedL hexL strL sealF sealL tapeL tapeN
theorem fill_lk0 {Z R l : List Value} {x y z u p q r : Value} {pl : List (Nat × Nat)} (hZ : Z.length = 97) (hR : R.length = 97) (hu : u = u) : fillL ((0, 97) :: (97, 1) :: (98, 1) :: (99, 1) :: pl) (Z ++ (x :: y :: z :: l)) [(0, R), (1, [p]), (2, [q]), (3, [r])] = some (R ++ (p :: q :: r :: l)) := by
  have e1 : (Z ++ x :: y :: z :: l).drop 97 = x :: y :: z :: l := by rw [← hZ, List.drop_left]
  have e2 : (R ++ x :: y :: z :: l).take 97 = R := by rw [← hR, List.take_left]
  have e3 : (R ++ x :: y :: z :: l).drop 98 = y :: z :: l := by rw [show 98 = R.length + 1 by omega, ← List.drop_drop, List.drop_left]; rfl
  have e4 : (R ++ p :: y :: z :: l).take 98 = R ++ [p] := by rw [show 98 = R.length + 1 by omega, List.take_length_add_append]; rfl
  have e5 : (R ++ p :: y :: z :: l).drop 99 = z :: l := by rw [show 99 = R.length + 2 by omega, ← List.drop_drop, List.drop_left]; rfl
  have e6 : (R ++ p :: q :: z :: l).take 99 = R ++ [p, q] := by rw [show 99 = R.length + 2 by omega, List.take_length_add_append]; rfl
  have e7 : (R ++ p :: q :: z :: l).drop 100 = l := by rw [show 100 = R.length + 3 by omega, ← List.drop_drop, List.drop_left]; rfl
  simp [fillL, hZ, hR, e1, e2, e3, e4, e5, e6, e7]
  omega
theorem fill_lk {hk mk nk : List UInt8} {tv p q : Value} {cl : Nat} (h1 : hk.length = 32) (h2 : mk.length = 32) (h3 : nk.length = 32) : fillL [(0, 97), (97, 1), (98, 1), (99, 1), (100, 1), (101, 1), (102, 1), (103, 1), (104, 1), (105, 1), (106, 3)] ((List.replicate 32 0).map B ++ ((List.replicate 32 0).map B ++ ((List.replicate 32 0).map B ++ ([Value.pointer none, .pointer none, .pointer none, I 0, I 0, Str [], I 0, .bool false, Str [], .bool false, I 0, .bool false, I 0])))) [(0, hk.map B ++ (mk.map B ++ (nk.map B ++ ([tv])))), (1, [p]), (2, [q]), (3, [IN cl])] = some (hk.map B ++ (mk.map B ++ (nk.map B ++ [tv, p, q, IN cl, I 0, Str [], I 0, .bool false, Str [], .bool false, I 0, .bool false, I 0]))) := by
  have e := fill_lk0 (Z := (List.replicate 32 0).map B ++ ((List.replicate 32 0).map B ++ ((List.replicate 32 0).map B ++ [Value.pointer none]))) (R := hk.map B ++ (mk.map B ++ (nk.map B ++ ([tv])))) (l := [I 0, Str [], I 0, .bool false, Str [], .bool false, I 0, .bool false, I 0]) (x := .pointer none) (y := .pointer none) (z := I 0) (u := I 0) (p := p) (q := q) (r := IN cl) (pl := [(100, 1), (101, 1), (102, 1), (103, 1), (104, 1), (105, 1), (106, 3)]) sI (by simp [h1, h2, h3]) rfl
  simpa using e
theorem lnew_spec {hk mk nk : List UInt8} {tv : Value} {sb kb cl : Nat} {w : World} (h3 : hk.length = 32 ∧ mk.length = 32 ∧ nk.length = 32) (htv : tv.oneCell' = true) (hcl : cl < 100) : Spec Tryz.prog 38 [PT sb, .agg (hk.map B ++ (mk.map B ++ (nk.map B ++ ([tv])))).toArray, PT kb, IN cl] w [] (fun _ : Nat => True) (fun b => .tuple #[PT b, I 0]) (fun b => [cel b (hk.map B ++ (mk.map B ++ (nk.map B ++ ([tv, PT sb, PT kb, IN cl, I 0, Str [], I 0, .bool false, Str [], .bool false, I 0, .bool false, I 0])))) 182]) := by
  refine spec_of (n := 30) Tryz.func38 rfl rfl trivial trivial rfl ?_
  obtain ⟨hk32, mk32, nk32⟩ := h3
  refine s_r <| tk_act rfl <| a_boxL (cs := hk.map B ++ (mk.map B ++ (nk.map B ++ ([tv])))) rfl rfl fun b5 => q_a rfl rfl <| q_a rfl rfl <| s_n <| tk_seq <| s_r <| q_m rfl rfl <| s_q rfl (y_pnil rfl rfl rfl) <| q_m rfl rfl <| s_g rfl (y_move rfl) <| s_g rfl (y_pnil rfl rfl rfl) <| s_q rfl (y_pick0 rfl rfl) <| q_m rfl rfl <| s_g rfl (y_move rfl) <| tk_gqe (.bool false) rfl rfl rfl (y_lss rfl rfl) (bool_f oM) <| s_q rfl (y_pick0 rfl rfl) <| q_m rfl rfl <| s_g rfl (y_move rfl) <| tk_gqe (.bool false) rfl rfl rfl (y_gtr rfl rfl) (bool_f oM) <| s_q rfl (y_pick0 rfl rfl) <| s_n <| tk_cond0 rfl ?_; exact tk_skip <| tk_then <| s_r <| s_q rfl (y_loadA 97 rfl kR lenP (hcw (.head _))) <| q_m rfl rfl <| q_m rfl rfl <| q_m rfl rfl <| s_q rfl (y_build (v := .agg (hk.map B ++ (mk.map B ++ (nk.map B ++ ([tv, PT sb, PT kb, IN cl, I 0, Str [], I 0, .bool false, Str [], .bool false, I 0, .bool false, I 0])))).toArray) (vs := [(0, .agg (hk.map B ++ (mk.map B ++ (nk.map B ++ ([tv])))).toArray), (1, PT sb), (2, PT kb), (3, IN cl)]) rfl (run_build (zs := (List.replicate 32 0).map B ++ ((List.replicate 32 0).map B ++ ((List.replicate 32 0).map B ++ ([Value.pointer none, .pointer none, .pointer none, I 0, I 0, Str [], I 0, .bool false, Str [], .bool false, I 0, .bool false, I 0])))) (pl := [(0, 97), (97, 1), (98, 1), (99, 1), (100, 1), (101, 1), (102, 1), (103, 1), (104, 1), (105, 1), (106, 3)]) Tryz.underlying182 (fun _ => kR) (fun _ => kR) (fill_lk hk32 mk32 nk32))) <| tk_act rfl <| a_boxL (cs := hk.map B ++ (mk.map B ++ (nk.map B ++ ([tv, PT sb, PT kb, IN cl, I 0, Str [], I 0, .bool false, Str [], .bool false, I 0, .bool false, I 0])))) rfl rfl fun b29 => q_a rfl rfl <| q_a rfl rfl <| s_n <| tk_retc <| tk_ret (b29) (trivial) (.inl rfl) (r2 rfl rfl rfl) (.cons_cons _ (List.nil_sublist _))
end Go.Proofs.YtkkjfojgjmglpaaGreatDoor
set_option linter.unusedSimpArgs false
set_option linter.unusedVariables false
namespace Go.Proofs.YtkkjfojgjmglpaaGreatDoor
open Go Go.RowKit
set_option maxRecDepth 100000
attribute [local irreducible] sumL keyedL hexL strL sealF sealL tapeL tapeN
/-- a client: where its hand lies, its tape; what they hold -/
structure Cl where
  lb : Nat
  tb : Nat
  vb : Value
  x : Lk
  tl : List UInt8
  c : Nat
  p : Nat
  vl : Value
def lk0 (cl : Nat) : Lk := ⟨cl, 0, [], 0, false, [], false, ⟨0, false, 0⟩⟩
def dCl : Cl := ⟨0, 0, .slice none 0 0, lk0 0, [], 0, 0, .slice none 0 0⟩
/-- many pieces, apart from each other, as one -/
def team (ps : List Res) : Res where
  fp := Fs ps
  holds w := Hs w ps ∧ Dj ps
  loc _ _ h hr := ⟨Hs.loc h hr.1, hr.2⟩
  bnd _ hr k hk := Fs.bnd hr.1 k hk
section
variable {c : Cx} {L : Sl} {H : List Res} {K : Act → World → Prop} {ps qs : List Res}
theorem tk_team0 (h : TK c K L (team [] :: H)) : TK c K L H := fun a w ha hw => h a w ha ⟨hw.fr, ⟨⟨trivial, trivial⟩, hw.hs⟩, ⟨fun _ h => h.elim, hw.dj⟩, fun k hk => hw.own k (hk.resolve_left (fun h => h.elim))⟩
theorem tk_teamIn (h : TK c K L (team ps :: H)) : TK c K L (ps ++ H) := fun a w ha hw => by
  have h1 := Hs_append.1 hw.hs
  have h2 := Dj_append.1 hw.dj
  refine h a w ha ⟨hw.fr, ⟨⟨h1.1, h2.1⟩, h1.2⟩, ⟨fun k hk hf => h2.2.2 k hk hf, h2.2.1⟩, fun k hk => hw.own k (Fs_append.2 hk)⟩
theorem tk_teamOut (h : TK c K L (ps ++ H)) : TK c K L (team ps :: H) := fun a w ha hw => by
  refine h a w ha ⟨hw.fr, Hs_append.2 ⟨hw.hs.1.1, hw.hs.2⟩, Dj_append.2 ⟨hw.hs.1.2, hw.dj.2, fun k hk hf => hw.dj.1 k hk hf⟩, fun k hk => hw.own k (Fs_append.1 hk)⟩
end
def clP (sb kb : Nat) (k : Cl) : List Res := [cel k.lb ((rq 1).map B ++ ((rq 2).map B ++ ((List.replicate 32 0).map B ++ ([PT k.tb, PT sb, PT kb, IN k.x.cl, IN k.x.made, Str k.x.own, IN k.x.asks, .bool k.x.want, Str k.x.next, .bool k.x.shown, IN k.x.m.c, .bool k.x.m.a, IN k.x.m.t])))) 182, cel k.tb ([k.vb, .int .u64 ((k.c : Nat) : Int), k.vl]) 201, ownB k.vb k.tl 5, ownB k.vl ((tapeL k.tl k.c).drop k.p) 5]
section
variable {c : Cx} {L : Sl} {H : List Res} {K : Act → World → Prop} {cs : List Cl} {k : Cl} {sb kb : Nat} {r1 r2 r3 r4 : Res}
theorem eraseP {α : Type} : ∀ {l : List α} {i : Nat} (h : i < l.length), (l[i] :: l.eraseIdx i).Perm l
  | [], i, h => absurd h (Nat.not_lt_zero _)
  | a :: l, 0, _ => .refl _
  | a :: l, i + 1, h => (List.Perm.swap _ _ _).trans (.cons a (eraseP (l := l) (i := i) (Nat.lt_of_succ_lt_succ h)))
theorem tk_teamP {ps qs : List Res} (p : ps.Perm qs) (h : TK c K L (team qs :: H)) : TK c K L (team ps :: H) :=
  tk_teamOut (tk_perm (qs ++ H) (p.append_right H) (tk_teamIn h))
theorem tk_teamAdd (hp : clP sb kb k = [r1, r2, r3, r4]) (h : TK c K L (team ((cs ++ [k]).flatMap (clP sb kb)) :: H)) : TK c K L (r1 :: r2 :: r3 :: r4 :: team (cs.flatMap (clP sb kb)) :: H) := by
  have e : (cs ++ [k]).flatMap (clP sb kb) = cs.flatMap (clP sb kb) ++ [r1, r2, r3, r4] := by rw [List.flatMap_append, ← hp]; simp
  rw [e] at h
  refine tk_perm (team (cs.flatMap (clP sb kb)) :: ([r1, r2, r3, r4] ++ H)) (List.perm_middle (l₁ := [r1, r2, r3, r4])) (tk_teamOut ?_)
  rw [← List.append_assoc]
  exact tk_teamIn h
theorem tk_teamGet {i : Nat} (hk : cs.getD i dCl = k) (hi : i < cs.length) (hp : clP sb kb k = [r1, r2, r3, r4]) (h : TK c K L (r1 :: r2 :: r3 :: r4 :: team ((cs.eraseIdx i).flatMap (clP sb kb)) :: H)) : TK c K L (team (cs.flatMap (clP sb kb)) :: H) := by
  have e : cs[i] = k := by rw [← hk, List.getD_eq_getElem?_getD, List.getElem?_eq_getElem hi]; rfl
  have p1 : (k :: cs.eraseIdx i).Perm cs := e ▸ eraseP hi
  refine tk_teamP (p1.flatMap_right (clP sb kb)).symm (tk_teamOut ?_)
  rw [List.flatMap_cons, hp]
  refine tk_perm ((cs.eraseIdx i).flatMap (clP sb kb) ++ ([r1, r2, r3, r4] ++ H)) ?_ (tk_teamIn (tk_perm _ (List.perm_middle (l₁ := [r1, r2, r3, r4])).symm h))
  rw [← List.append_assoc]
  exact List.Perm.append_right H List.perm_append_comm
theorem tk_teamPut {i : Nat} (hi : i < cs.length) (hp : clP sb kb k = [r1, r2, r3, r4]) (h : TK c K L (team ((cs.set i k).flatMap (clP sb kb)) :: H)) : TK c K L (r1 :: r2 :: r3 :: r4 :: team ((cs.eraseIdx i).flatMap (clP sb kb)) :: H) := by
  have e : (cs.set i k)[i]'(by rw [List.length_set]; exact hi) = k := List.getElem_set_self ..
  have p1 : (k :: cs.eraseIdx i).Perm (cs.set i k) := by
    have := eraseP (l := cs.set i k) (i := i) (by rw [List.length_set]; exact hi)
    rwa [e, List.eraseIdx_set_eq] at this
  have h2 := tk_teamP (p1.flatMap_right (clP sb kb)) h
  rw [List.flatMap_cons, hp] at h2
  refine tk_perm (team ((cs.eraseIdx i).flatMap (clP sb kb)) :: ([r1, r2, r3, r4] ++ H)) (List.perm_middle (l₁ := [r1, r2, r3, r4])) (tk_teamOut ?_); refine tk_perm (([r1, r2, r3, r4] ++ (cs.eraseIdx i).flatMap (clP sb kb)) ++ H) ?_ (tk_teamIn h2)
  rw [← List.append_assoc]
  exact List.Perm.append_right H List.perm_append_comm
end
def Fresh (cs : List Cl) : Prop := ∀ i, i < cs.length → (cs.getD i dCl).x = lk0 i ∧ (cs.getD i dCl).tl = [UInt8.ofNat i] ∧ (cs.getD i dCl).c = 0 ∧ (cs.getD i dCl).p = 0
theorem fresh_add {cs : List Cl} {i lb tb : Nat} {vb vl : Value} (h : Fresh cs) (hi : cs.length = i) : Fresh (cs ++ [⟨lb, tb, vb, lk0 i, [UInt8.ofNat i], 0, 0, vl⟩]) := fun j hj => by
  rw [List.length_append] at hj
  by_cases e : j < cs.length
  · have := h j e
    have e3 : (cs ++ [(⟨lb, tb, vb, lk0 i, [UInt8.ofNat i], 0, 0, vl⟩ : Cl)]).getD j dCl = cs.getD j dCl := by simp [List.getD_eq_getElem?_getD, List.getElem?_append_left e]
    rwa [e3]
  · have ej : j = cs.length := by simp at hj; omega
    subst ej
    have e2 : (cs ++ [(⟨lb, tb, vb, lk0 i, [UInt8.ofNat i], 0, 0, vl⟩ : Cl)]).getD cs.length dCl = ⟨lb, tb, vb, lk0 i, [UInt8.ofNat i], 0, 0, vl⟩ := by simp [List.getD_eq_getElem?_getD]
    rw [e2, hi]; exact ⟨rfl, rfl, rfl, rfl⟩
/-- a town: where store, map, clock, town lie; the row; the clients -/
structure Tw where
  sb : Nat
  mb : Nat
  kb : Nat
  tw : Nat
  vo : Value
  cs : List Cl
theorem found_spec {n : Nat} {w : World} (hn : n ≤ 100) : Spec Tryz.prog 36 [IN n] w [] (fun z : Tw => z.cs.length = n ∧ Fresh z.cs) (fun z => .tuple #[PT z.tw, .bool true]) (fun z => [cel z.tw ([PT z.sb, PT z.kb, z.vo]) 97, ownM PT z.vo (z.cs.map Cl.lb) 91, cel z.kb ([I 0]) 178, cel z.sb ([Value.map (some z.mb), I ((newS 100000).left), .bool ((newS 100000).off), I ((newS 100000).made), I ((newS 100000).room)]) 192, mapS z.mb (kvO ((newS 100000).obs)), bag (((newS 100000).obs).map (obR 5)), team (z.cs.flatMap (clP z.sb z.kb))]) := by
  refine spec_of (n := 60) Tryz.func36 rfl rfl trivial trivial rfl <| s_r <| q_a rfl rfl <| q_a rfl rfl <| s_n <| s_r <| tk_act rfl <| a_callv [] _ rfl kR rfl (fun w' hw' => shNew_spec (room := 100000) (by first | decide | omega)) rfl fun ⟨sb, mb⟩ _ => q_m rfl rfl <| s_q rfl (y_extract rfl rfl) <| s_q rfl (y_extract rfl rfl) <| q_a rfl rfl <| q_a rfl rfl <| s_n <| s_r <| q_m rfl rfl <| s_q rfl (y_build (v := .agg ([I 0]).toArray) (vs := []) rfl (fun _ => kR)) <| tk_act rfl <| a_boxL (cs := [I 0]) rfl rfl fun b17 => s_q rfl (y_build (v := .agg ([PT sb, PT b17, .slice none 0 0]).toArray) (vs := [(0, PT sb), (1, PT b17)]) rfl (run_build (zs := [Value.pointer none, .pointer none, .slice none 0 0]) (pl := [(0, 1), (1, 1), (2, 1)]) Tryz.underlying97 (fun _ => kR) (fun _ => kR) (by simp [fillL, Value.cells]))) <| tk_act rfl <| a_boxL (cs := [PT sb, PT b17, .slice none 0 0]) rfl rfl fun b19 => q_a rfl rfl <| s_n ?_; refine tk_seq <| s_r <| q_a rfl rfl <| s_n <| tk_block <| tk_ownM0 (f := PT) 91 <| tk_R (H1 := []) rfl (show own (.slice none 0 0) (([] : List Nat).length) (([] : List Nat).map PT) 91 1 = own (.slice none 0 0) ((([] : List Cl).map Cl.lb).length) ((([] : List Cl).map Cl.lb).map PT) 91 1 from rfl) <| tk_team0 <| tk_loop (X := Nat × Value × List Cl) (fun (i, vo, cs) => i ≤ n ∧ cs.length = i ∧ Fresh cs) (fun (i, vo, cs) => [(0, IN n), (4, PT sb), (5, I 0), (6, PT b19), (7, IN i)]) (fun (i, vo, cs) => [team (cs.flatMap (clP sb b17)), own vo ((cs.map Cl.lb).length) ((cs.map Cl.lb).map PT) 91 1, cel b19 ([PT sb, PT b17, vo]) 97, cel b17 ([I 0]) 178, cel sb ([Value.map (some mb), I ((newS 100000).left), .bool ((newS 100000).off), I ((newS 100000).made), I ((newS 100000).room)]) 192, mapS mb (kvO ((newS 100000).obs)), bag (((newS 100000).obs).map (obR 5))]) (fun (i, vo, cs) => n - i) ((0, .slice none 0 0, [])) (⟨Nat.zero_le _, rfl, fun _ h => absurd h sI⟩) sB ((List.Sublist.refl _)) ?_
  rintro ⟨i, vo, cs⟩ hI
  try dsimp only at hI ⊢
  refine tk_own1 (mm 1 rfl) fun hfo => ?_
  have hlc : (cs.map Cl.lb).length = i := by rw [List.length_map]; exact hI.2.1
  refine tk_seq <| s_r <| q_m rfl rfl <| q_m rfl rfl <| s_q rfl (y_lss rfl rfl) <| s_n <| tk_condP rfl (fun ht22 => ?_) (fun ht22 => ?_)
  · refine tk_skip <| tk_then <| tk_seq <| tk_block <| s_r <| s_q rfl (y_build (v := .agg (([1, 0, 0, 0, 0, 0, 0, 0, 0, 0, 0, 0, 0, 0, 0, 0, 0, 0, 0, 0, 0, 0, 0, 0, 0, 0, 0, 0, 0, 0, 0, 0] : List UInt8).map B).toArray) (vs := [(0, B 1)]) rfl (fun _ => kR)) <| tk_re 25 (.agg (([1, 0, 0, 0, 0, 0, 0, 0, 0, 0, 0, 0, 0, 0, 0, 0, 0, 0, 0, 0, 0, 0, 0, 0, 0, 0, 0, 0, 0, 0, 0, 0] : List UInt8).map B).toArray) (.agg ((rq 1).map B).toArray) rfl (rfl) <| s_q rfl (y_build (v := .agg (([2, 0, 0, 0, 0, 0, 0, 0, 0, 0, 0, 0, 0, 0, 0, 0, 0, 0, 0, 0, 0, 0, 0, 0, 0, 0, 0, 0, 0, 0, 0, 0] : List UInt8).map B).toArray) (vs := [(0, B 2)]) rfl (fun _ => kR)) <| tk_re 26 (.agg (([2, 0, 0, 0, 0, 0, 0, 0, 0, 0, 0, 0, 0, 0, 0, 0, 0, 0, 0, 0, 0, 0, 0, 0, 0, 0, 0, 0, 0, 0, 0, 0] : List UInt8).map B).toArray) (.agg ((rq 2).map B).toArray) rfl (rfl) <| s_q rfl (y_build (v := .agg ((rq 1).map B ++ ((rq 2).map B)).toArray) (vs := [(0, .agg ((rq 1).map B).toArray), (1, .agg ((rq 2).map B).toArray)]) rfl (run_build (zs := (List.replicate 32 0).map B ++ ((List.replicate 32 0).map B)) (pl := [(0, 32), (32, 32)]) Tryz.underlying29 (fun _ => kR) (fun _ => kR) (fillP2 (a := (rq 1).map B) (b := (rq 2).map B) lenP sI sI sI))) <| s_q rfl (y_build (v := .agg ((rq 1).map B ++ ((rq 2).map B ++ ((List.replicate 32 0).map B))).toArray) (vs := [(0, .agg ((rq 1).map B ++ ((rq 2).map B)).toArray)]) rfl (run_build (zs := (List.replicate 32 0).map B ++ ((List.replicate 32 0).map B ++ ((List.replicate 32 0).map B))) (pl := [(0, 64), (64, 32)]) Tryz.underlying31 (fun _ => kR) (fun _ => kR) (fillP1 (a := (rq 1).map B ++ ((rq 2).map B)) lenP sI sI))) <| q_m rfl rfl <| s_q rfl (y_convi8 (m := i) rfl rfl rfl) <| tk_act rfl <| a_slitN (vs := [B (UInt8.ofNat i)]) rfl (List.forall_mem_cons.2 ⟨rfl, (fun _ h => nomatch h)⟩) (EL42) rfl rfl dC fun b31 => tk_act rfl <| a_callv [] _ rfl kR rfl (fun w' hw' => wind_spec (b := [UInt8.ofNat i]) (Ro.cel (H0 := []) (b := b31) (o := 0) (m := 1) (cp := 1) (vs := [UInt8.ofNat i].map B) hw' (.head _) (rfl) lQ lenP) lenP) rfl fun ⟨tb32, vb32⟩ _ => s_q rfl (y_build (v := .agg ((rq 1).map B ++ ((rq 2).map B ++ ((List.replicate 32 0).map B ++ ([PT tb32])))).toArray) (vs := [(0, .agg ((rq 1).map B ++ ((rq 2).map B ++ ((List.replicate 32 0).map B))).toArray), (1, PT tb32)]) rfl (run_build (zs := (List.replicate 32 0).map B ++ ((List.replicate 32 0).map B ++ ((List.replicate 32 0).map B ++ ([Value.pointer none])))) (pl := [(0, 96), (96, 1)]) Tryz.underlying34 (fun _ => kR) (fun _ => kR) (fillP2 (a := (rq 1).map B ++ ((rq 2).map B ++ ((List.replicate 32 0).map B))) (b := [PT tb32]) lenP rfl sI sI))) ?_; refine tk_act rfl <| a_allocL (cs := (List.replicate 32 0).map B ++ ((List.replicate 32 0).map B ++ ((List.replicate 32 0).map B ++ ([Value.pointer none])))) kR rfl fun b8 => tk_act rfl <| a_storeW (H1 := []) (vs := (rq 1).map B ++ ((rq 2).map B ++ ((List.replicate 32 0).map B ++ ([PT tb32])))) 97 rfl rfl kR rfl ⟨lenP, lenP⟩ (List.forall_mem_append.2 ⟨oneB, (List.forall_mem_append.2 ⟨oneB, (List.forall_mem_append.2 ⟨oneB, (List.forall_mem_cons.2 ⟨rfl, (fun _ h => nomatch h)⟩)⟩)⟩)⟩) <| s_n <| tk_seq <| tk_drawH [cel b8 ((rq 1).map B ++ ((rq 2).map B ++ ((List.replicate 32 0).map B ++ ([PT tb32])))) 34, cel tb32 ([vb32, .int .u64 (((0 : Nat) : Nat) : Int), .slice none 0 0]) 201, ownB vb32 [UInt8.ofNat i] 5, cel b31 ([B (UInt8.ofNat i)]) 5, team (cs.flatMap (clP sb b17)), own vo ((cs.map Cl.lb).length) ((cs.map Cl.lb).map PT) 91 1, cel b19 ([PT sb, PT b17, vo]) 97, cel b17 ([I 0]) 178, cel sb ([Value.map (some mb), I ((newS 100000).left), .bool ((newS 100000).off), I ((newS 100000).made), I ((newS 100000).room)]) 192, mapS mb (kvO ((newS 100000).obs)), bag (((newS 100000).obs).map (obR 5))] [] kR <| s_x 0 rfl (y_move rfl) <| s_l 1 rfl (fun _ h => h) (y_loadA 97 rfl kR lenP (hcw (.head _))) <| s_x 2 rfl (y_move rfl) <| s_x 3 rfl (y_nilCheck rfl) <| s_x 4 rfl (y_fldN (o := 0) 1 rfl kR) <| s_l 5 rfl (fun _ h => h) (y_load rfl rfl (hc (o := 1) (mm 6 rfl) (rfl))) <| s_x 6 rfl (y_move rfl) <| tx_a 7 rfl kR rfl <| a_callv [] _ rfl kR rfl (fun w' hw' => lnew_spec (hk := rq 1) (mk := rq 2) (nk := List.replicate 32 0) (tv := PT tb32) (sb := sb) (kb := b17) (cl := i) ⟨lenP, lenP, lenP⟩ rfl lenP) rfl fun lb42 _ => tk_S (fun _ h => kD 1 rfl h) <| s_x 8 rfl (y_move rfl) <| s_x 9 rfl (y_extract rfl rfl) <| s_x 10 rfl (y_extract rfl rfl) <| s_x 11 rfl (y_assign rfl) <| s_x 12 rfl (y_assign rfl) <| tx_done kR <| tk_then ?_; refine tk_seq <| s_r <| q_m rfl rfl <| s_q rfl ((y_neq rfl rfl).cast (bool_f dC)) <| s_n <| tk_cond0 rfl <| tk_skip <| tk_then <| tk_region <| q_m rfl rfl <| q_m rfl rfl <| s_q rfl (y_nilCheck rfl) <| s_q rfl (y_fldN (o := 0) 2 rfl kR) <| s_q rfl (y_load rfl rfl (hc (o := 2) (mm 7 rfl) (rfl))) <| q_m rfl rfl <| tk_act rfl <| a_slitN (vs := [PT lb42]) rfl (List.forall_mem_cons.2 ⟨rfl, (fun _ h => nomatch h)⟩) (EL95) rfl rfl dC fun b53 => tk_act rfl <| a_appM (H1 := [_, _, _, _, _, _, _]) (f := PT) (l := cs.map Cl.lb) (m := [lb42]) rfl rfl EL95 rfl rfl (fun w hw => cel_rdE (o := 0) (m := 1) (cp := 1) (vs := [lb42].map PT) (hw.mem (.head _)) (rfl) lQ lenP) (fun _ => rfl) ⟨lenP, lenP⟩ fun v54 => tk_own1 (mm 7 rfl) fun hfv54 => s_q rfl (y_nilCheck rfl) <| s_q rfl (y_fldN (o := 0) 2 rfl kR) <| tk_act rfl <| a_storeE (H1 := [_, _, _, _, _, _, _, _]) (o := 2) (v := v54) (cs' := [PT sb, PT b17, v54]) rfl rfl kR (RdS.one hfv54.choose_spec) rfl sW (rfl) ?_; exact tk_nil <| tk_in_normal <| tk_then <| tk_region <| q_m rfl rfl <| s_q rfl (y_addN (a := i) (b := 1) rfl rfl oM) <| q_a rfl rfl <| tk_nil <| tk_R (H1 := [_, _, _, _, _, _, _]) rfl (show own v54 (((cs.map Cl.lb) ++ [lb42]).length) (((cs.map Cl.lb) ++ [lb42]).map PT) 91 1 = own v54 (((cs ++ [(⟨lb42, tb32, vb32, lk0 i, [UInt8.ofNat i], 0, 0, .slice none 0 0⟩ : Cl)]).map Cl.lb).length) (((cs ++ [(⟨lb42, tb32, vb32, lk0 i, [UInt8.ofNat i], 0, 0, .slice none 0 0⟩ : Cl)]).map Cl.lb).map PT) 91 1 from ownM_cast sI) <| tk_ownM0 (f := B) 5 <| tk_R (H1 := []) rfl (show ownB (.slice none 0 0) ([] : List UInt8) 5 = ownB (.slice none 0 0) ((tapeL [UInt8.ofNat i] 0).drop 0) 5 from ownM_cast (by simp [tapeL_0])) <| tk_ps [7, 1, 6, 6, 5] rfl <| tk_teamAdd (k := (⟨lb42, tb32, vb32, lk0 i, [UInt8.ofNat i], 0, 0, .slice none 0 0⟩ : Cl)) rfl <| tk_again ((i + 1, v54, cs ++ [(⟨lb42, tb32, vb32, lk0 i, [UInt8.ofNat i], 0, 0, .slice none 0 0⟩ : Cl)])) (⟨by dsimp only; omega, by simp [hI.2.1], fresh_add hI.2.2 hI.2.1⟩) (by dsimp only; omega) sB (.cons_cons _ (.cons _ (.cons _ (.cons _ (List.Sublist.refl _)))))
  · exact tk_exit <| tk_then_exit <| tk_then_exit <| tk_in_hit <| tk_then <| s_r <| q_m rfl rfl <| q_m rfl rfl <| s_q rfl ((y_eql rfl rfl).cast (bool_t dC)) <| q_a rfl rfl <| q_a rfl rfl <| s_n <| tk_retc <| tk_ps [6, 6, 6, 6, 5, 6] rfl <| tk_ret (⟨sb, mb, b17, b19, vo, cs⟩) (⟨by dsimp only; omega, hI.2.2⟩) (.inl rfl) (r2 rfl rfl rfl) (List.Sublist.refl _)
end Go.Proofs.YtkkjfojgjmglpaaGreatDoor
set_option linter.unusedSimpArgs false
set_option linter.unusedVariables false
namespace Go.Proofs.YtkkjfojgjmglpaaGreatDoor
open Go
attribute [local irreducible] sealL tapeN tapeL lkName dfName preB
variable {hk mk tl : List UInt8} {s t : Sh} {x : Lk} {now c p N : Nat} {vl : Value}
def Lst (hk mk : List UInt8) (s : Sh) (now : Nat) (L : List (List UInt8 × Mk)) : Prop := ∀ n m, HasL hk mk s now n m ↔ (n, m) ∈ L
theorem vw_new {r : Nat} {n : List UInt8} : vw (newS r) n = none := vw_none.2 (fun h => nomatch h)
theorem lst_new {r : Nat} : Lst hk mk (newS r) now [] := fun n m => ⟨fun h => (by obtain ⟨_, _, b, h, _⟩ := h; rw [vw_new] at h; cases h), fun h => nomatch h⟩
theorem lkw_new {r : Nat} : LkW hk mk (newS r) now := fun n b h => by rw [vw_new] at h; cases h
theorem qt_new : Qt (newS 100000) 0 := ⟨⟨rfl, rfl⟩, rfl, (fun _ h => nomatch h), Nat.le_refl _⟩
theorem at_new {r : Nat} (hr : r ≤ 1073741824) : ShAt (newS r) 0 :=
  ⟨List.nodup_nil, ⟨by show -1 ≤ (-1 : Int); omega, by show (-1 : Int) < _; omega⟩, ⟨Int.le_refl _, Int.le_refl _⟩, ⟨by show (0 : Int) ≤ (r : Int); omega, by show (r : Int) ≤ _; omega⟩, by show ((0 : Nat) : Int) ≤ (r : Int); omega, Nat.zero_le _, (fun _ h => nomatch h), (fun _ h => nomatch h)⟩
theorem HasL.later {d : Nat} {n : List UInt8} {m : Mk} (h : HasL hk mk s now n m) : HasL hk mk s (now + d) n m := by
  obtain ⟨h1, h2, b, h3, h4, h5, h6⟩ := h
  exact ⟨h1, h2, b, h3, h4, by omega, h6⟩
theorem Lst.later {L : List (List UInt8 × Mk)} {d : Nat} (h : Lst hk mk s now L) (hW : LkW hk mk s now) (hd : now + d ≤ 1099511627776) : Lst hk mk s (now + d) L := fun n m => by
  refine ⟨fun q => ?_, fun q => ((h n m).2 q).later⟩
  obtain ⟨h1, h2, b, h3, h4⟩ := q
  obtain ⟨m', h5⟩ := hW.has (vw_some.1 h3).1 h2
  have : m = m' := HasL.one hd ⟨h1, h2, b, h3, h4⟩ h5.later
  rw [this]; exact (h n m').1 h5
theorem conf_lst {L : List (List UInt8 × Mk)} {cl : Nat} {b : Bool} (h : Lst hk mk s now L) : Conf hk mk s now cl b ↔ ∃ q ∈ L, ¬ q.2.c = cl ∧ holdsP now q.2 ∧ (b = true ∨ q.2.a = true) :=
  ⟨fun ⟨n, m, h1, h2⟩ => ⟨(n, m), (h n m).1 h1, h2⟩, fun ⟨q, h1, h2⟩ => ⟨q.1, q.2, (h q.1 q.2).2 h1, h2⟩⟩
theorem HasL.ne_df {n : List UInt8} {m : Mk} {cl : Nat} (h : HasL hk mk s now n m) : n ≠ dfName cl := fun e => by
  have := h.2.1
  rw [e, dfName_pre] at this; cases this
theorem lst_f {L : List (List UInt8 × Mk)} {cl j : Nat} (hnow : now ≤ 1099511627776) (h : Lst hk mk s now L) (hn : ∀ q ∈ L, q.1 ≠ lkName cl j) (hq : TkQ hk mk s t now cl j false) : Lst hk mk t now ((lkName cl j, ⟨cl, false, now⟩) :: L) := fun n m => by
  constructor
  · intro q
    by_cases e : n = lkName cl j
    · subst e; rw [q.one hnow hq.mine]; exact List.mem_cons_self ..
    · rcases hq.keep n q.ne_df e with r | r
      · exact List.mem_cons_of_mem _ ((h n m).1 (q.vw r.symm))
      · cases r.2.1
  · intro q
    rcases List.mem_cons.1 q with q | q
    · cases q; exact hq.mine
    · have h1 := (h n m).2 q
      rcases hq.keep n h1.ne_df (hn _ q) with r | r
      · exact h1.vw r
      · cases r.2.1
/-- another hand at the same store -/
theorem li_other {k : Int} {j j' : Nat} {y : Lk} (h : LI hk mk s x now k j) (h1 : y.cl < 100) (h2 : y.made ≤ j') (h3 : y.asks = 0) (h4 : y.next = []) : LI hk mk s y now k j' := ⟨h.at_, h.ok, h1, h2, by rw [h4]; exact Nat.zero_lt_succ _, fun q => by omega⟩
theorem three_of {α : Type} : ∀ {l : List α}, l.length = 3 → ∃ a b c, l = [a, b, c]
  | [a, b, c], _ => ⟨a, b, c, rfl⟩
end Go.Proofs.YtkkjfojgjmglpaaGreatDoor
set_option linter.unusedSimpArgs false
set_option linter.unusedVariables false
namespace Go.Proofs.YtkkjfojgjmglpaaGreatDoor
open Go Go.RowKit
set_option maxRecDepth 100000
set_option maxHeartbeats 1000000
attribute [local irreducible] sumL keyedL hexL strL sealF sealL tapeL tapeN lkName dfName preB
section
variable {s : Sh} {c p e : Nat} {vl : Value} {q : St5}
theorem TkI.took {hk mk tl : List UInt8} {now : Nat} {u q : St5} {k : Int} {j e : Nat} (h : TkI hk mk tl now u k j q true e) : Took hk mk tl now u q e ∧ LI hk mk q.s q.x now (k + 8020) (j + 4) := by
  rcases h with h | h
  · cases h.1
  · exact ⟨h.2.1, h.2.2.1⟩
theorem TkI.tape {hk mk tl : List UInt8} {now : Nat} {u q : St5} {k : Int} {j e : Nat} (h : TkI hk mk tl now u k j q true e) : q.p ≤ u.p + 64 ∧ q.p ≤ 32 * q.c ∧ 32 * q.c < q.p + 32 := by
  rcases h with h | h
  · cases h.1
  · exact h.2.2.2
abbrev L00 : List UInt8 × Mk := (lkName 0 0, ⟨0, false, 0⟩)
abbrev L10 : List UInt8 × Mk := (lkName 1 0, ⟨1, false, 0⟩)
theorem bars1 (hL : LI (rq 1) (rq 2) (newS 100000) (lk0 0) 0 0 0) (hz : TkI (rq 1) (rq 2) [0] 0 ⟨newS 100000, (lk0 0).asked false, 0, 0, vl⟩ 0 0 q true e) : e = 0 ∧ Qt q.s 1 ∧ q.x = (lk0 0).has false 0 ∧ Lst (rq 1) (rq 2) q.s 0 [L00] ∧ LI (rq 1) (rq 2) q.s (lk0 1) 0 8020 0 := by
  obtain ⟨h1, h2⟩ := hz.took
  rcases take_q hL oM oM qt_new oM ⟨Nat.le_refl _, by omega⟩ rfl h1 with ⟨hc, _⟩ | ⟨_, h3, h4, h5, h6⟩
  · obtain ⟨_, h, _⟩ := (conf_lst lst_new).1 hc; cases h
  · exact ⟨h3, h4, h5, lst_f oM lst_new (fun _ h => nomatch h) h6, li_other h2 dC (Nat.le_refl _) rfl rfl⟩
theorem bars2 (hL : LI (rq 1) (rq 2) s (lk0 1) 0 8020 0) (hQ : Qt s 1) (hS : Lst (rq 1) (rq 2) s 0 [L00]) (hz : TkI (rq 1) (rq 2) [1] 0 ⟨s, (lk0 1).asked false, 0, 0, vl⟩ 8020 0 q true e) : e = 0 ∧ Qt q.s 2 ∧ q.x = (lk0 1).has false 0 ∧ Lst (rq 1) (rq 2) q.s 0 [L10, L00] ∧ LI (rq 1) (rq 2) q.s (lk0 2) 0 16040 0 := by
  obtain ⟨h1, h2⟩ := hz.took
  rcases take_q hL oM oM hQ oM ⟨Nat.le_refl _, by omega⟩ rfl h1 with ⟨hc, _⟩ | ⟨_, h3, h4, h5, h6⟩
  · obtain ⟨r, h, _, _, h7⟩ := (conf_lst hS).1 hc
    rw [List.mem_singleton] at h; subst h
    rcases h7 with h7 | h7 <;> cases h7
  · refine ⟨h3, h4, h5, lst_f oM hS (fun r h => ?_) h6, li_other h2 dC (Nat.le_refl _) rfl rfl⟩
    rw [List.mem_singleton] at h; subst h
    exact fun e => absurd (lkName_inj oM dC oM dC e).1 dC
theorem bars3 (hL : LI (rq 1) (rq 2) s (lk0 2) 0 16040 0) (hQ : Qt s 2) (hS : Lst (rq 1) (rq 2) s 0 [L10, L00]) (hz : TkI (rq 1) (rq 2) [2] 0 ⟨s, (lk0 2).asked true, 0, 0, vl⟩ 16040 0 q true e) : e = 12 ∧ Qt q.s 2 ∧ q.x = (lk0 2).not true ∧ Lst (rq 1) (rq 2) q.s 1001 [L10, L00] ∧ LI (rq 1) (rq 2) q.s q.x 1001 24060 4 := by
  obtain ⟨h1, h2⟩ := hz.took
  rcases take_q hL oM oM hQ oM ⟨Nat.le_refl _, by omega⟩ rfl h1 with ⟨_, h3, h4, h5⟩ | ⟨hc, _⟩
  · refine ⟨h3, by rw [h4]; exact hQ, h5, by rw [h4]; exact hS.later (d := 1001) hL.ok oM, ⟨h2.at_, h2.ok.later (d := 1001), h2.cl, h2.md, h2.nx, fun q => by rw [h5] at q; cases q⟩⟩
  · exact (hc ((conf_lst hS).2 ⟨L00, by simp, by decide, by decide, .inl rfl⟩)).elim
theorem bars4 {x : Lk} (hL : LI (rq 1) (rq 2) s x 1001 24060 4) (hQ : Qt s 2) (hS : Lst (rq 1) (rq 2) s 1001 [L10, L00]) (hx : x = (lk0 2).not true) (hI0 : p ≤ 32 * c ∧ 32 * c < p + 32) (hz : TkI (rq 1) (rq 2) [2] 1001 ⟨s, x.asked true, c, p, vl⟩ 24060 4 q true e) : e = 0 := by
  obtain ⟨h1, h2⟩ := hz.took
  subst hx
  rcases take_q hL oM oM hQ oM hI0 rfl h1 with ⟨hc, _⟩ | ⟨_, h3, _⟩
  · obtain ⟨r, h, _, h8, _⟩ := (conf_lst hS).1 hc
    simp only [List.mem_cons, List.not_mem_nil, or_false] at h
    rcases h with rfl | rfl <;> exact absurd h8 dC
  · exact h3
end
theorem bars_spec {w : World} (hg : Ro (Fs []) w glob) : Spec Tryz.prog 37 [] w [] (fun _ : Unit => True) (fun _ => .bool true) (fun _ => []) := by
  refine spec_of (n := 55) Tryz.func37 rfl rfl trivial trivial rfl <| s_r <| q_a rfl rfl <| s_n <| s_r <| tk_act rfl <| a_callv [] _ rfl kR rfl (fun w' hw' => found_spec (n := 3) lenP) rfl fun ⟨sb, mb, kb, tw, vo, cs⟩ hz4 => ?_
  dsimp only at hz4 ⊢
  refine tk_own1 (mm 1 rfl) fun hfo => ?_
  obtain ⟨hcl3, hfr⟩ := hz4
  obtain ⟨k0, k1, k2, rfl⟩ := three_of hcl3
  have f0 := hfr 0 sI
  have f1 := hfr 1 sI
  have f2 := hfr 2 sI
  obtain ⟨lb0, tb0, vb0, xx0, tl0, cc0, pp0, vl0⟩ := k0
  obtain ⟨lb1, tb1, vb1, xx1, tl1, cc1, pp1, vl1⟩ := k1
  obtain ⟨lb2, tb2, vb2, xx2, tl2, cc2, pp2, vl2⟩ := k2
  obtain ⟨rfl, rfl, rfl, rfl⟩ := f0
  obtain ⟨rfl, rfl, rfl, rfl⟩ := f1
  obtain ⟨rfl, rfl, rfl, rfl⟩ := f2
  refine tk_R (H1 := [_]) (r' := own vo ([lb0, lb1, lb2].length) ([lb0, lb1, lb2].map PT) 91 1) rfl rfl ?_
  have hli0 : LI (rq 1) (rq 2) (newS 100000) (lk0 0) 0 0 0 := ⟨at_new oM, lkw_new, by decide, Nat.le_refl _, by decide, fun q => by cases q⟩
  refine tk_ps [6] rfl <| tk_teamOut <| tk_H ([cel lb0 ((rq 1).map B ++ ((rq 2).map B ++ ((List.replicate 32 0).map B ++ ([PT tb0, PT sb, PT kb, I (((lk0 0).cl : Nat) : Int), I (((lk0 0).made : Nat) : Int), Str ((lk0 0).own), I (((lk0 0).asks : Nat) : Int), .bool ((lk0 0).want), Str ((lk0 0).next), .bool ((lk0 0).shown), I (((lk0 0).m.c : Nat) : Int), .bool ((lk0 0).m.a), I (((lk0 0).m.t : Nat) : Int)])))) 182, cel tb0 ([vb0, .int .u64 (((0 : Nat) : Nat) : Int), vl0]) 201, ownB vb0 [0] 5, ownB vl0 ((tapeL [0] (0 : Nat)).drop (0 : Nat)) 5, cel lb1 ((rq 1).map B ++ ((rq 2).map B ++ ((List.replicate 32 0).map B ++ ([PT tb1, PT sb, PT kb, I (((lk0 1).cl : Nat) : Int), I (((lk0 1).made : Nat) : Int), Str ((lk0 1).own), I (((lk0 1).asks : Nat) : Int), .bool ((lk0 1).want), Str ((lk0 1).next), .bool ((lk0 1).shown), I (((lk0 1).m.c : Nat) : Int), .bool ((lk0 1).m.a), I (((lk0 1).m.t : Nat) : Int)])))) 182, cel tb1 ([vb1, .int .u64 (((0 : Nat) : Nat) : Int), vl1]) 201, ownB vb1 [1] 5, ownB vl1 ((tapeL [1] (0 : Nat)).drop (0 : Nat)) 5, cel lb2 ((rq 1).map B ++ ((rq 2).map B ++ ((List.replicate 32 0).map B ++ ([PT tb2, PT sb, PT kb, I (((lk0 2).cl : Nat) : Int), I (((lk0 2).made : Nat) : Int), Str ((lk0 2).own), I (((lk0 2).asks : Nat) : Int), .bool ((lk0 2).want), Str ((lk0 2).next), .bool ((lk0 2).shown), I (((lk0 2).m.c : Nat) : Int), .bool ((lk0 2).m.a), I (((lk0 2).m.t : Nat) : Int)])))) 182, cel tb2 ([vb2, .int .u64 (((0 : Nat) : Nat) : Int), vl2]) 201, ownB vb2 [2] 5, ownB vl2 ((tapeL [2] (0 : Nat)).drop (0 : Nat)) 5, cel tw ([PT sb, PT kb, vo]) 97, own vo ([lb0, lb1, lb2].length) ([lb0, lb1, lb2].map PT) 91 1, cel kb ([I 0]) 178, cel sb ([Value.map (some mb), I ((newS 100000).left), .bool ((newS 100000).off), I ((newS 100000).made), I ((newS 100000).room)]) 192, mapS mb (kvO ((newS 100000).obs)), bag (((newS 100000).obs).map (obR 5))]) rfl <| q_m rfl rfl <| s_q rfl (y_extract rfl rfl) <| s_q rfl (y_extract rfl rfl) <| q_a rfl rfl <| q_a rfl rfl <| s_n <| tk_seq <| s_r <| q_m rfl rfl <| s_q rfl (y_not rfl) <| q_m rfl rfl <| s_g rfl (y_move rfl) <| s_g rfl (y_nilCheck rfl) <| s_g rfl (y_fldN (o := 0) 2 rfl kR) <| s_g rfl (y_load rfl rfl (hc (o := 2) (mm 12 rfl) (rfl))) <| s_g rfl (y_ixR (j := 0) rfl rfl hfo.choose_spec lenP kR) <| s_g rfl (y_load rfl rfl (fun w hw => ((fun w hw => own_rdS (hw.mem (mm 13 rfl))) w hw).cell (gM (f := PT) (d := 0) lenP))) <| tk_re 15 (.pointer (some ⟨[lb0, lb1, lb2].getD 0 0, 0, none⟩)) (PT lb0) rfl (rfl) <| tk_gact rfl <| tk_ps [3, 3, 3, 17, 17, 17, 17, 7] rfl <| a_callv [] _ rfl kR rfl (fun w' hw' => ltake_spec (b := false) (s := (newS 100000)) (k := 0) (now := 0) (mb := mb) (c := (0 : Nat)) (p := (0 : Nat)) (j := 0) (tl := [0]) (vb := vb0) (vl := vl0) (x := (lk0 0)) (hk := rq 1) (mk := rq 2) (nk := List.replicate 32 0) (tb := tb0) (sb := sb) (kb := kb) (lb := lb0) ⟨lenP, lenP, lenP⟩ ⟨rfl, rfl⟩ hli0 oM oM oM ⟨by omega, by omega⟩ oM dC (hg.call hw') (St.pre hw')) rfl fun ⟨⟨s16, x16, c16, p16, vl_16⟩, e16⟩ hz16 => ?_
  dsimp only at hz16 ⊢
  obtain ⟨he16, hq16, hx16, hl16, hli1⟩ := bars1 hli0 hz16
  dsimp only at hq16 hx16 hl16 hli1
  refine tk_gqe (.bool false) rfl rfl rfl (y_neq rfl rfl) (bool_f oM) <| s_q rfl (y_pick0 rfl rfl) <| q_m rfl rfl <| s_g rfl (y_move rfl) <| s_g rfl (y_nilCheck rfl) <| s_g rfl (y_fldN (o := 0) 2 rfl kR) <| s_g rfl (y_load rfl rfl (hc (o := 2) (mm 16 rfl) (rfl))) <| s_g rfl (y_ixR (j := 1) rfl rfl hfo.choose_spec lenP kR) <| s_g rfl (y_load rfl rfl (fun w hw => ((fun w hw => own_rdS (hw.mem (mm 17 rfl))) w hw).cell (gM (f := PT) (d := 0) lenP))) <| tk_re 25 (.pointer (some ⟨[lb0, lb1, lb2].getD 1 0, 0, none⟩)) (PT lb1) rfl (rfl) <| tk_gact rfl <| tk_ps [11, 11, 11, 7, 7, 7, 7, 11] rfl <| a_callv [] _ rfl kR rfl (fun w' hw' => ltake_spec (b := false) (s := s16) (k := 8020) (now := 0) (mb := mb) (c := (0 : Nat)) (p := (0 : Nat)) (j := 0) (tl := [1]) (vb := vb1) (vl := vl1) (x := (lk0 1)) (hk := rq 1) (mk := rq 2) (nk := List.replicate 32 0) (tb := tb1) (sb := sb) (kb := kb) (lb := lb1) ⟨lenP, lenP, lenP⟩ ⟨rfl, rfl⟩ hli1 oM oM oM ⟨by omega, by omega⟩ oM dC (hg.call hw') (St.pre hw')) rfl fun ⟨⟨s26, x26, c26, p26, vl_26⟩, e26⟩ hz26 => ?_
  dsimp only at hz26 ⊢
  obtain ⟨he26, hq26, hx26, hl26, hli2⟩ := bars2 hli1 hq16 hl16 hz26
  dsimp only at hq26 hx26 hl26 hli2
  refine tk_gqe (.bool false) rfl rfl rfl (y_neq rfl rfl) (bool_f oM) <| s_q rfl (y_pick0 rfl rfl) <| q_m rfl rfl <| s_g rfl (y_move rfl) <| s_g rfl (y_nilCheck rfl) <| s_g rfl (y_fldN (o := 0) 2 rfl kR) <| s_g rfl (y_load rfl rfl (hc (o := 2) (mm 16 rfl) (rfl))) <| s_g rfl (y_ixR (j := 2) rfl rfl hfo.choose_spec lenP kR) <| s_g rfl (y_load rfl rfl (fun w hw => ((fun w hw => own_rdS (hw.mem (mm 17 rfl))) w hw).cell (gM (f := PT) (d := 0) lenP))) <| tk_re 35 (.pointer (some ⟨[lb0, lb1, lb2].getD 2 0, 0, none⟩)) (PT lb2) rfl (rfl) <| tk_gact rfl <| tk_ps [15, 15, 15, 7, 7, 7, 7, 15] rfl <| a_callv [] _ rfl kR rfl (fun w' hw' => ltake_spec (b := true) (s := s26) (k := 16040) (now := 0) (mb := mb) (c := (0 : Nat)) (p := (0 : Nat)) (j := 0) (tl := [2]) (vb := vb2) (vl := vl2) (x := (lk0 2)) (hk := rq 1) (mk := rq 2) (nk := List.replicate 32 0) (tb := tb2) (sb := sb) (kb := kb) (lb := lb2) ⟨lenP, lenP, lenP⟩ ⟨rfl, rfl⟩ hli2 oM oM oM ⟨by omega, by omega⟩ oM dC (hg.call hw') (St.pre hw')) rfl fun ⟨⟨s36, x36, c36, p36, vl_36⟩, e36⟩ hz36 => ?_
  dsimp only at hz36 ⊢
  obtain ⟨he36, hq36, hx36, hl36, hli3⟩ := bars3 hli2 hq26 hl26 hz36
  dsimp only at hq36 hx36 hl36 hli3
  have hp36 : p36 ≤ 0 + 64 := hz36.tape.1
  refine tk_gqe (.bool false) rfl rfl rfl (y_neq rfl rfl) (bool_f oM) <| s_q rfl (y_pick0 rfl rfl) <| q_m rfl rfl <| s_g rfl (y_move rfl) <| s_g rfl (y_nilCheck rfl) <| s_g rfl (y_fldN (o := 0) 1 rfl kR) <| s_g rfl (y_load rfl rfl (hc (o := 1) (mm 16 rfl) (rfl))) <| tk_gact rfl <| tk_ps [1] rfl <| a_callv [] _ rfl kR rfl (fun w' hw' => tick_spec (now := 0) (n := 1001) (kb := kb) lenP (St.pre hw')) rfl fun _ _ => s_g rfl ((y_neq rfl rfl).cast (bool_f dC)) <| s_q rfl (y_pick0 rfl rfl) <| s_n <| tk_cond0 rfl <| tk_skip <| tk_then <| s_r <| q_m rfl rfl <| s_q rfl (y_nilCheck rfl) <| s_q rfl (y_fldN (o := 0) 2 rfl kR) <| s_q rfl (y_load rfl rfl (hc (o := 2) (mm 16 rfl) (rfl))) <| s_q rfl (y_ixR (j := 2) rfl rfl hfo.choose_spec lenP kR) <| s_q rfl (y_load rfl rfl (fun w hw => ((fun w hw => own_rdS (hw.mem (mm 17 rfl))) w hw).cell (gM (f := PT) (d := 0) lenP))) <| tk_re 52 (.pointer (some ⟨[lb0, lb1, lb2].getD 2 0, 0, none⟩)) (PT lb2) rfl (rfl) ?_; refine tk_act rfl <| tk_ps [7, 7, 7, 7, 7, 7, 6, 7] rfl <| a_callv [] _ rfl kR rfl (fun w' hw' => ltake_spec (b := true) (s := s36) (k := 24060) (now := 1001) (mb := mb) (c := c36) (p := p36) (j := 4) (tl := [2]) (vb := vb2) (vl := vl_36) (x := x36) (hk := rq 1) (mk := rq 2) (nk := List.replicate 32 0) (tb := tb2) (sb := sb) (kb := kb) (lb := lb2) ⟨lenP, lenP, lenP⟩ ⟨by rw [hx36]; rfl, by rw [hx36]; rfl⟩ hli3 oM oM oM ⟨hz36.tape.2.1, hz36.tape.2.2⟩ oM dC (hg.call hw') (St.pre hw')) rfl fun ⟨⟨s53, x53, c53, p53, vl_53⟩, e53⟩ hz53 => ?_
  dsimp only at hz53 ⊢
  have he53 := bars4 hli3 hq36 hl36 hx36 ⟨hz36.tape.2.1, hz36.tape.2.2⟩ hz53
  exact tk_qe (.bool true) rfl rfl rfl (y_eql rfl rfl) (bool_t oM) <| q_a rfl rfl <| s_n <| tk_retc <| tk_ret (()) (trivial) (.inl rfl) (r1 rfl rfl) (List.nil_sublist _)
end Go.Proofs.YtkkjfojgjmglpaaGreatDoor
set_option linter.unusedSimpArgs false
set_option linter.unusedVariables false
namespace Go.Proofs.YtkkjfojgjmglpaaGreatDoor
open Go
attribute [local irreducible] sealL tapeN tapeL lkName dfName preB
variable {hk mk tl : List UInt8} {s t : Sh} {x : Lk} {now c p N : Nat} {k : Int} {vl : Value} {L : List (List UInt8 × Mk)}
structure Wd (hk mk : List UInt8) (s : Sh) (now : Nat) (k : Int) (N : Nat) (L : List (List UInt8 × Mk)) : Prop where
  at_ : ShAt s k
  ok : LkW hk mk s now
  qt : Qt s N
  lst : Lst hk mk s now L
/-- a hand that asks for nothing -/
structure Rest (x : Lk) : Prop where
  cl : x.cl < 100
  asks : x.asks = 0
  next : x.next = []
  shown : x.shown = false
theorem Wd.mono {k' : Int} {N' : Nat} (h : Wd hk mk s now k N L) (hk' : k ≤ k') (hN : N ≤ N') : Wd hk mk s now k' N' L := ⟨h.at_.mono hk', h.ok, h.qt.mono hN, h.lst⟩
theorem Wd.later {d : Nat} (h : Wd hk mk s now k N L) (hd : now + d ≤ 1099511627776) : Wd hk mk s (now + d) k N L := ⟨h.at_, h.ok.later, h.qt, h.lst.later h.ok hd⟩
theorem HasL.has {n : List UInt8} {m : Mk} (h : HasL hk mk s now n m) : hasO s.obs n := by obtain ⟨_, _, b, h, _⟩ := h; exact (vw_some.1 h).1
end Go.Proofs.YtkkjfojgjmglpaaGreatDoor
set_option linter.unusedSimpArgs false
set_option linter.unusedVariables false
namespace Go.Proofs.YtkkjfojgjmglpaaGreatDoor
open Go
set_option maxHeartbeats 1000000
attribute [local irreducible] sealL tapeN tapeL lkName dfName preB
variable {hk mk tl : List UInt8} {s : Sh} {c p N : Nat} {vl : Value} {wl : Nat → Bool} {xs ys : Nat → Lk}
/-- a client in its round -/
def Cli (j : Nat) (w : Bool) (x : Lk) : Prop := x.cl = j ∧ x.made ≤ 1 ∧ (
  (x.asks = 0 ∧ x.own = [] ∧ x.next = [] ∧ x.shown = false) ∨
  (x.asks = 0 ∧ x.own = lkName j 0 ∧ x.m = ⟨j, w, 0⟩ ∧ x.next = [] ∧ x.shown = false) ∨
  (x.own = [] ∧ x.want = w ∧ (x.asks = 1 ∨ x.asks = 2) ∧ x.made = 0 ∧ x.shown = false ∧ x.next = []) ∨
  (x.own = [] ∧ x.want = w ∧ x.asks = 3 ∧ x.made = 0 ∧ x.shown = false ∧ x.next = lkName j 0 ∧ x.m = ⟨j, w, 0⟩) ∨
  (x.own = [] ∧ x.want = w ∧ x.asks = 4 ∧ x.made = 1 ∧ x.shown = true ∧ x.next = lkName j 0 ∧ x.m = ⟨j, w, 0⟩))
def Shows (x : Lk) : Prop := x.asks = 4 ∨ ¬ x.own = []
theorem lkName_ne' {c n : Nat} : lkName c n ≠ [] := fun h => by
  have := congrArg List.length h
  unfold lkName at this
  simp at this
/-- the clients, their store -/
structure RW (hk mk : List UInt8) (wl : Nat → Bool) (xs : Nat → Lk) (s : Sh) : Prop where
  ok : LkW hk mk s 0
  lst : ∀ n m, HasL hk mk s 0 n m ↔ ∃ j, j < 5 ∧ Shows (xs j) ∧ n = lkName j 0 ∧ m = ⟨j, wl j, 0⟩
  df : ∀ j, j < 5 → (xs j).asks = 3 → ∃ b, vw s (dfName j) = some b ∧ MkAt hk mk 0 (lkName j 0) b ⟨j, wl j, 0⟩
  cli : ∀ j, j < 5 → Cli j (wl j) (xs j)
  apart : ∀ i j, i < 5 → j < 5 → i ≠ j → ¬ (xs i).own = [] → ¬ (xs j).own = [] → wl i = false ∧ wl j = false
theorem df_inj {i j : Nat} (hi : i < 100) (hj : j < 100) (h : dfName i = dfName j) : i = j := by
  unfold dfName at h
  exact cdg_inj hi hj (List.append_cancel_left h)
theorem rw_conf (h : RW hk mk wl xs s) {i : Nat} (hi : i < 5) : Conf hk mk s 0 i (wl i) ↔ ∃ j, j < 5 ∧ j ≠ i ∧ Shows (xs j) ∧ (wl i = true ∨ wl j = true) := by
  constructor
  · rintro ⟨n, m, h1, h2, _, h3⟩
    obtain ⟨j, hj, hs, rfl, rfl⟩ := (h.lst n m).1 h1
    exact ⟨j, hj, h2, hs, h3⟩
  · rintro ⟨j, hj, hne, hs, h3⟩
    exact ⟨lkName j 0, ⟨j, wl j, 0⟩, (h.lst _ _).2 ⟨j, hj, hs, rfl, rfl⟩, hne, by unfold holdsP; omega, h3⟩
/-- one client's hand is another one, its locks as before -/
theorem rw_same {i : Nat} {t : Sh} (h : RW hk mk wl xs s) (hi : i < 5) (hy : ∀ j, j ≠ i → ys j = xs j) (hc : Cli i (wl i) (ys i)) (hs : Shows (ys i) ↔ Shows (xs i)) (ho : ¬ (ys i).own = [] → ¬ (xs i).own = []) (hv : ∀ n, (∀ j, j < 5 → j = i → n ≠ dfName j) → vw t n = vw s n)
    (hd : (ys i).asks = 3 → ∃ b, vw t (dfName i) = some b ∧ MkAt hk mk 0 (lkName i 0) b ⟨i, wl i, 0⟩) : RW hk mk wl ys t := by
  have hv1 : ∀ n, preB [108, 47] n = true → vw t n = vw s n := fun n hn => hv n (fun j _ _ e => by rw [e, dfName_pre] at hn; cases hn)
  have hs2 : ∀ j, Shows (ys j) ↔ Shows (xs j) := fun j => by
    by_cases e : j = i
    · subst e; exact hs
    · rw [hy j e]
  refine ⟨h.ok.sub (fun n hn => .inl (hv1 n hn)), fun n m => ?_, fun j hj h3 => ?_, fun j hj => ?_, fun a b ha hb hab q1 q2 => ?_⟩
  · have e1 : HasL hk mk t 0 n m ↔ HasL hk mk s 0 n m := ⟨fun q => q.vw (hv1 n q.2.1).symm, fun q => q.vw (hv1 n q.2.1)⟩
    rw [e1, h.lst]
    constructor <;> rintro ⟨j, q1, q2, q3⟩
    · exact ⟨j, q1, (hs2 j).2 q2, q3⟩
    · exact ⟨j, q1, (hs2 j).1 q2, q3⟩
  · by_cases e : j = i
    · subst e; exact hd h3
    · rw [hy j e] at h3
      obtain ⟨b, q1, q2⟩ := h.df j hj h3
      exact ⟨b, by rw [hv _ (fun j' _ e' => by subst e'; exact fun r => e (df_inj (by omega) (by omega) r))]; exact q1, q2⟩
  · by_cases e : j = i
    · subst e; exact hc
    · rw [hy j e]; exact h.cli j hj
  · have o : ∀ j, ¬ (ys j).own = [] → ¬ (xs j).own = [] := fun j q => by
      by_cases e : j = i
      · subst e; exact ho q
      · rw [hy j e] at q; exact q
    exact h.apart a b ha hb hab (o a q1) (o b q2)
/-- what a step of client i leaves -/
structure RcQ (hk mk : List UInt8) (wl : Nat → Bool) (xs ys : Nat → Lk) (t : Sh) (i e N : Nat) (d : Bool) : Prop where
  rw_ : RW hk mk wl ys t
  qt : Qt t (N + 1)
  code : e = 0 ∨ (e = 12 ∧ d = true)
  has : ¬ (ys i).own = [] ↔ (d = true ∧ e = 0)
  done : (ys i).asks = (if d = true then 0 else (xs i).asks + 1)
  lone : ¬ (ys i).own = [] → (ys i).m.a = wl i
theorem race_step {i : Nat} {z : Stp} (h : RW hk mk wl xs s) (hi : i < 5) (h1 : 1 ≤ (xs i).asks) (hq : Qt s N) (hN : N < 400) (hy : ∀ j, j ≠ i → ys j = xs j) (hyi : ys i = stepY z) (hz : StepR hk mk tl (moOf hk mk s 0) s (xs i) 0 c p vl z) : RcQ hk mk wl xs ys (stepT z) i z.e N (fin z) := by
  obtain ⟨hcl, hmd, hc⟩ := h.cli i hi
  have hcf := rw_conf h hi
  rcases hc with ⟨q, _⟩ | ⟨q, _⟩ | ⟨o, w, ha, m0, sh, nx⟩ | ⟨o, w, ha, m0, sh, nx, mm⟩ | ⟨o, w, ha, m1, sh, nx, mm⟩
  · omega
  · omega
  · rcases ha with ha | ha
    · -- the first step: is there one that it would meet?
      obtain ⟨f1, f2, f3, f4⟩ := step1_q h.ok (by omega) hq ha hz
      rw [hcl, w] at f3 f4
      by_cases hcc : Conf hk mk s 0 i (wl i)
      · have e := f3 hcc
        have hf := fin_e (z := z) (by omega)
        have hY : ys i = (xs i).done := by rw [hyi, stepY_end (.inl (by omega)), f2]
        have hT : stepT z = s := by rw [stepT, f2, if_neg (fun r => by rw [sh] at r; cases r.2), f1]
        have ho : (ys i).own = [] := by rw [hY]; exact o
        refine ⟨?_, by rw [hT]; exact hq.mono (by omega), .inr ⟨e, hf⟩, ?_, ?_, fun r => (r ho).elim⟩
        · rw [hT]
          refine rw_same h hi hy ⟨by rw [hY]; exact hcl, by rw [hY]; exact hmd, .inl ⟨by rw [hY]; rfl, ho, by rw [hY]; rfl, by rw [hY]; rfl⟩⟩ ?_ (fun r => (r ho).elim) (fun _ _ => rfl) (fun r => by rw [hY] at r; cases r)
          unfold Shows; rw [ho, o, ha, show (ys i).asks = 0 by rw [hY]; rfl]; simp
        · exact ⟨fun r => (r ho).elim, fun r => by omega⟩
        · rw [hY, hf, if_pos rfl]; rfl
      · have e := f4 hcc
        have hf := fin_no e (by rw [f2]; omega)
        have hY : ys i = (xs i).on := by rw [hyi, stepY_on e (by rw [f2]; omega), f2]
        have hT : stepT z = s := by rw [stepT_no e, f1]
        have ho : (ys i).own = [] := by rw [hY]; exact o
        have hasY : (ys i).asks = 2 := by rw [hY]; show (xs i).asks + 1 = 2; omega
        refine ⟨?_, by rw [hT]; exact hq.mono (by omega), .inl e, ?_, ?_, fun r => (r ho).elim⟩
        · rw [hT]
          refine rw_same h hi hy ⟨by rw [hY]; exact hcl, by rw [hY]; exact hmd, .inr (.inr (.inl ⟨ho, by rw [hY]; exact w, .inr hasY, by rw [hY]; exact m0, by rw [hY]; exact sh, by rw [hY]; exact nx⟩))⟩ ?_ (fun r => (r ho).elim) (fun _ _ => rfl) (fun r => by omega)
          unfold Shows; rw [ho, o, ha, hasY]; simp
        · exact ⟨fun r => (r ho).elim, fun r => by rw [hf] at r; cases r.1⟩
        · rw [hf, if_neg (by decide), hasY, ha]
    · -- the second: the draft
      obtain ⟨e, f2, f3, f4, f5⟩ := step2_q (by omega) (by omega) hq hN ha hz
      have f3o := f3
      rw [hcl, m0, w] at f3 f4
      rw [hcl] at f5
      have hf := fin_no e (by rw [f3]; dsimp only; omega)
      have hY : ys i = { xs i with asks := 3, next := lkName i 0, m := ⟨i, wl i, 0⟩ } := by rw [hyi, stepY_on e (by rw [f3]; dsimp only; omega), f3o]; simp [Lk.on, ha, hcl, m0, w]
      have hT : stepT z = z.t := stepT_no e
      have ho : (ys i).own = [] := by rw [hY]; exact o
      have hasY : (ys i).asks = 3 := by rw [hY]
      refine ⟨?_, by rw [hT]; exact f2, .inl e, ?_, ?_, fun r => (r ho).elim⟩
      · rw [hT]
        refine rw_same h hi hy ⟨by rw [hY]; exact hcl, by rw [hY]; exact hmd, .inr (.inr (.inr (.inl ⟨ho, by rw [hY]; exact w, hasY, by rw [hY]; exact m0, by rw [hY]; exact sh, by rw [hY], by rw [hY]⟩)))⟩ ?_ (fun r => (r ho).elim) (fun n hn => f5 n (hn i hi rfl)) (fun _ => f4)
        unfold Shows; rw [ho, o, ha, hasY]; simp
      · exact ⟨fun r => (r ho).elim, fun r => by rw [hf] at r; cases r.1⟩
      · rw [hf, if_neg (by decide), hasY, ha]
  · -- the third: it is shown
    obtain ⟨b, d1, d2⟩ := h.df i hi ha
    obtain ⟨e, f2, f3, f4, f5, f6⟩ := step3_q (by omega) (by omega) (by rw [nx, hcl, m0]) (by rw [hcl]; exact (vw_some.1 d1).1) hq ha hz
    rw [hcl] at f4 f5 f6
    rw [nx] at f4 f6
    have hf := fin_no e (by rw [f3]; dsimp only; omega)
    have hY : ys i = { xs i with asks := 4, made := 1, shown := true } := by rw [hyi, stepY_on e (by rw [f3]; dsimp only; omega), f3]; simp [Lk.on, ha, m0]
    have hT : stepT z = z.t := stepT_no e
    have ho : (ys i).own = [] := by rw [hY]; exact o
    have hasY : (ys i).asks = 4 := by rw [hY]
    have hsx : ¬ Shows (xs i) := fun r => r.elim (fun r => by omega) (fun r => r o)
    have hsy : Shows (ys i) := .inl hasY
    have hv : ∀ n, preB [108, 47] n = true → n ≠ lkName i 0 → vw z.t n = vw s n := fun n hn h2 => f6 n (fun r => by rw [r, dfName_pre] at hn; cases hn) h2
    have mine : HasL hk mk z.t 0 (lkName i 0) ⟨i, wl i, 0⟩ := ⟨name_small (by omega), lkName_pre, b, f4.trans d1, d2⟩
    refine ⟨?_, by rw [hT]; exact f2.mono (by omega), .inl e, ?_, ?_, fun r => (r ho).elim⟩
    · rw [hT]
      refine ⟨fun n bb hb hp => ?_, fun n m => ?_, fun j hj h3 => ?_, fun j hj => ?_, fun a b' ha' hb' hab q1 q2 => ?_⟩
      · by_cases en : n = lkName i 0
        · subst en
          obtain ⟨q1, q2, b2, q3, q4⟩ := mine
          rw [hb] at q3; cases q3
          exact ⟨q1, _, q4⟩
        · exact h.ok n bb (by rw [← hv n hp en]; exact hb) hp
      · constructor
        · intro q
          by_cases en : n = lkName i 0
          · subst en
            exact ⟨i, hi, hsy, rfl, q.one (by omega) mine⟩
          · obtain ⟨j, q1, q2, q3, q4⟩ := (h.lst n m).1 (q.vw (hv n q.2.1 en).symm)
            have hji : j ≠ i := fun r => by subst r; exact hsx q2
            exact ⟨j, q1, by rw [hy j hji]; exact q2, q3, q4⟩
        · rintro ⟨j, q1, q2, q3, q4⟩
          by_cases hji : j = i
          · subst hji; rw [q3, q4]; exact mine
          · rw [hy j hji] at q2
            have h9 := (h.lst n m).2 ⟨j, q1, q2, q3, q4⟩
            exact h9.vw (hv n h9.2.1 (fun r => by rw [q3] at r; exact hji (lkName_inj (by omega) (by omega) (by omega) (by omega) r).1))
      · have hji : j ≠ i := fun r => by subst r; omega
        rw [hy j hji] at h3
        obtain ⟨bb, q1, q2⟩ := h.df j hj h3
        exact ⟨bb, by rw [f6 _ (fun r => hji (df_inj (by omega) (by omega) r)) df_lk]; exact q1, q2⟩
      · by_cases hji : j = i
        · subst hji
          exact ⟨by rw [hY]; exact hcl, by rw [hY]; exact Nat.le_refl _, .inr (.inr (.inr (.inr ⟨ho, by rw [hY]; exact w, hasY, by rw [hY], by rw [hY], by rw [hY]; exact nx, by rw [hY]; exact mm⟩)))⟩
        · rw [hy j hji]; exact h.cli j hj
      · have hai : a ≠ i := fun r => by subst r; exact q1 ho
        have hbi : b' ≠ i := fun r => by subst r; exact q2 ho
        rw [hy a hai] at q1
        rw [hy b' hbi] at q2
        exact h.apart a b' ha' hb' hab q1 q2
    · exact ⟨fun r => (r ho).elim, fun r => by rw [hf] at r; cases r.1⟩
    · rw [hf, if_neg (by decide), hasY, ha]
  · -- the last: is it alone?
    obtain ⟨f1, f2, _⟩ := step4_q h.ok (by omega) hq ha hz
    have f2o := f2
    rw [hcl, w] at f1 f2
    have hf : fin z = true := by
      have : z.y.asks = 4 := by rw [(stepR_x hz).1, ha]
      exact decide_eq_true (.inr (by omega))
    have hsx : Shows (xs i) := .inl ha
    by_cases hcc : Conf hk mk s 0 i (wl i)
    · obtain ⟨e, e1, e2⟩ := f1 hcc
      have hY : ys i = (xs i).done := by rw [hyi, stepY_end (.inl (by omega)), e2]
      have hT : stepT z = (s.del (lkName i 0)).1 := by rw [stepT, if_pos ⟨by omega, by rw [e2]; exact sh⟩, e1, e2, nx]
      have ho : (ys i).own = [] := by rw [hY]; exact o
      have hasY : (ys i).asks = 0 := by rw [hY]; rfl
      have hsy : ¬ Shows (ys i) := fun r => r.elim (fun r => by omega) (fun r => r ho)
      have hin := (h.lst (lkName i 0) ⟨i, wl i, 0⟩).2 ⟨i, hi, hsx, rfl, rfl⟩
      obtain ⟨_, g1, g2⟩ := del_q (a := lkName i 0) hq
      have g1 := g1 hin.has
      have hv : ∀ n, vw (s.del (lkName i 0)).1 n = if n = lkName i 0 then none else vw s n := fun n => by rw [vw_del]; simp [g1]
      refine ⟨?_, by rw [hT]; exact g2.mono (by omega), .inr ⟨e, hf⟩, ?_, ?_, fun r => (r ho).elim⟩
      · rw [hT]
        refine ⟨h.ok.sub (fun n _ => sub_del), fun n m => ?_, fun j hj h3 => ?_, fun j hj => ?_, fun a b' ha' hb' hab q1 q2 => ?_⟩
        · constructor
          · intro q
            have hne : n ≠ lkName i 0 := fun r => by obtain ⟨_, _, bb, q, _⟩ := q; rw [hv, if_pos r] at q; cases q
            obtain ⟨j, q1, q2, q3, q4⟩ := (h.lst n m).1 (q.vw (by rw [hv, if_neg hne]))
            have hji : j ≠ i := fun r => by subst r; exact hne q3
            exact ⟨j, q1, by rw [hy j hji]; exact q2, q3, q4⟩
          · rintro ⟨j, q1, q2, q3, q4⟩
            have hji : j ≠ i := fun r => by subst r; exact hsy q2
            rw [hy j hji] at q2
            have h9 := (h.lst n m).2 ⟨j, q1, q2, q3, q4⟩
            exact h9.vw (by rw [hv, if_neg (fun r => by rw [q3] at r; exact hji (lkName_inj (by omega) (by omega) (by omega) (by omega) r).1)])
        · have hji : j ≠ i := fun r => by subst r; omega
          rw [hy j hji] at h3
          obtain ⟨bb, q1, q2⟩ := h.df j hj h3
          exact ⟨bb, by rw [hv, if_neg df_lk]; exact q1, q2⟩
        · by_cases hji : j = i
          · subst hji
            exact ⟨by rw [hY]; exact hcl, by rw [hY]; exact hmd, .inl ⟨hasY, ho, by rw [hY]; rfl, by rw [hY]; rfl⟩⟩
          · rw [hy j hji]; exact h.cli j hj
        · have hai : a ≠ i := fun r => by subst r; exact q1 ho
          have hbi : b' ≠ i := fun r => by subst r; exact q2 ho
          rw [hy a hai] at q1
          rw [hy b' hbi] at q2
          exact h.apart a b' ha' hb' hab q1 q2
      · exact ⟨fun r => (r ho).elim, fun r => by omega⟩
      · rw [hf, if_pos rfl, hasY]
    · obtain ⟨e, e1, e2, e3⟩ := f2 hcc
      have e2o := (f2o (by rw [hcl, w]; exact hcc)).2.2.1
      have hY : ys i = { xs i with own := lkName i 0, asks := 0, next := [], shown := false } := by rw [hyi, stepY_end (.inr (by rw [(stepR_x hz).1, ha]; omega)), e2o, nx]; rfl
      have hT : stepT z = z.t := stepT_no e
      have ho : ¬ (ys i).own = [] := by rw [hY]; exact lkName_ne'
      have hasY : (ys i).asks = 0 := by rw [hY]
      have hv : ∀ n, vw z.t n = vw s n := fun n => by
        rcases e3 n with r | ⟨_, _, m, r1, _, r3⟩
        · exact r
        · obtain ⟨j, _, _, _, r4⟩ := (h.lst n m).1 r1
          exact (r3 (by rw [r4]; unfold holdsP; omega)).elim
      have hno : ∀ j, j < 5 → j ≠ i → Shows (xs j) → wl i = false ∧ wl j = false := fun j hj hji hs => by
        have := fun r => hcc (hcf.2 ⟨j, hj, hji, hs, r⟩)
        cases hwi : wl i <;> cases hwj : wl j <;> simp_all
      refine ⟨?_, by rw [hT]; exact e1.mono (by omega), .inl e, ⟨fun _ => ⟨hf, e⟩, fun _ => ho⟩, by rw [hf, if_pos rfl, hasY], fun _ => by rw [hY]; show (xs i).m.a = _; rw [mm]⟩
      rw [hT]
      refine ⟨h.ok.sub (fun n _ => .inl (hv n)), fun n m => ?_, fun j hj h3 => ?_, fun j hj => ?_, fun a b' ha' hb' hab q1 q2 => ?_⟩
      · have e1 : HasL hk mk z.t 0 n m ↔ HasL hk mk s 0 n m := ⟨fun q => q.vw (hv n).symm, fun q => q.vw (hv n)⟩
        rw [e1, h.lst]
        have hs2 : ∀ j, Shows (ys j) ↔ Shows (xs j) := fun j => by
          by_cases r : j = i
          · subst r; exact ⟨fun _ => hsx, fun _ => .inr ho⟩
          · rw [hy j r]
        constructor <;> rintro ⟨j, q1, q2, q3⟩
        · exact ⟨j, q1, (hs2 j).2 q2, q3⟩
        · exact ⟨j, q1, (hs2 j).1 q2, q3⟩
      · have hji : j ≠ i := fun r => by subst r; omega
        rw [hy j hji] at h3
        obtain ⟨bb, q1, q2⟩ := h.df j hj h3
        exact ⟨bb, by rw [hv]; exact q1, q2⟩
      · by_cases hji : j = i
        · subst hji
          exact ⟨by rw [hY]; exact hcl, by rw [hY]; exact hmd, .inr (.inl ⟨hasY, by rw [hY], by rw [hY]; exact mm, by rw [hY], by rw [hY]⟩)⟩
        · rw [hy j hji]; exact h.cli j hj
      · by_cases hai : a = i
        · have hbi : b' ≠ i := fun r => hab (hai.trans r.symm)
          rw [hy b' hbi] at q2
          subst hai
          exact hno b' hb' hbi (.inr q2)
        · rw [hy a hai] at q1
          by_cases hbi : b' = i
          · subst hbi
            exact (hno a ha' hai (.inr q1)).symm
          · rw [hy b' hbi] at q2
            exact h.apart a b' ha' hb' hab q1 q2
end Go.Proofs.YtkkjfojgjmglpaaGreatDoor
set_option linter.unusedSimpArgs false
set_option linter.unusedVariables false
namespace Go.Proofs.YtkkjfojgjmglpaaGreatDoor
open Go Go.RowKit
set_option maxRecDepth 100000
set_option maxHeartbeats 1000000
attribute [local irreducible] sumL keyedL hexL strL sealF sealL tapeL tapeN lkName dfName preB
def modU (z : Int) : Nat := (z % 18446744073709551616).toNat
section
variable {L : Sl} {P : Program} {n : Nat} {S : World → Prop} {dst : Option Tmp} {rty : TypeId} {pos : String} {af : Array Edge} {gd : Option (Nat × Bool)} {t t' : TypeId} {x : Operand}
theorem y_convU {k' : IntKind} {z : Int} (hx : ev L x = some (.int k' z)) (hs : (P.underlying t).isSome = true) (hd : P.underlying t' = some (.int .u64)) : Y P n S L ⟨dst, .convert t t' x, rty, pos, af, gd⟩ (.int .u64 ((modU z : Nat) : Int)) :=
  (y_conv hx hs hd).cast (by rw [IntKind.wrap_u64, modU, Int.toNat_of_nonneg (Int.emod_nonneg _ dC)])
end
/-- a hand, its tape -/
structure Ht where
  x : Lk
  c : Nat
  p : Nat
  vl : Value
end Go.Proofs.YtkkjfojgjmglpaaGreatDoor
set_option linter.unusedSimpArgs false
set_option linter.unusedVariables false
namespace Go.Proofs.YtkkjfojgjmglpaaGreatDoor
open Go
set_option maxHeartbeats 1000000
attribute [local irreducible] sealL tapeN tapeL lkName dfName preB
def xsOf (cs : List Cl) (j : Nat) : Lk := (cs.getD j dCl).x
def wlOf (w : List Bool) (j : Nat) : Bool := w.getD j false
theorem getD_set {α : Type} {l : List α} {i j : Nat} {a d : α} (hi : i < l.length) : (l.set i a).getD j d = if j = i then a else l.getD j d := by
  rw [List.getD_eq_getElem?_getD, List.getElem?_set]
  by_cases e : j = i
  · subst e; rw [if_pos rfl, if_pos hi, if_pos rfl]; rfl
  · rw [if_neg (fun h => e h.symm), if_neg e, List.getD_eq_getElem?_getD]
theorem set_self {α : Type} {l : List α} {i : Nat} {d k : α} (h : l.getD i d = k) : l.set i k = l := by
  subst h
  by_cases hi : i < l.length
  · apply List.ext_getElem?
    intro j
    rw [List.getElem?_set]
    split
    · next e => subst e; rw [List.getD_eq_getElem?_getD, List.getElem?_eq_getElem hi]; rfl
    · rfl
  · rw [List.set_eq_of_length_le (by omega)]
theorem lbs_get {cs : List Cl} {i : Nat} {k : Cl} (h : cs.getD i dCl = k) : (cs.map Cl.lb).getD i 0 = k.lb := by
  subst h
  by_cases hi : i < cs.length
  · simp [List.getD_eq_getElem?_getD, hi]
  · simp [List.getD_eq_getElem?_getD, List.getElem?_eq_none (Nat.le_of_not_lt hi), dCl]
theorem lbs_set {cs : List Cl} {i : Nat} {k k' : Cl} (h : cs.getD i dCl = k) (he : k'.lb = k.lb) : (cs.set i k').map Cl.lb = cs.map Cl.lb := by
  have : (cs.set i k').map Cl.lb = (cs.map Cl.lb).set i k'.lb := List.map_set.symm ▸ rfl
  rw [this, he, ← lbs_get h]
  exact set_self (d := 0) rfl
/-- the first loop: all ask -/
structure AskI (cs0 : List Cl) (i : Nat) (cs : List Cl) (w a : List Bool) : Prop where
  i5 : i ≤ 5
  lc : cs.length = 5
  lw : w.length = 5
  la : a.length = 5
  lbs : cs.map Cl.lb = cs0.map Cl.lb
  tape : ∀ j, j < 5 → (cs.getD j dCl).tl = [UInt8.ofNat j] ∧ (cs.getD j dCl).c = 0 ∧ (cs.getD j dCl).p = 0
  did : ∀ j, j < i → (cs.getD j dCl).x = (lk0 j).asked (w.getD j false) ∧ a.getD j false = true
  wait : ∀ j, i ≤ j → j < 5 → (cs.getD j dCl).x = lk0 j
theorem ask_0 {cs : List Cl} (h : cs.length = 5) (hf : Fresh cs) : AskI cs 0 cs (List.replicate 5 false) (List.replicate 5 false) :=
  ⟨by omega, h, rfl, rfl, rfl, fun j hj => (hf j (by omega)).2, fun j hj => by omega, fun j _ hj => (hf j (by omega)).1⟩
theorem ask_next {cs0 cs : List Cl} {i : Nat} {w a : List Bool} {k k' : Cl} {b : Bool} (h : AskI cs0 i cs w a) (hi : i < 5) (hk : cs.getD i dCl = k) (e1 : k'.lb = k.lb) (e2 : k'.tl = k.tl) (e3 : k'.c = k.c) (e4 : k'.p = k.p) (e5 : k'.x = k.x.asked b) : AskI cs0 (i + 1) (cs.set i k') (w.set i b) (a.set i true) := by
  have hc := h.lc
  have hw := h.lw
  have ha := h.la
  refine ⟨by omega, by rw [List.length_set]; exact hc, by rw [List.length_set]; exact hw, by rw [List.length_set]; exact ha, (lbs_set hk e1).trans h.lbs, fun j hj => ?_, fun j hj => ?_, fun j h1 h2 => ?_⟩
  · rw [getD_set (by omega)]
    by_cases e : j = i
    · subst e; rw [if_pos rfl, e2, e3, e4, ← hk]; exact h.tape j hj
    · rw [if_neg e]; exact h.tape j hj
  · rw [getD_set (by omega), getD_set (by omega), getD_set (by omega)]
    by_cases e : j = i
    · subst e
      rw [if_pos rfl, if_pos rfl, if_pos rfl, e5, ← hk, h.wait j (Nat.le_refl _) (by omega)]; exact ⟨rfl, rfl⟩
    · rw [if_neg e, if_neg e, if_neg e]; exact h.did j (by omega)
  · rw [getD_set (by omega), if_neg (by omega)]
    exact h.wait j (by omega) h2
/-- the second loop: step by step -/
structure RcI (cs0 : List Cl) (w : List Bool) (n : Nat) (s : Sh) (cs : List Cl) (a h : List Bool) : Prop where
  n60 : n ≤ 60
  lc : cs.length = 5
  lw : w.length = 5
  la : a.length = 5
  lh : h.length = 5
  lbs : cs.map Cl.lb = cs0.map Cl.lb
  rw_ : RW (rq 1) (rq 2) (wlOf w) (xsOf cs) s
  qt : Qt s n
  at_ : ShAt s (2005 * n)
  asks : ∀ j, j < 5 → (a.getD j false = true ↔ ¬ (xsOf cs j).asks = 0)
  has : ∀ j, j < 5 → (h.getD j false = true ↔ ¬ (xsOf cs j).own = [])
  tape : ∀ j, j < 5 → (cs.getD j dCl).tl = [UInt8.ofNat j] ∧ ((cs.getD j dCl).p ≤ 32 * (cs.getD j dCl).c ∧ 32 * (cs.getD j dCl).c < (cs.getD j dCl).p + 32) ∧ (cs.getD j dCl).p ≤ 16 * n
  late : 40 ≤ n → ∀ j, j < 5 → ¬ (xsOf cs j).asks = 0 → 1 + (n + 4 - j - 40) / 5 ≤ (xsOf cs j).asks
theorem rc_0 {cs0 cs : List Cl} {w a : List Bool} (h : AskI cs0 5 cs w a) : RcI cs0 w 0 (newS 100000) cs a (List.replicate 5 false) := by
  have hx : ∀ j, j < 5 → xsOf cs j = (lk0 j).asked (w.getD j false) := fun j hj => (h.did j hj).1
  refine ⟨by omega, h.lc, h.lw, h.la, rfl, h.lbs, ⟨lkw_new, fun n m => ?_, fun j hj h3 => ?_, fun j hj => ?_, fun i j hi hj _ _ q => ?_⟩, qt_new, at_new (by omega), fun j hj => ?_, fun j hj => ?_, fun j hj => ?_, fun q => by omega⟩
  · constructor
    · intro q; exact nomatch (lst_new n m).1 q
    · rintro ⟨j, hj, q, _⟩
      rw [hx j hj] at q
      rcases q with q | q
      · cases q
      · exact (q rfl).elim
  · rw [hx j hj] at h3; cases h3
  · rw [hx j hj]
    exact ⟨rfl, Nat.zero_le _, .inr (.inr (.inl ⟨rfl, rfl, .inl rfl, rfl, rfl, rfl⟩))⟩
  · rw [hx j hj] at q; exact (q rfl).elim
  · rw [(h.did j hj).2, hx j hj]; exact ⟨fun _ => (by decide : ¬ 1 = 0), fun _ => rfl⟩
  · rw [hx j hj]
    constructor
    · intro q; exact absurd q (by rcases j with _ | _ | _ | _ | _ | j <;> first | decide | omega)
    · intro q; exact (q rfl).elim
  · obtain ⟨q1, q2, q3⟩ := h.tape j hj
    rw [q2, q3]; exact ⟨q1, ⟨by omega, by omega⟩, by omega⟩
theorem RcI.own {cs0 cs : List Cl} {w a h : List Bool} {n : Nat} {s : Sh} (hI : RcI cs0 w n s cs a h) {i : Nat} (hi : i < 5) : (xsOf cs i).cl = i ∧ (xsOf cs i).made ≤ 1 ∧ (xsOf cs i).asks ≤ 4 ∧ (xsOf cs i).next.length < 1000 := by
  obtain ⟨q1, q2, q⟩ := hI.rw_.cli i hi
  have hln : (lkName i 0).length < 1000 := by have := name_small (n := 0) (show i < 100 by omega); omega
  refine ⟨q1, q2, ?_, ?_⟩
  · rcases q with q | q | q | q | q
    · omega
    · omega
    · obtain ⟨_, _, q, _⟩ := q; omega
    · obtain ⟨_, _, q, _⟩ := q; omega
    · obtain ⟨_, _, q, _⟩ := q; omega
  · rcases q with q | q | q | q | q
    · rw [q.2.2.1]; exact Nat.zero_lt_succ _
    · rw [q.2.2.2.1]; exact Nat.zero_lt_succ _
    · rw [q.2.2.2.2.2]; exact Nat.zero_lt_succ _
    · rw [q.2.2.2.2.2.1]; exact hln
    · rw [q.2.2.2.2.2.1]; exact hln
/-- a client that is through is stepped: nothing -/
theorem rc_idle {cs0 cs : List Cl} {w a h : List Bool} {n i : Nat} {s : Sh} (hI : RcI cs0 w n s cs a h) (hn : n < 60) (hi : i < 5) (hl : 40 ≤ n → i = n % 5) (h0 : (xsOf cs i).asks = 0) : RcI cs0 w (n + 1) s cs a h :=
  ⟨by omega, hI.lc, hI.lw, hI.la, hI.lh, hI.lbs, hI.rw_, hI.qt.mono (by omega), hI.at_.mono (by omega), hI.asks, hI.has, fun j hj => ⟨(hI.tape j hj).1, (hI.tape j hj).2.1, by have := (hI.tape j hj).2.2; omega⟩, fun q j hj hj0 => by
    by_cases e : j = i
    · subst e; exact (hj0 h0).elim
    · by_cases q40 : 40 ≤ n
      · have := hI.late q40 j hj hj0
        have := hl q40
        omega
      · have : n = 39 := by omega
        subst this
        have : 1 ≤ (xsOf cs j).asks := by omega
        omega⟩
theorem rc_next {cs0 cs : List Cl} {w a h : List Bool} {n i c p : Nat} {s : Sh} {vl : Value} {z : Stp} {k k' : Cl} (hI : RcI cs0 w n s cs a h) (hn : n < 60) (hi : i < 5) (hl : 40 ≤ n → i = n % 5) (h0 : ¬ (xsOf cs i).asks = 0) (hk : cs.getD i dCl = k) (e1 : k'.lb = k.lb) (e2 : k'.tl = k.tl) (e3 : k'.c = z.c) (e4 : k'.p = z.p) (e5 : k'.x = stepY z) (hc : c = k.c) (hp : p = k.p)
    {tl : List UInt8} (hz : StepR (rq 1) (rq 2) tl (moOf (rq 1) (rq 2) s 0) s k.x 0 c p vl z) :
    RcI cs0 w (n + 1) (stepT z) (cs.set i k') (a.set i (!fin z)) (h.set i (decide (¬ (stepY z).own = []))) ∧ (z.e = 0 ∨ (z.e = 12 ∧ fin z = true)) ∧ (¬ (stepY z).own = [] ↔ (fin z = true ∧ z.e = 0)) ∧ (¬ (stepY z).own = [] → (stepY z).m.a = w.getD i false) := by
  have l1 := hI.lc
  have l2 := hI.la
  have l3 := hI.lh
  subst hc hp
  have hx : xsOf cs i = k.x := by unfold xsOf; rw [hk]
  have hyj : ∀ j, j ≠ i → xsOf (cs.set i k') j = xsOf cs j := fun j hj => by unfold xsOf; rw [getD_set (by omega), if_neg hj]
  have hyi : xsOf (cs.set i k') i = stepY z := by unfold xsOf; rw [getD_set (by omega), if_pos rfl, e5]
  have hS := race_step (ys := xsOf (cs.set i k')) hI.rw_ hi (by omega) hI.qt (by omega) hyj hyi (by rw [hx]; exact hz)
  have hap := hS.has
  have hdn := hS.done
  have hln := hS.lone
  rw [hyi] at hap hdn hln
  refine ⟨⟨by omega, by rw [List.length_set]; exact l1, hI.lw, by rw [List.length_set]; exact l2, by rw [List.length_set]; exact l3, (lbs_set hk e1).trans hI.lbs, hS.rw_, hS.qt, ?_, fun j hj => ?_, fun j hj => ?_, fun j hj => ?_, fun q j hj hj0 => ?_⟩, hS.code, hap, hln⟩
  · exact (stepT_at (stepR_at (x := k.x) hI.at_ hz)).mono (by omega)
  · rw [getD_set (by omega)]
    by_cases e : j = i
    · subst e
      rw [if_pos rfl, hyi, hdn]
      cases fin z <;> simp
    · rw [if_neg e, hyj j e]; exact hI.asks j hj
  · rw [getD_set (by omega)]
    by_cases e : j = i
    · subst e; rw [if_pos rfl, hyi, decide_eq_true_eq]
    · rw [if_neg e, hyj j e]; exact hI.has j hj
  · rw [getD_set (by omega)]
    by_cases e : j = i
    · subst e
      rw [if_pos rfl, e2, e3, e4, ← hk]
      have t := hI.tape j hj
      have hzc := stepR_c (x := k.x) (by rw [← hk]; exact t.2.1) hz
      have hzp := (stepR_x hz).2.2.2.2
      rw [← hk] at hzp
      exact ⟨t.1, hzc, by omega⟩
    · rw [if_neg e]; exact ⟨(hI.tape j hj).1, (hI.tape j hj).2.1, by have := (hI.tape j hj).2.2; omega⟩
  · by_cases e : j = i
    · subst e
      rw [hyi] at hj0 ⊢
      rw [hdn] at hj0 ⊢
      cases hf : fin z
      · rw [if_neg (by decide)]
        by_cases q40 : 40 ≤ n
        · have := hI.late q40 j hj h0
          have := hl q40
          omega
        · omega
      · rw [hf, if_pos rfl] at hj0; exact (hj0 rfl).elim
    · rw [hyj j e] at hj0 ⊢
      by_cases q40 : 40 ≤ n
      · have := hI.late q40 j hj hj0
        have := hl q40
        omega
      · have : 1 ≤ (xsOf cs j).asks := by omega
        omega
/-- at last all are through -/
theorem rc_end {cs0 cs : List Cl} {w a h : List Bool} {s : Sh} (hI : RcI cs0 w 60 s cs a h) {j : Nat} (hj : j < 5) : a.getD j false = false := by
  cases q : a.getD j false
  · rfl
  · have h1 := (hI.asks j hj).1 q
    have h2 := hI.late (by omega) j hj h1
    have h3 := (hI.own hj).2.2.1
    omega
def cntB (h : List Bool) (i : Nat) : Nat := ((List.range i).filter (fun j => h.getD j false)).length
theorem cnt_succ {h : List Bool} {i : Nat} : cntB h (i + 1) = cntB h i + (if h.getD i false = true then 1 else 0) := by
  unfold cntB
  rw [List.range_succ, List.filter_append, List.length_append, List.filter_cons]
  by_cases q : h.getD i false = true
  · rw [if_pos q, if_pos q]; rfl
  · rw [if_neg q, if_neg q]; rfl
theorem cnt_le {h : List Bool} {i : Nat} : cntB h i ≤ i := by
  unfold cntB
  exact Nat.le_trans (List.length_filter_le _ _) (by rw [List.length_range]; exact Nat.le_refl _)
/-- as many locks lie there as clients hold one -/
theorem rc_count {cs0 cs : List Cl} {w a h : List Bool} {s : Sh} (hI : RcI cs0 w 60 s cs a h) : (s.list [108, 47]).1 = 0 ∧ (s.list [108, 47]).2.length = cntB h 5 := by
  have e : s.list [108, 47] = (0, lsN s [108, 47]) := by rw [Sh.list, if_neg hI.qt.off]
  rw [e]
  refine ⟨rfl, ?_⟩
  have hp : (lsN s [108, 47]).Perm (((List.range 5).filter (fun j => h.getD j false)).map (fun j => lkName j 0)) := by
    refine (List.perm_ext_iff_of_nodup (lsN_nodup hI.at_.nodup) ?_).2 (fun n => ?_)
    · refine List.Pairwise.map _ (R := fun a b => a < 5 ∧ b < 5 ∧ a ≠ b) (fun a b q r => q.2.2 (lkName_inj (by omega) (by omega) (by omega) (by omega) r).1) ?_
      have h9 : ∀ l : List Nat, l.Nodup → (∀ a ∈ l, a < 5) → l.Pairwise (fun a b => a < 5 ∧ b < 5 ∧ a ≠ b) := fun l h1 h2 => by
        induction l with
        | nil => exact List.Pairwise.nil
        | cons a l ih =>
          rw [List.nodup_cons] at h1
          exact List.Pairwise.cons (fun b hb => ⟨h2 a (List.mem_cons_self ..), h2 b (List.mem_cons_of_mem _ hb), fun r => h1.1 (r ▸ hb)⟩) (ih h1.2 (fun b hb => h2 b (List.mem_cons_of_mem _ hb)))
      exact h9 _ (List.nodup_range.sublist List.filter_sublist) (fun a ha => List.mem_range.1 (List.mem_filter.1 ha).1)
    · rw [lsN_mem, List.mem_map]
      constructor
      · rintro ⟨h1, h2⟩
        obtain ⟨m, h3⟩ := hI.rw_.ok.has h1 h2
        obtain ⟨j, hj, h4, h5, _⟩ := (hI.rw_.lst n m).1 h3
        refine ⟨j, List.mem_filter.2 ⟨List.mem_range.2 hj, (hI.has j hj).2 (h4.resolve_left (fun q => ?_))⟩, h5.symm⟩
        have := rc_end hI hj
        have := (hI.asks j hj).2 (by omega)
        simp_all
      · rintro ⟨j, hj, rfl⟩
        obtain ⟨h1, h2⟩ := List.mem_filter.1 hj
        have h1 := List.mem_range.1 h1
        have h3 := (hI.rw_.lst (lkName j 0) ⟨j, wlOf w j, 0⟩).2 ⟨j, h1, .inr ((hI.has j h1).1 h2), rfl, rfl⟩
        exact ⟨h3.has, h3.2.1⟩
  rw [hp.length_eq, List.length_map]; rfl
end Go.Proofs.YtkkjfojgjmglpaaGreatDoor
set_option linter.unusedSimpArgs false
set_option linter.unusedVariables false
namespace Go.Proofs.YtkkjfojgjmglpaaGreatDoor
open Go Go.RowKit
set_option maxRecDepth 100000
set_option maxHeartbeats 1000000
attribute [local irreducible] sumL keyedL hexL strL sealF sealL tapeL tapeN lkName dfName preB
theorem rc_apart {cs0 cs : List Cl} {w a h : List Bool} {n i j : Nat} {s : Sh} (hI : RcI cs0 w n s cs a h) (hi : i < 5) (hj : j < 5) (hne : j ≠ i) (h1 : h.getD i false = true) (h2 : h.getD j false = true) : w.getD i false = false ∧ w.getD j false = false :=
  hI.rw_.apart i j hi hj (fun q => hne q.symm) ((hI.has i hi).1 h1) ((hI.has j hj).1 h2)
theorem races_spec {av pv : Value} {bl : List Bool} {pl : List Int} {w0 : World} (hb : Ro (Fs []) w0 (rd av (bl.map bo))) (hp : Ro (Fs []) w0 (rd pv (pl.map I))) (hbl : bl.length < 9223372036854775808) (hpl : pl.length < 9223372036854775808) (hg : Ro (Fs []) w0 glob) : Spec Tryz.prog 7 [.agg #[av, pv]] w0 [] (fun _ : Unit => True) (fun _ => .bool true) (fun _ => []) := by
  refine spec_of (n := 224) Tryz.func7 rfl rfl trivial trivial rfl <| s_r <| tk_act rfl <| a_boxL (cs := [av, pv]) rfl rfl fun b1 => q_a rfl rfl <| s_n <| s_r <| tk_act rfl <| a_callv [] _ rfl kR rfl (fun w' hw' => found_spec (n := 5) lenP) rfl fun ⟨sb, mb, kb, tw, vo, cs⟩ hz21 => ?_
  dsimp only at hz21 ⊢
  refine tk_own1 (mm 1 rfl) fun hfo => ?_
  obtain ⟨hcl5, hfr⟩ := hz21
  refine q_m rfl rfl <| s_q rfl (y_extract rfl rfl) <| s_q rfl (y_extract rfl rfl) <| q_a rfl rfl <| q_a rfl rfl <| s_n <| tk_seq <| s_r <| tk_act rfl <| a_callv [] _ rfl kR rfl (fun w' hw' => bars_spec (hg.call hw')) rfl fun _ _ => s_q rfl (y_not rfl) <| q_m rfl rfl <| s_g rfl (y_move rfl) <| s_g rfl (y_not rfl) <| s_q rfl (y_pick0 rfl rfl) <| s_n <| tk_cond0 rfl <| tk_skip <| tk_then <| s_r <| tk_act rfl <| a_allocL (cs := (List.replicate 5 false).map bo) kR rfl fun b5 => tk_act rfl <| a_allocL (cs := (List.replicate 5 false).map bo) kR rfl fun b6 => ?_; refine tk_act rfl <| a_allocL (cs := (List.replicate 5 false).map bo) kR rfl fun b7 => s_n <| tk_seq <| s_r <| q_a rfl rfl <| s_n <| tk_block <| tk_loop (X := Nat × List Cl × List Bool × List Bool) (fun (i, ds, w, a) => AskI cs i ds w a) (fun (i, ds, w, a) => [(1, PT b1), (3, PT tw), (5, PT b5), (6, PT b6), (7, PT b7), (8, IN i)]) (fun (i, ds, w, a) => [cel b7 ((List.replicate 5 false).map bo) 103, cel b6 (a.map bo) 103, cel b5 (w.map bo) 103, cel tw ([PT sb, PT kb, vo]) 97, own vo ((cs.map Cl.lb).length) ((cs.map Cl.lb).map PT) 91 1, cel kb ([I 0]) 178, cel sb ([Value.map (some mb), I ((newS 100000).left), .bool ((newS 100000).off), I ((newS 100000).made), I ((newS 100000).room)]) 192, mapS mb (kvO ((newS 100000).obs)), bag (((newS 100000).obs).map (obR 5)), team (ds.flatMap (clP sb kb)), cel b1 ([av, pv]) 102]) (fun (i, ds, w, a) => 5 - i) ((0, cs, List.replicate 5 false, List.replicate 5 false)) (ask_0 hcl5 hfr) sB ((List.Sublist.refl _)) ?_
  rintro ⟨i, ds, w, a⟩ hI
  dsimp only at hI ⊢
  have hlw := hI.lw
  have hla := hI.la
  have hlc := hI.lc
  refine tk_seq <| s_r <| q_m rfl rfl <| s_q rfl (y_lss rfl rfl) <| s_n <| tk_condP rfl (fun ht31 => ?_) (fun ht31 => ?_)
  · refine tk_skip <| tk_then <| tk_seq <| tk_block <| s_r <| q_m rfl rfl <| q_m rfl rfl <| s_q rfl (y_fld0 (o := 0) rfl kR) <| s_q rfl (y_load rfl rfl (hc (o := 0) (mm 10 rfl) (rfl))) <| s_q rfl (y_lenRN (n' := bl.length) rfl hb.1 rfl (by first | rfl | (rw [List.length_map]; omega) | simp)) <| tk_qs rfl rfl rfl (y_lss rfl rfl) (fun hs8_5 => ?_) (fun hs8_5 => ?_)
    · refine q_m rfl rfl <| s_g rfl (y_fld0 (o := 0) rfl kR) <| s_g rfl (y_load rfl rfl (hc (o := 0) (mm 10 rfl) (rfl))) <| s_g rfl (y_move rfl) <| s_g rfl (y_ixR (j := i) rfl rfl hb.1 lenP kR) <| s_g rfl (y_load rfl rfl (fun w hw => ((fun w hw => Ro.rd hb hw) w hw).cell (gM (d := false) lenP))) <| s_q rfl (y_pick1 rfl rfl) <| s_q rfl (y_ixA01 5 (i := i) rfl rfl kR oM) <| tk_act rfl <| a_storeE (H1 := [_, _]) (o := i) (v := .bool (bl.getD i false)) (cs' := (w.set i (bl.getD i false)).map bo) rfl rfl kR rfl rfl sW (sM) <| s_n <| tk_seq <| tk_seq ?_
      obtain ⟨k, hk⟩ : ∃ k, ds.getD i dCl = k := ⟨_, rfl⟩
      refine tk_ps [9] rfl <| tk_teamGet (i := i) (k := k) hk (by have := hI.lc; omega) rfl ?_
      have hkx0 : k.x = lk0 i := by rw [← hk]; exact hI.wait i (Nat.le_refl _) oM
      refine tk_drawH [cel k.tb ([k.vb, .int .u64 ((k.c : Nat) : Int), k.vl]) 201, ownB k.vb k.tl 5, ownB k.vl ((tapeL k.tl k.c).drop k.p) 5, team ((ds.eraseIdx i).flatMap (clP sb kb)), cel b7 ((List.replicate 5 false).map bo) 103, cel b6 (a.map bo) 103, cel b5 ((w.set i (bl.getD i false)).map bo) 103, cel tw ([PT sb, PT kb, vo]) 97, own vo ((cs.map Cl.lb).length) ((cs.map Cl.lb).map PT) 91 1, cel kb ([I 0]) 178, cel sb ([Value.map (some mb), I ((newS 100000).left), .bool ((newS 100000).off), I ((newS 100000).made), I ((newS 100000).room)]) 192, mapS mb (kvO ((newS 100000).obs)), bag (((newS 100000).obs).map (obR 5)), cel b1 ([av, pv]) 102] [] kR <| s_x 0 rfl (y_move rfl) <| s_x 1 rfl (y_nilCheck rfl) <| s_x 2 rfl (y_fldN (o := 0) 2 rfl kR) <| s_l 3 rfl (fun _ h => kD 1 rfl h) (y_load rfl rfl (hc (o := 2) (mm 7 rfl) (rfl))) <| s_x 4 rfl (y_move rfl) <| s_x 5 rfl (y_ixR (j := i) rfl rfl hfo.choose_spec lenP kR) <| s_l 6 rfl (fun _ h => kD 1 rfl h) (y_load rfl rfl (fun w hw => ((fun w hw => own_rdS (hw.mem (mm 8 rfl))) w hw).cell (gM (f := PT) (d := 0) lenP))) <| tk_re 54 (.pointer (some ⟨(cs.map Cl.lb).getD i 0, 0, none⟩)) (PT k.lb) rfl (by rw [← hI.lbs, lbs_get hk]) <| s_x 7 rfl (y_move rfl) <| s_x 8 rfl (y_ixA01 5 (i := i) rfl rfl kR oM) <| s_l 9 rfl (fun _ h => kD 1 rfl h) (y_load rfl rfl (hc (o := i) (mm 6 rfl) (gM (d := false) lenP))) <| tx_a 10 rfl kR rfl <| a_callv [] _ rfl kR rfl (fun w' hw' => ask_spec (b := ((w.set i (bl.getD i false)).getD i false)) (x := k.x) (hk := rq 1) (mk := rq 2) (nk := List.replicate 32 0) (tb := k.tb) (sb := sb) (kb := kb) (lb := k.lb) ⟨lenP, lenP, lenP⟩ ⟨by rw [hkx0]; rfl, by rw [hkx0]; rfl⟩ (St.pre hw')) rfl fun _ _ => tk_S (fun _ h => kD 1 rfl h) <| s_x 11 rfl ((y_neq rfl rfl).cast (bool_f dC)) <| s_x 12 rfl (y_move rfl) <| s_x 13 rfl (y_move rfl) <| s_x 14 rfl (y_nilCheck rfl) <| s_x 15 rfl (y_fldN (o := 0) 2 rfl kR) <| s_l 16 rfl (fun _ h => kD 1 rfl h) (y_load rfl rfl (hc (o := 2) (mm 7 rfl) (rfl))) <| s_x 17 rfl (y_move rfl) <| s_x 18 rfl (y_ixR (j := i) rfl rfl hfo.choose_spec lenP kR) <| s_l 19 rfl (fun _ h => kD 1 rfl h) (y_load rfl rfl (fun w hw => ((fun w hw => own_rdS (hw.mem (mm 8 rfl))) w hw).cell (gM (f := PT) (d := 0) lenP))) ?_; refine tk_re 67 (.pointer (some ⟨(cs.map Cl.lb).getD i 0, 0, none⟩)) (PT k.lb) rfl (by rw [← hI.lbs, lbs_get hk]) <| s_x 20 rfl (y_move rfl) <| s_x 21 rfl (y_ixA01 5 (i := i) rfl rfl kR oM) <| s_l 22 rfl (fun _ h => kD 1 rfl h) (y_load rfl rfl (hc (o := i) (mm 6 rfl) (gM (d := false) lenP))) <| tx_a 23 rfl kR rfl <| a_callv [] _ rfl kR rfl (fun w' hw' => askno_spec (b := ((w.set i (bl.getD i false)).getD i false)) (x := (k.x.asked (((w.set i (bl.getD i false)).getD i false)))) (hk := rq 1) (mk := rq 2) (nk := List.replicate 32 0) (tb := k.tb) (sb := sb) (kb := kb) (lb := k.lb) ⟨lenP, lenP, lenP⟩ (.inr (by show 0 < 1; omega)) (St.pre hw')) rfl fun _ _ => tk_S (fun _ h => kD 1 rfl h) <| s_x 24 rfl ((y_neq rfl rfl).cast (bool_f dC)) <| s_x 25 rfl (y_pick0 rfl rfl) <| tx_done kR <| tk_then <| tk_cond0 rfl <| tk_skip <| tk_then <| tk_region <| q_m rfl rfl <| s_q rfl (y_ixA01 5 (i := i) rfl rfl kR oM) <| tk_act rfl <| a_storeE (H1 := [_, _, _, _, _, _]) (o := i) (v := .bool true) (cs' := (a.set i true).map bo) rfl rfl kR rfl rfl sW (sM) <| tk_nil <| tk_in_normal <| tk_then <| tk_region <| q_m rfl rfl ?_; exact s_q rfl (y_addN (a := i) (b := 1) rfl rfl oM) <| q_a rfl rfl <| tk_nil <| tk_ps [4, 4, 4, 4, 4] rfl <| tk_teamPut (i := i) (cs := ds) (k := (⟨k.lb, k.tb, k.vb, k.x.asked ((w.set i (bl.getD i false)).getD i false), k.tl, k.c, k.p, k.vl⟩ : Cl)) (by have := hI.lc; omega) rfl <| tk_ps [10, 1, 10, 10, 10, 10, 10, 10, 10, 10, 10] rfl <| tk_again ((i + 1, ds.set i (⟨k.lb, k.tb, k.vb, k.x.asked ((w.set i (bl.getD i false)).getD i false), k.tl, k.c, k.p, k.vl⟩ : Cl), w.set i (bl.getD i false), a.set i true)) (ask_next hI oM hk rfl rfl rfl rfl (by rw [getD_set (by have := hI.lw; omega), if_pos rfl])) (by dsimp only; omega) sB (List.Sublist.refl _)
    · refine q_m rfl rfl <| tk_gno rfl rfl rfl <| tk_gno rfl rfl rfl <| tk_gno rfl rfl rfl <| tk_gno rfl rfl rfl <| tk_gno rfl rfl rfl <| s_q rfl (y_pick0 rfl rfl) <| s_q rfl (y_ixA01 5 (i := i) rfl rfl kR oM) <| tk_act rfl <| a_storeE (H1 := [_, _]) (o := i) (v := .bool false) (cs' := (w.set i false).map bo) rfl rfl kR rfl rfl sW (sM) <| s_n <| tk_seq <| tk_seq ?_
      obtain ⟨k, hk⟩ : ∃ k, ds.getD i dCl = k := ⟨_, rfl⟩
      refine tk_ps [9] rfl <| tk_teamGet (i := i) (k := k) hk (by have := hI.lc; omega) rfl ?_
      have hkx0 : k.x = lk0 i := by rw [← hk]; exact hI.wait i (Nat.le_refl _) oM
      refine tk_drawH [cel k.tb ([k.vb, .int .u64 ((k.c : Nat) : Int), k.vl]) 201, ownB k.vb k.tl 5, ownB k.vl ((tapeL k.tl k.c).drop k.p) 5, team ((ds.eraseIdx i).flatMap (clP sb kb)), cel b7 ((List.replicate 5 false).map bo) 103, cel b6 (a.map bo) 103, cel b5 ((w.set i false).map bo) 103, cel tw ([PT sb, PT kb, vo]) 97, own vo ((cs.map Cl.lb).length) ((cs.map Cl.lb).map PT) 91 1, cel kb ([I 0]) 178, cel sb ([Value.map (some mb), I ((newS 100000).left), .bool ((newS 100000).off), I ((newS 100000).made), I ((newS 100000).room)]) 192, mapS mb (kvO ((newS 100000).obs)), bag (((newS 100000).obs).map (obR 5)), cel b1 ([av, pv]) 102] [] kR <| s_x 0 rfl (y_move rfl) <| s_x 1 rfl (y_nilCheck rfl) <| s_x 2 rfl (y_fldN (o := 0) 2 rfl kR) <| s_l 3 rfl (fun _ h => kD 1 rfl h) (y_load rfl rfl (hc (o := 2) (mm 7 rfl) (rfl))) <| s_x 4 rfl (y_move rfl) <| s_x 5 rfl (y_ixR (j := i) rfl rfl hfo.choose_spec lenP kR) <| s_l 6 rfl (fun _ h => kD 1 rfl h) (y_load rfl rfl (fun w hw => ((fun w hw => own_rdS (hw.mem (mm 8 rfl))) w hw).cell (gM (f := PT) (d := 0) lenP))) <| tk_re 54 (.pointer (some ⟨(cs.map Cl.lb).getD i 0, 0, none⟩)) (PT k.lb) rfl (by rw [← hI.lbs, lbs_get hk]) <| s_x 7 rfl (y_move rfl) <| s_x 8 rfl (y_ixA01 5 (i := i) rfl rfl kR oM) <| s_l 9 rfl (fun _ h => kD 1 rfl h) (y_load rfl rfl (hc (o := i) (mm 6 rfl) (gM (d := false) lenP))) <| tx_a 10 rfl kR rfl <| a_callv [] _ rfl kR rfl (fun w' hw' => ask_spec (b := ((w.set i false).getD i false)) (x := k.x) (hk := rq 1) (mk := rq 2) (nk := List.replicate 32 0) (tb := k.tb) (sb := sb) (kb := kb) (lb := k.lb) ⟨lenP, lenP, lenP⟩ ⟨by rw [hkx0]; rfl, by rw [hkx0]; rfl⟩ (St.pre hw')) rfl fun _ _ => tk_S (fun _ h => kD 1 rfl h) <| s_x 11 rfl ((y_neq rfl rfl).cast (bool_f dC)) <| s_x 12 rfl (y_move rfl) <| s_x 13 rfl (y_move rfl) <| s_x 14 rfl (y_nilCheck rfl) <| s_x 15 rfl (y_fldN (o := 0) 2 rfl kR) <| s_l 16 rfl (fun _ h => kD 1 rfl h) (y_load rfl rfl (hc (o := 2) (mm 7 rfl) (rfl))) <| s_x 17 rfl (y_move rfl) <| s_x 18 rfl (y_ixR (j := i) rfl rfl hfo.choose_spec lenP kR) <| s_l 19 rfl (fun _ h => kD 1 rfl h) (y_load rfl rfl (fun w hw => ((fun w hw => own_rdS (hw.mem (mm 8 rfl))) w hw).cell (gM (f := PT) (d := 0) lenP))) ?_; refine tk_re 67 (.pointer (some ⟨(cs.map Cl.lb).getD i 0, 0, none⟩)) (PT k.lb) rfl (by rw [← hI.lbs, lbs_get hk]) <| s_x 20 rfl (y_move rfl) <| s_x 21 rfl (y_ixA01 5 (i := i) rfl rfl kR oM) <| s_l 22 rfl (fun _ h => kD 1 rfl h) (y_load rfl rfl (hc (o := i) (mm 6 rfl) (gM (d := false) lenP))) <| tx_a 23 rfl kR rfl <| a_callv [] _ rfl kR rfl (fun w' hw' => askno_spec (b := ((w.set i false).getD i false)) (x := (k.x.asked (((w.set i false).getD i false)))) (hk := rq 1) (mk := rq 2) (nk := List.replicate 32 0) (tb := k.tb) (sb := sb) (kb := kb) (lb := k.lb) ⟨lenP, lenP, lenP⟩ (.inr (by show 0 < 1; omega)) (St.pre hw')) rfl fun _ _ => tk_S (fun _ h => kD 1 rfl h) <| s_x 24 rfl ((y_neq rfl rfl).cast (bool_f dC)) <| s_x 25 rfl (y_pick0 rfl rfl) <| tx_done kR <| tk_then <| tk_cond0 rfl <| tk_skip <| tk_then <| tk_region <| q_m rfl rfl <| s_q rfl (y_ixA01 5 (i := i) rfl rfl kR oM) <| tk_act rfl <| a_storeE (H1 := [_, _, _, _, _, _]) (o := i) (v := .bool true) (cs' := (a.set i true).map bo) rfl rfl kR rfl rfl sW (sM) <| tk_nil <| tk_in_normal <| tk_then <| tk_region <| q_m rfl rfl ?_; exact s_q rfl (y_addN (a := i) (b := 1) rfl rfl oM) <| q_a rfl rfl <| tk_nil <| tk_ps [4, 4, 4, 4, 4] rfl <| tk_teamPut (i := i) (cs := ds) (k := (⟨k.lb, k.tb, k.vb, k.x.asked ((w.set i false).getD i false), k.tl, k.c, k.p, k.vl⟩ : Cl)) (by have := hI.lc; omega) rfl <| tk_ps [10, 1, 10, 10, 10, 10, 10, 10, 10, 10, 10] rfl <| tk_again ((i + 1, ds.set i (⟨k.lb, k.tb, k.vb, k.x.asked ((w.set i false).getD i false), k.tl, k.c, k.p, k.vl⟩ : Cl), w.set i false, a.set i true)) (ask_next hI oM hk rfl rfl rfl rfl (by rw [getD_set (by have := hI.lw; omega), if_pos rfl])) (by dsimp only; omega) sB (List.Sublist.refl _)
  · have hi5 : i = 5 := by have := hI.i5; omega
    subst hi5
    have hRc0 := rc_0 hI
    refine tk_exit <| tk_then_exit <| tk_then_exit <| tk_in_hit <| tk_then <| tk_seq <| s_r <| q_a rfl rfl <| s_n <| tk_block <| tk_loop (X := Nat × Sh × List Cl × List Bool × List Bool) (fun (n, s, es, a2, h2) => RcI cs w n s es a2 h2) (fun (n, s, es, a2, h2) => [(1, PT b1), (3, PT tw), (5, PT b5), (6, PT b6), (7, PT b7), (9, IN n)]) (fun (n, s, es, a2, h2) => [cel b7 (h2.map bo) 103, cel b6 (a2.map bo) 103, cel b5 (w.map bo) 103, cel tw ([PT sb, PT kb, vo]) 97, own vo ((cs.map Cl.lb).length) ((cs.map Cl.lb).map PT) 91 1, cel kb ([I 0]) 178, cel sb ([Value.map (some mb), I (s.left), .bool s.off, I (s.made), I (s.room)]) 192, mapS mb (kvO s.obs), bag (s.obs.map (obR 5)), team (es.flatMap (clP sb kb)), cel b1 ([av, pv]) 102]) (fun (n, s, es, a2, h2) => 60 - n) ((0, newS 100000, ds, a, List.replicate 5 false)) (hRc0) sB ((List.Sublist.refl _)) ?_
    rintro ⟨n, s, es, a2, h2⟩ hI
    dsimp only at hI ⊢
    have hlw5 := hI.lw
    have hla5 := hI.la
    have hlh5 := hI.lh
    have hlc5 := hI.lc
    refine tk_seq <| s_r <| q_m rfl rfl <| s_q rfl (y_lss rfl rfl) <| s_n <| tk_condP rfl (fun ht77 => ?_) (fun ht77 => ?_)
    · refine tk_skip <| tk_then <| tk_seq <| tk_block <| s_r <| q_m rfl rfl <| s_q rfl (y_remN (a := n) (b := 5) rfl rfl oM) <| q_a rfl rfl <| s_n ?_; refine tk_seqI (X := Nat) (fun i => i < 5 ∧ (40 ≤ n → i = n % 5)) (fun i => [(1, PT b1), (3, PT tw), (5, PT b5), (6, PT b6), (7, PT b7), (9, IN n), (10, IN i)]) (fun i => [cel b7 (h2.map bo) 103, cel b6 (a2.map bo) 103, cel b5 (w.map bo) 103, cel tw ([PT sb, PT kb, vo]) 97, own vo ((cs.map Cl.lb).length) ((cs.map Cl.lb).map PT) 91 1, cel kb ([I 0]) 178, cel sb ([Value.map (some mb), I (s.left), .bool s.off, I (s.made), I (s.room)]) 192, mapS mb (kvO s.obs), bag (s.obs.map (obR 5)), team (es.flatMap (clP sb kb)), cel b1 ([av, pv]) 102]) ?_ ?_
      · refine s_r <| q_m rfl rfl <| s_q rfl (y_fldN (o := 0) 1 rfl kR) <| s_q rfl (y_load rfl rfl (hc (o := 1) (mm 10 rfl) (rfl))) <| s_q rfl (y_lenRN (n' := pl.length) rfl hp.1 rfl (by first | rfl | (rw [List.length_map]; omega) | simp)) <| tk_qs rfl rfl rfl (y_lss rfl rfl) (fun hs16_4 => ?_) (fun hs16_4 => ?_)
        · refine q_m rfl rfl <| s_g rfl (y_move rfl) <| s_g rfl (y_lss rfl rfl) <| s_q rfl (y_pick1 rfl rfl) <| s_n <| tk_condP rfl (fun ht90 => ?_) (fun ht90 => ?_)
          · exact tk_region <| s_q rfl (y_fldN (o := 0) 1 rfl kR) <| s_q rfl (y_load rfl rfl (hc (o := 1) (mm 10 rfl) (rfl))) <| q_m rfl rfl <| s_q rfl (y_ixR (j := n) rfl rfl hp.1 lenP kR) <| s_q rfl (y_load rfl rfl (fun w hw => ((fun w hw => Ro.rd hp hw) w hw).cell (gM (f := I) (d := 0) lenP))) <| s_q rfl (y_convU (z := pl.getD n 0) rfl rfl rfl) <| s_q rfl (y_remU (a := modU (pl.getD n 0)) (b := 5) rfl rfl oM) <| s_q rfl (y_convi64 (m := (modU (pl.getD n 0)) % 5) rfl rfl rfl (wrap_in oM oM)) <| q_a rfl rfl <| tk_nil <| tk_to (modU (pl.getD n 0) % 5) (⟨by omega, fun q => by omega⟩) sB (List.Sublist.refl _)
          · exact tk_skip <| tk_to (n % 5) (⟨by omega, fun _ => rfl⟩) sB (List.Sublist.refl _)
        · exact q_m rfl rfl <| tk_gno rfl rfl rfl <| tk_gno rfl rfl rfl <| s_q rfl (y_pick0 rfl rfl) <| s_n <| tk_cond0 rfl <| tk_skip <| tk_to (n % 5) (⟨by omega, fun _ => rfl⟩) sB (List.Sublist.refl _)
      · rintro i ⟨hi5, hi40⟩
        refine tk_seq ?_
        by_cases h0 : (xsOf es i).asks = 0
        · obtain ⟨k, hk⟩ : ∃ k, es.getD i dCl = k := ⟨_, rfl⟩
          refine tk_ps [9] rfl <| tk_teamGet (i := i) (k := k) hk (by have := hI.lc; omega) rfl ?_
          have hkx : xsOf es i = k.x := by unfold xsOf; rw [hk]
          have hown5 := hI.own hi5
          rw [hkx] at hown5
          obtain ⟨hkcl, hkmd, hkas, hknx⟩ := hown5
          have hkt := hI.tape i hi5
          rw [hk] at hkt
          obtain ⟨hktl, hkI0, hkp⟩ := hkt
          have hka := hI.asks i hi5
          rw [hkx] at hka h0
          have hn60 : n < 60 := by omega
          refine tk_region <| q_m rfl rfl <| s_q rfl (y_nilCheck rfl) <| s_q rfl (y_fldN (o := 0) 2 rfl kR) <| s_q rfl (y_load rfl rfl (hc (o := 2) (mm 8 rfl) (rfl))) <| q_m rfl rfl <| s_q rfl (y_ixR (j := i) rfl rfl hfo.choose_spec lenP kR) <| s_q rfl (y_load rfl rfl (fun w hw => ((fun w hw => own_rdS (hw.mem (mm 9 rfl))) w hw).cell (gM (f := PT) (d := 0) lenP))) <| tk_re 106 (.pointer (some ⟨(cs.map Cl.lb).getD i 0, 0, none⟩)) (PT k.lb) rfl (by rw [← hI.lbs, lbs_get hk]) <| tk_act rfl <| a_callv [] _ rfl kR rfl (fun w' hw' => sstep0_spec (x := k.x) (hk := rq 1) (mk := rq 2) (nk := List.replicate 32 0) (tb := k.tb) (sb := sb) (kb := kb) (lb := k.lb) ⟨lenP, lenP, lenP⟩ h0 (St.pre hw')) rfl fun _ _ => q_m rfl rfl <| s_q rfl (y_extract rfl rfl) <| s_q rfl (y_extract rfl rfl) <| q_a rfl rfl <| q_a rfl rfl <| s_n <| tk_seq <| s_r <| q_m rfl rfl <| s_q rfl (y_ixA01 5 (i := i) rfl rfl kR oM) <| s_q rfl (y_load rfl rfl (hc (o := i) (mm 6 rfl) (gM (d := false) lenP))) <| tk_re 112 (.bool (a2.getD i false)) (.bool false) rfl (by rw [Bool.eq_false_iff.2 (fun q => (hka.1 q) h0)]) <| s_q rfl (y_not rfl) ?_; refine s_n <| tk_cond1 rfl <| tk_seq <| s_r <| q_m rfl rfl <| s_q rfl (y_not rfl) <| q_m rfl rfl <| s_g rfl (y_move rfl) <| s_g rfl ((y_neq rfl rfl).cast (bool_f dC)) <| s_q rfl (y_pick0 rfl rfl) <| s_n <| tk_cond0 rfl <| tk_skip <| tk_then <| tk_exit <| tk_then_exit <| tk_in_hit <| tk_then <| tk_region <| q_m rfl rfl <| s_q rfl (y_addN (a := n) (b := 1) rfl rfl oM) <| q_a rfl rfl <| tk_nil <| tk_ps [4, 4, 4, 4, 4] rfl ?_; exact tk_teamPut (i := i) (cs := es) (k := k) oM rfl <| tk_R (H1 := []) rfl (show team ((es.set i k).flatMap (clP sb kb)) = team (es.flatMap (clP sb kb)) from by rw [set_self hk]) <| tk_ps [10, 1, 10, 10, 10, 10, 10, 10, 10, 10, 10] rfl <| tk_again ((n + 1, s, es, a2, h2)) (rc_idle hI hn60 hi5 hi40 (by rw [hkx]; exact h0)) (by dsimp only; omega) sB (List.Sublist.refl _)
        · obtain ⟨k, hk⟩ : ∃ k, es.getD i dCl = k := ⟨_, rfl⟩
          refine tk_ps [9] rfl <| tk_teamGet (i := i) (k := k) hk (by have := hI.lc; omega) rfl ?_
          have hkx : xsOf es i = k.x := by unfold xsOf; rw [hk]
          have hown5 := hI.own hi5
          rw [hkx] at hown5
          obtain ⟨hkcl, hkmd, hkas, hknx⟩ := hown5
          have hkt := hI.tape i hi5
          rw [hk] at hkt
          obtain ⟨hktl, hkI0, hkp⟩ := hkt
          have hka := hI.asks i hi5
          rw [hkx] at hka h0
          have hn60 : n < 60 := by omega
          refine tk_region <| q_m rfl rfl <| s_q rfl (y_nilCheck rfl) <| s_q rfl (y_fldN (o := 0) 2 rfl kR) <| s_q rfl (y_load rfl rfl (hc (o := 2) (mm 8 rfl) (rfl))) <| q_m rfl rfl <| s_q rfl (y_ixR (j := i) rfl rfl hfo.choose_spec lenP kR) <| s_q rfl (y_load rfl rfl (fun w hw => ((fun w hw => own_rdS (hw.mem (mm 9 rfl))) w hw).cell (gM (f := PT) (d := 0) lenP))) <| tk_re 106 (.pointer (some ⟨(cs.map Cl.lb).getD i 0, 0, none⟩)) (PT k.lb) rfl (by rw [← hI.lbs, lbs_get hk]) <| tk_act rfl <| tk_ps [3, 3, 3, 13, 13, 13, 13, 7] rfl <| a_callv [] _ rfl kR rfl (fun w' hw' => sstep_spec (mo := (moOf (rq 1) (rq 2) s 0)) (s := s) (k := (2005 * n)) (now := 0) (mb := mb) (c := k.c) (p := k.p) (tl := k.tl) (vb := k.vb) (vl := k.vl) (x := k.x) (hk := rq 1) (mk := rq 2) (nk := List.replicate 32 0) (tb := k.tb) (sb := sb) (kb := kb) (lb := k.lb) ⟨lenP, lenP, lenP⟩ oM oM hI.at_ oM (hI.rw_.ok.all oM) oM hkI0 oM (by rw [hktl]; simp) hknx oM (hg.call hw') (St.pre hw')) rfl fun z107 hz107 => tk_own1 (mm 7 rfl) fun hfz107 => ?_
          obtain ⟨hRn, hcode, hown, hlone⟩ := rc_next (k' := (⟨k.lb, k.tb, k.vb, stepY z107, k.tl, z107.c, z107.p, z107.vl⟩ : Cl)) hI hn60 hi5 hi40 (by rw [hkx]; exact h0) hk rfl rfl rfl rfl rfl rfl rfl hz107
          refine q_m rfl rfl <| s_q rfl (y_extract rfl rfl) <| s_q rfl (y_extract rfl rfl) <| q_a rfl rfl <| q_a rfl rfl <| s_n <| tk_seq <| s_r <| q_m rfl rfl <| s_q rfl (y_ixA01 5 (i := i) rfl rfl kR oM) <| s_q rfl (y_load rfl rfl (hc (o := i) (mm 10 rfl) (gM (d := false) lenP))) <| tk_re 112 (.bool (a2.getD i false)) (.bool true) rfl (by rw [hka.2 h0]) <| s_q rfl (y_not rfl) <| s_n <| tk_cond0 rfl <| tk_skip <| tk_then ?_; refine tk_seqI (X := Unit) (fun _ => True) (fun _ => [(1, PT b1), (3, PT tw), (5, PT b5), (6, PT b6), (7, PT b7), (9, IN n), (10, IN i), (11, .bool (fin z107)), (12, IN z107.e)]) (fun _ => [cel k.lb ((rq 1).map B ++ ((rq 2).map B ++ ((List.replicate 32 0).map B ++ ([PT k.tb, PT sb, PT kb, I (((stepY z107).cl : Nat) : Int), I (((stepY z107).made : Nat) : Int), Str ((stepY z107).own), I (((stepY z107).asks : Nat) : Int), .bool ((stepY z107).want), Str ((stepY z107).next), .bool ((stepY z107).shown), I (((stepY z107).m.c : Nat) : Int), .bool ((stepY z107).m.a), I (((stepY z107).m.t : Nat) : Int)])))) 182, cel kb ([I 0]) 178, cel sb ([Value.map (some mb), I ((stepT z107).left), .bool ((stepT z107).off), I ((stepT z107).made), I ((stepT z107).room)]) 192, mapS mb (kvO ((stepT z107).obs)), bag (((stepT z107).obs).map (obR 5)), cel k.tb ([k.vb, .int .u64 ((z107.c : Nat) : Int), z107.vl]) 201, ownB k.vb k.tl 5, ownB z107.vl ((tapeL k.tl z107.c).drop z107.p) 5, team ((es.eraseIdx i).flatMap (clP sb kb)), cel b7 (h2.map bo) 103, cel b6 (a2.map bo) 103, cel b5 (w.map bo) 103, cel tw ([PT sb, PT kb, vo]) 97, own vo ((cs.map Cl.lb).length) ((cs.map Cl.lb).map PT) 91 1, cel b1 ([av, pv]) 102]) ?_ ?_
          · refine s_r <| q_m rfl rfl <| tk_qs rfl rfl rfl (y_neq rfl rfl) (fun hs22_1 => ?_) (fun hs22_1 => ?_)
            · refine q_m rfl rfl <| s_g rfl (y_move rfl) <| tk_gqe (.bool false) rfl rfl rfl (y_neq rfl rfl) (bool_f (by rcases hcode with q | q <;> omega)) <| s_q rfl (y_pick1 rfl rfl) <| q_m rfl rfl <| s_g rfl (y_move rfl) <| tk_gqs rfl rfl rfl (y_neq rfl rfl) (fun hs22_8 => ?_) (fun hs22_8 => ?_)
              · exact s_g rfl (y_move rfl) <| s_g rfl (y_move rfl) <| tk_gqe (.bool false) rfl rfl rfl (y_not rfl) (congrArg Value.bool (by rw [(hcode.resolve_left oM).2]; rfl)) <| s_g rfl (y_pick1 rfl rfl) <| s_q rfl (y_pick0 rfl rfl) <| s_n <| tk_cond0 rfl <| tk_skip <| tk_to (()) (by first | exact trivial | omega | (dsimp only; omega)) sB (List.Sublist.refl _)
              · exact s_g rfl (y_move rfl) <| tk_gno rfl rfl rfl <| tk_gno rfl rfl rfl <| s_g rfl (y_pick0 rfl rfl) <| s_q rfl (y_pick0 rfl rfl) <| s_n <| tk_cond0 rfl <| tk_skip <| tk_to (()) (by first | exact trivial | omega | (dsimp only; omega)) sB (List.Sublist.refl _)
            · refine q_m rfl rfl <| tk_gno rfl rfl rfl <| tk_gno rfl rfl rfl <| s_q rfl (y_pick0 rfl rfl) <| q_m rfl rfl <| s_g rfl (y_move rfl) <| tk_gqs rfl rfl rfl (y_neq rfl rfl) (fun hs22_8 => ?_) (fun hs22_8 => ?_)
              · exact s_g rfl (y_move rfl) <| s_g rfl (y_move rfl) <| tk_gqe (.bool false) rfl rfl rfl (y_not rfl) (congrArg Value.bool (by rw [(hcode.resolve_left oM).2]; rfl)) <| s_g rfl (y_pick1 rfl rfl) <| s_q rfl (y_pick0 rfl rfl) <| s_n <| tk_cond0 rfl <| tk_skip <| tk_to (()) (by first | exact trivial | omega | (dsimp only; omega)) sB (List.Sublist.refl _)
              · exact s_g rfl (y_move rfl) <| tk_gno rfl rfl rfl <| tk_gno rfl rfl rfl <| s_g rfl (y_pick0 rfl rfl) <| s_q rfl (y_pick0 rfl rfl) <| s_n <| tk_cond0 rfl <| tk_skip <| tk_to (()) (by first | exact trivial | omega | (dsimp only; omega)) sB (List.Sublist.refl _)
          · rintro _ _
            refine tk_seq ?_
            by_cases hf : fin z107 = true
            · refine tk_re 11 (.bool (fin z107)) (.bool true) rfl (by rw [hf]) <| tk_region <| q_m rfl rfl <| q_m rfl rfl <| s_q rfl (y_not rfl) <| s_q rfl (y_ixA01 5 (i := i) rfl rfl kR oM) <| tk_act rfl <| a_storeE (H1 := [_, _, _, _, _, _, _, _, _, _]) (o := i) (v := .bool false) (cs' := (a2.set i false).map bo) rfl rfl kR rfl rfl sW (sM) <| s_n <| s_r <| q_m rfl rfl <| s_q rfl (y_nilCheck rfl) <| s_q rfl (y_fldN (o := 0) 2 rfl kR) <| s_q rfl (y_load rfl rfl (hc (o := 2) (mm 12 rfl) (rfl))) <| q_m rfl rfl <| s_q rfl (y_ixR (j := i) rfl rfl hfo.choose_spec lenP kR) <| s_q rfl (y_load rfl rfl (fun w hw => ((fun w hw => own_rdS (hw.mem (mm 13 rfl))) w hw).cell (gM (f := PT) (d := 0) lenP))) <| tk_re 145 (.pointer (some ⟨(cs.map Cl.lb).getD i 0, 0, none⟩)) (PT k.lb) rfl (by rw [← hI.lbs, lbs_get hk]) <| tk_act rfl <| a_callv [] _ rfl kR rfl (fun w' hw' => held_spec (x := (stepY z107)) (hk := rq 1) (mk := rq 2) (nk := List.replicate 32 0) (tb := k.tb) (sb := sb) (kb := kb) (lb := k.lb) ⟨lenP, lenP, lenP⟩ (St.pre hw')) rfl fun _ _ => q_m rfl rfl <| s_q rfl (y_extract rfl rfl) <| s_q rfl (y_extract rfl rfl) <| q_a rfl rfl ?_; refine q_a rfl rfl <| tk_ps [8, 8, 8, 8, 4] rfl <| tk_teamPut (i := i) (cs := es) (k := (⟨k.lb, k.tb, k.vb, stepY z107, k.tl, z107.c, z107.p, z107.vl⟩ : Cl)) oM rfl <| tk_R (H1 := [_, _, _, _, _, _]) rfl (congrArg (fun z_ => cel b6 z_ 103) (show (a2.set i false).map bo = (a2.set i (!fin z107)).map bo from by rw [hf]; rfl)) <| s_n ?_; refine tk_seqI (X := Unit) (fun _ => True) (fun _ => [(1, PT b1), (3, PT tw), (5, PT b5), (6, PT b6), (7, PT b7), (9, IN n), (10, IN i), (13, .bool ((decide (¬ (stepY z107).own = []))))]) (fun _ => [team ((es.set i (⟨k.lb, k.tb, k.vb, stepY z107, k.tl, z107.c, z107.p, z107.vl⟩ : Cl)).flatMap (clP sb kb)), cel kb ([I 0]) 178, cel sb ([Value.map (some mb), I ((stepT z107).left), .bool ((stepT z107).off), I ((stepT z107).made), I ((stepT z107).room)]) 192, mapS mb (kvO ((stepT z107).obs)), bag (((stepT z107).obs).map (obR 5)), cel b7 (h2.map bo) 103, cel b6 ((a2.set i (!fin z107)).map bo) 103, cel b5 (w.map bo) 103, cel tw ([PT sb, PT kb, vo]) 97, own vo ((cs.map Cl.lb).length) ((cs.map Cl.lb).map PT) 91 1, cel b1 ([av, pv]) 102]) ?_ ?_
              · refine s_r <| q_m rfl rfl <| q_m rfl rfl <| q_m rfl rfl <| s_g rfl (y_move rfl) <| s_g rfl (y_eql rfl rfl) <| s_q rfl (y_pick1 rfl rfl) <| tk_qe (.bool false) rfl rfl rfl (y_neB (a := decide (¬ (stepY z107).own = [])) (b := decide (((z107.e : Nat) : Int) = (0 : Int))) rfl rfl rfl) (congrArg Value.bool (by rw [show decide (¬ (stepY z107).own = []) = decide ((z107.e : Int) = ((0 : Nat) : Int)) from decide_eq_decide.2 ⟨fun q => by rw [(hown.1 q).2], fun q => hown.2 ⟨hf, by omega⟩⟩]; simp)) <| q_m rfl rfl <| tk_gqs rfl rfl rfl (y_move rfl) (fun hs26_8 => ?_) (fun hs26_8 => ?_)
                · exact s_g rfl (y_move rfl) <| s_g rfl (y_move rfl) <| s_g rfl (y_move rfl) <| s_g rfl (y_ixA01 5 (i := i) rfl rfl kR oM) <| s_g rfl (y_load rfl rfl (hc (o := i) (mm 7 rfl) (gM (d := false) lenP))) <| tk_gqe (.bool false) rfl rfl rfl (y_neB (a := (heldB (stepY z107))) (b := w.getD i false) rfl rfl rfl) (congrArg Value.bool (by rw [heldB, if_neg hs26_8, hlone hs26_8]; simp)) <| s_g rfl (y_pick1 rfl rfl) <| s_q rfl (y_pick0 rfl rfl) <| s_n <| tk_cond0 rfl <| tk_skip <| tk_re 13 (.bool (decide (¬ (stepY z107).own = []))) (.bool ((decide (¬ (stepY z107).own = [])))) rfl (rfl) <| tk_to (()) (by first | exact trivial | omega | (dsimp only; omega)) sB (List.Sublist.refl _)
                · exact s_g rfl (y_move rfl) <| tk_gno rfl rfl rfl <| tk_gno rfl rfl rfl <| tk_gno rfl rfl rfl <| tk_gno rfl rfl rfl <| tk_gno rfl rfl rfl <| s_g rfl (y_pick0 rfl rfl) <| s_q rfl (y_pick0 rfl rfl) <| s_n <| tk_cond0 rfl <| tk_skip <| tk_re 13 (.bool (decide (¬ (stepY z107).own = []))) (.bool ((decide (¬ (stepY z107).own = [])))) rfl (rfl) <| tk_to (()) (by first | exact trivial | omega | (dsimp only; omega)) sB (List.Sublist.refl _)
              · rintro _ _
                refine s_r <| q_m rfl rfl <| q_m rfl rfl <| s_q rfl (y_ixA01 5 (i := i) rfl rfl kR oM) <| tk_act rfl <| a_storeE (H1 := [_, _, _, _, _]) (o := i) (v := .bool ((decide (¬ (stepY z107).own = [])))) (cs' := (h2.set i ((decide (¬ (stepY z107).own = [])))).map bo) rfl rfl kR rfl rfl sW (sM) <| s_n <| s_r <| q_a rfl rfl <| s_n <| tk_block <| tk_loop (X := Nat) (fun j => j ≤ 5) (fun j => [(1, PT b1), (3, PT tw), (5, PT b5), (6, PT b6), (7, PT b7), (9, IN n), (10, IN i), (15, IN j)]) (fun j => [team ((es.set i (⟨k.lb, k.tb, k.vb, stepY z107, k.tl, z107.c, z107.p, z107.vl⟩ : Cl)).flatMap (clP sb kb)), cel kb ([I 0]) 178, cel sb ([Value.map (some mb), I ((stepT z107).left), .bool ((stepT z107).off), I ((stepT z107).made), I ((stepT z107).room)]) 192, mapS mb (kvO ((stepT z107).obs)), bag (((stepT z107).obs).map (obR 5)), cel b7 ((h2.set i ((decide (¬ (stepY z107).own = [])))).map bo) 103, cel b6 ((a2.set i (!fin z107)).map bo) 103, cel b5 (w.map bo) 103, cel tw ([PT sb, PT kb, vo]) 97, own vo ((cs.map Cl.lb).length) ((cs.map Cl.lb).map PT) 91 1, cel b1 ([av, pv]) 102]) (fun j => 5 - j) (0) (Nat.zero_le _) sB ((List.Sublist.refl _)) ?_
                rintro j hj5
                try dsimp only at hj5 ⊢
                refine tk_seq <| s_r <| q_m rfl rfl <| s_q rfl (y_lss rfl rfl) <| s_n <| tk_condP rfl (fun ht170 => ?_) (fun ht170 => ?_)
                · refine tk_skip <| tk_then <| tk_seq <| tk_block <| s_r <| q_m rfl rfl <| q_m rfl rfl <| tk_qs rfl rfl rfl (y_neq rfl rfl) (fun hs32_2 => ?_) (fun hs32_2 => ?_)
                  · refine q_m rfl rfl <| s_g rfl (y_move rfl) <| s_g rfl (y_ixA01 5 (i := j) rfl rfl kR oM) <| tk_gqe (.bool (decide ((h2.set i (decide (¬ (stepY z107).own = []))).getD j false = true))) rfl rfl rfl (y_load rfl rfl (hc (o := j) (mm 5 rfl) (gM (d := false) lenP))) (by rw [Bool.decide_eq_true]) <| tk_qs rfl rfl rfl (y_pick1 rfl rfl) (fun hs32_7 => ?_) (fun hs32_7 => ?_)
                    · refine q_m rfl rfl <| s_g rfl (y_move rfl) <| s_g rfl (y_ixA01 5 (i := i) rfl rfl kR oM) <| tk_gqe (.bool (decide ((h2.set i (decide (¬ (stepY z107).own = []))).getD i false = true))) rfl rfl rfl (y_load rfl rfl (hc (o := i) (mm 5 rfl) (gM (d := false) lenP))) (by rw [Bool.decide_eq_true]) <| tk_qs rfl rfl rfl (y_pick1 rfl rfl) (fun hs32_12 => ?_) (fun hs32_12 => ?_)
                      · refine q_m rfl rfl <| s_g rfl (y_move rfl) <| s_g rfl (y_ixA01 5 (i := j) rfl rfl kR oM) <| tk_gqe (.bool (decide (w.getD j false = true))) rfl rfl rfl (y_load rfl rfl (hc (o := j) (mm 7 rfl) (gM (d := false) lenP))) (by rw [Bool.decide_eq_true]) <| tk_gqs rfl rfl rfl (y_move rfl) (fun hs32_17 => ?_) (fun hs32_17 => ?_)
                        · exfalso; have h9 := rc_apart hRn hi5 (by omega : j < 5) (fun q => hs32_2 (by rw [q])) hs32_12 hs32_7; first | (rw [h9.2] at hs32_17; cases hs32_17) | (rw [h9.1] at ht195; cases ht195)
                        · refine s_g rfl (y_move rfl) <| s_g rfl (y_ixA01 5 (i := i) rfl rfl kR oM) <| tk_gqe (.bool (decide (w.getD i false = true))) rfl rfl rfl (y_load rfl rfl (hc (o := i) (mm 7 rfl) (gM (d := false) lenP))) (by rw [Bool.decide_eq_true]) <| s_g rfl (y_pick0 rfl rfl) <| s_q rfl (y_pick1 rfl rfl) <| s_n <| tk_condP rfl (fun ht195 => ?_) (fun ht195 => ?_)
                          · exfalso; have h9 := rc_apart hRn hi5 (by omega : j < 5) (fun q => hs32_2 (by rw [q])) hs32_12 hs32_7; first | (rw [h9.2] at hs32_17; cases hs32_17) | (rw [h9.1] at ht195; cases ht195)
                          · exact tk_skip <| tk_in_normal <| tk_then <| tk_region <| q_m rfl rfl <| s_q rfl (y_addN (a := j) (b := 1) rfl rfl oM) <| q_a rfl rfl <| tk_nil <| tk_again (j + 1) oM oM sB (List.Sublist.refl _)
                      · exact q_m rfl rfl <| tk_gno rfl rfl rfl <| tk_gno rfl rfl rfl <| tk_gno rfl rfl rfl <| tk_gno rfl rfl rfl <| tk_gno rfl rfl rfl <| tk_gno rfl rfl rfl <| tk_gno rfl rfl rfl <| tk_gno rfl rfl rfl <| s_q rfl (y_pick0 rfl rfl) <| s_n <| tk_cond0 rfl <| tk_skip <| tk_in_normal <| tk_then <| tk_region <| q_m rfl rfl <| s_q rfl (y_addN (a := j) (b := 1) rfl rfl oM) <| q_a rfl rfl <| tk_nil <| tk_again (j + 1) oM oM sB (List.Sublist.refl _)
                    · refine q_m rfl rfl <| tk_gno rfl rfl rfl <| tk_gno rfl rfl rfl <| tk_gno rfl rfl rfl <| s_q rfl (y_pick0 rfl rfl) <| q_m rfl rfl <| tk_gno rfl rfl rfl <| tk_gno rfl rfl rfl <| tk_gno rfl rfl rfl <| tk_gno rfl rfl rfl <| tk_gno rfl rfl rfl <| tk_gno rfl rfl rfl <| tk_gno rfl rfl rfl <| tk_gno rfl rfl rfl <| s_q rfl (y_pick0 rfl rfl) <| s_n <| tk_cond0 rfl <| tk_skip <| tk_in_normal <| tk_then <| tk_region <| q_m rfl rfl <| s_q rfl (y_addN (a := j) (b := 1) rfl rfl oM) <| q_a rfl rfl ?_; exact tk_nil <| tk_again (j + 1) oM oM sB (List.Sublist.refl _)
                  · refine q_m rfl rfl <| tk_gno rfl rfl rfl <| tk_gno rfl rfl rfl <| tk_gno rfl rfl rfl <| s_q rfl (y_pick0 rfl rfl) <| q_m rfl rfl <| tk_gno rfl rfl rfl <| tk_gno rfl rfl rfl <| tk_gno rfl rfl rfl <| s_q rfl (y_pick0 rfl rfl) <| q_m rfl rfl <| tk_gno rfl rfl rfl <| tk_gno rfl rfl rfl <| tk_gno rfl rfl rfl <| tk_gno rfl rfl rfl <| tk_gno rfl rfl rfl <| tk_gno rfl rfl rfl <| tk_gno rfl rfl rfl <| tk_gno rfl rfl rfl <| s_q rfl (y_pick0 rfl rfl) <| s_n <| tk_cond0 rfl <| tk_skip <| tk_in_normal ?_; exact tk_then <| tk_region <| q_m rfl rfl <| s_q rfl (y_addN (a := j) (b := 1) rfl rfl oM) <| q_a rfl rfl <| tk_nil <| tk_again (j + 1) oM oM sB (List.Sublist.refl _)
                · exact tk_exit <| tk_then_exit <| tk_then_exit <| tk_in_hit <| tk_in_normal <| tk_then <| tk_region <| q_m rfl rfl <| s_q rfl (y_addN (a := n) (b := 1) rfl rfl oM) <| q_a rfl rfl <| tk_nil <| tk_ps [10, 1, 5, 5, 5, 5, 10, 10, 10, 10, 10] rfl <| tk_again ((n + 1, stepT z107, es.set i (⟨k.lb, k.tb, k.vb, stepY z107, k.tl, z107.c, z107.p, z107.vl⟩ : Cl), a2.set i (!fin z107), h2.set i (decide (¬ (stepY z107).own = [])))) (hRn) (by dsimp only; omega) sB (List.Sublist.refl _)
            · refine tk_re 11 (.bool (fin z107)) (.bool false) rfl (by rw [Bool.eq_false_iff.2 hf]) <| tk_region <| q_m rfl rfl <| q_m rfl rfl <| s_q rfl (y_not rfl) <| s_q rfl (y_ixA01 5 (i := i) rfl rfl kR oM) <| tk_act rfl <| a_storeE (H1 := [_, _, _, _, _, _, _, _, _, _]) (o := i) (v := .bool true) (cs' := (a2.set i true).map bo) rfl rfl kR rfl rfl sW (sM) <| s_n <| s_r <| q_m rfl rfl <| s_q rfl (y_nilCheck rfl) <| s_q rfl (y_fldN (o := 0) 2 rfl kR) <| s_q rfl (y_load rfl rfl (hc (o := 2) (mm 12 rfl) (rfl))) <| q_m rfl rfl <| s_q rfl (y_ixR (j := i) rfl rfl hfo.choose_spec lenP kR) <| s_q rfl (y_load rfl rfl (fun w hw => ((fun w hw => own_rdS (hw.mem (mm 13 rfl))) w hw).cell (gM (f := PT) (d := 0) lenP))) <| tk_re 145 (.pointer (some ⟨(cs.map Cl.lb).getD i 0, 0, none⟩)) (PT k.lb) rfl (by rw [← hI.lbs, lbs_get hk]) <| tk_act rfl <| a_callv [] _ rfl kR rfl (fun w' hw' => held_spec (x := (stepY z107)) (hk := rq 1) (mk := rq 2) (nk := List.replicate 32 0) (tb := k.tb) (sb := sb) (kb := kb) (lb := k.lb) ⟨lenP, lenP, lenP⟩ (St.pre hw')) rfl fun _ _ => q_m rfl rfl <| s_q rfl (y_extract rfl rfl) <| s_q rfl (y_extract rfl rfl) <| q_a rfl rfl ?_; refine q_a rfl rfl <| tk_ps [8, 8, 8, 8, 4] rfl <| tk_teamPut (i := i) (cs := es) (k := (⟨k.lb, k.tb, k.vb, stepY z107, k.tl, z107.c, z107.p, z107.vl⟩ : Cl)) oM rfl <| tk_R (H1 := [_, _, _, _, _, _]) rfl (congrArg (fun z_ => cel b6 z_ 103) (show (a2.set i true).map bo = (a2.set i (!fin z107)).map bo from by rw [Bool.eq_false_iff.2 hf]; rfl)) <| s_n ?_; refine tk_seqI (X := Unit) (fun _ => True) (fun _ => [(1, PT b1), (3, PT tw), (5, PT b5), (6, PT b6), (7, PT b7), (9, IN n), (10, IN i), (13, .bool ((decide (¬ (stepY z107).own = []))))]) (fun _ => [team ((es.set i (⟨k.lb, k.tb, k.vb, stepY z107, k.tl, z107.c, z107.p, z107.vl⟩ : Cl)).flatMap (clP sb kb)), cel kb ([I 0]) 178, cel sb ([Value.map (some mb), I ((stepT z107).left), .bool ((stepT z107).off), I ((stepT z107).made), I ((stepT z107).room)]) 192, mapS mb (kvO ((stepT z107).obs)), bag (((stepT z107).obs).map (obR 5)), cel b7 (h2.map bo) 103, cel b6 ((a2.set i (!fin z107)).map bo) 103, cel b5 (w.map bo) 103, cel tw ([PT sb, PT kb, vo]) 97, own vo ((cs.map Cl.lb).length) ((cs.map Cl.lb).map PT) 91 1, cel b1 ([av, pv]) 102]) ?_ ?_
              · refine s_r <| q_m rfl rfl <| q_m rfl rfl <| q_m rfl rfl <| tk_gno rfl rfl rfl <| tk_gno rfl rfl rfl <| s_q rfl (y_pick0 rfl rfl) <| tk_qe (.bool false) rfl rfl rfl (y_neB (a := decide (¬ (stepY z107).own = [])) (b := false) rfl rfl rfl) (congrArg Value.bool (by rw [decide_eq_false (fun q => hf (hown.1 q).1)]; rfl)) <| q_m rfl rfl <| tk_gqs rfl rfl rfl (y_move rfl) (fun hs26_8 => ?_) (fun hs26_8 => ?_)
                · exact s_g rfl (y_move rfl) <| s_g rfl (y_move rfl) <| s_g rfl (y_move rfl) <| s_g rfl (y_ixA01 5 (i := i) rfl rfl kR oM) <| s_g rfl (y_load rfl rfl (hc (o := i) (mm 7 rfl) (gM (d := false) lenP))) <| tk_gqe (.bool false) rfl rfl rfl (y_neB (a := (heldB (stepY z107))) (b := w.getD i false) rfl rfl rfl) (congrArg Value.bool (by rw [heldB, if_neg hs26_8, hlone hs26_8]; simp)) <| s_g rfl (y_pick1 rfl rfl) <| s_q rfl (y_pick0 rfl rfl) <| s_n <| tk_cond0 rfl <| tk_skip <| tk_re 13 (.bool (decide (¬ (stepY z107).own = []))) (.bool ((decide (¬ (stepY z107).own = [])))) rfl (rfl) <| tk_to (()) (by first | exact trivial | omega | (dsimp only; omega)) sB (List.Sublist.refl _)
                · exact s_g rfl (y_move rfl) <| tk_gno rfl rfl rfl <| tk_gno rfl rfl rfl <| tk_gno rfl rfl rfl <| tk_gno rfl rfl rfl <| tk_gno rfl rfl rfl <| s_g rfl (y_pick0 rfl rfl) <| s_q rfl (y_pick0 rfl rfl) <| s_n <| tk_cond0 rfl <| tk_skip <| tk_re 13 (.bool (decide (¬ (stepY z107).own = []))) (.bool ((decide (¬ (stepY z107).own = [])))) rfl (rfl) <| tk_to (()) (by first | exact trivial | omega | (dsimp only; omega)) sB (List.Sublist.refl _)
              · rintro _ _
                refine s_r <| q_m rfl rfl <| q_m rfl rfl <| s_q rfl (y_ixA01 5 (i := i) rfl rfl kR oM) <| tk_act rfl <| a_storeE (H1 := [_, _, _, _, _]) (o := i) (v := .bool ((decide (¬ (stepY z107).own = [])))) (cs' := (h2.set i ((decide (¬ (stepY z107).own = [])))).map bo) rfl rfl kR rfl rfl sW (sM) <| s_n <| s_r <| q_a rfl rfl <| s_n <| tk_block <| tk_loop (X := Nat) (fun j => j ≤ 5) (fun j => [(1, PT b1), (3, PT tw), (5, PT b5), (6, PT b6), (7, PT b7), (9, IN n), (10, IN i), (15, IN j)]) (fun j => [team ((es.set i (⟨k.lb, k.tb, k.vb, stepY z107, k.tl, z107.c, z107.p, z107.vl⟩ : Cl)).flatMap (clP sb kb)), cel kb ([I 0]) 178, cel sb ([Value.map (some mb), I ((stepT z107).left), .bool ((stepT z107).off), I ((stepT z107).made), I ((stepT z107).room)]) 192, mapS mb (kvO ((stepT z107).obs)), bag (((stepT z107).obs).map (obR 5)), cel b7 ((h2.set i ((decide (¬ (stepY z107).own = [])))).map bo) 103, cel b6 ((a2.set i (!fin z107)).map bo) 103, cel b5 (w.map bo) 103, cel tw ([PT sb, PT kb, vo]) 97, own vo ((cs.map Cl.lb).length) ((cs.map Cl.lb).map PT) 91 1, cel b1 ([av, pv]) 102]) (fun j => 5 - j) (0) (Nat.zero_le _) sB ((List.Sublist.refl _)) ?_
                rintro j hj5
                try dsimp only at hj5 ⊢
                refine tk_seq <| s_r <| q_m rfl rfl <| s_q rfl (y_lss rfl rfl) <| s_n <| tk_condP rfl (fun ht170 => ?_) (fun ht170 => ?_)
                · refine tk_skip <| tk_then <| tk_seq <| tk_block <| s_r <| q_m rfl rfl <| q_m rfl rfl <| tk_qs rfl rfl rfl (y_neq rfl rfl) (fun hs32_2 => ?_) (fun hs32_2 => ?_)
                  · refine q_m rfl rfl <| s_g rfl (y_move rfl) <| s_g rfl (y_ixA01 5 (i := j) rfl rfl kR oM) <| tk_gqe (.bool (decide ((h2.set i (decide (¬ (stepY z107).own = []))).getD j false = true))) rfl rfl rfl (y_load rfl rfl (hc (o := j) (mm 5 rfl) (gM (d := false) lenP))) (by rw [Bool.decide_eq_true]) <| tk_qs rfl rfl rfl (y_pick1 rfl rfl) (fun hs32_7 => ?_) (fun hs32_7 => ?_)
                    · refine q_m rfl rfl <| s_g rfl (y_move rfl) <| s_g rfl (y_ixA01 5 (i := i) rfl rfl kR oM) <| tk_gqe (.bool (decide ((h2.set i (decide (¬ (stepY z107).own = []))).getD i false = true))) rfl rfl rfl (y_load rfl rfl (hc (o := i) (mm 5 rfl) (gM (d := false) lenP))) (by rw [Bool.decide_eq_true]) <| tk_qs rfl rfl rfl (y_pick1 rfl rfl) (fun hs32_12 => ?_) (fun hs32_12 => ?_)
                      · refine q_m rfl rfl <| s_g rfl (y_move rfl) <| s_g rfl (y_ixA01 5 (i := j) rfl rfl kR oM) <| tk_gqe (.bool (decide (w.getD j false = true))) rfl rfl rfl (y_load rfl rfl (hc (o := j) (mm 7 rfl) (gM (d := false) lenP))) (by rw [Bool.decide_eq_true]) <| tk_gqs rfl rfl rfl (y_move rfl) (fun hs32_17 => ?_) (fun hs32_17 => ?_)
                        · exfalso; have h9 := rc_apart hRn hi5 (by omega : j < 5) (fun q => hs32_2 (by rw [q])) hs32_12 hs32_7; first | (rw [h9.2] at hs32_17; cases hs32_17) | (rw [h9.1] at ht195; cases ht195)
                        · refine s_g rfl (y_move rfl) <| s_g rfl (y_ixA01 5 (i := i) rfl rfl kR oM) <| tk_gqe (.bool (decide (w.getD i false = true))) rfl rfl rfl (y_load rfl rfl (hc (o := i) (mm 7 rfl) (gM (d := false) lenP))) (by rw [Bool.decide_eq_true]) <| s_g rfl (y_pick0 rfl rfl) <| s_q rfl (y_pick1 rfl rfl) <| s_n <| tk_condP rfl (fun ht195 => ?_) (fun ht195 => ?_)
                          · exfalso; have h9 := rc_apart hRn hi5 (by omega : j < 5) (fun q => hs32_2 (by rw [q])) hs32_12 hs32_7; first | (rw [h9.2] at hs32_17; cases hs32_17) | (rw [h9.1] at ht195; cases ht195)
                          · exact tk_skip <| tk_in_normal <| tk_then <| tk_region <| q_m rfl rfl <| s_q rfl (y_addN (a := j) (b := 1) rfl rfl oM) <| q_a rfl rfl <| tk_nil <| tk_again (j + 1) oM oM sB (List.Sublist.refl _)
                      · exact q_m rfl rfl <| tk_gno rfl rfl rfl <| tk_gno rfl rfl rfl <| tk_gno rfl rfl rfl <| tk_gno rfl rfl rfl <| tk_gno rfl rfl rfl <| tk_gno rfl rfl rfl <| tk_gno rfl rfl rfl <| tk_gno rfl rfl rfl <| s_q rfl (y_pick0 rfl rfl) <| s_n <| tk_cond0 rfl <| tk_skip <| tk_in_normal <| tk_then <| tk_region <| q_m rfl rfl <| s_q rfl (y_addN (a := j) (b := 1) rfl rfl oM) <| q_a rfl rfl <| tk_nil <| tk_again (j + 1) oM oM sB (List.Sublist.refl _)
                    · refine q_m rfl rfl <| tk_gno rfl rfl rfl <| tk_gno rfl rfl rfl <| tk_gno rfl rfl rfl <| s_q rfl (y_pick0 rfl rfl) <| q_m rfl rfl <| tk_gno rfl rfl rfl <| tk_gno rfl rfl rfl <| tk_gno rfl rfl rfl <| tk_gno rfl rfl rfl <| tk_gno rfl rfl rfl <| tk_gno rfl rfl rfl <| tk_gno rfl rfl rfl <| tk_gno rfl rfl rfl <| s_q rfl (y_pick0 rfl rfl) <| s_n <| tk_cond0 rfl <| tk_skip <| tk_in_normal <| tk_then <| tk_region <| q_m rfl rfl <| s_q rfl (y_addN (a := j) (b := 1) rfl rfl oM) <| q_a rfl rfl ?_; exact tk_nil <| tk_again (j + 1) oM oM sB (List.Sublist.refl _)
                  · refine q_m rfl rfl <| tk_gno rfl rfl rfl <| tk_gno rfl rfl rfl <| tk_gno rfl rfl rfl <| s_q rfl (y_pick0 rfl rfl) <| q_m rfl rfl <| tk_gno rfl rfl rfl <| tk_gno rfl rfl rfl <| tk_gno rfl rfl rfl <| s_q rfl (y_pick0 rfl rfl) <| q_m rfl rfl <| tk_gno rfl rfl rfl <| tk_gno rfl rfl rfl <| tk_gno rfl rfl rfl <| tk_gno rfl rfl rfl <| tk_gno rfl rfl rfl <| tk_gno rfl rfl rfl <| tk_gno rfl rfl rfl <| tk_gno rfl rfl rfl <| s_q rfl (y_pick0 rfl rfl) <| s_n <| tk_cond0 rfl <| tk_skip <| tk_in_normal ?_; exact tk_then <| tk_region <| q_m rfl rfl <| s_q rfl (y_addN (a := j) (b := 1) rfl rfl oM) <| q_a rfl rfl <| tk_nil <| tk_again (j + 1) oM oM sB (List.Sublist.refl _)
                · exact tk_exit <| tk_then_exit <| tk_then_exit <| tk_in_hit <| tk_in_normal <| tk_then <| tk_region <| q_m rfl rfl <| s_q rfl (y_addN (a := n) (b := 1) rfl rfl oM) <| q_a rfl rfl <| tk_nil <| tk_ps [10, 1, 5, 5, 5, 5, 10, 10, 10, 10, 10] rfl <| tk_again ((n + 1, stepT z107, es.set i (⟨k.lb, k.tb, k.vb, stepY z107, k.tl, z107.c, z107.p, z107.vl⟩ : Cl), a2.set i (!fin z107), h2.set i (decide (¬ (stepY z107).own = [])))) (hRn) (by dsimp only; omega) sB (List.Sublist.refl _)
    · have hn60 : n = 60 := by have := hI.n60; omega
      subst hn60
      obtain ⟨hls, hll⟩ := rc_count hI
      refine tk_exit <| tk_then_exit <| tk_then_exit <| tk_in_hit <| tk_then <| s_r <| q_a rfl rfl <| s_n <| tk_seq <| s_r <| q_a rfl rfl <| s_n <| tk_block <| tk_re 16 (I 0) (IN (cntB h2 0)) rfl (rfl) <| tk_loop (X := Nat) (fun m => m ≤ 5) (fun m => [(3, PT tw), (6, PT b6), (7, PT b7), (16, IN (cntB h2 m)), (17, IN m)]) (fun m => [cel b7 (h2.map bo) 103, cel b6 (a2.map bo) 103, cel b5 (w.map bo) 103, cel tw ([PT sb, PT kb, vo]) 97, own vo ((cs.map Cl.lb).length) ((cs.map Cl.lb).map PT) 91 1, cel kb ([I 0]) 178, cel sb ([Value.map (some mb), I (s.left), .bool s.off, I (s.made), I (s.room)]) 192, mapS mb (kvO s.obs), bag (s.obs.map (obR 5)), team (es.flatMap (clP sb kb)), cel b1 ([av, pv]) 102]) (fun m => 5 - m) (0) (Nat.zero_le _) sB ((List.Sublist.refl _)) ?_
      rintro m hm5
      try dsimp only at hm5 ⊢
      have hcm := cnt_le (h := h2) (i := m)
      refine tk_seq <| s_r <| q_m rfl rfl <| s_q rfl (y_lss rfl rfl) <| s_n <| tk_condP rfl (fun ht197 => ?_) (fun ht197 => ?_)
      · refine tk_skip <| tk_then <| tk_seq <| tk_block <| tk_seq <| s_r <| q_m rfl rfl <| s_q rfl (y_ixA01 5 (i := m) rfl rfl kR oM) <| s_q rfl (y_load rfl rfl (hc (o := m) (mm 1 rfl) (gM (d := false) lenP))) <| tk_re 202 (.bool (a2.getD m false)) (.bool false) rfl (by rw [rc_end hI oM]) <| s_n <| tk_cond0 rfl <| tk_skip <| tk_then <| s_r <| q_m rfl rfl <| s_q rfl (y_ixA01 5 (i := m) rfl rfl kR oM) <| s_q rfl (y_load rfl rfl (hc (o := m) (.head _) (gM (d := false) lenP))) <| s_n <| tk_cond rfl (fun ht205 => ?_) (fun ht205 => ?_)
        · exact tk_region <| q_m rfl rfl <| s_q rfl (y_addN (a := cntB h2 m) (b := 1) rfl rfl oM) <| q_a rfl rfl <| tk_nil <| tk_in_normal <| tk_then <| tk_region <| q_m rfl rfl <| s_q rfl (y_addN (a := m) (b := 1) rfl rfl oM) <| q_a rfl rfl <| tk_nil <| tk_re 16 (I (((cntB h2 m) + 1 : Nat) : Int)) (I ((cntB h2 (m + 1) : Nat) : Int)) rfl (by rw [cnt_succ, if_pos ht205]) <| tk_again (m + 1) oM oM sB (List.Sublist.refl _)
        · exact tk_skip <| tk_in_normal <| tk_then <| tk_region <| q_m rfl rfl <| s_q rfl (y_addN (a := m) (b := 1) rfl rfl oM) <| q_a rfl rfl <| tk_nil <| tk_re 16 (IN (cntB h2 m)) (I ((cntB h2 (m + 1) : Nat) : Int)) rfl (by rw [cnt_succ, if_neg (by rw [ht205]; decide)]; rfl) <| tk_again (m + 1) oM oM sB (List.Sublist.refl _)
      · have hm6 : m = 5 := by omega
        subst hm6
        refine tk_exit <| tk_then_exit <| tk_then_exit <| tk_in_hit <| tk_then <| s_r <| q_m rfl rfl <| s_q rfl (y_nilCheck rfl) <| s_q rfl (y_fld0 (o := 0) rfl kR) <| s_q rfl (y_load rfl rfl (hc (o := 0) (mm 3 rfl) (rfl))) <| tk_act rfl <| tk_ps [8, 8, 8] rfl <| a_callv [] _ rfl kR rfl (fun w' hw' => list_spec (s := s) (sb := sb) (mb := mb) (m := [108, 47]) (hI.at_.ok oM) lenP (St.pre hw')) rfl fun v213 _ => tk_own1 (.head _) fun hfv213 => q_m rfl rfl <| s_q rfl (y_extract rfl rfl) <| s_q rfl (y_extract rfl rfl) <| q_a rfl rfl <| q_a rfl rfl <| s_n <| s_r <| q_m rfl rfl <| tk_qe (.bool true) rfl rfl rfl (y_eql rfl rfl) (bool_t oM) <| q_m rfl rfl ?_; exact s_g rfl (y_move rfl) <| s_g rfl (y_lenRN (n' := (s.list [108, 47]).2.length) rfl hfv213.choose_spec rfl (by first | rfl | (rw [List.length_map]; omega) | simp)) <| s_g rfl (y_move rfl) <| tk_gqe (.bool true) rfl rfl rfl (y_eql rfl rfl) (bool_t oM) <| s_q rfl (y_pick1 rfl rfl) <| q_a rfl rfl <| s_n <| tk_retc <| tk_ret (()) (trivial) (.inl rfl) (r1 rfl rfl) (List.nil_sublist _)
end Go.Proofs.YtkkjfojgjmglpaaGreatDoor
