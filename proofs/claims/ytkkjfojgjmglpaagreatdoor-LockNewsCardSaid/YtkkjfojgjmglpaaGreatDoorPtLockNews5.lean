/- Texts of the claim LockNews, part 5 of 5: LockCalm, LockTake, LogD, LogE, LockI, LockJ, LockLst, LockK, LockL. Own work. -/
import Derived.Test.YtkkjfojgjmglpaaGreatDoorPtLockNews4
set_option linter.unusedSimpArgs false
set_option linter.unusedVariables false
namespace Go.Proofs.YtkkjfojgjmglpaaGreatDoor
open Go
structure Qt (s : Sh) (N : Nat) : Prop where
  calm : Calm s
  room : s.room = 100000
  small : ∀ o ∈ s.obs, o.b.length ≤ 200
  len : s.obs.length ≤ N
theorem Qt.mono {s : Sh} {N M : Nat} (h : Qt s N) (hM : N ≤ M) : Qt s M := ⟨h.calm, h.room, h.small, Nat.le_trans h.len hM⟩
theorem Qt.off {s : Sh} {N : Nat} (h : Qt s N) : ¬ s.off = true := by rw [h.calm.off]; decide
theorem sumO_le200 {l : List Ob} (h : ∀ o ∈ l, o.b.length ≤ 200) : sumO l ≤ 200 * l.length := by
  induction l with
  | nil => exact Nat.zero_le _
  | cons o l ih =>
    have h1 := h o (List.mem_cons_self ..)
    have h2 := ih (fun o ho => h o (List.mem_cons_of_mem _ ho))
    unfold sumO at h2 ⊢
    rw [List.map_cons, List.sum_cons, List.length_cons]; omega
theorem del_q {s : Sh} {N : Nat} {a : List UInt8} (h : Qt s N) : ((s.del a).2 = 0 ∨ (s.del a).2 = 6) ∧ (hasO s.obs a → (s.del a).2 = 0) ∧ Qt (s.del a).1 N := by
  by_cases ha : hasO s.obs a
  · have e : s.del a = (s.tick.obsTo (delO s.obs a), 0) := by
      have : delC s a = 0 := by rw [delC, if_neg (fun q => q ha)]
      rw [Sh.del, this, change_calm h.calm]; rfl
    rw [e]
    refine ⟨.inl rfl, fun _ => rfl, ⟨⟨h.calm.off, h.calm.left⟩, h.room, fun o ho => h.small o (List.mem_filter.1 ho).1, ?_⟩⟩
    exact Nat.le_trans (List.length_filter_le _ _) h.len
  · have e : s.del a = (s, 6) := by rw [Sh.del, delC, if_pos ha, change_calmNo h.calm (by decide)]
    rw [e]
    exact ⟨.inr rfl, fun q => (ha q).elim, h⟩
theorem put_q {s : Sh} {N : Nat} {a b : List UInt8} {v : Value} (h : Qt s N) (ha : isNm a) (hn : ¬ hasO s.obs a) (hb : b.length ≤ 200) (hN : N < 400) : (s.put a v b).2 = 0 ∧ Qt (s.put a v b).1 (N + 1) := by
  have h1 := sumO_le200 h.small
  have h2 := h.len
  have h3 := h.room
  have e : s.put a v b = (s.tick.obsTo (s.obs ++ [⟨a, v, b, false⟩]), 0) := by
    have : putC s a b = 0 := by rw [putC, if_neg (fun q => q ha), if_neg hn, if_neg (by omega), if_neg (by omega)]
    rw [Sh.put, this, change_calm h.calm]; rfl
  rw [e]
  refine ⟨rfl, ⟨⟨h.calm.off, h.calm.left⟩, h.room, fun o ho => ?_, ?_⟩⟩
  · rcases List.mem_append.1 ho with ho | ho
    · exact h.small o ho
    · rw [List.mem_singleton.1 ho]; exact hb
  · show (s.obs ++ [_]).length ≤ _
    rw [List.length_append]; simp; exact h2
theorem nudge_q {s : Sh} {N : Nat} (h : Qt s N) : s.nudge = (s.tick, 0) := by rw [Sh.nudge, change_calm h.calm]; rfl
theorem sync_q2 {s : Sh} {N : Nat} {a : List UInt8} (h : Qt s N) (ha : hasO s.obs a) : (s.sync1 a).2 = 0 ∧ Qt (s.sync1 a).1 N := by
  have e : s.sync1 a = (s.tick.obsTo (syncO s.obs a), 0) := by rw [sync1_ok (by rw [nudge_q h]) (by rw [nudge_q h]; exact ha), nudge_q h]; rfl
  rw [e]
  refine ⟨rfl, ⟨⟨h.calm.off, h.calm.left⟩, h.room, fun o ho => ?_, ?_⟩⟩
  · obtain ⟨u, hu, e2⟩ := List.mem_map.1 (show o ∈ s.obs.map _ from ho)
    have := h.small u hu
    rw [← e2]; split <;> exact this
  · show (syncO s.obs a).length ≤ N
    unfold syncO; rw [List.length_map]; exact h.len
theorem ren_q {s : Sh} {N : Nat} {a b : List UInt8} (h : Qt s N) (ha : hasO s.obs a) (hb : isNm b) (hab : a ≠ b) : ((s.ren a b).2 = if hasO s.obs b then 7 else 0) ∧ Qt (s.ren a b).1 N := by
  by_cases hh : hasO s.obs b
  · have e : s.ren a b = (s, 7) := by
      have : renC s a b = 7 := by rw [renC, if_neg (fun q => q hb), if_neg (fun q => q ha), if_pos ⟨hh, hab⟩]
      rw [Sh.ren, this, change_calmNo h.calm (by decide)]
    rw [e, if_pos hh]; exact ⟨rfl, h⟩
  · have e : s.ren a b = (s.tick.obsTo (delO s.obs a ++ [nameTo (lkO s.obs a) b]), 0) := by
      have : renC s a b = 0 := by rw [renC, if_neg (fun q => q hb), if_neg (fun q => q ha), if_neg (fun q => hh q.1)]
      rw [Sh.ren, this, change_calm h.calm]; rfl
    rw [e, if_neg hh]
    refine ⟨rfl, ⟨⟨h.calm.off, h.calm.left⟩, h.room, fun o ho => ?_, ?_⟩⟩
    · rcases List.mem_append.1 ho with ho | ho
      · exact h.small o (List.mem_filter.1 ho).1
      · rw [List.mem_singleton.1 ho]; have h9 := h.small _ (lkO_name ha).2; exact h9
    · show (delO s.obs a ++ [_]).length ≤ N
      have h1 : (delO s.obs a).length < s.obs.length := by
        unfold delO
        rw [← List.countP_eq_length_filter]
        refine Nat.lt_of_le_of_ne (List.countP_le_length) (fun q => ?_)
        have := List.countP_eq_length.1 q _ (lkO_name ha).2
        rw [(lkO_name ha).1] at this; simp at this
      have := h.len
      rw [List.length_append]; simp; omega
theorem write_q {s : Sh} {N : Nat} {d b : List UInt8} {v : Value} (h : Qt s N) (hd : isNm d) (hb : b.length ≤ 200) (hN : N < 400) : (writeF s d v b).2 = 0 ∧ Qt (writeF s d v b).1 (N + 1) := by
  obtain ⟨h1, h1b, h2⟩ := del_q (a := d) h
  have hn : ¬ hasO (s.del d).1.obs d := by
    rw [← vw_none, vw_del]
    split
    · rfl
    · next q => rw [vw_none]; exact fun r => q ⟨h1b r, rfl⟩
  obtain ⟨h3, h4⟩ := put_q (v := v) h2 hd hn hb hN
  have hx : hasO ((s.del d).1.put d v b).1.obs d := ((vw_some (b := b)).1 (by rw [vw_put, if_pos ⟨h3, rfl⟩])).1
  obtain ⟨h5, h6⟩ := sync_q2 (a := d) h4 hx
  rw [wr_4 h1 h3 h5]
  exact ⟨rfl, h6⟩
theorem show_q {s : Sh} {N : Nat} {d n : List UInt8} (h : Qt s N) (hd : hasO s.obs d) (hn : isNm n) (hdn : d ≠ n) : (showF s d n).2 = 0 ∧ Qt (showF s d n).1 N ∧ vw (showF s d n).1 n = vw s d ∧ vw (showF s d n).1 d = none := by
  obtain ⟨h1, h2⟩ := ren_q h hd hn hdn
  by_cases hh : hasO s.obs n
  · rw [if_pos hh] at h1
    have h8 : (s.ren d n).1 = s := by
      have : renC s d n = 7 := by rw [renC, if_neg (fun q => q hn), if_neg (fun q => q hd), if_pos ⟨hh, hdn⟩]
      rw [Sh.ren, this, change_calmNo h.calm (by decide)]
    obtain ⟨_, h3, h4⟩ := del_q (a := n) h
    have h3 := h3 hh
    have hd2 : hasO (s.del n).1.obs d := by
      have : vw (s.del n).1 d = vw s d := by rw [vw_del, if_neg (fun q => hdn q.2)]
      rw [(vw_some (b := (lkO s.obs d).b)).2 ⟨hd, rfl⟩] at this
      exact (vw_some.1 this).1
    obtain ⟨h5, h6⟩ := ren_q h4 hd2 hn hdn
    have hn2 : ¬ hasO (s.del n).1.obs n := by rw [← vw_none, vw_del, if_pos ⟨h3, rfl⟩]
    rw [if_neg hn2] at h5
    have e : showR s d n = ((s.del n).1.ren d n) := by rw [sh_3 h1 (by rw [h8]; exact h3), h8]
    rw [sf_0 (show showR s d n = (((s.del n).1.ren d n).1, ((s.del n).1.ren d n).2) from e) h5]
    refine ⟨rfl, h6, ?_, ?_⟩
    · show vw ((s.del n).1.ren d n).1 n = _
      rw [vw_ren hdn, if_pos h5, if_pos rfl, vw_del, if_neg (fun q => hdn q.2)]
    · show vw ((s.del n).1.ren d n).1 d = _
      rw [vw_ren hdn, if_pos h5, if_neg hdn, if_pos rfl]
  · rw [if_neg hh] at h1
    rw [sf_0 (show showR s d n = ((s.ren d n).1, (s.ren d n).2) from sh_1 (by omega)) h1]
    refine ⟨rfl, h2, ?_, ?_⟩
    · show vw (s.ren d n).1 n = _
      rw [vw_ren hdn, if_pos h1, if_pos rfl]
    · show vw (s.ren d n).1 d = _
      rw [vw_ren hdn, if_pos h1, if_neg hdn, if_pos rfl]
theorem sw_q {del : List UInt8 → Bool} {N : Nat} {l : List (List UInt8)} : ∀ {q : Sh × Nat}, Qt q.1 N → q.2 = 0 → Qt (l.foldl (swQ del) q).1 N ∧ (l.foldl (swQ del) q).2 = 0 ∧ ∀ m, vw (l.foldl (swQ del) q).1 m = if m ∈ l ∧ del m = true then none else vw q.1 m := by
  induction l with
  | nil => intro q h h0; exact ⟨h, h0, fun m => by rw [if_neg (fun r => nomatch r.1)]; rfl⟩
  | cons n l ih =>
    intro q h h0
    by_cases hd : del n = true
    · have e : swQ del q n = ((q.1.del n).1, if (q.1.del n).2 = 6 then 0 else (q.1.del n).2) := by rw [swQ, if_pos ⟨h0, hd⟩]
      obtain ⟨h1, h1b, h2⟩ := del_q (a := n) h
      have e0 : (swQ del q n).2 = 0 := by rw [e]; dsimp only; split <;> omega
      have e1 : (swQ del q n).1 = (q.1.del n).1 := by rw [e]
      obtain ⟨i1, i2, i3⟩ := ih (q := swQ del q n) (by rw [e1]; exact h2) e0
      refine ⟨i1, i2, fun m => ?_⟩
      rw [List.foldl_cons, i3 m, e1]
      by_cases hm : m ∈ l ∧ del m = true
      · rw [if_pos hm, if_pos ⟨List.mem_cons_of_mem _ hm.1, hm.2⟩]
      · rw [if_neg hm]
        by_cases hmn : m = n
        · subst hmn
          rw [if_pos ⟨List.mem_cons_self .., hd⟩, vw_del]
          by_cases hh : hasO q.1.obs m
          · rw [if_pos ⟨h1b hh, rfl⟩]
          · split
            · rfl
            · exact vw_none.2 hh
        · rw [vw_del, if_neg (fun r => hmn r.2), if_neg (fun r => by
            rcases List.mem_cons.1 r.1 with r1 | r1
            · exact hmn r1
            · exact hm ⟨r1, r.2⟩)]
    · have e : swQ del q n = q := by rw [swQ, if_neg (fun r => hd r.2)]
      obtain ⟨i1, i2, i3⟩ := ih (q := swQ del q n) (by rw [e]; exact h) (by rw [e]; exact h0)
      refine ⟨i1, i2, fun m => ?_⟩
      rw [List.foldl_cons, i3 m, e]
      by_cases hm : m ∈ l ∧ del m = true
      · rw [if_pos hm, if_pos ⟨List.mem_cons_of_mem _ hm.1, hm.2⟩]
      · rw [if_neg hm, if_neg (fun r => by
          rcases List.mem_cons.1 r.1 with r1 | r1
          · rw [r1] at r; exact hd r.2
          · exact hm ⟨r1, r.2⟩)]
/-- a lock of these words lies by this name -/
def HasL (hk mk : List UInt8) (s : Sh) (now : Nat) (n : List UInt8) (m : Mk) : Prop := n.length < 256 ∧ preB [108, 47] n = true ∧ ∃ b, vw s n = some b ∧ MkAt hk mk now n b m
/-- is there one that a client would meet? -/
def Conf (hk mk : List UInt8) (s : Sh) (now cl : Nat) (b : Bool) : Prop := ∃ n m, HasL hk mk s now n m ∧ ¬ m.c = cl ∧ holdsP now m ∧ (b = true ∨ m.a = true)
theorem free_q {hk mk : List UInt8} {s : Sh} {now cl N : Nat} {b : Bool} (hW : LkW hk mk s now) (hnow : now ≤ 1099511627776) (h : Qt s N) :
    (Conf hk mk s now cl b → (if s.off = true then 9 else freeE (moOf hk mk s now) now b (othN (moOf hk mk s now) cl (lsN s [108, 47]))) = 12) ∧ (¬ Conf hk mk s now cl b → (if s.off = true then 9 else freeE (moOf hk mk s now) now b (othN (moOf hk mk s now) cl (lsN s [108, 47]))) = 0) := by
  rw [if_neg h.off]
  have key : (∃ n ∈ othN (moOf hk mk s now) cl (lsN s [108, 47]), meets (moOf hk mk s now) now b n) ↔ Conf hk mk s now cl b := by
    constructor
    · rintro ⟨n, hn, hm⟩
      obtain ⟨h1, h2⟩ := List.mem_filter.1 hn
      obtain ⟨h3, h4⟩ := lsN_mem.1 h1
      obtain ⟨h5, m, h6⟩ := hW n _ (vw_some.2 ⟨h3, rfl⟩) h4
      have e := mo_at h5 hnow (vw_some.2 ⟨h3, rfl⟩) h6
      rw [e] at h2
      unfold meets at hm
      rw [e] at hm
      exact ⟨n, m, ⟨h5, h4, _, vw_some.2 ⟨h3, rfl⟩, h6⟩, by simpa using h2, hm⟩
    · rintro ⟨n, m, ⟨h1, h2, bb, h3, h4⟩, h5, h6⟩
      have e := mo_at h1 hnow h3 h4
      refine ⟨n, List.mem_filter.2 ⟨lsN_mem.2 ⟨(vw_some.1 h3).1, h2⟩, by rw [e]; simpa using h5⟩, ?_⟩
      unfold meets
      rw [e]; exact h6
  constructor
  · intro q; rw [freeE, if_pos (key.2 q)]
  · intro q; rw [freeE, if_neg (fun r => q (key.1 r))]
theorem seal_small {hk mk tl : List UInt8} {n : List UInt8} {p : Nat} {m : Mk} (hm : m.c < 100 ∧ m.t ≤ 1099511627776) : (sealL hk mk 108 n (tapeN tl p 16) (mkY m)).length ≤ 200 := by
  have := mkY_len hm
  rw [sealL_len tapeN_len]; omega
section
variable {hk mk tl : List UInt8} {s : Sh} {x : Lk} {now c p N : Nat} {vl : Value} {z : Stp}
theorem step1_q (hW : LkW hk mk s now) (hnow : now ≤ 1099511627776) (h : Qt s N) (h1 : x.asks = 1) (hz : StepR hk mk tl (moOf hk mk s now) s x now c p vl z) :
    z.t = s ∧ z.y = x ∧ (Conf hk mk s now x.cl x.want → z.e = 12) ∧ (¬ Conf hk mk s now x.cl x.want → z.e = 0) := by
  rcases hz with ⟨_, rfl⟩ | ⟨q, _⟩ | ⟨q, _⟩ | ⟨q, _⟩
  · exact ⟨rfl, rfl, (free_q hW hnow h).1, (free_q hW hnow h).2⟩
  · omega
  · omega
  · omega
theorem step2_q (hcl : x.cl < 100) (hnow : now ≤ 1099511627776) (h : Qt s N) (hN : N < 400) (h1 : x.asks = 2) (hz : StepR hk mk tl (moOf hk mk s now) s x now c p vl z) :
    z.e = 0 ∧ Qt z.t (N + 1) ∧ z.y = { x with next := lkName x.cl x.made, m := ⟨x.cl, x.want, now⟩ } ∧ (∃ b, vw z.t (dfName x.cl) = some b ∧ MkAt hk mk now (lkName x.cl x.made) b ⟨x.cl, x.want, now⟩) ∧ ∀ n, n ≠ dfName x.cl → vw z.t n = vw s n := by
  rcases hz with ⟨q, _⟩ | ⟨_, c', vl', v, _, rfl⟩ | ⟨q, _⟩ | ⟨q, _⟩
  · omega
  · obtain ⟨h2, h3⟩ := write_q (v := v) h (dfName_nm hcl).1 (seal_small (hk := hk) (mk := mk) (tl := tl) (n := lkName x.cl x.made) (p := p) (m := ⟨x.cl, x.want, now⟩) ⟨hcl, hnow⟩) hN
    refine ⟨h2, h3, ?_, ⟨_, write_ok h2, hcl, Nat.le_refl _, _, tapeN_len, rfl⟩, fun n hn => vw_write hn⟩
    show x.wrote _ _ _ = _
    rw [h2]; rfl
  · omega
  · omega
theorem step3_q (hcl : x.cl < 100) (hmd : x.made < 100) (hn : x.next = lkName x.cl x.made) (hd : hasO s.obs (dfName x.cl)) (h : Qt s N) (h1 : x.asks = 3) (hz : StepR hk mk tl (moOf hk mk s now) s x now c p vl z) :
    z.e = 0 ∧ Qt z.t N ∧ z.y = { x with made := x.made + 1, shown := true } ∧ vw z.t x.next = vw s (dfName x.cl) ∧ vw z.t (dfName x.cl) = none ∧ ∀ n, n ≠ dfName x.cl → n ≠ x.next → vw z.t n = vw s n := by
  rcases hz with ⟨q, _⟩ | ⟨q, _⟩ | ⟨_, rfl⟩ | ⟨q, _⟩
  · omega
  · omega
  · have hne : dfName x.cl ≠ x.next := by rw [hn]; exact df_lk
    obtain ⟨h2, h3, h4, h5⟩ := show_q h hd (by rw [hn]; exact lkName_nm hcl hmd) hne
    refine ⟨h2, h3, ?_, h4, h5, fun n q1 q2 => vw_show hne q1 q2⟩
    show x.shw _ = _
    rw [h2]; rfl
  · omega
theorem step4_q (hW : LkW hk mk s now) (hnow : now ≤ 1099511627776) (h : Qt s N) (h1 : x.asks = 4) (hz : StepR hk mk tl (moOf hk mk s now) s x now c p vl z) :
    (Conf hk mk s now x.cl x.want → z.e = 12 ∧ z.t = s ∧ z.y = x) ∧ (¬ Conf hk mk s now x.cl x.want → z.e = 0 ∧ Qt z.t N ∧ z.y = { x with own := x.next } ∧
      ∀ n, vw z.t n = vw s n ∨ (vw z.t n = none ∧ x.want = true ∧ ∃ m, HasL hk mk s now n m ∧ ¬ m.c = x.cl ∧ ¬ holdsP now m)) ∧
      (¬ Conf hk mk s now x.cl x.want → x.want = true → ∀ n m, HasL hk mk s now n m → ¬ m.c = x.cl → vw z.t n = none) := by
  rcases hz with ⟨q, _⟩ | ⟨q, _⟩ | ⟨q, _⟩ | ⟨_, rfl⟩
  · omega
  · omega
  · omega
  · have hf := free_q (b := x.want) (cl := x.cl) hW hnow h
    refine ⟨fun hc => ?_, fun hc => ?_, fun hc hw n m hl hmc => ?_⟩
    · have he := hf.1 hc
      have e1 : st4 (moOf hk mk s now) s x now = (s, 12) := by rw [st4_e (by rw [he]; decide), he]
      rw [e1]
      exact ⟨rfl, rfl, took_1 (show ¬ (12 : Nat) = 0 by omega)⟩
    · have he := hf.2 hc
      by_cases hw : x.want = true
      · have e1 := st4_w (mo := moOf hk mk s now) he hw
        obtain ⟨i1, i2, i3⟩ := sw_q (del := delB (moOf hk mk s now) x.cl now) (l := lsN s [108, 47]) (q := (s, 0)) h rfl
        rw [e1]
        refine ⟨i2, i1, ?_, fun n => ?_⟩
        · show x.took _ = _
          exact took_0 i2
        · have hv := i3 n
          by_cases hd : n ∈ lsN s [108, 47] ∧ delB (moOf hk mk s now) x.cl now n = true
          · rw [if_pos hd] at hv
            obtain ⟨h3, h4⟩ := lsN_mem.1 hd.1
            obtain ⟨h5, m, h6⟩ := hW n _ (vw_some.2 ⟨h3, rfl⟩) h4
            have e := mo_at h5 hnow (vw_some.2 ⟨h3, rfl⟩) h6
            have h7 := of_decide_eq_true hd.2
            rw [e] at h7
            exact .inr ⟨hv, hw, m, ⟨h5, h4, _, vw_some.2 ⟨h3, rfl⟩, h6⟩, h7⟩
          · rw [if_neg hd] at hv; exact .inl hv
      · rw [st4_0 he (by simpa using hw)]
        exact ⟨rfl, h, took_0 rfl, fun n => .inl rfl⟩
    · have he := hf.2 hc
      have e1 := st4_w (mo := moOf hk mk s now) he hw
      obtain ⟨i1, i2, i3⟩ := sw_q (del := delB (moOf hk mk s now) x.cl now) (l := lsN s [108, 47]) (q := (s, 0)) h rfl
      rw [e1]
      show vw ((lsN s [108, 47]).foldl (swQ (delB (moOf hk mk s now) x.cl now)) (s, 0)).1 n = _
      obtain ⟨h1, h2, bb, h3, h4⟩ := hl
      have e := mo_at h1 hnow h3 h4
      have hh : ¬ holdsP now m := fun hh => hc ⟨n, m, ⟨h1, h2, bb, h3, h4⟩, hmc, hh, .inl hw⟩
      rw [i3 n, if_pos ⟨lsN_mem.2 ⟨(vw_some.1 h3).1, h2⟩, decide_eq_true (by rw [e]; exact ⟨hmc, hh⟩)⟩]
end
end Go.Proofs.YtkkjfojgjmglpaaGreatDoor
set_option linter.unusedSimpArgs false
set_option linter.unusedVariables false
namespace Go.Proofs.YtkkjfojgjmglpaaGreatDoor
open Go
set_option maxHeartbeats 2000000
attribute [local irreducible] sealL tapeN tapeL lkName dfName preB
variable {hk mk tl : List UInt8} {s : Sh} {x : Lk} {now c p N : Nat} {vl : Value}
/-- a hand that has taken a lock; one that was refused -/
def Lk.has (x : Lk) (b : Bool) (now : Nat) : Lk := { x with made := x.made + 1, own := lkName x.cl x.made, asks := 0, want := b, next := [], shown := false, m := ⟨x.cl, b, now⟩ }
def Lk.not (x : Lk) (b : Bool) : Lk := { x with asks := 0, want := b, next := [], shown := false }
theorem HasL.one {n : List UInt8} {m m' : Mk} (hnow : now ≤ 1099511627776) (h : HasL hk mk s now n m) (h' : HasL hk mk s now n m') : m = m' := by
  obtain ⟨h1, _, b, h2, h3⟩ := h
  obtain ⟨_, _, b', h2', h3'⟩ := h'
  rw [h2] at h2'; cases h2'
  exact h3.one h1 hnow h3'
theorem HasL.vw {t : Sh} {n : List UInt8} {m : Mk} (h : HasL hk mk s now n m) (e : vw t n = vw s n) : HasL hk mk t now n m := ⟨h.1, h.2.1, by rw [e]; exact h.2.2⟩
theorem LkW.has {n : List UInt8} (h : LkW hk mk s now) (hn : hasO s.obs n) (hp : preB [108, 47] n = true) : ∃ m, HasL hk mk s now n m := by
  obtain ⟨h1, m, h2⟩ := h n _ (vw_some.2 ⟨hn, rfl⟩) hp
  exact ⟨m, h1, hp, _, vw_some.2 ⟨hn, rfl⟩, h2⟩
/-- what a store says when a client has its lock -/
structure TkQ (hk mk : List UInt8) (s t : Sh) (now : Nat) (cl n : Nat) (b : Bool) : Prop where
  mine : HasL hk mk t now (lkName cl n) ⟨cl, b, now⟩
  keep : ∀ m, m ≠ dfName cl → m ≠ lkName cl n → vw t m = vw s m ∨ (vw t m = none ∧ b = true ∧ ∃ q, HasL hk mk s now m q ∧ ¬ q.c = cl ∧ ¬ holdsP now q)
  df : vw t (dfName cl) = none
  alone : b = true → ∀ m q, HasL hk mk s now m q → ¬ q.c = cl → m ≠ lkName cl n → vw t m = none
theorem stepT_no {z : Stp} (h : z.e = 0) : stepT z = z.t := by rw [stepT, if_neg (fun q => q.1 h)]
theorem stepY_on {z : Stp} (h : z.e = 0) (h2 : z.y.asks < 4) : stepY z = z.y.on := by rw [stepY, if_neg (fun q => by omega)]
theorem stepY_end {z : Stp} (h : ¬ z.e = 0 ∨ 4 < z.y.asks + 1) : stepY z = z.y.done := by rw [stepY, if_pos h]
theorem fin_no {z : Stp} (h : z.e = 0) (h2 : z.y.asks < 4) : fin z = false := decide_eq_false (fun q => by omega)
/-- the first three steps -/
structure Up3 (hk mk : List UInt8) (s t : Sh) (x y : Lk) (now N : Nat) (b : Bool) : Prop where
  hand : y = { x with made := x.made + 1, asks := 4, want := b, next := lkName x.cl x.made, shown := true, m := ⟨x.cl, b, now⟩ }
  qt : Qt t (N + 1)
  mine : HasL hk mk t now (lkName x.cl x.made) ⟨x.cl, b, now⟩
  keep : ∀ m, m ≠ dfName x.cl → m ≠ lkName x.cl x.made → vw t m = vw s m
  df : vw t (dfName x.cl) = none
theorem name_small {c n : Nat} (h : c < 100) : (lkName c n).length < 256 := by
  have h5 := lkName_len (n := n) h
  have h6 := dec2_len (n := n)
  omega
theorem run_li {u r : St5} {k : Int} {j i e : Nat} (hL : LI hk mk u.s u.x now k j) (h1 : u.x.asks = 1) (hj : j < 90) (hI0 : u.p ≤ 32 * u.c ∧ 32 * u.c < u.p + 32) (hi : i ≤ 3) (hR : Run hk mk tl now u i r e) : LI hk mk r.s r.x now (k + 2005 * i) (j + i) ∧ r.x.asks = i + 1 := by
  induction i generalizing r e with
  | zero => obtain ⟨rfl, _⟩ := hR; exact ⟨hL.mono (by simp) (by omega), h1⟩
  | succ i ih =>
    obtain ⟨r0, z, e0, hR0, hz, hf, rfl, rfl⟩ := hR
    obtain ⟨h2, h3⟩ := ih (by omega) hR0
    have hx := stepR_x hz
    refine ⟨(h2.step ⟨by omega, by omega⟩ (by omega) hz).mono (by omega) (by omega), ?_⟩
    show (stepY z).asks = _
    rw [(stepY_asks hf).1, hx.1, h3]
theorem take_q {k : Int} {j : Nat} {q : St5} {e : Nat} (hL : LI hk mk s x now k j) (hj : j < 90) (hnow : now ≤ 1099511627776) (h : Qt s N) (hN : N < 400) (hI0 : p ≤ 32 * c ∧ 32 * c < p + 32) {b : Bool} (hsh : x.shown = false)
    (hT : Took hk mk tl now ⟨s, x.asked b, c, p, vl⟩ q e) :
    (Conf hk mk s now x.cl b ∧ e = 12 ∧ q.s = s ∧ q.x = x.not b) ∨ (¬ Conf hk mk s now x.cl b ∧ e = 0 ∧ Qt q.s (N + 1) ∧ q.x = x.has b now ∧ TkQ hk mk s q.s now x.cl x.made b) := by
  have hcl := hL.cl
  have hmd := hL.md
  have h0 : LI hk mk s (x.asked b) now k j := ⟨hL.at_, hL.ok, hL.cl, hL.md, hL.nx, fun q => by cases q⟩
  obtain ⟨i, r, z, e0, hi, hR, hz, hf, rfl, rfl⟩ := hT
  have first : ∀ z1, StepR hk mk tl (moOf hk mk s now) s (x.asked b) now c p vl z1 → (z1.t = s ∧ z1.y = x.asked b ∧ (Conf hk mk s now x.cl b → z1.e = 12) ∧ (¬ Conf hk mk s now x.cl b → z1.e = 0)) :=
    fun z1 h1 => step1_q hL.ok hnow h rfl h1
  -- after one step
  have one : ∀ r e, Run hk mk tl now ⟨s, x.asked b, c, p, vl⟩ 1 r e → ¬ Conf hk mk s now x.cl b ∧ r.s = s ∧ r.x = { x with asks := 2, want := b } := fun r e hr => by
    obtain ⟨r0, z1, e1, ⟨rfl, _⟩, hz1, hf1, rfl, rfl⟩ := hr
    obtain ⟨f1, f2, f3, f4⟩ := first z1 hz1
    have he := (stepY_asks hf1).2
    refine ⟨fun hc => (by rw [f3 hc] at he; cases he), ?_, ?_⟩
    · show stepT z1 = s; rw [stepT_no he, f1]
    · show stepY z1 = _; rw [stepY_on he (by rw [f2]; exact (by decide : 1 < 4)), f2]; rfl
  have two : ∀ r e, Run hk mk tl now ⟨s, x.asked b, c, p, vl⟩ 2 r e → ¬ Conf hk mk s now x.cl b ∧ Qt r.s (N + 1) ∧ r.x = { x with asks := 3, want := b, next := lkName x.cl x.made, m := ⟨x.cl, b, now⟩ } ∧ (∃ bb, vw r.s (dfName x.cl) = some bb ∧ MkAt hk mk now (lkName x.cl x.made) bb ⟨x.cl, b, now⟩) ∧ ∀ n, n ≠ dfName x.cl → vw r.s n = vw s n := fun r e hr => by
    obtain ⟨r0, z2, e1, hr0, hz2, hf2, rfl, rfl⟩ := hr
    obtain ⟨g1, g2, g3⟩ := one r0 e1 hr0
    obtain ⟨rs, rx, rc, rp, rv⟩ := r0
    dsimp only at g2 g3 hz2
    subst g2 g3
    obtain ⟨f1, f2, f3, f4, f5⟩ := step2_q (x := { x with asks := 2, want := b }) hcl hnow h hN rfl hz2
    refine ⟨g1, ?_, ?_, ?_, ?_⟩
    · show Qt (stepT z2) _; rw [stepT_no f1]; exact f2
    · show stepY z2 = _; rw [stepY_on f1 (by rw [f3]; exact (by decide : 2 < 4)), f3]; rfl
    · show ∃ bb, vw (stepT z2) _ = _ ∧ _; rw [stepT_no f1]; exact f4
    · show ∀ n, n ≠ _ → vw (stepT z2) n = _; rw [stepT_no f1]; exact f5
  have three : ∀ r e, Run hk mk tl now ⟨s, x.asked b, c, p, vl⟩ 3 r e → ¬ Conf hk mk s now x.cl b ∧ Up3 hk mk s r.s x r.x now N b := fun r e hr => by
    obtain ⟨r0, z3, e1, hr0, hz3, hf3, rfl, rfl⟩ := hr
    obtain ⟨g1, g2, g3, ⟨bb, g4, g4b⟩, g5⟩ := two r0 e1 hr0
    obtain ⟨rs, rx, rc, rp, rv⟩ := r0
    dsimp only at g2 g3 g4 g5 hz3
    subst g3
    obtain ⟨f1, f2, f3, f4, f5, f6⟩ := step3_q (x := { x with asks := 3, want := b, next := lkName x.cl x.made, m := ⟨x.cl, b, now⟩ }) hcl (by show x.made < 100; omega) rfl (vw_some.1 g4).1 g2 rfl hz3
    refine ⟨g1, ?_, ?_, ?_, ?_, ?_⟩
    · show stepY z3 = _; rw [stepY_on f1 (by rw [f3]; exact (by decide : 3 < 4)), f3]; rfl
    · show Qt (stepT z3) _; rw [stepT_no f1]; exact f2
    · show HasL hk mk (stepT z3) _ _ _
      rw [stepT_no f1]
      exact ⟨name_small hcl, lkName_pre, bb, by rw [show vw z3.t (lkName x.cl x.made) = _ from f4]; exact g4, g4b⟩
    · intro m q1 q2
      show vw (stepT z3) m = _
      rw [stepT_no f1, f6 m q1 q2, g5 m q1]
    · show vw (stepT z3) _ = none; rw [stepT_no f1]; exact f5
  rcases (show i = 0 ∨ i = 1 ∨ i = 2 ∨ i = 3 by omega) with rfl | rfl | rfl | rfl
  · obtain ⟨rfl, _⟩ := hR
    obtain ⟨f1, f2, f3, f4⟩ := first z hz
    have hc : Conf hk mk s now x.cl b := Classical.not_not.1 fun hc => by
      rw [fin_no (f4 hc) (by rw [f2]; exact (by decide : 1 < 4))] at hf; cases hf
    have e12 := f3 hc
    refine .inl ⟨hc, e12, ?_, ?_⟩
    · show stepT z = s
      rw [stepT, f2, if_neg (fun q => by have : (x.asked b).shown = x.shown := rfl; rw [this, hsh] at q; cases q.2), f1]
    · show stepY z = _
      rw [stepY_end (.inl (by rw [e12]; omega)), f2]; rfl
  · obtain ⟨g1, g2, g3⟩ := one r e0 hR
    obtain ⟨rs, rx, rc, rp, rv⟩ := r
    dsimp only at g2 g3 hz
    subst g2 g3
    obtain ⟨f1, f2, f3, f4, f5⟩ := step2_q (x := { x with asks := 2, want := b }) hcl hnow h hN rfl hz
    rw [fin_no f1 (by rw [f3]; exact (by decide : 2 < 4))] at hf; cases hf
  · obtain ⟨g1, g2, g3, ⟨bb, g4, g4b⟩, g5⟩ := two r e0 hR
    obtain ⟨rs, rx, rc, rp, rv⟩ := r
    dsimp only at g2 g3 g4 g5 hz
    subst g3
    obtain ⟨f1, f2, f3, f4, f5, f6⟩ := step3_q (x := { x with asks := 3, want := b, next := lkName x.cl x.made, m := ⟨x.cl, b, now⟩ }) hcl (by show x.made < 100; omega) rfl (vw_some.1 g4).1 g2 rfl hz
    rw [fin_no f1 (by rw [f3]; exact (by decide : 3 < 4))] at hf; cases hf
  · obtain ⟨g1, g2⟩ := three r e0 hR
    have hli := (run_li (u := ⟨s, x.asked b, c, p, vl⟩) h0 rfl hj hI0 (by omega) hR).1
    obtain ⟨rs, rx, rc, rp, rv⟩ := r
    dsimp only at g2 hz hli
    have hw := g2.hand
    subst hw
    -- whom it meets is as it was ahead
    have hc2 : ¬ Conf hk mk rs now x.cl b := fun hc => by
      obtain ⟨n, m, h1, h2, h3⟩ := hc
      have hn1 : n ≠ dfName x.cl := fun e => by rw [e] at h1; have := h1.2.1; rw [dfName_pre] at this; cases this
      have hn2 : n ≠ lkName x.cl x.made := fun e => by
        rw [e] at h1
        have := h1.one hnow g2.mine
        rw [this] at h2; exact h2 rfl
      exact g1 ⟨n, m, h1.vw (g2.keep n hn1 hn2).symm, h2, h3⟩
    obtain ⟨_, f2, f3⟩ := step4_q hli.ok hnow g2.qt rfl hz
    obtain ⟨e1, e2, e3, e4⟩ := f2 hc2
    have hT : stepT z = z.t := stepT_no e1
    have hasY : (stepY z) = x.has b now := by rw [stepY_end (.inr (by rw [e3]; exact (by decide : 4 < 4 + 1))), e3]; rfl
    have mine2 : HasL hk mk z.t now (lkName x.cl x.made) ⟨x.cl, b, now⟩ := by
      refine g2.mine.vw ?_
      rcases e4 (lkName x.cl x.made) with q | ⟨_, _, m, q1, q2, _⟩
      · exact q
      · rw [q1.one hnow g2.mine] at q2; exact (q2 rfl).elim
    have back : ∀ m q, HasL hk mk rs now m q → ¬ q.c = x.cl → HasL hk mk s now m q := fun m q h1 h2 => by
      have hn1 : m ≠ dfName x.cl := fun e => by rw [e] at h1; have := h1.2.1; rw [dfName_pre] at this; cases this
      have hn2 : m ≠ lkName x.cl x.made := fun e => by
        rw [e] at h1; rw [h1.one hnow g2.mine] at h2; exact h2 rfl
      exact h1.vw (g2.keep m hn1 hn2).symm
    refine .inr ⟨g1, e1, ?_, hasY, ?_, ?_, ?_, ?_⟩
    · show Qt (stepT z) _; rw [hT]; exact e2
    · show HasL hk mk (stepT z) _ _ _; rw [hT]; exact mine2
    · intro m q1 q2
      show vw (stepT z) m = _ ∨ vw (stepT z) m = _ ∧ _
      rw [hT]
      rcases e4 m with q | ⟨q, hb, mm, r1, r2, r3⟩
      · exact .inl (q.trans (g2.keep m q1 q2))
      · exact .inr ⟨q, hb, mm, back m mm r1 r2, r2, r3⟩
    · show vw (stepT z) _ = none
      rw [hT]
      rcases e4 (dfName x.cl) with q | ⟨q, _⟩
      · rw [q]; exact g2.df
      · exact q
    · intro hb m q r1 r2 r3
      show vw (stepT z) m = none
      rw [hT]
      have hn1 : m ≠ dfName x.cl := fun e => by rw [e] at r1; have := r1.2.1; rw [dfName_pre] at this; cases this
      exact f3 hc2 hb m q (r1.vw (g2.keep m hn1 r3)) r2
end Go.Proofs.YtkkjfojgjmglpaaGreatDoor
set_option linter.unusedSimpArgs false
set_option linter.unusedVariables false
namespace Go.Proofs.YtkkjfojgjmglpaaGreatDoor
open Go Go.RowKit
set_option maxRecDepth 100000
attribute [local irreducible] sumL keyedL hexL strL sealF sealL tapeL tapeN
end Go.Proofs.YtkkjfojgjmglpaaGreatDoor
set_option linter.unusedSimpArgs false
set_option linter.unusedVariables false
namespace Go.Proofs.YtkkjfojgjmglpaaGreatDoor
open Go Go.RowKit
set_option maxRecDepth 100000
attribute [local irreducible] sumL keyedL hexL strL sealF sealL tapeL tapeN
def rq (k : UInt8) : List UInt8 := [k, 0, 0, 0, 0, 0, 0, 0, 0, 0, 0, 0, 0, 0, 0, 0, 0, 0, 0, 0, 0, 0, 0, 0, 0, 0, 0, 0, 0, 0, 0, 0]
@[simp] theorem rq_len {k : UInt8} : (rq k).length = 32 := rfl
end Go.Proofs.YtkkjfojgjmglpaaGreatDoor
set_option linter.unusedSimpArgs false
set_option linter.unusedVariables false
namespace Go.Proofs.YtkkjfojgjmglpaaGreatDoor
open Go Go.RowKit
set_option maxRecDepth 100000
attribute [local irreducible] sumL keyedL hexL strL sealF sealL tapeL tapeN
theorem fill_lk0 {Z R l : List Value} {x y z u p q r : Value} {pl : List (Nat × Nat)} (hZ : Z.length = 97) (hR : R.length = 97) (hu : u = u) : fillL ((0, 97) :: (97, 1) :: (98, 1) :: (99, 1) :: pl) (Z ++ (x :: y :: z :: l)) [(0, R), (1, [p]), (2, [q]), (3, [r])] = some (R ++ (p :: q :: r :: l)) := by
  have e1 : (Z ++ x :: y :: z :: l).drop 97 = x :: y :: z :: l := by rw [← hZ, List.drop_left]
  have e2 : (R ++ x :: y :: z :: l).take 97 = R := by rw [← hR, List.take_left]
  have e3 : (R ++ x :: y :: z :: l).drop 98 = y :: z :: l := by rw [show 98 = R.length + 1 by omega, ← List.drop_drop, List.drop_left]; rfl
  have e4 : (R ++ p :: y :: z :: l).take 98 = R ++ [p] := by rw [show 98 = R.length + 1 by omega, List.take_length_add_append]; rfl
  have e5 : (R ++ p :: y :: z :: l).drop 99 = z :: l := by rw [show 99 = R.length + 2 by omega, ← List.drop_drop, List.drop_left]; rfl
  have e6 : (R ++ p :: q :: z :: l).take 99 = R ++ [p, q] := by rw [show 99 = R.length + 2 by omega, List.take_length_add_append]; rfl
  have e7 : (R ++ p :: q :: z :: l).drop 100 = l := by rw [show 100 = R.length + 3 by omega, ← List.drop_drop, List.drop_left]; rfl
  simp [fillL, hZ, hR, e1, e2, e3, e4, e5, e6, e7]
  omega
theorem fill_lk {hk mk nk : List UInt8} {tv p q : Value} {cl : Nat} (h1 : hk.length = 32) (h2 : mk.length = 32) (h3 : nk.length = 32) : fillL [(0, 97), (97, 1), (98, 1), (99, 1), (100, 1), (101, 1), (102, 1), (103, 1), (104, 1), (105, 1), (106, 3)] ((List.replicate 32 0).map B ++ ((List.replicate 32 0).map B ++ ((List.replicate 32 0).map B ++ ([Value.pointer none, .pointer none, .pointer none, I 0, I 0, Str [], I 0, .bool false, Str [], .bool false, I 0, .bool false, I 0])))) [(0, hk.map B ++ (mk.map B ++ (nk.map B ++ ([tv])))), (1, [p]), (2, [q]), (3, [IN cl])] = some (hk.map B ++ (mk.map B ++ (nk.map B ++ [tv, p, q, IN cl, I 0, Str [], I 0, .bool false, Str [], .bool false, I 0, .bool false, I 0]))) := by
  have e := fill_lk0 (Z := (List.replicate 32 0).map B ++ ((List.replicate 32 0).map B ++ ((List.replicate 32 0).map B ++ [Value.pointer none]))) (R := hk.map B ++ (mk.map B ++ (nk.map B ++ ([tv])))) (l := [I 0, Str [], I 0, .bool false, Str [], .bool false, I 0, .bool false, I 0]) (x := .pointer none) (y := .pointer none) (z := I 0) (u := I 0) (p := p) (q := q) (r := IN cl) (pl := [(100, 1), (101, 1), (102, 1), (103, 1), (104, 1), (105, 1), (106, 3)]) sI (by simp [h1, h2, h3]) rfl
  simpa using e
theorem lnew_spec {hk mk nk : List UInt8} {tv : Value} {sb kb cl : Nat} {w : World} (h3 : hk.length = 32 ∧ mk.length = 32 ∧ nk.length = 32) (htv : tv.oneCell' = true) (hcl : cl < 100) : Spec Tryz.prog 38 [PT sb, .agg (hk.map B ++ (mk.map B ++ (nk.map B ++ ([tv])))).toArray, PT kb, IN cl] w [] (fun _ : Nat => True) (fun b => .tuple #[PT b, I 0]) (fun b => [cel b (hk.map B ++ (mk.map B ++ (nk.map B ++ ([tv, PT sb, PT kb, IN cl, I 0, Str [], I 0, .bool false, Str [], .bool false, I 0, .bool false, I 0])))) 182]) := by
  refine spec_of (n := 30) Tryz.func38 rfl rfl trivial trivial rfl ?_
  obtain ⟨hk32, mk32, nk32⟩ := h3
  refine s_r <| tk_act rfl <| a_boxL (cs := hk.map B ++ (mk.map B ++ (nk.map B ++ ([tv])))) rfl rfl fun b5 => q_a rfl rfl <| q_a rfl rfl <| s_n <| tk_seq <| s_r <| q_m rfl rfl <| s_q rfl (y_pnil rfl rfl rfl) <| q_m rfl rfl <| s_g rfl (y_move rfl) <| s_g rfl (y_pnil rfl rfl rfl) <| s_q rfl (y_pick0 rfl rfl) <| q_m rfl rfl <| s_g rfl (y_move rfl) <| tk_gqe (.bool false) rfl rfl rfl (y_lss rfl rfl) (bool_f oM) <| s_q rfl (y_pick0 rfl rfl) <| q_m rfl rfl <| s_g rfl (y_move rfl) <| tk_gqe (.bool false) rfl rfl rfl (y_gtr rfl rfl) (bool_f oM) <| s_q rfl (y_pick0 rfl rfl) <| s_n <| tk_cond0 rfl ?_; exact tk_skip <| tk_then <| s_r <| s_q rfl (y_loadA 97 rfl kR lenP (hcw (.head _))) <| q_m rfl rfl <| q_m rfl rfl <| q_m rfl rfl <| s_q rfl (y_build (v := .agg (hk.map B ++ (mk.map B ++ (nk.map B ++ ([tv, PT sb, PT kb, IN cl, I 0, Str [], I 0, .bool false, Str [], .bool false, I 0, .bool false, I 0])))).toArray) (vs := [(0, .agg (hk.map B ++ (mk.map B ++ (nk.map B ++ ([tv])))).toArray), (1, PT sb), (2, PT kb), (3, IN cl)]) rfl (run_build (zs := (List.replicate 32 0).map B ++ ((List.replicate 32 0).map B ++ ((List.replicate 32 0).map B ++ ([Value.pointer none, .pointer none, .pointer none, I 0, I 0, Str [], I 0, .bool false, Str [], .bool false, I 0, .bool false, I 0])))) (pl := [(0, 97), (97, 1), (98, 1), (99, 1), (100, 1), (101, 1), (102, 1), (103, 1), (104, 1), (105, 1), (106, 3)]) Tryz.underlying182 (fun _ => kR) (fun _ => kR) (fill_lk hk32 mk32 nk32))) <| tk_act rfl <| a_boxL (cs := hk.map B ++ (mk.map B ++ (nk.map B ++ ([tv, PT sb, PT kb, IN cl, I 0, Str [], I 0, .bool false, Str [], .bool false, I 0, .bool false, I 0])))) rfl rfl fun b29 => q_a rfl rfl <| q_a rfl rfl <| s_n <| tk_retc <| tk_ret (b29) (trivial) (.inl rfl) (r2 rfl rfl rfl) (.cons_cons _ (List.nil_sublist _))
theorem lnewno_spec {hk mk nk : List UInt8} {tv : Value} {sb kb : Nat} {ci : Int} {w : World} (h3 : hk.length = 32 ∧ mk.length = 32 ∧ nk.length = 32) (htv : tv.oneCell' = true) (hci : ci < 0 ∨ 99 < ci) : Spec Tryz.prog 38 [PT sb, .agg (hk.map B ++ (mk.map B ++ (nk.map B ++ ([tv])))).toArray, PT kb, I ci] w [] (fun _ : Unit => True) (fun _ => .tuple #[.pointer none, I 1]) (fun _ => []) := by
  refine spec_of (n := 30) Tryz.func38 rfl rfl trivial trivial rfl ?_
  obtain ⟨hk32, mk32, nk32⟩ := h3
  refine s_r <| tk_act rfl <| a_boxL (cs := hk.map B ++ (mk.map B ++ (nk.map B ++ ([tv])))) rfl rfl fun b5 => q_a rfl rfl <| q_a rfl rfl <| s_n <| tk_seq <| s_r <| q_m rfl rfl <| s_q rfl (y_pnil rfl rfl rfl) <| q_m rfl rfl <| s_g rfl (y_move rfl) <| s_g rfl (y_pnil rfl rfl rfl) <| s_q rfl (y_pick0 rfl rfl) <| q_m rfl rfl <| s_g rfl (y_move rfl) <| s_g rfl (y_lss rfl rfl) <| tk_qs rfl rfl rfl (y_pick0 rfl rfl) (fun hs1_9 => ?_) (fun hs1_9 => ?_)
  · exact q_m rfl rfl <| tk_gno rfl rfl rfl <| tk_gno rfl rfl rfl <| s_q rfl (y_pick1 rfl rfl) <| s_n <| tk_cond1 rfl <| s_r <| q_a rfl rfl <| q_a rfl rfl <| s_n <| tk_retc <| tk_then_ret <| tk_ret (()) (trivial) (.inl rfl) (r2 rfl rfl rfl) (List.nil_sublist _)
  · refine q_m rfl rfl <| s_g rfl (y_move rfl) <| s_g rfl (y_gtr rfl rfl) <| s_q rfl (y_pick0 rfl rfl) <| s_n <| tk_condP rfl (fun ht23 => ?_) (fun ht23 => ?_)
    · exact s_r <| q_a rfl rfl <| q_a rfl rfl <| s_n <| tk_retc <| tk_then_ret <| tk_ret (()) (trivial) (.inl rfl) (r2 rfl rfl rfl) (List.nil_sublist _)
    · exfalso; omega
theorem lnewns_spec {hk mk nk : List UInt8} {tv : Value} {kb : Nat} {w : World} (h3 : hk.length = 32 ∧ mk.length = 32 ∧ nk.length = 32) (htv : tv.oneCell' = true) : Spec Tryz.prog 38 [.pointer none, .agg (hk.map B ++ (mk.map B ++ (nk.map B ++ ([tv])))).toArray, PT kb, I 1] w [] (fun _ : Unit => True) (fun _ => .tuple #[.pointer none, I 1]) (fun _ => []) := by
  refine spec_of (n := 30) Tryz.func38 rfl rfl trivial trivial rfl ?_
  obtain ⟨hk32, mk32, nk32⟩ := h3
  refine s_r <| tk_act rfl <| a_boxL (cs := hk.map B ++ (mk.map B ++ (nk.map B ++ ([tv])))) rfl rfl fun b5 => q_a rfl rfl <| q_a rfl rfl <| s_n <| tk_seq <| s_r <| q_m rfl rfl <| s_q rfl (y_pnil rfl rfl rfl) <| q_m rfl rfl <| tk_gno rfl rfl rfl <| tk_gno rfl rfl rfl <| s_q rfl (y_pick1 rfl rfl) <| q_m rfl rfl <| tk_gno rfl rfl rfl <| tk_gno rfl rfl rfl <| s_q rfl (y_pick1 rfl rfl) <| q_m rfl rfl <| tk_gno rfl rfl rfl <| tk_gno rfl rfl rfl <| s_q rfl (y_pick1 rfl rfl) <| s_n <| tk_cond1 rfl ?_; exact s_r <| q_a rfl rfl <| q_a rfl rfl <| s_n <| tk_retc <| tk_then_ret <| tk_ret (()) (trivial) (.inl rfl) (r2 rfl rfl rfl) (List.nil_sublist _)
theorem lnewnc_spec {hk mk nk : List UInt8} {tv : Value} {sb : Nat} {w : World} (h3 : hk.length = 32 ∧ mk.length = 32 ∧ nk.length = 32) (htv : tv.oneCell' = true) : Spec Tryz.prog 38 [PT sb, .agg (hk.map B ++ (mk.map B ++ (nk.map B ++ ([tv])))).toArray, .pointer none, I 1] w [] (fun _ : Unit => True) (fun _ => .tuple #[.pointer none, I 1]) (fun _ => []) := by
  refine spec_of (n := 30) Tryz.func38 rfl rfl trivial trivial rfl ?_
  obtain ⟨hk32, mk32, nk32⟩ := h3
  refine s_r <| tk_act rfl <| a_boxL (cs := hk.map B ++ (mk.map B ++ (nk.map B ++ ([tv])))) rfl rfl fun b5 => q_a rfl rfl <| q_a rfl rfl <| s_n <| tk_seq <| s_r <| q_m rfl rfl <| s_q rfl (y_pnil rfl rfl rfl) <| q_m rfl rfl <| s_g rfl (y_move rfl) <| s_g rfl (y_pnil rfl rfl rfl) <| s_q rfl (y_pick0 rfl rfl) <| q_m rfl rfl <| tk_gno rfl rfl rfl <| tk_gno rfl rfl rfl <| s_q rfl (y_pick1 rfl rfl) <| q_m rfl rfl <| tk_gno rfl rfl rfl <| tk_gno rfl rfl rfl <| s_q rfl (y_pick1 rfl rfl) <| s_n <| tk_cond1 rfl ?_; exact s_r <| q_a rfl rfl <| q_a rfl rfl <| s_n <| tk_retc <| tk_then_ret <| tk_ret (()) (trivial) (.inl rfl) (r2 rfl rfl rfl) (List.nil_sublist _)
end Go.Proofs.YtkkjfojgjmglpaaGreatDoor
set_option linter.unusedSimpArgs false
set_option linter.unusedVariables false
namespace Go.Proofs.YtkkjfojgjmglpaaGreatDoor
open Go Go.RowKit
set_option maxRecDepth 100000
attribute [local irreducible] sumL keyedL hexL strL sealF sealL tapeL tapeN
/-- a client: where its hand lies, its tape; what they hold -/
structure Cl where
  lb : Nat
  tb : Nat
  vb : Value
  x : Lk
  tl : List UInt8
  c : Nat
  p : Nat
  vl : Value
def lk0 (cl : Nat) : Lk := ⟨cl, 0, [], 0, false, [], false, ⟨0, false, 0⟩⟩
def dCl : Cl := ⟨0, 0, .slice none 0 0, lk0 0, [], 0, 0, .slice none 0 0⟩
/-- many pieces, apart from each other, as one -/
def team (ps : List Res) : Res where
  fp := Fs ps
  holds w := Hs w ps ∧ Dj ps
  loc _ _ h hr := ⟨Hs.loc h hr.1, hr.2⟩
  bnd _ hr k hk := Fs.bnd hr.1 k hk
section
variable {c : Cx} {L : Sl} {H : List Res} {K : Act → World → Prop} {ps qs : List Res}
theorem tk_team0 (h : TK c K L (team [] :: H)) : TK c K L H := fun a w ha hw => h a w ha ⟨hw.fr, ⟨⟨trivial, trivial⟩, hw.hs⟩, ⟨fun _ h => h.elim, hw.dj⟩, fun k hk => hw.own k (hk.resolve_left (fun h => h.elim))⟩
theorem tk_teamIn (h : TK c K L (team ps :: H)) : TK c K L (ps ++ H) := fun a w ha hw => by
  have h1 := Hs_append.1 hw.hs
  have h2 := Dj_append.1 hw.dj
  refine h a w ha ⟨hw.fr, ⟨⟨h1.1, h2.1⟩, h1.2⟩, ⟨fun k hk hf => h2.2.2 k hk hf, h2.2.1⟩, fun k hk => hw.own k (Fs_append.2 hk)⟩
theorem tk_teamOut (h : TK c K L (ps ++ H)) : TK c K L (team ps :: H) := fun a w ha hw => by
  refine h a w ha ⟨hw.fr, Hs_append.2 ⟨hw.hs.1.1, hw.hs.2⟩, Dj_append.2 ⟨hw.hs.1.2, hw.dj.2, fun k hk hf => hw.dj.1 k hk hf⟩, fun k hk => hw.own k (Fs_append.1 hk)⟩
end
def clP (sb kb : Nat) (k : Cl) : List Res := [cel k.lb ((rq 1).map B ++ ((rq 2).map B ++ ((List.replicate 32 0).map B ++ ([PT k.tb, PT sb, PT kb, IN k.x.cl, IN k.x.made, Str k.x.own, IN k.x.asks, .bool k.x.want, Str k.x.next, .bool k.x.shown, IN k.x.m.c, .bool k.x.m.a, IN k.x.m.t])))) 182, cel k.tb ([k.vb, .int .u64 ((k.c : Nat) : Int), k.vl]) 201, ownB k.vb k.tl 5, ownB k.vl ((tapeL k.tl k.c).drop k.p) 5]
section
variable {c : Cx} {L : Sl} {H : List Res} {K : Act → World → Prop} {cs : List Cl} {k : Cl} {sb kb : Nat} {r1 r2 r3 r4 : Res}
theorem tk_teamAdd (hp : clP sb kb k = [r1, r2, r3, r4]) (h : TK c K L (team ((cs ++ [k]).flatMap (clP sb kb)) :: H)) : TK c K L (r1 :: r2 :: r3 :: r4 :: team (cs.flatMap (clP sb kb)) :: H) := by
  have e : (cs ++ [k]).flatMap (clP sb kb) = cs.flatMap (clP sb kb) ++ [r1, r2, r3, r4] := by rw [List.flatMap_append, ← hp]; simp
  rw [e] at h
  refine tk_perm (team (cs.flatMap (clP sb kb)) :: ([r1, r2, r3, r4] ++ H)) (List.perm_middle (l₁ := [r1, r2, r3, r4])) (tk_teamOut ?_)
  rw [← List.append_assoc]
  exact tk_teamIn h
end
def Fresh (cs : List Cl) : Prop := ∀ i, i < cs.length → (cs.getD i dCl).x = lk0 i ∧ (cs.getD i dCl).tl = [UInt8.ofNat i] ∧ (cs.getD i dCl).c = 0 ∧ (cs.getD i dCl).p = 0
theorem fresh_add {cs : List Cl} {i lb tb : Nat} {vb vl : Value} (h : Fresh cs) (hi : cs.length = i) : Fresh (cs ++ [⟨lb, tb, vb, lk0 i, [UInt8.ofNat i], 0, 0, vl⟩]) := fun j hj => by
  rw [List.length_append] at hj
  by_cases e : j < cs.length
  · have := h j e
    have e3 : (cs ++ [(⟨lb, tb, vb, lk0 i, [UInt8.ofNat i], 0, 0, vl⟩ : Cl)]).getD j dCl = cs.getD j dCl := by simp [List.getD_eq_getElem?_getD, List.getElem?_append_left e]
    rwa [e3]
  · have ej : j = cs.length := by simp at hj; omega
    subst ej
    have e2 : (cs ++ [(⟨lb, tb, vb, lk0 i, [UInt8.ofNat i], 0, 0, vl⟩ : Cl)]).getD cs.length dCl = ⟨lb, tb, vb, lk0 i, [UInt8.ofNat i], 0, 0, vl⟩ := by simp [List.getD_eq_getElem?_getD]
    rw [e2, hi]; exact ⟨rfl, rfl, rfl, rfl⟩
/-- a town: where store, map, clock, town lie; the row; the clients -/
structure Tw where
  sb : Nat
  mb : Nat
  kb : Nat
  tw : Nat
  vo : Value
  cs : List Cl
theorem found_spec {n : Nat} {w : World} (hn : n ≤ 100) : Spec Tryz.prog 36 [IN n] w [] (fun z : Tw => z.cs.length = n ∧ Fresh z.cs) (fun z => .tuple #[PT z.tw, .bool true]) (fun z => [cel z.tw ([PT z.sb, PT z.kb, z.vo]) 97, ownM PT z.vo (z.cs.map Cl.lb) 91, cel z.kb ([I 0]) 178, cel z.sb ([Value.map (some z.mb), I ((newS 100000).left), .bool ((newS 100000).off), I ((newS 100000).made), I ((newS 100000).room)]) 192, mapS z.mb (kvO ((newS 100000).obs)), bag (((newS 100000).obs).map (obR 5)), team (z.cs.flatMap (clP z.sb z.kb))]) := by
  refine spec_of (n := 60) Tryz.func36 rfl rfl trivial trivial rfl <| s_r <| q_a rfl rfl <| q_a rfl rfl <| s_n <| s_r <| tk_act rfl <| a_callv [] _ rfl kR rfl (fun w' hw' => shNew_spec (room := 100000) (by first | decide | omega)) rfl fun ⟨sb, mb⟩ _ => q_m rfl rfl <| s_q rfl (y_extract rfl rfl) <| s_q rfl (y_extract rfl rfl) <| q_a rfl rfl <| q_a rfl rfl <| s_n <| s_r <| q_m rfl rfl <| s_q rfl (y_build (v := .agg ([I 0]).toArray) (vs := []) rfl (fun _ => kR)) <| tk_act rfl <| a_boxL (cs := [I 0]) rfl rfl fun b17 => s_q rfl (y_build (v := .agg ([PT sb, PT b17, .slice none 0 0]).toArray) (vs := [(0, PT sb), (1, PT b17)]) rfl (run_build (zs := [Value.pointer none, .pointer none, .slice none 0 0]) (pl := [(0, 1), (1, 1), (2, 1)]) Tryz.underlying97 (fun _ => kR) (fun _ => kR) (by simp [fillL, Value.cells]))) <| tk_act rfl <| a_boxL (cs := [PT sb, PT b17, .slice none 0 0]) rfl rfl fun b19 => q_a rfl rfl <| s_n ?_; refine tk_seq <| s_r <| q_a rfl rfl <| s_n <| tk_block <| tk_ownM0 (f := PT) 91 <| tk_R (H1 := []) rfl (show own (.slice none 0 0) (([] : List Nat).length) (([] : List Nat).map PT) 91 1 = own (.slice none 0 0) ((([] : List Cl).map Cl.lb).length) ((([] : List Cl).map Cl.lb).map PT) 91 1 from rfl) <| tk_team0 <| tk_loop (X := Nat × Value × List Cl) (fun (i, vo, cs) => i ≤ n ∧ cs.length = i ∧ Fresh cs) (fun (i, vo, cs) => [(0, IN n), (4, PT sb), (5, I 0), (6, PT b19), (7, IN i)]) (fun (i, vo, cs) => [team (cs.flatMap (clP sb b17)), own vo ((cs.map Cl.lb).length) ((cs.map Cl.lb).map PT) 91 1, cel b19 ([PT sb, PT b17, vo]) 97, cel b17 ([I 0]) 178, cel sb ([Value.map (some mb), I ((newS 100000).left), .bool ((newS 100000).off), I ((newS 100000).made), I ((newS 100000).room)]) 192, mapS mb (kvO ((newS 100000).obs)), bag (((newS 100000).obs).map (obR 5))]) (fun (i, vo, cs) => n - i) ((0, .slice none 0 0, [])) (⟨Nat.zero_le _, rfl, fun _ h => absurd h sI⟩) sB ((List.Sublist.refl _)) ?_
  rintro ⟨i, vo, cs⟩ hI
  try dsimp only at hI ⊢
  refine tk_own1 (mm 1 rfl) fun hfo => ?_
  have hlc : (cs.map Cl.lb).length = i := by rw [List.length_map]; exact hI.2.1
  refine tk_seq <| s_r <| q_m rfl rfl <| q_m rfl rfl <| s_q rfl (y_lss rfl rfl) <| s_n <| tk_condP rfl (fun ht22 => ?_) (fun ht22 => ?_)
  · refine tk_skip <| tk_then <| tk_seq <| tk_block <| s_r <| s_q rfl (y_build (v := .agg (([1, 0, 0, 0, 0, 0, 0, 0, 0, 0, 0, 0, 0, 0, 0, 0, 0, 0, 0, 0, 0, 0, 0, 0, 0, 0, 0, 0, 0, 0, 0, 0] : List UInt8).map B).toArray) (vs := [(0, B 1)]) rfl (fun _ => kR)) <| tk_re 25 (.agg (([1, 0, 0, 0, 0, 0, 0, 0, 0, 0, 0, 0, 0, 0, 0, 0, 0, 0, 0, 0, 0, 0, 0, 0, 0, 0, 0, 0, 0, 0, 0, 0] : List UInt8).map B).toArray) (.agg ((rq 1).map B).toArray) rfl (rfl) <| s_q rfl (y_build (v := .agg (([2, 0, 0, 0, 0, 0, 0, 0, 0, 0, 0, 0, 0, 0, 0, 0, 0, 0, 0, 0, 0, 0, 0, 0, 0, 0, 0, 0, 0, 0, 0, 0] : List UInt8).map B).toArray) (vs := [(0, B 2)]) rfl (fun _ => kR)) <| tk_re 26 (.agg (([2, 0, 0, 0, 0, 0, 0, 0, 0, 0, 0, 0, 0, 0, 0, 0, 0, 0, 0, 0, 0, 0, 0, 0, 0, 0, 0, 0, 0, 0, 0, 0] : List UInt8).map B).toArray) (.agg ((rq 2).map B).toArray) rfl (rfl) <| s_q rfl (y_build (v := .agg ((rq 1).map B ++ ((rq 2).map B)).toArray) (vs := [(0, .agg ((rq 1).map B).toArray), (1, .agg ((rq 2).map B).toArray)]) rfl (run_build (zs := (List.replicate 32 0).map B ++ ((List.replicate 32 0).map B)) (pl := [(0, 32), (32, 32)]) Tryz.underlying29 (fun _ => kR) (fun _ => kR) (fillP2 (a := (rq 1).map B) (b := (rq 2).map B) lenP sI sI sI))) <| s_q rfl (y_build (v := .agg ((rq 1).map B ++ ((rq 2).map B ++ ((List.replicate 32 0).map B))).toArray) (vs := [(0, .agg ((rq 1).map B ++ ((rq 2).map B)).toArray)]) rfl (run_build (zs := (List.replicate 32 0).map B ++ ((List.replicate 32 0).map B ++ ((List.replicate 32 0).map B))) (pl := [(0, 64), (64, 32)]) Tryz.underlying31 (fun _ => kR) (fun _ => kR) (fillP1 (a := (rq 1).map B ++ ((rq 2).map B)) lenP sI sI))) <| q_m rfl rfl <| s_q rfl (y_convi8 (m := i) rfl rfl rfl) <| tk_act rfl <| a_slitN (vs := [B (UInt8.ofNat i)]) rfl (List.forall_mem_cons.2 ⟨rfl, (fun _ h => nomatch h)⟩) (EL42) rfl rfl dC fun b31 => tk_act rfl <| a_callv [] _ rfl kR rfl (fun w' hw' => wind_spec (b := [UInt8.ofNat i]) (Ro.cel (H0 := []) (b := b31) (o := 0) (m := 1) (cp := 1) (vs := [UInt8.ofNat i].map B) hw' (.head _) (rfl) lQ lenP) lenP) rfl fun ⟨tb32, vb32⟩ _ => s_q rfl (y_build (v := .agg ((rq 1).map B ++ ((rq 2).map B ++ ((List.replicate 32 0).map B ++ ([PT tb32])))).toArray) (vs := [(0, .agg ((rq 1).map B ++ ((rq 2).map B ++ ((List.replicate 32 0).map B))).toArray), (1, PT tb32)]) rfl (run_build (zs := (List.replicate 32 0).map B ++ ((List.replicate 32 0).map B ++ ((List.replicate 32 0).map B ++ ([Value.pointer none])))) (pl := [(0, 96), (96, 1)]) Tryz.underlying34 (fun _ => kR) (fun _ => kR) (fillP2 (a := (rq 1).map B ++ ((rq 2).map B ++ ((List.replicate 32 0).map B))) (b := [PT tb32]) lenP rfl sI sI))) ?_; refine tk_act rfl <| a_allocL (cs := (List.replicate 32 0).map B ++ ((List.replicate 32 0).map B ++ ((List.replicate 32 0).map B ++ ([Value.pointer none])))) kR rfl fun b8 => tk_act rfl <| a_storeW (H1 := []) (vs := (rq 1).map B ++ ((rq 2).map B ++ ((List.replicate 32 0).map B ++ ([PT tb32])))) 97 rfl rfl kR rfl ⟨lenP, lenP⟩ (List.forall_mem_append.2 ⟨oneB, (List.forall_mem_append.2 ⟨oneB, (List.forall_mem_append.2 ⟨oneB, (List.forall_mem_cons.2 ⟨rfl, (fun _ h => nomatch h)⟩)⟩)⟩)⟩) <| s_n <| tk_seq <| tk_drawH [cel b8 ((rq 1).map B ++ ((rq 2).map B ++ ((List.replicate 32 0).map B ++ ([PT tb32])))) 34, cel tb32 ([vb32, .int .u64 (((0 : Nat) : Nat) : Int), .slice none 0 0]) 201, ownB vb32 [UInt8.ofNat i] 5, cel b31 ([B (UInt8.ofNat i)]) 5, team (cs.flatMap (clP sb b17)), own vo ((cs.map Cl.lb).length) ((cs.map Cl.lb).map PT) 91 1, cel b19 ([PT sb, PT b17, vo]) 97, cel b17 ([I 0]) 178, cel sb ([Value.map (some mb), I ((newS 100000).left), .bool ((newS 100000).off), I ((newS 100000).made), I ((newS 100000).room)]) 192, mapS mb (kvO ((newS 100000).obs)), bag (((newS 100000).obs).map (obR 5))] [] kR <| s_x 0 rfl (y_move rfl) <| s_l 1 rfl (fun _ h => h) (y_loadA 97 rfl kR lenP (hcw (.head _))) <| s_x 2 rfl (y_move rfl) <| s_x 3 rfl (y_nilCheck rfl) <| s_x 4 rfl (y_fldN (o := 0) 1 rfl kR) <| s_l 5 rfl (fun _ h => h) (y_load rfl rfl (hc (o := 1) (mm 6 rfl) (rfl))) <| s_x 6 rfl (y_move rfl) <| tx_a 7 rfl kR rfl <| a_callv [] _ rfl kR rfl (fun w' hw' => lnew_spec (hk := rq 1) (mk := rq 2) (nk := List.replicate 32 0) (tv := PT tb32) (sb := sb) (kb := b17) (cl := i) ⟨lenP, lenP, lenP⟩ rfl lenP) rfl fun lb42 _ => tk_S (fun _ h => kD 1 rfl h) <| s_x 8 rfl (y_move rfl) <| s_x 9 rfl (y_extract rfl rfl) <| s_x 10 rfl (y_extract rfl rfl) <| s_x 11 rfl (y_assign rfl) <| s_x 12 rfl (y_assign rfl) <| tx_done kR <| tk_then ?_; refine tk_seq <| s_r <| q_m rfl rfl <| s_q rfl ((y_neq rfl rfl).cast (bool_f dC)) <| s_n <| tk_cond0 rfl <| tk_skip <| tk_then <| tk_region <| q_m rfl rfl <| q_m rfl rfl <| s_q rfl (y_nilCheck rfl) <| s_q rfl (y_fldN (o := 0) 2 rfl kR) <| s_q rfl (y_load rfl rfl (hc (o := 2) (mm 7 rfl) (rfl))) <| q_m rfl rfl <| tk_act rfl <| a_slitN (vs := [PT lb42]) rfl (List.forall_mem_cons.2 ⟨rfl, (fun _ h => nomatch h)⟩) (EL95) rfl rfl dC fun b53 => tk_act rfl <| a_appM (H1 := [_, _, _, _, _, _, _]) (f := PT) (l := cs.map Cl.lb) (m := [lb42]) rfl rfl EL95 rfl rfl (fun w hw => cel_rdE (o := 0) (m := 1) (cp := 1) (vs := [lb42].map PT) (hw.mem (.head _)) (rfl) lQ lenP) (fun _ => rfl) ⟨lenP, lenP⟩ fun v54 => tk_own1 (mm 7 rfl) fun hfv54 => s_q rfl (y_nilCheck rfl) <| s_q rfl (y_fldN (o := 0) 2 rfl kR) <| tk_act rfl <| a_storeE (H1 := [_, _, _, _, _, _, _, _]) (o := 2) (v := v54) (cs' := [PT sb, PT b17, v54]) rfl rfl kR (RdS.one hfv54.choose_spec) rfl sW (rfl) ?_; exact tk_nil <| tk_in_normal <| tk_then <| tk_region <| q_m rfl rfl <| s_q rfl (y_addN (a := i) (b := 1) rfl rfl oM) <| q_a rfl rfl <| tk_nil <| tk_R (H1 := [_, _, _, _, _, _, _]) rfl (show own v54 (((cs.map Cl.lb) ++ [lb42]).length) (((cs.map Cl.lb) ++ [lb42]).map PT) 91 1 = own v54 (((cs ++ [(⟨lb42, tb32, vb32, lk0 i, [UInt8.ofNat i], 0, 0, .slice none 0 0⟩ : Cl)]).map Cl.lb).length) (((cs ++ [(⟨lb42, tb32, vb32, lk0 i, [UInt8.ofNat i], 0, 0, .slice none 0 0⟩ : Cl)]).map Cl.lb).map PT) 91 1 from ownM_cast sI) <| tk_ownM0 (f := B) 5 <| tk_R (H1 := []) rfl (show ownB (.slice none 0 0) ([] : List UInt8) 5 = ownB (.slice none 0 0) ((tapeL [UInt8.ofNat i] 0).drop 0) 5 from ownM_cast (by simp [tapeL_0])) <| tk_ps [7, 1, 6, 6, 5] rfl <| tk_teamAdd (k := (⟨lb42, tb32, vb32, lk0 i, [UInt8.ofNat i], 0, 0, .slice none 0 0⟩ : Cl)) rfl <| tk_again ((i + 1, v54, cs ++ [(⟨lb42, tb32, vb32, lk0 i, [UInt8.ofNat i], 0, 0, .slice none 0 0⟩ : Cl)])) (⟨by dsimp only; omega, by simp [hI.2.1], fresh_add hI.2.2 hI.2.1⟩) (by dsimp only; omega) sB (.cons_cons _ (.cons _ (.cons _ (.cons _ (List.Sublist.refl _)))))
  · exact tk_exit <| tk_then_exit <| tk_then_exit <| tk_in_hit <| tk_then <| s_r <| q_m rfl rfl <| q_m rfl rfl <| s_q rfl ((y_eql rfl rfl).cast (bool_t dC)) <| q_a rfl rfl <| q_a rfl rfl <| s_n <| tk_retc <| tk_ps [6, 6, 6, 6, 5, 6] rfl <| tk_ret (⟨sb, mb, b17, b19, vo, cs⟩) (⟨by dsimp only; omega, hI.2.2⟩) (.inl rfl) (r2 rfl rfl rfl) (List.Sublist.refl _)
end Go.Proofs.YtkkjfojgjmglpaaGreatDoor
set_option linter.unusedSimpArgs false
set_option linter.unusedVariables false
namespace Go.Proofs.YtkkjfojgjmglpaaGreatDoor
open Go
attribute [local irreducible] sealL tapeN tapeL lkName dfName preB
variable {hk mk tl : List UInt8} {s t : Sh} {x : Lk} {now c p N : Nat} {vl : Value}
def Lst (hk mk : List UInt8) (s : Sh) (now : Nat) (L : List (List UInt8 × Mk)) : Prop := ∀ n m, HasL hk mk s now n m ↔ (n, m) ∈ L
theorem vw_new {r : Nat} {n : List UInt8} : vw (newS r) n = none := vw_none.2 (fun h => nomatch h)
theorem lst_new {r : Nat} : Lst hk mk (newS r) now [] := fun n m => ⟨fun h => (by obtain ⟨_, _, b, h, _⟩ := h; rw [vw_new] at h; cases h), fun h => nomatch h⟩
theorem lkw_new {r : Nat} : LkW hk mk (newS r) now := fun n b h => by rw [vw_new] at h; cases h
theorem qt_new : Qt (newS 100000) 0 := ⟨⟨rfl, rfl⟩, rfl, (fun _ h => nomatch h), Nat.le_refl _⟩
theorem at_new {r : Nat} (hr : r ≤ 1073741824) : ShAt (newS r) 0 :=
  ⟨List.nodup_nil, ⟨by show -1 ≤ (-1 : Int); omega, by show (-1 : Int) < _; omega⟩, ⟨Int.le_refl _, Int.le_refl _⟩, ⟨by show (0 : Int) ≤ (r : Int); omega, by show (r : Int) ≤ _; omega⟩, by show ((0 : Nat) : Int) ≤ (r : Int); omega, Nat.zero_le _, (fun _ h => nomatch h), (fun _ h => nomatch h)⟩
theorem HasL.later {d : Nat} {n : List UInt8} {m : Mk} (h : HasL hk mk s now n m) : HasL hk mk s (now + d) n m := by
  obtain ⟨h1, h2, b, h3, h4, h5, h6⟩ := h
  exact ⟨h1, h2, b, h3, h4, by omega, h6⟩
theorem Lst.later {L : List (List UInt8 × Mk)} {d : Nat} (h : Lst hk mk s now L) (hW : LkW hk mk s now) (hd : now + d ≤ 1099511627776) : Lst hk mk s (now + d) L := fun n m => by
  refine ⟨fun q => ?_, fun q => ((h n m).2 q).later⟩
  obtain ⟨h1, h2, b, h3, h4⟩ := q
  obtain ⟨m', h5⟩ := hW.has (vw_some.1 h3).1 h2
  have : m = m' := HasL.one hd ⟨h1, h2, b, h3, h4⟩ h5.later
  rw [this]; exact (h n m').1 h5
theorem conf_lst {L : List (List UInt8 × Mk)} {cl : Nat} {b : Bool} (h : Lst hk mk s now L) : Conf hk mk s now cl b ↔ ∃ q ∈ L, ¬ q.2.c = cl ∧ holdsP now q.2 ∧ (b = true ∨ q.2.a = true) :=
  ⟨fun ⟨n, m, h1, h2⟩ => ⟨(n, m), (h n m).1 h1, h2⟩, fun ⟨q, h1, h2⟩ => ⟨q.1, q.2, (h q.1 q.2).2 h1, h2⟩⟩
theorem HasL.ne_df {n : List UInt8} {m : Mk} {cl : Nat} (h : HasL hk mk s now n m) : n ≠ dfName cl := fun e => by
  have := h.2.1
  rw [e, dfName_pre] at this; cases this
theorem lst_f {L : List (List UInt8 × Mk)} {cl j : Nat} (hnow : now ≤ 1099511627776) (h : Lst hk mk s now L) (hn : ∀ q ∈ L, q.1 ≠ lkName cl j) (hq : TkQ hk mk s t now cl j false) : Lst hk mk t now ((lkName cl j, ⟨cl, false, now⟩) :: L) := fun n m => by
  constructor
  · intro q
    by_cases e : n = lkName cl j
    · subst e; rw [q.one hnow hq.mine]; exact List.mem_cons_self ..
    · rcases hq.keep n q.ne_df e with r | r
      · exact List.mem_cons_of_mem _ ((h n m).1 (q.vw r.symm))
      · cases r.2.1
  · intro q
    rcases List.mem_cons.1 q with q | q
    · cases q; exact hq.mine
    · have h1 := (h n m).2 q
      rcases hq.keep n h1.ne_df (hn _ q) with r | r
      · exact h1.vw r
      · cases r.2.1
/-- another hand at the same store -/
theorem li_other {k : Int} {j j' : Nat} {y : Lk} (h : LI hk mk s x now k j) (h1 : y.cl < 100) (h2 : y.made ≤ j') (h3 : y.asks = 0) (h4 : y.next = []) : LI hk mk s y now k j' := ⟨h.at_, h.ok, h1, h2, by rw [h4]; exact Nat.zero_lt_succ _, fun q => by omega⟩
theorem three_of {α : Type} : ∀ {l : List α}, l.length = 3 → ∃ a b c, l = [a, b, c]
  | [a, b, c], _ => ⟨a, b, c, rfl⟩
end Go.Proofs.YtkkjfojgjmglpaaGreatDoor
set_option linter.unusedSimpArgs false
set_option linter.unusedVariables false
namespace Go.Proofs.YtkkjfojgjmglpaaGreatDoor
open Go Go.RowKit
set_option maxRecDepth 100000
set_option maxHeartbeats 1000000
attribute [local irreducible] sumL keyedL hexL strL sealF sealL tapeL tapeN lkName dfName preB
section
variable {s : Sh} {c p e : Nat} {vl : Value} {q : St5}
theorem TkI.took {hk mk tl : List UInt8} {now : Nat} {u q : St5} {k : Int} {j e : Nat} (h : TkI hk mk tl now u k j q true e) : Took hk mk tl now u q e ∧ LI hk mk q.s q.x now (k + 8020) (j + 4) := by
  rcases h with h | h
  · cases h.1
  · exact ⟨h.2.1, h.2.2.1⟩
theorem TkI.tape {hk mk tl : List UInt8} {now : Nat} {u q : St5} {k : Int} {j e : Nat} (h : TkI hk mk tl now u k j q true e) : q.p ≤ u.p + 64 ∧ q.p ≤ 32 * q.c ∧ 32 * q.c < q.p + 32 := by
  rcases h with h | h
  · cases h.1
  · exact h.2.2.2
abbrev L00 : List UInt8 × Mk := (lkName 0 0, ⟨0, false, 0⟩)
abbrev L10 : List UInt8 × Mk := (lkName 1 0, ⟨1, false, 0⟩)
theorem bars1 (hL : LI (rq 1) (rq 2) (newS 100000) (lk0 0) 0 0 0) (hz : TkI (rq 1) (rq 2) [0] 0 ⟨newS 100000, (lk0 0).asked false, 0, 0, vl⟩ 0 0 q true e) : e = 0 ∧ Qt q.s 1 ∧ q.x = (lk0 0).has false 0 ∧ Lst (rq 1) (rq 2) q.s 0 [L00] ∧ LI (rq 1) (rq 2) q.s (lk0 1) 0 8020 0 := by
  obtain ⟨h1, h2⟩ := hz.took
  rcases take_q hL oM oM qt_new oM ⟨Nat.le_refl _, by omega⟩ rfl h1 with ⟨hc, _⟩ | ⟨_, h3, h4, h5, h6⟩
  · obtain ⟨_, h, _⟩ := (conf_lst lst_new).1 hc; cases h
  · exact ⟨h3, h4, h5, lst_f oM lst_new (fun _ h => nomatch h) h6, li_other h2 dC (Nat.le_refl _) rfl rfl⟩
theorem bars2 (hL : LI (rq 1) (rq 2) s (lk0 1) 0 8020 0) (hQ : Qt s 1) (hS : Lst (rq 1) (rq 2) s 0 [L00]) (hz : TkI (rq 1) (rq 2) [1] 0 ⟨s, (lk0 1).asked false, 0, 0, vl⟩ 8020 0 q true e) : e = 0 ∧ Qt q.s 2 ∧ q.x = (lk0 1).has false 0 ∧ Lst (rq 1) (rq 2) q.s 0 [L10, L00] ∧ LI (rq 1) (rq 2) q.s (lk0 2) 0 16040 0 := by
  obtain ⟨h1, h2⟩ := hz.took
  rcases take_q hL oM oM hQ oM ⟨Nat.le_refl _, by omega⟩ rfl h1 with ⟨hc, _⟩ | ⟨_, h3, h4, h5, h6⟩
  · obtain ⟨r, h, _, _, h7⟩ := (conf_lst hS).1 hc
    rw [List.mem_singleton] at h; subst h
    rcases h7 with h7 | h7 <;> cases h7
  · refine ⟨h3, h4, h5, lst_f oM hS (fun r h => ?_) h6, li_other h2 dC (Nat.le_refl _) rfl rfl⟩
    rw [List.mem_singleton] at h; subst h
    exact fun e => absurd (lkName_inj oM dC oM dC e).1 dC
theorem bars3 (hL : LI (rq 1) (rq 2) s (lk0 2) 0 16040 0) (hQ : Qt s 2) (hS : Lst (rq 1) (rq 2) s 0 [L10, L00]) (hz : TkI (rq 1) (rq 2) [2] 0 ⟨s, (lk0 2).asked true, 0, 0, vl⟩ 16040 0 q true e) : e = 12 ∧ Qt q.s 2 ∧ q.x = (lk0 2).not true ∧ Lst (rq 1) (rq 2) q.s 1001 [L10, L00] ∧ LI (rq 1) (rq 2) q.s q.x 1001 24060 4 := by
  obtain ⟨h1, h2⟩ := hz.took
  rcases take_q hL oM oM hQ oM ⟨Nat.le_refl _, by omega⟩ rfl h1 with ⟨_, h3, h4, h5⟩ | ⟨hc, _⟩
  · refine ⟨h3, by rw [h4]; exact hQ, h5, by rw [h4]; exact hS.later (d := 1001) hL.ok oM, ⟨h2.at_, h2.ok.later (d := 1001), h2.cl, h2.md, h2.nx, fun q => by rw [h5] at q; cases q⟩⟩
  · exact (hc ((conf_lst hS).2 ⟨L00, by simp, by decide, by decide, .inl rfl⟩)).elim
theorem bars4 {x : Lk} (hL : LI (rq 1) (rq 2) s x 1001 24060 4) (hQ : Qt s 2) (hS : Lst (rq 1) (rq 2) s 1001 [L10, L00]) (hx : x = (lk0 2).not true) (hI0 : p ≤ 32 * c ∧ 32 * c < p + 32) (hz : TkI (rq 1) (rq 2) [2] 1001 ⟨s, x.asked true, c, p, vl⟩ 24060 4 q true e) : e = 0 := by
  obtain ⟨h1, h2⟩ := hz.took
  subst hx
  rcases take_q hL oM oM hQ oM hI0 rfl h1 with ⟨hc, _⟩ | ⟨_, h3, _⟩
  · obtain ⟨r, h, _, h8, _⟩ := (conf_lst hS).1 hc
    simp only [List.mem_cons, List.not_mem_nil, or_false] at h
    rcases h with rfl | rfl <;> exact absurd h8 dC
  · exact h3
end
theorem bars_spec {w : World} (hg : Ro (Fs []) w glob) : Spec Tryz.prog 37 [] w [] (fun _ : Unit => True) (fun _ => .bool true) (fun _ => []) := by
  refine spec_of (n := 55) Tryz.func37 rfl rfl trivial trivial rfl <| s_r <| q_a rfl rfl <| s_n <| s_r <| tk_act rfl <| a_callv [] _ rfl kR rfl (fun w' hw' => found_spec (n := 3) lenP) rfl fun ⟨sb, mb, kb, tw, vo, cs⟩ hz4 => ?_
  dsimp only at hz4 ⊢
  refine tk_own1 (mm 1 rfl) fun hfo => ?_
  obtain ⟨hcl3, hfr⟩ := hz4
  obtain ⟨k0, k1, k2, rfl⟩ := three_of hcl3
  have f0 := hfr 0 sI
  have f1 := hfr 1 sI
  have f2 := hfr 2 sI
  obtain ⟨lb0, tb0, vb0, xx0, tl0, cc0, pp0, vl0⟩ := k0
  obtain ⟨lb1, tb1, vb1, xx1, tl1, cc1, pp1, vl1⟩ := k1
  obtain ⟨lb2, tb2, vb2, xx2, tl2, cc2, pp2, vl2⟩ := k2
  obtain ⟨rfl, rfl, rfl, rfl⟩ := f0
  obtain ⟨rfl, rfl, rfl, rfl⟩ := f1
  obtain ⟨rfl, rfl, rfl, rfl⟩ := f2
  refine tk_R (H1 := [_]) (r' := own vo ([lb0, lb1, lb2].length) ([lb0, lb1, lb2].map PT) 91 1) rfl rfl ?_
  have hli0 : LI (rq 1) (rq 2) (newS 100000) (lk0 0) 0 0 0 := ⟨at_new oM, lkw_new, by decide, Nat.le_refl _, by decide, fun q => by cases q⟩
  refine tk_ps [6] rfl <| tk_teamOut <| tk_H ([cel lb0 ((rq 1).map B ++ ((rq 2).map B ++ ((List.replicate 32 0).map B ++ ([PT tb0, PT sb, PT kb, I (((lk0 0).cl : Nat) : Int), I (((lk0 0).made : Nat) : Int), Str ((lk0 0).own), I (((lk0 0).asks : Nat) : Int), .bool ((lk0 0).want), Str ((lk0 0).next), .bool ((lk0 0).shown), I (((lk0 0).m.c : Nat) : Int), .bool ((lk0 0).m.a), I (((lk0 0).m.t : Nat) : Int)])))) 182, cel tb0 ([vb0, .int .u64 (((0 : Nat) : Nat) : Int), vl0]) 201, ownB vb0 [0] 5, ownB vl0 ((tapeL [0] (0 : Nat)).drop (0 : Nat)) 5, cel lb1 ((rq 1).map B ++ ((rq 2).map B ++ ((List.replicate 32 0).map B ++ ([PT tb1, PT sb, PT kb, I (((lk0 1).cl : Nat) : Int), I (((lk0 1).made : Nat) : Int), Str ((lk0 1).own), I (((lk0 1).asks : Nat) : Int), .bool ((lk0 1).want), Str ((lk0 1).next), .bool ((lk0 1).shown), I (((lk0 1).m.c : Nat) : Int), .bool ((lk0 1).m.a), I (((lk0 1).m.t : Nat) : Int)])))) 182, cel tb1 ([vb1, .int .u64 (((0 : Nat) : Nat) : Int), vl1]) 201, ownB vb1 [1] 5, ownB vl1 ((tapeL [1] (0 : Nat)).drop (0 : Nat)) 5, cel lb2 ((rq 1).map B ++ ((rq 2).map B ++ ((List.replicate 32 0).map B ++ ([PT tb2, PT sb, PT kb, I (((lk0 2).cl : Nat) : Int), I (((lk0 2).made : Nat) : Int), Str ((lk0 2).own), I (((lk0 2).asks : Nat) : Int), .bool ((lk0 2).want), Str ((lk0 2).next), .bool ((lk0 2).shown), I (((lk0 2).m.c : Nat) : Int), .bool ((lk0 2).m.a), I (((lk0 2).m.t : Nat) : Int)])))) 182, cel tb2 ([vb2, .int .u64 (((0 : Nat) : Nat) : Int), vl2]) 201, ownB vb2 [2] 5, ownB vl2 ((tapeL [2] (0 : Nat)).drop (0 : Nat)) 5, cel tw ([PT sb, PT kb, vo]) 97, own vo ([lb0, lb1, lb2].length) ([lb0, lb1, lb2].map PT) 91 1, cel kb ([I 0]) 178, cel sb ([Value.map (some mb), I ((newS 100000).left), .bool ((newS 100000).off), I ((newS 100000).made), I ((newS 100000).room)]) 192, mapS mb (kvO ((newS 100000).obs)), bag (((newS 100000).obs).map (obR 5))]) rfl <| q_m rfl rfl <| s_q rfl (y_extract rfl rfl) <| s_q rfl (y_extract rfl rfl) <| q_a rfl rfl <| q_a rfl rfl <| s_n <| tk_seq <| s_r <| q_m rfl rfl <| s_q rfl (y_not rfl) <| q_m rfl rfl <| s_g rfl (y_move rfl) <| s_g rfl (y_nilCheck rfl) <| s_g rfl (y_fldN (o := 0) 2 rfl kR) <| s_g rfl (y_load rfl rfl (hc (o := 2) (mm 12 rfl) (rfl))) <| s_g rfl (y_ixR (j := 0) rfl rfl hfo.choose_spec lenP kR) <| s_g rfl (y_load rfl rfl (fun w hw => ((fun w hw => own_rdS (hw.mem (mm 13 rfl))) w hw).cell (gM (f := PT) (d := 0) lenP))) <| tk_re 15 (.pointer (some ⟨[lb0, lb1, lb2].getD 0 0, 0, none⟩)) (PT lb0) rfl (rfl) <| tk_gact rfl <| tk_ps [3, 3, 3, 17, 17, 17, 17, 7] rfl <| a_callv [] _ rfl kR rfl (fun w' hw' => ltake_spec (b := false) (s := (newS 100000)) (k := 0) (now := 0) (mb := mb) (c := (0 : Nat)) (p := (0 : Nat)) (j := 0) (tl := [0]) (vb := vb0) (vl := vl0) (x := (lk0 0)) (hk := rq 1) (mk := rq 2) (nk := List.replicate 32 0) (tb := tb0) (sb := sb) (kb := kb) (lb := lb0) ⟨lenP, lenP, lenP⟩ ⟨rfl, rfl⟩ hli0 oM oM oM ⟨by omega, by omega⟩ oM dC (hg.call hw') (St.pre hw')) rfl fun ⟨⟨s16, x16, c16, p16, vl_16⟩, e16⟩ hz16 => ?_
  dsimp only at hz16 ⊢
  obtain ⟨he16, hq16, hx16, hl16, hli1⟩ := bars1 hli0 hz16
  dsimp only at hq16 hx16 hl16 hli1
  refine tk_gqe (.bool false) rfl rfl rfl (y_neq rfl rfl) (bool_f oM) <| s_q rfl (y_pick0 rfl rfl) <| q_m rfl rfl <| s_g rfl (y_move rfl) <| s_g rfl (y_nilCheck rfl) <| s_g rfl (y_fldN (o := 0) 2 rfl kR) <| s_g rfl (y_load rfl rfl (hc (o := 2) (mm 16 rfl) (rfl))) <| s_g rfl (y_ixR (j := 1) rfl rfl hfo.choose_spec lenP kR) <| s_g rfl (y_load rfl rfl (fun w hw => ((fun w hw => own_rdS (hw.mem (mm 17 rfl))) w hw).cell (gM (f := PT) (d := 0) lenP))) <| tk_re 25 (.pointer (some ⟨[lb0, lb1, lb2].getD 1 0, 0, none⟩)) (PT lb1) rfl (rfl) <| tk_gact rfl <| tk_ps [11, 11, 11, 7, 7, 7, 7, 11] rfl <| a_callv [] _ rfl kR rfl (fun w' hw' => ltake_spec (b := false) (s := s16) (k := 8020) (now := 0) (mb := mb) (c := (0 : Nat)) (p := (0 : Nat)) (j := 0) (tl := [1]) (vb := vb1) (vl := vl1) (x := (lk0 1)) (hk := rq 1) (mk := rq 2) (nk := List.replicate 32 0) (tb := tb1) (sb := sb) (kb := kb) (lb := lb1) ⟨lenP, lenP, lenP⟩ ⟨rfl, rfl⟩ hli1 oM oM oM ⟨by omega, by omega⟩ oM dC (hg.call hw') (St.pre hw')) rfl fun ⟨⟨s26, x26, c26, p26, vl_26⟩, e26⟩ hz26 => ?_
  dsimp only at hz26 ⊢
  obtain ⟨he26, hq26, hx26, hl26, hli2⟩ := bars2 hli1 hq16 hl16 hz26
  dsimp only at hq26 hx26 hl26 hli2
  refine tk_gqe (.bool false) rfl rfl rfl (y_neq rfl rfl) (bool_f oM) <| s_q rfl (y_pick0 rfl rfl) <| q_m rfl rfl <| s_g rfl (y_move rfl) <| s_g rfl (y_nilCheck rfl) <| s_g rfl (y_fldN (o := 0) 2 rfl kR) <| s_g rfl (y_load rfl rfl (hc (o := 2) (mm 16 rfl) (rfl))) <| s_g rfl (y_ixR (j := 2) rfl rfl hfo.choose_spec lenP kR) <| s_g rfl (y_load rfl rfl (fun w hw => ((fun w hw => own_rdS (hw.mem (mm 17 rfl))) w hw).cell (gM (f := PT) (d := 0) lenP))) <| tk_re 35 (.pointer (some ⟨[lb0, lb1, lb2].getD 2 0, 0, none⟩)) (PT lb2) rfl (rfl) <| tk_gact rfl <| tk_ps [15, 15, 15, 7, 7, 7, 7, 15] rfl <| a_callv [] _ rfl kR rfl (fun w' hw' => ltake_spec (b := true) (s := s26) (k := 16040) (now := 0) (mb := mb) (c := (0 : Nat)) (p := (0 : Nat)) (j := 0) (tl := [2]) (vb := vb2) (vl := vl2) (x := (lk0 2)) (hk := rq 1) (mk := rq 2) (nk := List.replicate 32 0) (tb := tb2) (sb := sb) (kb := kb) (lb := lb2) ⟨lenP, lenP, lenP⟩ ⟨rfl, rfl⟩ hli2 oM oM oM ⟨by omega, by omega⟩ oM dC (hg.call hw') (St.pre hw')) rfl fun ⟨⟨s36, x36, c36, p36, vl_36⟩, e36⟩ hz36 => ?_
  dsimp only at hz36 ⊢
  obtain ⟨he36, hq36, hx36, hl36, hli3⟩ := bars3 hli2 hq26 hl26 hz36
  dsimp only at hq36 hx36 hl36 hli3
  have hp36 : p36 ≤ 0 + 64 := hz36.tape.1
  refine tk_gqe (.bool false) rfl rfl rfl (y_neq rfl rfl) (bool_f oM) <| s_q rfl (y_pick0 rfl rfl) <| q_m rfl rfl <| s_g rfl (y_move rfl) <| s_g rfl (y_nilCheck rfl) <| s_g rfl (y_fldN (o := 0) 1 rfl kR) <| s_g rfl (y_load rfl rfl (hc (o := 1) (mm 16 rfl) (rfl))) <| tk_gact rfl <| tk_ps [1] rfl <| a_callv [] _ rfl kR rfl (fun w' hw' => tick_spec (now := 0) (n := 1001) (kb := kb) lenP (St.pre hw')) rfl fun _ _ => s_g rfl ((y_neq rfl rfl).cast (bool_f dC)) <| s_q rfl (y_pick0 rfl rfl) <| s_n <| tk_cond0 rfl <| tk_skip <| tk_then <| s_r <| q_m rfl rfl <| s_q rfl (y_nilCheck rfl) <| s_q rfl (y_fldN (o := 0) 2 rfl kR) <| s_q rfl (y_load rfl rfl (hc (o := 2) (mm 16 rfl) (rfl))) <| s_q rfl (y_ixR (j := 2) rfl rfl hfo.choose_spec lenP kR) <| s_q rfl (y_load rfl rfl (fun w hw => ((fun w hw => own_rdS (hw.mem (mm 17 rfl))) w hw).cell (gM (f := PT) (d := 0) lenP))) <| tk_re 52 (.pointer (some ⟨[lb0, lb1, lb2].getD 2 0, 0, none⟩)) (PT lb2) rfl (rfl) ?_; refine tk_act rfl <| tk_ps [7, 7, 7, 7, 7, 7, 6, 7] rfl <| a_callv [] _ rfl kR rfl (fun w' hw' => ltake_spec (b := true) (s := s36) (k := 24060) (now := 1001) (mb := mb) (c := c36) (p := p36) (j := 4) (tl := [2]) (vb := vb2) (vl := vl_36) (x := x36) (hk := rq 1) (mk := rq 2) (nk := List.replicate 32 0) (tb := tb2) (sb := sb) (kb := kb) (lb := lb2) ⟨lenP, lenP, lenP⟩ ⟨by rw [hx36]; rfl, by rw [hx36]; rfl⟩ hli3 oM oM oM ⟨hz36.tape.2.1, hz36.tape.2.2⟩ oM dC (hg.call hw') (St.pre hw')) rfl fun ⟨⟨s53, x53, c53, p53, vl_53⟩, e53⟩ hz53 => ?_
  dsimp only at hz53 ⊢
  have he53 := bars4 hli3 hq36 hl36 hx36 ⟨hz36.tape.2.1, hz36.tape.2.2⟩ hz53
  exact tk_qe (.bool true) rfl rfl rfl (y_eql rfl rfl) (bool_t oM) <| q_a rfl rfl <| s_n <| tk_retc <| tk_ret (()) (trivial) (.inl rfl) (r1 rfl rfl) (List.nil_sublist _)
end Go.Proofs.YtkkjfojgjmglpaaGreatDoor
set_option linter.unusedSimpArgs false
set_option linter.unusedVariables false
namespace Go.Proofs.YtkkjfojgjmglpaaGreatDoor
open Go Go.RowKit
set_option maxRecDepth 100000
attribute [local irreducible] sumL keyedL hexL strL sealF sealL tapeL tapeN lkName dfName preB
theorem newsok_spec {n : Nat} {w : World} (hn : n ≤ 99) (hg : Ro (Fs []) w glob) : Spec Tryz.prog 6 [IN n] w [] (fun _ : Unit => True) (fun _ => .bool true) (fun _ => []) := by
  refine spec_of (n := 85) Tryz.func6 rfl rfl trivial trivial rfl <| s_r <| q_a rfl rfl <| s_n <| s_r <| tk_act rfl <| a_callv [] _ rfl kR rfl (fun w' hw' => found_spec (n := 1) lenP) rfl fun ⟨sb, mb, kb, tw, vo, cs⟩ hz13 => ?_
  dsimp only at hz13 ⊢
  refine tk_own1 (mm 1 rfl) fun hfo => q_m rfl rfl <| s_q rfl (y_extract rfl rfl) <| s_q rfl (y_extract rfl rfl) <| q_a rfl rfl <| q_a rfl rfl <| s_n <| tk_seq <| s_r <| tk_act rfl <| a_callv [] _ rfl kR rfl (fun w' hw' => bars_spec (hg.call hw')) rfl fun _ _ => s_q rfl (y_not rfl) <| q_m rfl rfl <| s_g rfl (y_move rfl) <| s_g rfl (y_not rfl) <| s_q rfl (y_pick0 rfl rfl) <| s_n <| tk_cond0 rfl <| tk_skip <| tk_then <| tk_seq <| tk_drawH [cel tw ([PT sb, PT kb, vo]) 97, own vo ((cs.map Cl.lb).length) ((cs.map Cl.lb).map PT) 91 1, cel kb ([I 0]) 178, cel sb ([Value.map (some mb), I ((newS 100000).left), .bool ((newS 100000).off), I ((newS 100000).made), I ((newS 100000).room)]) 192, mapS mb (kvO ((newS 100000).obs)), bag (((newS 100000).obs).map (obR 5)), team (cs.flatMap (clP sb kb))] [] kR <| s_x 0 rfl (y_move rfl) <| s_x 1 rfl (y_nilCheck rfl) ?_; refine s_x 2 rfl (y_fld0 (o := 0) rfl kR) <| s_l 3 rfl (fun _ h => h) (y_load rfl rfl (hc (o := 0) (.head _) (rfl))) <| s_x 4 rfl (y_build (v := .agg ((List.replicate 32 0).map B ++ ((List.replicate 32 0).map B ++ ((List.replicate 32 0).map B ++ ([Value.pointer none])))).toArray) (vs := []) rfl (fun _ => kR)) <| tk_re 27 (.agg ((List.replicate 32 0).map B ++ ((List.replicate 32 0).map B ++ ((List.replicate 32 0).map B ++ ([Value.pointer none])))).toArray) (.agg ((List.replicate 32 0).map B ++ ((List.replicate 32 0).map B ++ ((List.replicate 32 0).map B ++ ([Value.pointer none])))).toArray) rfl (rfl) <| s_x 5 rfl (y_move rfl) <| s_x 6 rfl (y_nilCheck rfl) <| s_x 7 rfl (y_fldN (o := 0) 1 rfl kR) <| s_l 8 rfl (fun _ h => h) (y_load rfl rfl (hc (o := 1) (.head _) (rfl))) <| s_x 9 rfl (y_move rfl) <| tx_a 10 rfl kR rfl <| a_callv [] _ rfl kR rfl (fun w' hw' => lnew_spec (hk := List.replicate 32 0) (mk := List.replicate 32 0) (nk := List.replicate 32 0) (tv := .pointer none) (sb := sb) (kb := kb) (cl := n) ⟨lenP, lenP, lenP⟩ rfl lenP) rfl fun lb33 _ => tk_S (fun _ h => kD 1 rfl h) <| s_x 11 rfl (y_move rfl) <| s_x 12 rfl (y_extract rfl rfl) <| s_x 13 rfl (y_extract rfl rfl) <| s_x 14 rfl (y_assign rfl) <| s_x 15 rfl (y_assign rfl) <| tx_done kR <| tk_then <| s_r <| s_q rfl (y_build (v := .agg ((List.replicate 32 0).map B ++ ((List.replicate 32 0).map B ++ ((List.replicate 32 0).map B ++ ([Value.pointer none])))).toArray) (vs := []) rfl (fun _ => kR)) <| tk_re 37 (.agg ((List.replicate 32 0).map B ++ ((List.replicate 32 0).map B ++ ((List.replicate 32 0).map B ++ ([Value.pointer none])))).toArray) (.agg ((List.replicate 32 0).map B ++ ((List.replicate 32 0).map B ++ ((List.replicate 32 0).map B ++ ([Value.pointer none])))).toArray) rfl (rfl) <| q_m rfl rfl <| s_q rfl (y_nilCheck rfl) ?_; refine s_q rfl (y_fldN (o := 0) 1 rfl kR) <| s_q rfl (y_load rfl rfl (hc (o := 1) (mm 1 rfl) (rfl))) <| tk_act rfl <| a_callv [] _ rfl kR rfl (fun w' hw' => lnewns_spec (hk := List.replicate 32 0) (mk := List.replicate 32 0) (nk := List.replicate 32 0) (tv := .pointer none) ⟨lenP, lenP, lenP⟩ rfl) rfl fun _ _ => q_m rfl rfl <| s_q rfl (y_extract rfl rfl) <| s_q rfl (y_extract rfl rfl) <| q_a rfl rfl <| q_a rfl rfl <| s_n <| s_r <| q_m rfl rfl <| s_q rfl (y_nilCheck rfl) <| s_q rfl (y_fld0 (o := 0) rfl kR) <| s_q rfl (y_load rfl rfl (hc (o := 0) (mm 1 rfl) (rfl))) <| s_q rfl (y_build (v := .agg ((List.replicate 32 0).map B ++ ((List.replicate 32 0).map B ++ ((List.replicate 32 0).map B ++ ([Value.pointer none])))).toArray) (vs := []) rfl (fun _ => kR)) <| tk_re 50 (.agg ((List.replicate 32 0).map B ++ ((List.replicate 32 0).map B ++ ((List.replicate 32 0).map B ++ ([Value.pointer none])))).toArray) (.agg ((List.replicate 32 0).map B ++ ((List.replicate 32 0).map B ++ ((List.replicate 32 0).map B ++ ([Value.pointer none])))).toArray) rfl (rfl) <| tk_act rfl <| a_callv [] _ rfl kR rfl (fun w' hw' => lnewnc_spec (hk := List.replicate 32 0) (mk := List.replicate 32 0) (nk := List.replicate 32 0) (tv := .pointer none) ⟨lenP, lenP, lenP⟩ rfl) rfl fun _ _ => q_m rfl rfl <| s_q rfl (y_extract rfl rfl) <| s_q rfl (y_extract rfl rfl) <| q_a rfl rfl <| q_a rfl rfl ?_; refine s_n <| s_r <| q_m rfl rfl <| tk_qe (.bool true) rfl rfl rfl (y_geq rfl rfl) (bool_t oM) <| q_m rfl rfl <| s_g rfl (y_move rfl) <| tk_gqe (.bool true) rfl rfl rfl (y_leq rfl rfl) (bool_t oM) <| s_q rfl (y_pick1 rfl rfl) <| q_a rfl rfl <| s_n <| s_r <| q_m rfl rfl <| s_q rfl ((y_eql rfl rfl).cast (bool_t dC)) <| q_m rfl rfl <| tk_qe (.bool true) rfl rfl rfl (y_eqB (a := true) (b := true) rfl rfl rfl) (rfl) <| q_m rfl rfl <| s_g rfl (y_move rfl) <| s_g rfl (y_pnnil rfl rfl rfl) <| s_g rfl (y_move rfl) <| tk_gqe (.bool true) rfl rfl rfl (y_eqB (a := true) (b := true) rfl rfl rfl) (rfl) <| s_q rfl (y_pick1 rfl rfl) <| q_m rfl rfl <| s_g rfl (y_move rfl) <| s_g rfl (y_move rfl) ?_; exact tk_gno rfl rfl rfl <| tk_gno rfl rfl rfl <| s_g rfl (y_pick1 rfl rfl) <| s_q rfl (y_pick1 rfl rfl) <| q_m rfl rfl <| s_g rfl (y_move rfl) <| s_g rfl ((y_eql rfl rfl).cast (bool_t dC)) <| s_q rfl (y_pick1 rfl rfl) <| q_m rfl rfl <| s_g rfl (y_move rfl) <| s_g rfl ((y_eql rfl rfl).cast (bool_t dC)) <| s_q rfl (y_pick1 rfl rfl) <| q_a rfl rfl <| s_n <| tk_retc <| tk_ret (()) (trivial) (.inl rfl) (r1 rfl rfl) (List.nil_sublist _)
theorem newsno_spec {ci : Int} {w : World} (hci : ci < 0 ∨ 99 < ci) (hg : Ro (Fs []) w glob) : Spec Tryz.prog 6 [I ci] w [] (fun _ : Unit => True) (fun _ => .bool true) (fun _ => []) := by
  refine spec_of (n := 85) Tryz.func6 rfl rfl trivial trivial rfl <| s_r <| q_a rfl rfl <| s_n <| s_r <| tk_act rfl <| a_callv [] _ rfl kR rfl (fun w' hw' => found_spec (n := 1) lenP) rfl fun ⟨sb, mb, kb, tw, vo, cs⟩ hz13 => ?_
  dsimp only at hz13 ⊢
  refine tk_own1 (mm 1 rfl) fun hfo => q_m rfl rfl <| s_q rfl (y_extract rfl rfl) <| s_q rfl (y_extract rfl rfl) <| q_a rfl rfl <| q_a rfl rfl <| s_n <| tk_seq <| s_r <| tk_act rfl <| a_callv [] _ rfl kR rfl (fun w' hw' => bars_spec (hg.call hw')) rfl fun _ _ => s_q rfl (y_not rfl) <| q_m rfl rfl <| s_g rfl (y_move rfl) <| s_g rfl (y_not rfl) <| s_q rfl (y_pick0 rfl rfl) <| s_n <| tk_cond0 rfl <| tk_skip <| tk_then <| tk_seq <| tk_drawH [cel tw ([PT sb, PT kb, vo]) 97, own vo ((cs.map Cl.lb).length) ((cs.map Cl.lb).map PT) 91 1, cel kb ([I 0]) 178, cel sb ([Value.map (some mb), I ((newS 100000).left), .bool ((newS 100000).off), I ((newS 100000).made), I ((newS 100000).room)]) 192, mapS mb (kvO ((newS 100000).obs)), bag (((newS 100000).obs).map (obR 5)), team (cs.flatMap (clP sb kb))] [] kR <| s_x 0 rfl (y_move rfl) <| s_x 1 rfl (y_nilCheck rfl) ?_; refine s_x 2 rfl (y_fld0 (o := 0) rfl kR) <| s_l 3 rfl (fun _ h => h) (y_load rfl rfl (hc (o := 0) (.head _) (rfl))) <| s_x 4 rfl (y_build (v := .agg ((List.replicate 32 0).map B ++ ((List.replicate 32 0).map B ++ ((List.replicate 32 0).map B ++ ([Value.pointer none])))).toArray) (vs := []) rfl (fun _ => kR)) <| tk_re 27 (.agg ((List.replicate 32 0).map B ++ ((List.replicate 32 0).map B ++ ((List.replicate 32 0).map B ++ ([Value.pointer none])))).toArray) (.agg ((List.replicate 32 0).map B ++ ((List.replicate 32 0).map B ++ ((List.replicate 32 0).map B ++ ([Value.pointer none])))).toArray) rfl (rfl) <| s_x 5 rfl (y_move rfl) <| s_x 6 rfl (y_nilCheck rfl) <| s_x 7 rfl (y_fldN (o := 0) 1 rfl kR) <| s_l 8 rfl (fun _ h => h) (y_load rfl rfl (hc (o := 1) (.head _) (rfl))) <| s_x 9 rfl (y_move rfl) <| tx_a 10 rfl kR rfl <| a_callv [] _ rfl kR rfl (fun w' hw' => lnewno_spec (ci := ci) (hk := List.replicate 32 0) (mk := List.replicate 32 0) (nk := List.replicate 32 0) (tv := .pointer none) ⟨lenP, lenP, lenP⟩ rfl hci) rfl fun _ _ => tk_S (fun _ h => h) <| s_x 11 rfl (y_move rfl) <| s_x 12 rfl (y_extract rfl rfl) <| s_x 13 rfl (y_extract rfl rfl) <| s_x 14 rfl (y_assign rfl) <| s_x 15 rfl (y_assign rfl) <| tx_done kR <| tk_then <| s_r <| s_q rfl (y_build (v := .agg ((List.replicate 32 0).map B ++ ((List.replicate 32 0).map B ++ ((List.replicate 32 0).map B ++ ([Value.pointer none])))).toArray) (vs := []) rfl (fun _ => kR)) <| tk_re 37 (.agg ((List.replicate 32 0).map B ++ ((List.replicate 32 0).map B ++ ((List.replicate 32 0).map B ++ ([Value.pointer none])))).toArray) (.agg ((List.replicate 32 0).map B ++ ((List.replicate 32 0).map B ++ ((List.replicate 32 0).map B ++ ([Value.pointer none])))).toArray) rfl (rfl) <| q_m rfl rfl <| s_q rfl (y_nilCheck rfl) ?_; refine s_q rfl (y_fldN (o := 0) 1 rfl kR) <| s_q rfl (y_load rfl rfl (hc (o := 1) (.head _) (rfl))) <| tk_act rfl <| a_callv [] _ rfl kR rfl (fun w' hw' => lnewns_spec (hk := List.replicate 32 0) (mk := List.replicate 32 0) (nk := List.replicate 32 0) (tv := .pointer none) ⟨lenP, lenP, lenP⟩ rfl) rfl fun _ _ => q_m rfl rfl <| s_q rfl (y_extract rfl rfl) <| s_q rfl (y_extract rfl rfl) <| q_a rfl rfl <| q_a rfl rfl <| s_n <| s_r <| q_m rfl rfl <| s_q rfl (y_nilCheck rfl) <| s_q rfl (y_fld0 (o := 0) rfl kR) <| s_q rfl (y_load rfl rfl (hc (o := 0) (.head _) (rfl))) <| s_q rfl (y_build (v := .agg ((List.replicate 32 0).map B ++ ((List.replicate 32 0).map B ++ ((List.replicate 32 0).map B ++ ([Value.pointer none])))).toArray) (vs := []) rfl (fun _ => kR)) <| tk_re 50 (.agg ((List.replicate 32 0).map B ++ ((List.replicate 32 0).map B ++ ((List.replicate 32 0).map B ++ ([Value.pointer none])))).toArray) (.agg ((List.replicate 32 0).map B ++ ((List.replicate 32 0).map B ++ ((List.replicate 32 0).map B ++ ([Value.pointer none])))).toArray) rfl (rfl) <| tk_act rfl <| a_callv [] _ rfl kR rfl (fun w' hw' => lnewnc_spec (hk := List.replicate 32 0) (mk := List.replicate 32 0) (nk := List.replicate 32 0) (tv := .pointer none) ⟨lenP, lenP, lenP⟩ rfl) rfl fun _ _ => q_m rfl rfl <| s_q rfl (y_extract rfl rfl) <| s_q rfl (y_extract rfl rfl) <| q_a rfl rfl <| q_a rfl rfl ?_; refine s_n <| s_r <| q_m rfl rfl <| tk_qs rfl rfl rfl (y_geq rfl rfl) (fun hs7_1 => ?_) (fun hs7_1 => ?_)
  · refine q_m rfl rfl <| s_g rfl (y_move rfl) <| tk_gqe (.bool false) rfl rfl rfl (y_leq rfl rfl) (bool_f oM) <| s_q rfl (y_pick1 rfl rfl) <| q_a rfl rfl <| s_n <| s_r <| q_m rfl rfl <| s_q rfl ((y_eql rfl rfl).cast (bool_f dC)) <| q_m rfl rfl <| tk_qe (.bool true) rfl rfl rfl (y_eqB (a := false) (b := false) rfl rfl rfl) (rfl) <| q_m rfl rfl <| s_g rfl (y_move rfl) <| s_g rfl (y_pnnil rfl rfl rfl) <| s_g rfl (y_move rfl) <| tk_gqe (.bool true) rfl rfl rfl (y_eqB (a := false) (b := false) rfl rfl rfl) (rfl) <| s_q rfl (y_pick1 rfl rfl) <| q_m rfl rfl <| s_g rfl (y_move rfl) <| s_g rfl (y_move rfl) <| s_g rfl (y_move rfl) <| s_g rfl ((y_eql rfl rfl).cast (bool_t dC)) <| s_g rfl (y_pick0 rfl rfl) <| s_q rfl (y_pick1 rfl rfl) ?_; exact q_m rfl rfl <| s_g rfl (y_move rfl) <| s_g rfl ((y_eql rfl rfl).cast (bool_t dC)) <| s_q rfl (y_pick1 rfl rfl) <| q_m rfl rfl <| s_g rfl (y_move rfl) <| s_g rfl ((y_eql rfl rfl).cast (bool_t dC)) <| s_q rfl (y_pick1 rfl rfl) <| q_a rfl rfl <| s_n <| tk_retc <| tk_ret (()) (trivial) (.inl rfl) (r1 rfl rfl) (List.nil_sublist _)
  · refine q_m rfl rfl <| tk_gno rfl rfl rfl <| tk_gno rfl rfl rfl <| s_q rfl (y_pick0 rfl rfl) <| q_a rfl rfl <| s_n <| s_r <| q_m rfl rfl <| s_q rfl ((y_eql rfl rfl).cast (bool_f dC)) <| q_m rfl rfl <| tk_qe (.bool true) rfl rfl rfl (y_eqB (a := false) (b := false) rfl rfl rfl) (rfl) <| q_m rfl rfl <| s_g rfl (y_move rfl) <| s_g rfl (y_pnnil rfl rfl rfl) <| s_g rfl (y_move rfl) <| tk_gqe (.bool true) rfl rfl rfl (y_eqB (a := false) (b := false) rfl rfl rfl) (rfl) <| s_q rfl (y_pick1 rfl rfl) <| q_m rfl rfl <| s_g rfl (y_move rfl) <| s_g rfl (y_move rfl) <| s_g rfl (y_move rfl) <| s_g rfl ((y_eql rfl rfl).cast (bool_t dC)) <| s_g rfl (y_pick0 rfl rfl) <| s_q rfl (y_pick1 rfl rfl) ?_; exact q_m rfl rfl <| s_g rfl (y_move rfl) <| s_g rfl ((y_eql rfl rfl).cast (bool_t dC)) <| s_q rfl (y_pick1 rfl rfl) <| q_m rfl rfl <| s_g rfl (y_move rfl) <| s_g rfl ((y_eql rfl rfl).cast (bool_t dC)) <| s_q rfl (y_pick1 rfl rfl) <| q_a rfl rfl <| s_n <| tk_retc <| tk_ret (()) (trivial) (.inl rfl) (r1 rfl rfl) (List.nil_sublist _)
theorem news_spec {ci : Int} {w : World} (hg : Ro (Fs []) w glob) : Spec Tryz.prog 6 [I ci] w [] (fun _ : Unit => True) (fun _ => .bool true) (fun _ => []) := by
  by_cases h : ci < 0 ∨ 99 < ci
  · exact newsno_spec h hg
  · obtain ⟨n, rfl⟩ : ∃ n : Nat, ci = (n : Int) := ⟨ci.toNat, by omega⟩
    exact newsok_spec oM hg
end Go.Proofs.YtkkjfojgjmglpaaGreatDoor
