/- chap's server: one state, one law for each of the program's calls. -/
import Derived.Test.YtfchbppfbepelaaGreatChap6
import Derived.Test.YtfchbppfbepelaaGreatBkPackets
namespace Go.Proofs.YtfchbppfbepelaaGreat
open Go.RowKit
set_option linter.unusedVariables false
/-- a list of packets that was answered -/
def PkO (base : Nat) (w : World) (v : Value) (l : List (Int × Int × List UInt8)) : Prop := w.ownsRow base 56 4 v l.length (rowF pkF l)
theorem PkO.fr {S : List Nat} {base : Nat} {w w' : World} {v : Value} {l : List (Int × Int × List UInt8)} (h : PkO base w v l) (hF : Fr S w w') (hS : ∀ q, v.ownBlock = some q → q ∉ S) : PkO base w' v l := rown_frS h hF hS
theorem PkO.nil (base : Nat) (w : World) : PkO base w (.slice none 0 0) [] := World.ownsRow_nil _ _ _ _
theorem PkO.one {base : Nat} {w : World} {g : Nat} {c i : Int} {d : List UInt8} (h : Blk w g (pkt c i (.slice none 0 0) d) 56) (hb : base ≤ g) : PkO base w (.slice (some ⟨g, 0, none⟩) 1 1) [(c, i, d)] :=
  ⟨rfl, .inr ⟨g, 1, _, rfl, hb, h, Nat.le_refl 1, by unfold maxLen; omega, rfl, rfl⟩⟩
theorem PkO.ofB {base : Nat} {w : World} {g cap : Nat} {c i : Int} {d : List UInt8} (h : PkB w g cap c i d) (hb : base ≤ g) : PkO base w (.slice (some ⟨g, 0, none⟩) 1 cap) [(c, i, d)] := h.row hb
/-- what a server is -/
structure SS where
  id : Int
  t : Int
  a : Int
  v : List UInt8
  ak : Bool
  ws : Bool
  jd : Bool
  x : Bool
  y : Bool
structure SS.ok (n : List UInt8) (wt : Int) (s : SS) : Prop where
  i0 : 0 ≤ s.id
  i1 : s.id < 256
  t0 : 0 ≤ s.t
  t1 : s.t ≤ 1000
  a0 : 0 ≤ s.a
  a1 : s.a ≤ 1000
  at_ : s.ak = true → s.t < wt
  av : s.ak = true → pvE s.v n = 0
def badV (u : List UInt8) : Prop := u = [] ∨ 60 < u.length
instance (u : List UInt8) : Decidable (badV u) := by unfold badV; infer_instance
def SS.start (s : SS) (u : List UInt8) : SS := if badV u then s else ⟨(s.id + 1) % 256, 0, 0, u, true, false, false, false, false⟩
def SS.startO (n : List UInt8) (s : SS) (u : List UInt8) : List (Int × Int × List UInt8) := if badV u then [] else [(1, (s.id + 1) % 256, pvL u n)]
def SS.tick (r wt : Int) (s : SS) : SS :=
  if s.ak = false then s else if s.t + 1 < wt then { s with t := s.t + 1 } else if r ≤ s.a then { s with t := s.t + 1, ak := false, x := true } else { s with t := 0, a := s.a + 1 }
def SS.tickO (n : List UInt8) (r wt : Int) (s : SS) : List (Int × Int × List UInt8) := if s.ak = true ∧ ¬ s.t + 1 < wt ∧ ¬ r ≤ s.a then [(1, s.id, pvL s.v n)] else []
def SS.hit (s : SS) (c i : Int) (D : List UInt8) : Prop := s.ak = true ∧ c = 2 ∧ i = s.id ∧ gvE D = 0
instance (s : SS) (c i : Int) (D : List UInt8) : Decidable (s.hit c i D) := by unfold SS.hit; infer_instance
def SS.take (s : SS) (c i : Int) (D : List UInt8) : SS := if s.hit c i D then { s with ak := false, ws := true } else s
def SS.claim (s : SS) (c i : Int) (D : List UInt8) : List UInt8 × List UInt8 × List UInt8 × Int := if s.hit c i D then (gvN D, s.v, gvV D, s.id) else ([], [], [], 0)
def SS.judge (s : SS) (b : Bool) : SS := if s.ws = true then { s with ws := false, jd := true, x := true, y := b } else s
def SS.judgeO (s : SS) (b : Bool) : List (Int × Int × List UInt8) := if s.ws = true then [(if b then 3 else 4, s.id, [])] else []
def SS.againO (s : SS) (c i : Int) : List (Int × Int × List UInt8) := if c = 2 ∧ i = s.id ∧ s.jd = true then [(if s.y then 3 else 4, s.id, [])] else []
theorem SS.startO_le (n : List UInt8) (s : SS) (u : List UInt8) : (s.startO n u).length ≤ 1 := by unfold SS.startO; split <;> simp
theorem SS.tickO_le (n : List UInt8) (r wt : Int) (s : SS) : (s.tickO n r wt).length ≤ 1 := by unfold SS.tickO; split <;> simp
theorem SS.judgeO_le (s : SS) (b : Bool) : (s.judgeO b).length ≤ 1 := by unfold SS.judgeO; split <;> simp
theorem SS.againO_le (s : SS) (c i : Int) : (s.againO c i).length ≤ 1 := by unfold SS.againO; split <;> simp
theorem pvE_ok {u n : List UInt8} (hu : ¬ badV u) (hn : n.length ≤ 60) : pvE u n = 0 := by unfold badV at hu; unfold pvE; rw [if_neg hu, if_neg (by omega)]
theorem SS.ok.start {n : List UInt8} {wt : Int} {s : SS} (h : s.ok n wt) (hw : 1 ≤ wt) (hn : n.length ≤ 60) (u : List UInt8) : (s.start u).ok n wt := by
  unfold SS.start
  by_cases hu : badV u
  · rw [if_pos hu]; exact h
  · rw [if_neg hu]
    obtain ⟨h1, h2, h3, h4, h5, h6, h7, h8⟩ := h
    exact ⟨by dsimp only; omega, by dsimp only; omega, by simp, by simp, by simp, by simp, fun _ => by dsimp only; omega, fun _ => pvE_ok hu hn⟩
theorem SS.ok.tick {n : List UInt8} {r wt : Int} {s : SS} (h : s.ok n wt) (hw : 1 ≤ wt) (hw2 : wt ≤ 100) (hr : r ≤ 10) : (s.tick r wt).ok n wt := by
  have hh := h
  obtain ⟨h1, h2, h3, h4, h5, h6, h7, h8⟩ := h
  unfold SS.tick
  by_cases hx : s.ak = false
  · rw [if_pos hx]; exact hh
  · have hx' : s.ak = true := by simpa using hx
    have := h7 hx'
    rw [if_neg hx]
    by_cases ht : s.t + 1 < wt
    · rw [if_pos ht]
      exact ⟨h1, h2, by dsimp only; omega, by dsimp only; omega, h5, h6, fun _ => ht, fun _ => h8 hx'⟩
    · rw [if_neg ht]
      by_cases ha : r ≤ s.a
      · rw [if_pos ha]
        exact ⟨h1, h2, by dsimp only; omega, by dsimp only; omega, h5, h6, (fun h => by cases h), (fun h => by cases h)⟩
      · rw [if_neg ha]
        exact ⟨h1, h2, by simp, by simp, by dsimp only; omega, by dsimp only; omega, fun _ => by dsimp only; omega, fun _ => h8 hx'⟩
theorem SS.ok.take {n : List UInt8} {wt : Int} {s : SS} (h : s.ok n wt) (c i : Int) (D : List UInt8) : (s.take c i D).ok n wt := by
  unfold SS.take
  split
  · obtain ⟨h1, h2, h3, h4, h5, h6, h7, h8⟩ := h
    exact ⟨h1, h2, h3, h4, h5, h6, (fun h => by cases h), (fun h => by cases h)⟩
  · exact h
theorem SS.ok.judge {n : List UInt8} {wt : Int} {s : SS} (h : s.ok n wt) (b : Bool) : (s.judge b).ok n wt := by
  unfold SS.judge
  split
  · obtain ⟨h1, h2, h3, h4, h5, h6, h7, h8⟩ := h
    exact ⟨h1, h2, h3, h4, h5, h6, h7, h8⟩
  · exact h
/-- the program's server in memory -/
def SrvP (B0 : Nat) (w : World) (g : Nat) (n : List UInt8) (r wt : Int) (s : SS) : Prop :=
  ∃ A sl sc, Blk w g (csv n r wt s.id s.v s.ak s.ws s.t s.a s.x s.y A sl sc) 248 ∧ ((s.jd = false ∧ A = none ∧ sl = 0 ∧ sc = 0) ∨ (s.jd = true ∧ ∃ q, A = some ⟨q, 0, none⟩ ∧ sl = 1 ∧ sc = 1 ∧ B0 ≤ q ∧ Blk w q (pkt (if s.y then 3 else 4) s.id (.slice none 0 0) []) 56))
section
variable {w w' : World} {g B0 : Nat} {n : List UInt8} {r wt : Int} {s : SS}
theorem SrvP.fr (h : SrvP B0 w g n r wt s) {S : List Nat} (hF : Fr S w w') (hg : g ∉ S) (hS : ∀ q, q ∈ S → ∀ cur T, Blk w q cur T → T ≠ 56) : SrvP B0 w' g n r wt s := by
  obtain ⟨A, sl, sc, hB, h1⟩ := h
  refine ⟨A, sl, sc, hF.blk hB hg, h1.imp id fun ⟨hj, q, e1, e2, e3, e4, hQ⟩ => ⟨hj, q, e1, e2, e3, e4, hF.blk hQ fun hq => hS q hq _ _ hQ rfl⟩⟩
theorem SrvP.fr0 (h : SrvP B0 w g n r wt s) (hF : Fr [] w w') : SrvP B0 w' g n r wt s := h.fr hF (by simp) (fun q hq => by cases hq)
theorem SrvP.blk (h : SrvP B0 w g n r wt s) : ∃ cur, Blk w g cur 248 := by
  obtain ⟨A, sl, sc, hB, _⟩ := h
  exact ⟨_, hB⟩
/-- frames over the server's own block -/
theorem SrvP.mk' {A : Option Addr} {sl sc : Nat} {s' : SS} (h1 : (s.jd = false ∧ A = none ∧ sl = 0 ∧ sc = 0) ∨ (s.jd = true ∧ ∃ q, A = some ⟨q, 0, none⟩ ∧ sl = 1 ∧ sc = 1 ∧ B0 ≤ q ∧ Blk w q (pkt (if s.y then 3 else 4) s.id (.slice none 0 0) []) 56)) {cs : Array Value} (hg : Blk w g cs 248) (hF : Fr [g] w w') (hj : s'.jd = s.jd) (hy : s'.y = s.y) (hi : s'.id = s.id)
    (hB : Blk w' g (csv n r wt s'.id s'.v s'.ak s'.ws s'.t s'.a s'.x s'.y A sl sc) 248) : SrvP B0 w' g n r wt s' := by
  refine ⟨A, sl, sc, hB, ?_⟩
  rw [hj, hy, hi]
  refine h1.imp id fun ⟨hj, q, e1, e2, e3, e4, hQ⟩ => ⟨hj, q, e1, e2, e3, e4, hF.blk hQ ?_⟩
  simp
  intro e
  subst e
  exact hg.neT hQ (by decide) rfl
theorem sstart_bad (u : List UInt8) (hu : badV u) {id : Int} {v : List UInt8} {ak ws : Bool} {t a : Int} {x y : Bool} {A : Option Addr} {sl sc : Nat} (hw : (wt == 0) = false) (hB : Blk w g (csv n r wt id v ak ws t a x y A sl sc) 248) (hul : u.length ≤ 300) :
    Calls Tryz.prog 36 #[.pointer (some ⟨g, 0, none⟩), .string (B u)] w fun e w' => e = .returned (.slice none 0 0) ∧ w = w' := by
  have hN := snone_any hB
  rw [hw] at hN
  have HN := Lib.hid hN
  clear hN hB
  cases u with
  | nil =>
    clear hu
    go_enter Tryz.func36, Tryz.ntmps36
    go_wp2_with fail
    refine HN.out.mono ?_
    rintro e w1 ⟨rfl, rfl⟩
    go_wp2_with fail
    go_ret
    exact ⟨rfl, rfl⟩
  | cons c l =>
    have hl : 60 < (c :: l).length := by
      rcases hu with h | h
      · cases h
      · exact h
    obtain ⟨u, hu2⟩ : ∃ u, c :: l = u := ⟨_, rfl⟩
    have hue : u.isEmpty = false := by rw [← hu2]; rfl
    rw [hu2] at hl hul ⊢
    have hl2 : (60 : Int) < u.length := by omega
    clear hu hu2 hl
    go_enter Tryz.func36, Tryz.ntmps36
    go_wp2_with fail
    refine HN.out.mono ?_
    rintro e w1 ⟨rfl, rfl⟩
    go_wp2_with fail
    go_ret
    exact ⟨rfl, rfl⟩
theorem stick_idle {id : Int} {v : List UInt8} {ws : Bool} {t a : Int} {x y : Bool} {A : Option Addr} {sl sc : Nat} (hw : (wt == 0) = false) (hB : Blk w g (csv n r wt id v false ws t a x y A sl sc) 248) :
    Calls Tryz.prog 38 #[.pointer (some ⟨g, 0, none⟩)] w fun e w' => e = .returned (.slice none 0 0) ∧ w = w' := by
  have hN := snone_any hB
  rw [hw] at hN
  have HN := Lib.hid hN
  obtain ⟨c0, c1, c2, c3, c4, c5, c6, c7, c8, c9, c10, c11⟩ := csv_c hB
  clear hN hB
  go_enter Tryz.func38, Tryz.ntmps38
  go_wp2_with fail
  refine HN.out.mono ?_
  rintro e w1 ⟨rfl, rfl⟩
  go_wp2_with fail
  go_ret
  exact ⟨rfl, rfl⟩
theorem sagain_no (c i : Int) (pA : Option Addr) (pn cap : Nat) (D : List UInt8) {id : Int} {v : List UInt8} {ak ws : Bool} {t a : Int} {x y : Bool} {A : Option Addr} {sl sc : Nat} (h : (c != 2) = true ∨ (c != 2) = false ∧ (i != id) = true) (i0 : 0 ≤ id) (i1 : id < 256) (hw : (wt == 0) = false) (hB : Blk w g (csv n r wt id v ak ws t a x y A sl sc) 248) :
    Calls Tryz.prog 42 #[.pointer (some ⟨g, 0, none⟩), .agg #[.int .i64 c, .int .i64 i, .slice pA pn cap, .string (B D)]] w fun e w' => e = .returned (.slice none 0 0) ∧ Fr [] w w' := by
  obtain ⟨W, hW, hF, hsz, hBW, ⟨p0, p1, p3⟩, HN⟩ := sopen false hw c i pA pn cap D hB
  obtain ⟨c0, c1, c2', c3, c4, c5, c6, c7, c8, c9, c10, c11⟩ := csv_c hBW
  clear hB hBW
  rcases h with h | ⟨h, h2⟩
  all_goals
    go_enter Tryz.func42, Tryz.ntmps42
    go_wp2_with fail
    rw [hW.out]
    go_quiet ((go_at_call 190; exact Calls.quiet_of_same (HN.out _)))
    go_wp2_with fail
    go_ret
    exact ⟨rfl, hF.drewN _⟩
theorem sagain_none (i : Int) (pA : Option Addr) (pn cap : Nat) (D : List UInt8) {id : Int} {v : List UInt8} {ak ws : Bool} {t a : Int} {x y : Bool} (hi : (i != id) = false) (i0 : 0 ≤ id) (i1 : id < 256) (hw : (wt == 0) = false) (hB : Blk w g (csv n r wt id v ak ws t a x y none 0 0) 248) :
    Calls Tryz.prog 42 #[.pointer (some ⟨g, 0, none⟩), .agg #[.int .i64 2, .int .i64 i, .slice pA pn cap, .string (B D)]] w fun e w' => e = .returned (.slice none 0 0) ∧ Fr [] w w' := by
  obtain ⟨W, hW, hF, hsz, hBW, ⟨p0, p1, p3⟩, HN⟩ := sopen false hw 2 i pA pn cap D hB
  obtain ⟨c0, c1, c2', c3, c4, c5, c6, c7, c8, c9, c10, c11⟩ := csv_c hBW
  have HC := Lib.hid fun W => sclone_nil (w := W)
  clear hB hBW
  go_enter Tryz.func42, Tryz.ntmps42
  go_wp2_with fail
  rw [hW.out]
  go_quiet ((go_at_call 190; exact Calls.quiet_of_same (HN.out _)))
  go_wp2_with fail
  refine (HC.out _).mono ?_
  rintro e w2 ⟨rfl, rfl⟩
  go_wp2_with fail
  go_ret
  exact ⟨rfl, hF.drewN _⟩
theorem stake_code (c i : Int) (pA : Option Addr) (pn cap : Nat) (D : List UInt8) {id : Int} {v : List UInt8} {ws : Bool} {t a : Int} {x y : Bool} {A : Option Addr} {sl sc : Nat} (hc : (c != 2) = true) (hw : (wt == 0) = false) (hB : Blk w g (csv n r wt id v true ws t a x y A sl sc) 248) :
    Calls Tryz.prog 44 #[.pointer (some ⟨g, 0, none⟩), .agg #[.int .i64 c, .int .i64 i, .slice pA pn cap, .string (B D)]] w fun e w' => e = .returned (.tuple #[.agg clz, .bool false]) ∧ Fr [] w w' := by
  obtain ⟨W, HW, hF, hBW, hQ, ⟨p0, p1, p3⟩, HN⟩ := topen false hw c i pA pn cap D hB
  obtain ⟨c0, c1, c2, c3, c4, c5, c6, c7, c8, c9, c10, c11⟩ := csv_c hBW
  go_enter Tryz.func44, Tryz.ntmps44
  go_wp2_with fail
  rw [show (w.alloc (.cells #[.int .i64 c, .int .i64 i, .slice pA pn cap, .string (B D)] 56)).alloc (.cells #[.string ⟨#[]⟩, .string ⟨#[]⟩, .string ⟨#[]⟩, .int .i64 0] 94) = W from HW.out]
  go_quiet ((go_at_call 190; exact Calls.quiet_of_same (HN.out _)))
  go_wp2_with (refine wpList_store_blk rfl 94 (.tmp 4) (.tmp 33) rfl (w.heap.size + 1) 94 clz clz (hQ.drewN _) rfl rfl rfl (by kernel_rfl) clz_one ?_; intro w2 hw2 hB2)
  refine ret_cell2 4 5 94 rfl (w.heap.size + 1) 94 _ _ hB2 rfl Tryz.underlying94 rfl (by kernel_rfl) rfl ⟨rfl, ?_⟩
  rw [hw2.out]
  exact (hF.drewN _).setCells _ _ _ (Or.inl (by omega))
theorem snew_long (hn : 60 < n.length) (hn2 : n.length ≤ 140737488355328) :
    Calls Tryz.prog 34 #[.string (B n), .int .i64 r, .int .i64 wt] w fun e w' => e = .returned (.tuple #[.pointer none, .int .i64 2]) ∧ w = w' := by
  have hn1 : (60 : Int) < n.length := by omega
  clear hn
  go_enter Tryz.func34, Tryz.ntmps34
  go_wp2
  go_ret2
  exact ⟨rfl, rfl⟩
theorem snew_err (hn2 : n.length ≤ 140737488355328) (h : snewE n r wt ≠ 0) :
    Calls Tryz.prog 34 #[.string (B n), .int .i64 r, .int .i64 wt] w fun e w' => e = .returned (.tuple #[.pointer none, .int .i64 (snewE n r wt)]) ∧ Fr [] w w' := by
  unfold snewE at h ⊢
  by_cases h1 : 60 < n.length
  · rw [if_pos h1]
    exact (snew_long h1 hn2).mono fun e w' q => ⟨q.1, q.2 ▸ Fr.refl _ _⟩
  · rw [if_neg h1] at h ⊢
    by_cases h2 : 0 ≤ r ∧ r ≤ 10 ∧ 1 ≤ wt ∧ wt ≤ 100
    · rw [if_pos h2] at h; exact absurd rfl h
    · rw [if_neg h2]
      exact (snew_bad (by omega) (by omega)).mono fun e w' q => ⟨q.1, q.2 ▸ Fr.refl _ _⟩
theorem uSStart (hn : n.length ≤ 60) (hs : s.ok n wt) (hw : 1 ≤ wt) (u : List UInt8) (hu : u.length ≤ 300) (h : SrvP B0 w g n r wt s) (hb : B0 ≤ w.heap.size) :
    Calls Tryz.prog 36 #[.pointer (some ⟨g, 0, none⟩), .string (B u)] w fun e w' => ∃ v, e = .returned v ∧ PkO w.heap.size w' v (s.startO n u) ∧ SrvP B0 w' g n r wt (s.start u) ∧ Fr [g] w w' := by
  have hwt : (wt == 0) = false := by rw [beq_eq_false_iff_ne]; omega
  obtain ⟨A, sl, sc, hB, h1⟩ := h
  unfold SS.startO SS.start
  by_cases hv : badV u
  · rw [if_pos hv, if_pos hv]
    refine (sstart_bad u hv hwt hB hu).mono ?_
    rintro e w' ⟨rfl, rfl⟩
    exact ⟨_, rfl, PkO.nil _ _, ⟨A, sl, sc, hB, h1⟩, Fr.refl _ _⟩
  · rw [if_neg hv, if_neg hv]
    refine (sstart_any hs.i0 hs.i1 u (pvE_ok hv hn) hwt hB).mono ?_
    rintro e w' ⟨g', rfl, hg, _, hP, hC, hF⟩
    exact ⟨_, rfl, PkO.ofB hP hg, ⟨none, 0, 0, hC, Or.inl ⟨rfl, rfl, rfl, rfl⟩⟩, hF⟩
theorem uSTick (hs : s.ok n wt) (hw : 1 ≤ wt) (h : SrvP B0 w g n r wt s) (hb : B0 ≤ w.heap.size) :
    Calls Tryz.prog 38 #[.pointer (some ⟨g, 0, none⟩)] w fun e w' => ∃ v, e = .returned v ∧ PkO w.heap.size w' v (s.tickO n r wt) ∧ SrvP B0 w' g n r wt (s.tick r wt) ∧ Fr [g] w w' := by
  have hwt : (wt == 0) = false := by rw [beq_eq_false_iff_ne]; omega
  obtain ⟨A, sl, sc, hB, h1⟩ := h
  obtain ⟨id, t, a, v, ak, ws, jd, x, y⟩ := s
  obtain ⟨q1, q2, q3, q4, q5, q6, q7, q8⟩ := hs
  dsimp only at q1 q2 q3 q4 q5 q6 q7 q8 hB h1
  cases ak with
  | false =>
    refine (stick_idle hwt hB).mono ?_
    rintro e w' ⟨rfl, rfl⟩
    simp only [SS.tickO, SS.tick]
    exact ⟨_, rfl, PkO.nil _ _, ⟨A, sl, sc, hB, h1⟩, Fr.refl _ _⟩
  | true =>
    by_cases ht : t + 1 < wt
    · refine (stick_wait hwt q3 q4 ht hB).mono ?_
      rintro e w' ⟨rfl, hC, hF⟩
      simp only [SS.tickO, SS.tick, ht]
      exact ⟨_, rfl, PkO.nil _ _, SrvP.mk' (s := ⟨id, t, a, v, true, ws, jd, x, y⟩) (s' := ⟨id, t + 1, a, v, true, ws, jd, x, y⟩) h1 hB hF rfl rfl rfl hC, hF⟩
    · by_cases ha : r ≤ a
      · refine (stick_end hwt q3 q4 ht ha hB).mono ?_
        rintro e w' ⟨rfl, hC, hF⟩
        simp only [SS.tickO, SS.tick, ht, ha]
        exact ⟨_, rfl, PkO.nil _ _, SrvP.mk' (s := ⟨id, t, a, v, true, ws, jd, x, y⟩) (s' := ⟨id, t + 1, a, v, false, ws, jd, true, y⟩) h1 hB hF rfl rfl rfl hC, hF⟩
      · refine (stick_say q1 q2 (q8 rfl) hwt q3 q4 q5 q6 ht ha hB).mono ?_
        rintro e w' ⟨g', rfl, hg, _, hP, hC, hF⟩
        simp only [SS.tickO, SS.tick, ht, ha]
        exact ⟨_, rfl, PkO.ofB hP hg, SrvP.mk' (s := ⟨id, t, a, v, true, ws, jd, x, y⟩) (s' := ⟨id, 0, a + 1, v, true, ws, jd, x, y⟩) h1 hB hF rfl rfl rfl hC, hF⟩
def clmT (q : List UInt8 × List UInt8 × List UInt8 × Int) : Array Value := #[.string (B q.1), .string (B q.2.1), .string (B q.2.2.1), .int .i64 q.2.2.2]
theorem uSTake (hs : s.ok n wt) (hw : 1 ≤ wt) (c i : Int) (pA : Option Addr) (pn cap : Nat) (D : List UInt8) (hD : D.length ≤ 1000) (h : SrvP B0 w g n r wt s) :
    Calls Tryz.prog 44 #[.pointer (some ⟨g, 0, none⟩), .agg #[.int .i64 c, .int .i64 i, .slice pA pn cap, .string (B D)]] w fun e w' => e = .returned (.tuple #[.agg (clmT (s.claim c i D)), .bool (decide (s.hit c i D))]) ∧ SrvP B0 w' g n r wt (s.take c i D) ∧ Fr [g] w w' := by
  have hwt : (wt == 0) = false := by rw [beq_eq_false_iff_ne]; omega
  obtain ⟨A, sl, sc, hB, h1⟩ := h
  by_cases hh : s.hit c i D
  · have e1 : s.claim c i D = (gvN D, s.v, gvV D, s.id) := by unfold SS.claim; rw [if_pos hh]
    have e2 : s.take c i D = { s with ak := false, ws := true } := by unfold SS.take; rw [if_pos hh]
    rw [e1, e2, decide_eq_true hh]
    obtain ⟨id, t, a, v, ak, ws, jd, x, y⟩ := s
    obtain ⟨k1, k2, k3, k4⟩ := hh
    dsimp only at k1 k2 k3 hB h1
    subst k1 k2 k3
    refine (stake_ok i pA pn cap D k4 hwt (by simp) hs.i0 hs.i1 hB).mono ?_
    rintro e w' ⟨rfl, hC, hF⟩
    exact ⟨rfl, SrvP.mk' (s := ⟨i, t, a, v, true, ws, jd, x, y⟩) (s' := ⟨i, t, a, v, false, true, jd, x, y⟩) h1 hB hF rfl rfl rfl hC, hF⟩
  · have e1 : s.claim c i D = ([], [], [], 0) := by unfold SS.claim; rw [if_neg hh]
    have e2 : s.take c i D = s := by unfold SS.take; rw [if_neg hh]
    rw [e1, e2, decide_eq_false hh]
    have fin : ∀ (e : Ending) (w' : World), e = .returned (.tuple #[.agg clz, .bool false]) ∧ Fr [] w w' → e = .returned (.tuple #[.agg (clmT ([], [], [], 0)), .bool false]) ∧ SrvP B0 w' g n r wt s ∧ Fr [g] w w' := fun e w' q => ⟨q.1, SrvP.fr0 ⟨A, sl, sc, hB, h1⟩ q.2, q.2.mono (by simp)⟩
    cases hak : s.ak with
    | false =>
      rw [hak] at hB
      exact (stake_idle c i pA pn cap D hwt hB).mono fin
    | true =>
      have hB0 := hB
      rw [hak] at hB
      by_cases hc : c = 2
      · subst hc
        by_cases hi : i = s.id
        · have hg : gvE D ≠ 0 := fun e => hh ⟨hak, rfl, hi, e⟩
          exact (stake_bad i pA pn cap D (by omega) hg hwt (by simpa using hi) hs.i0 hs.i1 hB).mono fin
        · exact (stake_id i pA pn cap D hwt (by simpa using hi) hs.i0 hs.i1 hB).mono fin
      · exact (stake_code c i pA pn cap D (by simpa using hc) hwt hB).mono fin
theorem uSJudge (hs : s.ok n wt) (hw : 1 ≤ wt) (b : Bool) (h : SrvP B0 w g n r wt s) (hb : B0 ≤ w.heap.size) :
    Calls Tryz.prog 40 #[.pointer (some ⟨g, 0, none⟩), .bool b] w fun e w' => ∃ v, e = .returned v ∧ PkO w.heap.size w' v (s.judgeO b) ∧ SrvP B0 w' g n r wt (s.judge b) ∧ Fr [g] w w' := by
  have hwt : (wt == 0) = false := by rw [beq_eq_false_iff_ne]; omega
  obtain ⟨A, sl, sc, hB, h1⟩ := h
  obtain ⟨id, t, a, v, ak, ws, jd, x, y⟩ := s
  cases ws with
  | false =>
    refine (sjudge_no b hwt hB).mono ?_
    rintro e w' ⟨rfl, rfl⟩
    simp only [SS.judgeO, SS.judge]
    exact ⟨_, rfl, PkO.nil _ _, ⟨A, sl, sc, hB, h1⟩, Fr.refl _ _⟩
  | true =>
    refine (sjudge_any b hs.i0 hs.i1 hwt hB).mono ?_
    rintro e w' ⟨g', cap, q, rfl, hg, _, hP, hq, _, hQ, hC, hF⟩
    simp only [SS.judgeO, SS.judge]
    exact ⟨_, rfl, PkO.ofB hP hg, ⟨_, _, _, hC, Or.inr ⟨rfl, q, rfl, rfl, rfl, by omega, hQ⟩⟩, hF⟩
theorem uSAgain (hs : s.ok n wt) (hw : 1 ≤ wt) (c i : Int) (pA : Option Addr) (pn cap : Nat) (D : List UInt8) (h : SrvP B0 w g n r wt s) :
    Calls Tryz.prog 42 #[.pointer (some ⟨g, 0, none⟩), .agg #[.int .i64 c, .int .i64 i, .slice pA pn cap, .string (B D)]] w fun e w' => ∃ v, e = .returned v ∧ PkO w.heap.size w' v (s.againO c i) ∧ SrvP B0 w' g n r wt s ∧ Fr [] w w' := by
  have hwt : (wt == 0) = false := by rw [beq_eq_false_iff_ne]; omega
  have hsp := h
  obtain ⟨A, sl, sc, hB, h1⟩ := h
  by_cases hc : c = 2 ∧ i = s.id
  · obtain ⟨rfl, hi⟩ := hc
    rcases h1 with ⟨hj, rfl, rfl, rfl⟩ | ⟨hj, q, rfl, rfl, rfl, hq, hQ⟩
    · have e1 : s.againO 2 i = [] := by unfold SS.againO; rw [if_neg (fun h => by rw [hj] at h; exact absurd h.2.2 (by decide))]
      rw [e1]
      refine (sagain_none i pA pn cap D (by simpa using hi) hs.i0 hs.i1 hwt hB).mono ?_
      rintro e w' ⟨rfl, hF⟩
      exact ⟨_, rfl, PkO.nil _ _, hsp.fr0 hF, hF⟩
    · have e1 : s.againO 2 i = [(if s.y then 3 else 4, s.id, [])] := by unfold SS.againO; rw [if_pos ⟨rfl, hi, hj⟩]
      rw [e1]
      refine (sagain_yes i pA pn cap D q _ _ _ hwt (by simpa using hi) hs.i0 hs.i1 (Pk.of hQ) hQ.lt hB).mono ?_
      rintro e w' ⟨g', cap', rfl, hg, _, hP, hF⟩
      exact ⟨_, rfl, PkO.ofB hP hg, hsp.fr0 hF, hF⟩
  · have e1 : s.againO c i = [] := by unfold SS.againO; rw [if_neg (fun h => hc ⟨h.1, h.2.1⟩)]
    rw [e1]
    refine (sagain_no c i pA pn cap D ?_ hs.i0 hs.i1 hwt hB).mono ?_
    · by_cases h2 : c = 2
      · right
        exact ⟨by simpa using h2, by simpa using fun e => hc ⟨h2, e⟩⟩
      · left
        simpa using h2
    · rintro e w' ⟨rfl, hF⟩
      exact ⟨_, rfl, PkO.nil _ _, hsp.fr0 hF, hF⟩
end
end Go.Proofs.YtfchbppfbepelaaGreat
