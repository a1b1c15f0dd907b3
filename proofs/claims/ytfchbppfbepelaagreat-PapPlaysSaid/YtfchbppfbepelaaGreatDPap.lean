/- pap's client, the program's and the document's: one state, one law for each. -/
import Derived.Test.YtfchbppfbepelaaGreatPap5
import Derived.Test.YtfchbppfbepelaaGreatBkPackets
namespace Go.Proofs.YtfchbppfbepelaaGreat
open Go.RowKit
set_option linter.unusedVariables false

/-- what a client is -/
structure PS where
  id : Int
  t : Int
  a : Int
  x : Bool
  y : Bool
  z : Bool
structure PS.ok (r wt : Int) (s : PS) : Prop where
  i0 : 0 ≤ s.id
  i1 : s.id < 256
  t0 : 0 ≤ s.t
  t1 : s.t ≤ 1000
  a0 : 0 ≤ s.a
  a1 : s.a ≤ 1000
  xt : s.x = true → s.t < wt
  xz : s.x = true → s.z = false
def PS.start (s : PS) : PS := ⟨(s.id + 1) % 256, 0, 0, true, false, false⟩
def PS.tick (r wt : Int) (s : PS) : PS :=
  if s.x = false then s else if s.t + 1 < wt then ⟨s.id, s.t + 1, s.a, true, s.y, s.z⟩ else if r ≤ s.a then ⟨s.id, s.t + 1, s.a, false, true, false⟩ else ⟨(s.id + 1) % 256, 0, s.a + 1, true, s.y, s.z⟩
def PS.says (r wt : Int) (s : PS) : Bool := s.x && !decide (s.t + 1 < wt) && !decide (r ≤ s.a)
def PS.take (s : PS) (c i : Int) : PS := if s.x = true ∧ i = s.id ∧ (c = 2 ∨ c = 3) then ⟨s.id, s.t, s.a, false, true, c == 2⟩ else s
theorem PS.ok.start {r wt : Int} {s : PS} (h : s.ok r wt) (hw : 1 ≤ wt) : s.start.ok r wt := by
  obtain ⟨h1, h2, h3, h4, h5, h6, h7, h8⟩ := h
  exact ⟨by simp only [PS.start]; omega, by simp only [PS.start]; omega, by simp [PS.start], by simp [PS.start], by simp [PS.start], by simp [PS.start], fun _ => by simp only [PS.start]; omega, fun _ => rfl⟩
theorem PS.ok.tick {r wt : Int} {s : PS} (h : s.ok r wt) (hw : 1 ≤ wt) (hw2 : wt ≤ 100) (hr : r ≤ 10) : (s.tick r wt).ok r wt := by
  have hh := h
  obtain ⟨h1, h2, h3, h4, h5, h6, h7, h8⟩ := h
  unfold PS.tick
  by_cases hx : s.x = false
  · rw [if_pos hx]; exact hh
  · have hx' : s.x = true := by simpa using hx
    have := h7 hx'
    rw [if_neg hx]
    by_cases ht : s.t + 1 < wt
    · rw [if_pos ht]
      exact ⟨h1, h2, by dsimp only; omega, by dsimp only; omega, h5, h6, fun _ => ht, fun _ => h8 hx'⟩
    · rw [if_neg ht]
      by_cases ha : r ≤ s.a
      · rw [if_pos ha]
        exact ⟨h1, h2, by dsimp only; omega, by dsimp only; omega, h5, h6, (fun h => by cases h), (fun h => by cases h)⟩
      · rw [if_neg ha]
        exact ⟨by dsimp only; omega, by dsimp only; omega, by simp, by simp, by dsimp only; omega, by dsimp only; omega, fun _ => by dsimp only; omega, fun _ => h8 hx'⟩
theorem PS.ok.take {r wt : Int} {s : PS} (h : s.ok r wt) (c i : Int) : (s.take c i).ok r wt := by
  have hh := h
  obtain ⟨h1, h2, h3, h4, h5, h6, h7, h8⟩ := h
  unfold PS.take
  split
  · exact ⟨h1, h2, h3, h4, h5, h6, (fun h => by cases h), (fun h => by cases h)⟩
  · exact hh

/-- a list of packets that was answered -/
def PkO (base : Nat) (w : World) (v : Value) (l : List (Int × Int × List UInt8)) : Prop := w.ownsRow base 56 4 v l.length (rowF pkF l)
theorem PkO.fr {S : List Nat} {base : Nat} {w w' : World} {v : Value} {l : List (Int × Int × List UInt8)} (h : PkO base w v l) (hF : Fr S w w') (hS : ∀ q, v.ownBlock = some q → q ∉ S) : PkO base w' v l := rown_frS h hF hS
theorem PkO.nil (base : Nat) (w : World) : PkO base w (.slice none 0 0) [] := World.ownsRow_nil _ _ _ _
theorem PkO.one {base : Nat} {w : World} {g : Nat} {c i : Int} {d : List UInt8} (h : Blk w g (pkt c i (.slice none 0 0) d) 56) (hb : base ≤ g) : PkO base w (.slice (some ⟨g, 0, none⟩) 1 1) [(c, i, d)] :=
  ⟨rfl, .inr ⟨g, 1, _, rfl, hb, h, Nat.le_refl 1, by unfold maxLen; omega, rfl, rfl⟩⟩
def outL (b : Bool) (i : Int) (d : List UInt8) : List (Int × Int × List UInt8) := if b then [(1, i, d)] else []
abbrev pclS (d : List UInt8) (r wt : Int) (s : PS) : Array Value := pcl d r wt s.id s.t s.a s.x s.y s.z

section
variable {w : World} {g : Nat} {d n0 s0 : List UInt8} {r wt : Int} {s : PS}
theorem uStart (hs : s.ok r wt) (hw : 1 ≤ wt) (hB : Blk w g (pclS d r wt s) 202) :
    Calls Tryz.prog 13 #[.pointer (some ⟨g, 0, none⟩)] w fun e w' => ∃ v, e = .returned v ∧ PkO w.heap.size w' v [(1, s.start.id, d)] ∧ Blk w' g (pclS d r wt s.start) 202 ∧ Fr [g] w w' := by
  refine (pstart_any hs.i0 hs.i1 (by rw [beq_eq_false_iff_ne]; omega) hB).mono ?_
  rintro e w' ⟨g', rfl, hg, hP, hC, hF⟩
  exact ⟨_, rfl, PkO.one hP hg, hC, hF⟩
theorem uTick (hs : s.ok r wt) (hw : 1 ≤ wt) (hB : Blk w g (pclS d r wt s) 202) :
    Calls Tryz.prog 15 #[.pointer (some ⟨g, 0, none⟩)] w fun e w' => ∃ v, e = .returned v ∧ PkO w.heap.size w' v (outL (s.says r wt) (s.tick r wt).id d) ∧ Blk w' g (pclS d r wt (s.tick r wt)) 202 ∧ Fr [g] w w' := by
  have hwt : (wt == 0) = false := by rw [beq_eq_false_iff_ne]; omega
  obtain ⟨id, t, a, x, y, z⟩ := s
  obtain ⟨h1, h2, h3, h4, h5, h6, h7, h8⟩ := hs
  dsimp only at h1 h2 h3 h4 h5 h6 h7 h8
  cases x with
  | false =>
    refine (ptick_idle hwt hB).mono ?_
    rintro e w' ⟨rfl, rfl⟩
    exact ⟨_, rfl, PkO.nil _ _, hB, Fr.refl _ _⟩
  | true =>
    by_cases ht : t + 1 < wt
    · refine (ptick_wait hwt h3 h4 ht hB).mono ?_
      rintro e w' ⟨rfl, hC, hF⟩
      simp only [PS.says, PS.tick, ht]
      exact ⟨_, rfl, PkO.nil _ _, hC, hF⟩
    · by_cases ha : r ≤ a
      · refine (ptick_end hwt h3 h4 ht ha hB).mono ?_
        rintro e w' ⟨rfl, hC, hF⟩
        simp only [PS.says, PS.tick, ht, ha]
        exact ⟨_, rfl, PkO.nil _ _, hC, hF⟩
      · refine (ptick_say h1 h2 hwt h3 h4 h5 h6 ht ha hB).mono ?_
        rintro e w' ⟨g', rfl, hg, hP, hC, hF⟩
        simp only [PS.says, PS.tick, ht, ha]
        exact ⟨_, rfl, PkO.one hP hg, hC, hF⟩
theorem uTake (hs : s.ok r wt) (hw : 1 ≤ wt) (c i : Int) (A : Option Addr) (n cap : Nat) (D : List UInt8) (hB : Blk w g (pclS d r wt s) 202) :
    Calls Tryz.prog 17 #[.pointer (some ⟨g, 0, none⟩), .agg #[.int .i64 c, .int .i64 i, .slice A n cap, .string (B D)]] w fun e w' => e = .returned (.tuple #[]) ∧ Blk w' g (pclS d r wt (s.take c i)) 202 ∧ Fr [g] w w' := by
  have hwt : (wt == 0) = false := by rw [beq_eq_false_iff_ne]; omega
  obtain ⟨id, t, a, x, y, z⟩ := s
  obtain ⟨h1, h2, h3, h4, h5, h6, h7, h8⟩ := hs
  dsimp only at h1 h2 h3 h4 h5 h6 h7 h8
  have stay : (PS.take ⟨id, t, a, x, y, z⟩ c i = ⟨id, t, a, x, y, z⟩) → ∀ (e : Ending) (w' : World), e = .returned (.tuple #[]) ∧ Fr [] w w' → e = .returned (.tuple #[]) ∧ Blk w' g (pclS d r wt (PS.take ⟨id, t, a, x, y, z⟩ c i)) 202 ∧ Fr [g] w w' := fun hE e w' h => by
    rw [hE]
    exact ⟨h.1, h.2.blk hB (by simp), h.2.mono (by simp)⟩
  cases x with
  | false => exact (ptake_idle c i A n cap D hwt hB).mono (stay (by simp [PS.take]))
  | true =>
    by_cases hi : i = id
    · subst hi
      by_cases hc2 : c = 2
      · subst hc2
        refine (ptake_ack i A n cap D hwt (by simp) h1 h2 hB).mono ?_
        rintro e w' ⟨rfl, hC, hF⟩
        refine ⟨rfl, ?_, hF⟩
        have e1 : PS.take ⟨i, t, a, true, y, z⟩ 2 i = ⟨i, t, a, false, true, true⟩ := by simp [PS.take]
        rw [e1]; exact hC
      · by_cases hc3 : c = 3
        · subst hc3
          refine (ptake_nak i A n cap D hwt (by simp) h1 h2 hB).mono ?_
          rintro e w' ⟨rfl, hC, hF⟩
          refine ⟨rfl, ?_, hF⟩
          have e1 : PS.take ⟨i, t, a, true, y, z⟩ 3 i = ⟨i, t, a, false, true, false⟩ := by simp [PS.take]
          rw [e1]; exact hC
        · exact (ptake_code c i A n cap D hwt (by simp) (by simpa using hc2) (by simpa using hc3) h1 h2 hB).mono (stay (by simp [PS.take, hc2, hc3]))
    · exact (ptake_id c i A n cap D hwt (by simpa using hi) h1 h2 hB).mono (stay (by simp [PS.take, hi]))

/-- the document's client -/
def dcl (n s : List UInt8) (r wt id t a : Int) (x y z : Bool) : Array Value := #[.string (B n), .string (B s), .int .i64 r, .int .i64 wt, .int .i64 id, .int .i64 t, .int .i64 a, .bool x, .bool y, .bool z]
abbrev dclS (n s0 : List UInt8) (r wt : Int) (s : PS) : Array Value := dcl n s0 r wt s.id s.t s.a s.x s.y s.z
variable {n s1 : List UInt8} {id t a : Int} {x y z : Bool}
theorem dcl_c {T : Nat} (hB : Blk w g (dcl n s1 r wt id t a x y z) T) : w.cell? ⟨g, 0, none⟩ = some (.string (B n)) ∧ w.cell? ⟨g, 1, none⟩ = some (.string (B s1)) ∧ w.cell? ⟨g, 2, none⟩ = some (.int .i64 r) ∧ w.cell? ⟨g, 3, none⟩ = some (.int .i64 wt) ∧ w.cell? ⟨g, 4, none⟩ = some (.int .i64 id) ∧ w.cell? ⟨g, 5, none⟩ = some (.int .i64 t) ∧ w.cell? ⟨g, 6, none⟩ = some (.int .i64 a) ∧ w.cell? ⟨g, 7, none⟩ = some (.bool x) ∧ w.cell? ⟨g, 8, none⟩ = some (.bool y) ∧ w.cell? ⟨g, 9, none⟩ = some (.bool z) :=
  ⟨hB.c 0 _ rfl, hB.c 1 _ rfl, hB.c 2 _ rfl, hB.c 3 _ rfl, hB.c 4 _ rfl, hB.c 5 _ rfl, hB.c 6 _ rfl, hB.c 7 _ rfl, hB.c 8 _ rfl, hB.c 9 _ rfl⟩
def DSayPost (w : World) (g : Nat) (n s1 : List UInt8) (r wt id a : Int) (x y z : Bool) (e : Ending) (w' : World) : Prop :=
  ∃ g', e = .returned (.slice (some ⟨g', 0, none⟩) 1 1) ∧ w.heap.size ≤ g' ∧ Blk w' g' (pkt 1 ((id + 1) % 256) (.slice none 0 0) (reqL n s1)) 56 ∧ Blk w' g (dcl n s1 r wt ((id + 1) % 256) 0 a x y z) 68 ∧ Fr [g] w w'
theorem dask_any (hn : n.length ≤ 60) (hs1 : s1.length ≤ 60) (i0 : 0 ≤ id) (i1 : id < 256) (hB : Blk w g (dcl n s1 r wt id t a x y z) 68) :
    Calls Tryz.prog 104 #[.pointer (some ⟨g, 0, none⟩)] w (DSayPost w g n s1 r wt id a x y z) := by
  obtain ⟨c0, c1, c2, c3, c4, c5, c6, c7, c8, c9⟩ := dcl_c hB
  have f4 := hB.fz 4
  have f5 := hB.fz 5
  have hB2 := (hB.set 4 (.int .i64 ((id + 1) % 256))).set 5 (.int .i64 0)
  have hF := (((Fr.refl [g] w).setCell (p := ⟨g, 4, none⟩) (by simp) (.int .i64 ((id + 1) % 256))).setCell (p := ⟨g, 5, none⟩) (by simp) (.int .i64 0))
  have e2 : (((dcl n s1 r wt id t a x y z).setIfInBounds 4 (.int .i64 ((id + 1) % 256))).setIfInBounds 5 (.int .i64 0)) = dcl n s1 r wt ((id + 1) % 256) 0 a x y z := by simp [dcl]
  rw [e2] at hB2
  have em : (id + 1).tmod 256 = (id + 1) % 256 := Int.tmod_eq_emod_of_nonneg (by omega)
  have P := Lib.hid fun W => rputReq_any n s1 W (by omega) (by omega)
  have hz : ((w.setCell ⟨g, 4, none⟩ (.int .i64 ((id + 1) % 256))).setCell ⟨g, 5, none⟩ (.int .i64 0)).heap.size = w.heap.size := by simp
  obtain ⟨W, hW⟩ : ∃ W, (w.setCell ⟨g, 4, none⟩ (.int .i64 ((id + 1) % 256))).setCell ⟨g, 5, none⟩ (.int .i64 0) = W := ⟨_, rfl⟩
  rw [hW] at hB2 hF hz
  have HW := Lib.hid hW
  have HZ := Lib.hid hz
  clear e2 hB hW hz
  go_enter Tryz.func104, Tryz.ntmps104
  go_wp2_with fail
  rw [HW.out]
  clear c0 c1 c2 c3 c4 c5 c6 c7 c8 c9 f4 f5 em
  have hG : W.drew.cell? ⟨g, 0, none⟩ = some (.string (B n)) ∧ W.drew.cell? ⟨g, 1, none⟩ = some (.string (B s1)) ∧ Blk W.drew g (dcl n s1 r wt ((id + 1) % 256) 0 a x y z) 68 ∧ Fr [g] w W.drew := ⟨hB2.drew.c 0 _ rfl, hB2.drew.c 1 _ rfl, hB2.drew, hF.drew⟩
  go_region_held3 (fun w' => w'.cell? ⟨g, 0, none⟩ = some (.string (B n)) ∧ w'.cell? ⟨g, 1, none⟩ = some (.string (B s1)) ∧ Blk w' g (dcl n s1 r wt ((id + 1) % 256) 0 a x y z) 68 ∧ Fr [g] w w')
    (first | exact hG | assumption | exact hK3)
    (first | (go_at_call 246; refine (P.out _).mono ?_; rintro e w3 ⟨rfl, hF3⟩; have hB3 := hF3.blk hG.2.2.1 (by simp); have hF4 := hG.2.2.2.trans (hF3.mono (S' := [g]) (by simp)); have hK3 := And.intro (hB3.c 0 _ rfl) (And.intro (hB3.c 1 _ rfl) (And.intro hB3 hF4))))
  all_goals
    have hS : w3.cell? ⟨g, 0, none⟩ = some (.string (B n)) ∧ w3.cell? ⟨g, 1, none⟩ = some (.string (B s1)) ∧ Blk w3 g (dcl n s1 r wt ((id + 1) % 256) 0 a x y z) 68 ∧ Fr [g] w w3 := by assumption
    obtain ⟨_, _, hB4, hF4⟩ := hS
    clear hG hB2 hF
    have c4 : w3.cell? ⟨g, 4, none⟩ = some (.int .i64 ((id + 1) % 256)) := hB4.c 4 _ rfl
    have hl4 := hF4.size
    go_wp2
    go_ret
    exact ⟨w3.heap.size, rfl, hl4, Blk.new w3 (pkt 1 ((id + 1) % 256) (.slice none 0 0) (reqL n s1)) 56, hB4.alloc _, hF4.alloc _⟩
theorem DSayPost.u {e : Ending} {w' : World} (h : DSayPost w g n s1 r wt id a x y z e w') : ∃ v, e = .returned v ∧ PkO w.heap.size w' v [(1, (id + 1) % 256, reqL n s1)] ∧ Blk w' g (dcl n s1 r wt ((id + 1) % 256) 0 a x y z) 68 ∧ Fr [g] w w' := by
  obtain ⟨g', rfl, hg, hP, hC, hF⟩ := h
  exact ⟨_, rfl, PkO.one hP hg, hC, hF⟩
theorem dStart (hn : n.length ≤ 60) (hs1 : s1.length ≤ 60) (hs : s.ok r wt) (hB : Blk w g (dclS n s1 r wt s) 68) :
    Calls Tryz.prog 14 #[.pointer (some ⟨g, 0, none⟩)] w fun e w' => ∃ v, e = .returned v ∧ PkO w.heap.size w' v [(1, s.start.id, reqL n s1)] ∧ Blk w' g (dclS n s1 r wt s.start) 68 ∧ Fr [g] w w' := by
  obtain ⟨id, t, a, x, y, z⟩ := s
  obtain ⟨h1, h2, h3, h4, h5, h6, h7, h8⟩ := hs
  dsimp only at h1 h2 h3 h4 h5 h6 h7 h8
  obtain ⟨c0, c1, c2, c3, c4, c5, c6, c7, c8, c9⟩ := dcl_c hB
  have f6 := hB.fz 6
  have f7 := hB.fz 7
  have f8 := hB.fz 8
  have f9 := hB.fz 9
  have hB2 := ((((hB.set 7 (.bool true)).set 8 (.bool false)).set 9 (.bool false)).set 6 (.int .i64 0))
  have hF := ((((Fr.refl [g] w).setCell (p := ⟨g, 7, none⟩) (by simp) (.bool true)).setCell (p := ⟨g, 8, none⟩) (by simp) (.bool false)).setCell (p := ⟨g, 9, none⟩) (by simp) (.bool false)).setCell (p := ⟨g, 6, none⟩) (by simp) (.int .i64 0)
  have e2 : (((((dcl n s1 r wt id t a x y z).setIfInBounds 7 (.bool true)).setIfInBounds 8 (.bool false)).setIfInBounds 9 (.bool false)).setIfInBounds 6 (.int .i64 0)) = dcl n s1 r wt id t 0 true false false := by simp [dcl]
  rw [e2] at hB2
  have hS := dask_any hn hs1 h1 h2 hB2
  have hz : ((((w.setCell ⟨g, 7, none⟩ (.bool true)).setCell ⟨g, 8, none⟩ (.bool false)).setCell ⟨g, 9, none⟩ (.bool false)).setCell ⟨g, 6, none⟩ (.int .i64 0)).heap.size = w.heap.size := by simp
  have HS := Lib.hid hS
  have HF := Lib.hid hF
  have HZ := Lib.hid hz
  clear e2 hB2 hS hF hz
  go_enter Tryz.func14, Tryz.ntmps14
  go_wp2_with fail
  refine HS.out.mono ?_
  rintro e w1 hp
  obtain ⟨v, rfl, hP, hC, hF1⟩ := hp.u
  rw [HZ.out] at hP
  have HEND := Lib.hid (And.intro hP (And.intro hC (HF.out.trans hF1)))
  clear c0 c1 c2 c3 c4 c5 c6 c7 c8 c9 f6 f7 f8 f9 hp hP hC hF1 hB
  go_wp2
  go_ret
  exact ⟨_, rfl, HEND.out⟩
theorem dTick (hn : n.length ≤ 60) (hs1 : s1.length ≤ 60) (hs : s.ok r wt) (hB : Blk w g (dclS n s1 r wt s) 68) :
    Calls Tryz.prog 16 #[.pointer (some ⟨g, 0, none⟩)] w fun e w' => ∃ v, e = .returned v ∧ PkO w.heap.size w' v (outL (s.says r wt) (s.tick r wt).id (reqL n s1)) ∧ Blk w' g (dclS n s1 r wt (s.tick r wt)) 68 ∧ Fr [g] w w' := by
  obtain ⟨id, t, a, x, y, z⟩ := s
  obtain ⟨h1, h2, h3, h4, h5, h6, h7, h8⟩ := hs
  dsimp only at h1 h2 h3 h4 h5 h6 h7 h8
  obtain ⟨c0, c1, c2, c3, c4, c5, c6, c7, c8, c9⟩ := dcl_c hB
  cases x with
  | false =>
    have HEND := Lib.hid hB
    clear hB h7
    go_enter Tryz.func16, Tryz.ntmps16
    go_wp2
    go_ret
    exact ⟨_, rfl, PkO.nil _ _, HEND.out, Fr.refl _ _⟩
  | true =>
    have f5 := hB.fz 5
    have hB2 := hB.set 5 (.int .i64 (t + 1))
    have e1 : (dcl n s1 r wt id t a true y z).setIfInBounds 5 (.int .i64 (t + 1)) = dcl n s1 r wt id (t + 1) a true y z := by simp [dcl]
    dsimp only [dclS] at hB2
    rw [e1] at hB2
    have hF1 : Fr [g] w (w.setCell ⟨g, 5, none⟩ (.int .i64 (t + 1))) := (Fr.refl [g] w).setCell (p := ⟨g, 5, none⟩) (by simp) (.int .i64 (t + 1))
    by_cases ht : t + 1 < wt
    · have HB2 := Lib.hid hB2
      have HF1 := Lib.hid hF1
      have hE : PS.says r wt ⟨id, t, a, true, y, z⟩ = false ∧ PS.tick r wt ⟨id, t, a, true, y, z⟩ = ⟨id, t + 1, a, true, y, z⟩ := by simp [PS.says, PS.tick, ht]
      rw [hE.1, hE.2]
      clear hB hB2 hF1 h7 e1 hE
      go_enter Tryz.func16, Tryz.ntmps16
      go_wp2
      go_quiet (fail)
      go_wp2
      go_ret
      exact ⟨_, rfl, PkO.nil _ _, HB2.out.drewN _, HF1.out.drewN _⟩
    · by_cases ha : r ≤ a
      · obtain rfl : z = false := h8 rfl
        have hE : PS.says r wt ⟨id, t, a, true, y, false⟩ = false ∧ PS.tick r wt ⟨id, t, a, true, y, false⟩ = ⟨id, t + 1, a, false, true, false⟩ := by simp [PS.says, PS.tick, ht, ha]
        have hB3 := (hB2.set 7 (.bool false)).set 8 (.bool true)
        have e3 : ((dcl n s1 r wt id (t + 1) a true y false).setIfInBounds 7 (.bool false)).setIfInBounds 8 (.bool true) = dcl n s1 r wt id (t + 1) a false true false := by simp [dcl]
        rw [e3] at hB3
        have hF3 := ((hF1.setCell (p := ⟨g, 7, none⟩) (by simp) (.bool false)).setCell (p := ⟨g, 8, none⟩) (by simp) (.bool true))
        have f7 := hB.fz 7
        have f8 := hB.fz 8
        have HY : Hid (∀ N, Blk ((((w.setCell ⟨g, 5, none⟩ (.int .i64 (t + 1))).drewN N).setCell ⟨g, 7, none⟩ (.bool false)).setCell ⟨g, 8, none⟩ (.bool true)) g (dcl n s1 r wt id (t + 1) a false true false) 68) := Lib.hid fun N => by
          have := ((hB2.drewN N).set 7 (.bool false)).set 8 (.bool true)
          simpa [dcl] using this
        have HF1 := Lib.hid hF1
        rw [hE.1, hE.2]
        clear hB hB2 hB3 hF1 hF3 h7 h8 e1 e3 hE
        go_enter Tryz.func16, Tryz.ntmps16
        go_wp2
        go_quiet (fail)
        go_wp2
        go_quiet (fail)
        go_wp2
        go_ret
        refine ⟨_, rfl, PkO.nil _ _, ?_, ?_⟩
        · exact HY.out _
        · exact ((HF1.out.drewN _).setCell (by simp) _).setCell (by simp) _
      · have hE : PS.says r wt ⟨id, t, a, true, y, z⟩ = true ∧ PS.tick r wt ⟨id, t, a, true, y, z⟩ = ⟨(id + 1) % 256, 0, a + 1, true, y, z⟩ := by simp [PS.says, PS.tick, ht, ha]
        have f6 := hB.fz 6
        have HB2 : Hid (∀ N, Blk (((w.setCell ⟨g, 5, none⟩ (.int .i64 (t + 1))).drewN N).setCell ⟨g, 6, none⟩ (.int .i64 (a + 1))) g (dcl n s1 r wt id (t + 1) (a + 1) true y z) 68) := Lib.hid fun N => by
          have := (hB2.drewN N).set 6 (.int .i64 (a + 1))
          simpa [dcl] using this
        have HF1 := Lib.hid hF1
        have HA : Hid (∀ W, Blk W g (dcl n s1 r wt id (t + 1) (a + 1) true y z) 68 → Calls Tryz.prog 104 #[.pointer (some ⟨g, 0, none⟩)] W (DSayPost W g n s1 r wt id (a + 1) true y z)) := Lib.hid fun W hW => dask_any hn hs1 h1 h2 hW
        rw [hE.1, hE.2]
        clear hB hB2 hF1 h7 h8 e1 hE
        go_enter Tryz.func16, Tryz.ntmps16
        go_wp2
        go_quiet (fail)
        go_wp2
        go_quiet (fail)
        go_wp2_with fail
        refine (HA.out _ ?_).mono ?_
        · exact HB2.out _
        rintro e w1 hp
        obtain ⟨v, rfl, hP, hC, hF2⟩ := hp.u
        have hF := ((HF1.out.drewN _).setCell (p := ⟨g, 6, none⟩) (by simp) _).trans hF2
        have hz : w.heap.size = ((w.setCell ⟨g, 5, none⟩ (.int .i64 (t + 1))).heap.size) := by simp
        have HEND := Lib.hid (And.intro hP (And.intro hC hF))
        clear c0 c1 c2 c3 c4 c5 c6 c7 c8 c9 f5 f6 hp hP hC hF2 hF
        go_wp2
        go_ret
        refine ⟨_, rfl, ?_, HEND.out.2⟩
        have := HEND.out.1
        simpa [outL] using this
theorem dTake (hs : s.ok r wt) (c i : Int) (A : Option Addr) (m cap : Nat) (D : List UInt8) (hB : Blk w g (dclS n s1 r wt s) 68) :
    Calls Tryz.prog 18 #[.pointer (some ⟨g, 0, none⟩), .agg #[.int .i64 c, .int .i64 i, .slice A m cap, .string (B D)]] w fun e w' => e = .returned (.tuple #[]) ∧ Blk w' g (dclS n s1 r wt (s.take c i)) 68 ∧ Fr [g] w w' := by
  obtain ⟨id, t, a, x, y, z⟩ := s
  obtain ⟨W, hW⟩ : ∃ W, w.alloc (.cells #[.int .i64 c, .int .i64 i, .slice A m cap, .string (B D)] 56) = W := ⟨_, rfl⟩
  have hP : Blk W w.heap.size #[.int .i64 c, .int .i64 i, .slice A m cap, .string (B D)] 56 := by rw [← hW]; exact Blk.new _ _ _
  have hBW : Blk W g (dcl n s1 r wt id t a x y z) 68 := by rw [← hW]; exact hB.alloc _
  have hF : Fr [] w W := by rw [← hW]; exact (Fr.refl _ _).alloc _
  obtain ⟨c0, c1, c2, c3, c4, c5, c6, c7, c8, c9⟩ := dcl_c hBW
  have p0 : W.cell? ⟨w.heap.size, 0, none⟩ = some (.int .i64 c) := hP.c 0 _ rfl
  have p1 : W.cell? ⟨w.heap.size, 1, none⟩ = some (.int .i64 i) := hP.c 1 _ rfl
  have f7 := hBW.fz 7
  have f8 := hBW.fz 8
  have f9 := hBW.fz 9
  have HBW := Lib.hid hBW
  have HF := Lib.hid hF
  have HW := Lib.hid hW
  have yes : ∀ q : Bool, ∀ N, Blk ((((W.drewN N).setCell ⟨g, 7, none⟩ (.bool false)).setCell ⟨g, 8, none⟩ (.bool true)).setCell ⟨g, 9, none⟩ (.bool q)) g (dcl n s1 r wt id t a false true q) 68 ∧ Fr [g] w ((((W.drewN N).setCell ⟨g, 7, none⟩ (.bool false)).setCell ⟨g, 8, none⟩ (.bool true)).setCell ⟨g, 9, none⟩ (.bool q)) := fun q N => by
    refine ⟨?_, ?_⟩
    · have := (((hBW.drewN N).set 7 (.bool false)).set 8 (.bool true)).set 9 (.bool q)
      simpa [dcl] using this
    · exact ((((hF.mono (S' := [g]) (by simp)).drewN N).setCell (by simp) _).setCell (by simp) _).setCell (by simp) _
  have HY := Lib.hid yes
  have stay : (PS.take ⟨id, t, a, x, y, z⟩ c i = ⟨id, t, a, x, y, z⟩) → Hid (∀ N, Blk (W.drewN N) g (dclS n s1 r wt (PS.take ⟨id, t, a, x, y, z⟩ c i)) 68 ∧ Fr [g] w (W.drewN N)) := fun hE => Lib.hid fun N => by
    rw [hE]
    exact ⟨hBW.drewN N, (hF.mono (S' := [g]) (by simp)).drewN N⟩
  clear yes hB hBW hF hP hW hs
  cases x with
  | false =>
    have HS := stay (by simp [PS.take])
    clear stay
    go_enter Tryz.func18, Tryz.ntmps18
    go_wp2_with fail
    rw [HW.out]
    go_quiet (fail)
    go_wp2
    exact bodyPost_end (results_none rfl _ _ _) rfl ⟨rfl, HS.out _⟩
  | true =>
    by_cases hi : i = id
    · subst hi
      by_cases hc2 : c = 2
      · subst hc2
        have e1 : PS.take ⟨i, t, a, true, y, z⟩ 2 i = ⟨i, t, a, false, true, true⟩ := by simp [PS.take]
        rw [e1]
        clear stay e1
        go_enter Tryz.func18, Tryz.ntmps18
        go_wp2_with fail
        rw [HW.out]
        go_quiet (fail)
        go_wp2
        go_region
        all_goals go_wp2
        all_goals exact bodyPost_end (results_none rfl _ _ _) rfl ⟨rfl, HY.out _ _⟩
      · by_cases hc3 : c = 3
        · subst hc3
          have e1 : PS.take ⟨i, t, a, true, y, z⟩ 3 i = ⟨i, t, a, false, true, false⟩ := by simp [PS.take]
          rw [e1]
          clear stay e1
          go_enter Tryz.func18, Tryz.ntmps18
          go_wp2_with fail
          rw [HW.out]
          go_quiet (fail)
          go_wp2
          go_region
          all_goals go_wp2
          all_goals exact bodyPost_end (results_none rfl _ _ _) rfl ⟨rfl, HY.out _ _⟩
        · have HS := stay (by simp [PS.take, hc2, hc3])
          have k2 : (c == 2) = false := by simpa using hc2
          have k3 : (c == 3) = false := by simpa using hc3
          clear stay
          go_enter Tryz.func18, Tryz.ntmps18
          go_wp2_with fail
          rw [HW.out]
          go_quiet (fail)
          go_wp2
          exact bodyPost_end (results_none rfl _ _ _) rfl ⟨rfl, HS.out _⟩
    · have HS := stay (by simp [PS.take, hi])
      have ki : (i == id) = false := by simpa using hi
      clear stay
      go_enter Tryz.func18, Tryz.ntmps18
      go_wp2_with fail
      rw [HW.out]
      go_quiet (fail)
      go_wp2
      exact bodyPost_end (results_none rfl _ _ _) rfl ⟨rfl, HS.out _⟩
theorem dNew_ok (n s1 : List UInt8) (hn : n.length ≤ 60) (hs : s1.length ≤ 60) (r0 : 0 ≤ r) (r1 : r ≤ 10) (w0 : 1 ≤ wt) (w1 : wt ≤ 100) :
    Calls Tryz.prog 12 #[.string (B n), .string (B s1), .int .i64 r, .int .i64 wt] w fun e w' => ∃ g, e = .returned (.tuple #[.pointer (some ⟨g, 0, none⟩), .int .i64 0]) ∧ w.heap.size ≤ g ∧ Blk w' g (dcl n s1 r wt 0 0 0 false false false) 68 ∧ Fr [] w w' := by
  have hn1 : ¬ (60 : Int) < n.length := by omega
  have hs1 : ¬ (60 : Int) < s1.length := by omega
  clear hn hs
  go_enter Tryz.func12, Tryz.ntmps12
  go_wp2
  go_ret2
  exact ⟨w.heap.size, rfl, Nat.le_refl _, Blk.new _ _ _, (Fr.refl _ _).alloc _⟩
theorem dNew_bad (n s1 : List UInt8) (hn : n.length ≤ 140737488355328) (hs : s1.length ≤ 140737488355328) (h : newE n s1 r wt ≠ 0) :
    Calls Tryz.prog 12 #[.string (B n), .string (B s1), .int .i64 r, .int .i64 wt] w fun e w' => e = .returned (.tuple #[.pointer none, .int .i64 (newE n s1 r wt)]) ∧ Fr [] w w' := by
  by_cases h1 : n.length ≤ 60 ∧ s1.length ≤ 60
  · have hN : newE n s1 r wt = 1 := by unfold newE at h ⊢; rw [if_pos h1] at h ⊢; split <;> simp_all
    have hX : r < 0 ∨ ¬ r < 0 ∧ 10 < r ∨ ¬ r < 0 ∧ ¬ 10 < r ∧ wt < 1 ∨ ¬ r < 0 ∧ ¬ 10 < r ∧ ¬ wt < 1 ∧ 100 < wt := by
      unfold newE at h; rw [if_pos h1] at h
      by_cases h2 : 0 ≤ r ∧ r ≤ 10 ∧ 1 ≤ wt ∧ wt ≤ 100
      · rw [if_pos h2] at h; exact absurd rfl h
      · omega
    rw [hN]
    have hn1 : ¬ (60 : Int) < n.length := by omega
    have hs1 : ¬ (60 : Int) < s1.length := by omega
    clear h1 hN h
    rcases hX with hX | ⟨h1, hX⟩ | ⟨h1, h2, hX⟩ | ⟨h1, h2, h3, hX⟩
    all_goals
      go_enter Tryz.func12, Tryz.ntmps12
      go_wp2
      go_ret2
      exact ⟨rfl, Fr.refl _ _⟩
  · have hN : newE n s1 r wt = 2 := by unfold newE; rw [if_neg h1]
    rw [hN]
    clear hN h
    by_cases hn1 : n.length ≤ 60
    · have hn2 : ¬ (60 : Int) < n.length := by omega
      have hs2 : (60 : Int) < s1.length := by omega
      clear h1 hn1
      go_enter Tryz.func12, Tryz.ntmps12
      go_wp2
      go_ret2
      exact ⟨rfl, Fr.refl _ _⟩
    · have hn2 : (60 : Int) < n.length := by omega
      clear h1 hn1
      go_enter Tryz.func12, Tryz.ntmps12
      go_wp2
      go_ret2
      exact ⟨rfl, Fr.refl _ _⟩
/-- what a server reads of a packet -/
def srvN (c : Int) (m : Nat) (D : List UInt8) : List UInt8 := if c = 1 ∧ m = 0 then greqN D else []
def srvS (c : Int) (m : Nat) (D : List UInt8) : List UInt8 := if c = 1 ∧ m = 0 then greqS D else []
def srvB (c : Int) (m : Nat) (D : List UInt8) : Bool := if c = 1 ∧ m = 0 then getE 2 D == 0 else false
theorem uServe (c i : Int) (A : Option Addr) (m cap : Nat) (D : List UInt8) (hD : D.length ≤ 140737488351232) :
    Calls Tryz.prog 21 #[.agg #[.int .i64 c, .int .i64 i, .slice A m cap, .string (B D)]] w fun e w' => e = .returned (.tuple #[.string (B (srvN c m D)), .string (B (srvS c m D)), .bool (srvB c m D)]) ∧ Fr [] w w' := by
  unfold srvN srvS srvB
  by_cases h1 : c = 1
  · by_cases h2 : m = 0
    · subst h1 h2
      simpa using serve_yes (w := w) i A cap D hD
    · rw [if_neg (fun h => h2 h.2), if_neg (fun h => h2 h.2), if_neg (fun h => h2 h.2)]
      exact serve_no c i A m cap D (Or.inr ⟨by simpa using h1, by omega⟩)
  · rw [if_neg (fun h => h1 h.1), if_neg (fun h => h1 h.1), if_neg (fun h => h1 h.1)]
    exact serve_no c i A m cap D (Or.inl (by simpa using h1))
theorem dServe (c i : Int) (A : Option Addr) (m cap : Nat) (D : List UInt8) (hD : D.length ≤ 140737488351232) :
    Calls Tryz.prog 22 #[.agg #[.int .i64 c, .int .i64 i, .slice A m cap, .string (B D)]] w fun e w' => e = .returned (.tuple #[.string (B (srvN c m D)), .string (B (srvS c m D)), .bool (srvB c m D)]) ∧ Fr [] w w' := by
  unfold srvN srvS srvB
  by_cases h1 : c = 1
  · by_cases h2 : m = 0
    · subst h1 h2
      simp only [and_self, if_true]
      have HG := Lib.hid fun W => rgetReq_any D W hD
      go_enter Tryz.func22, Tryz.ntmps22
      go_wp2_with fail
      refine (HG.out _).mono ?_
      rintro e w1 ⟨rfl, hF⟩
      go_wp2
      go_ret3
      exact ⟨rfl, ((Fr.refl _ _).alloc _).trans hF⟩
    · rw [if_neg (fun h => h2 h.2), if_neg (fun h => h2 h.2), if_neg (fun h => h2 h.2)]
      subst h1
      have hm : (0 : Int) < m := by omega
      go_enter Tryz.func22, Tryz.ntmps22
      go_wp2
      go_ret3
      exact ⟨rfl, (Fr.refl _ _).alloc _⟩
  · rw [if_neg (fun h => h1 h.1), if_neg (fun h => h1 h.1), if_neg (fun h => h1 h.1)]
    have k1 : (c != 1) = true := by simpa using h1
    go_enter Tryz.func22, Tryz.ntmps22
    go_wp2
    go_ret3
    exact ⟨rfl, (Fr.refl _ _).alloc _⟩
theorem dAnswer (c i : Int) (A : Option Addr) (m cap : Nat) (D : List UInt8) (b : Bool) :
    Calls Tryz.prog 25 #[.agg #[.int .i64 c, .int .i64 i, .slice A m cap, .string (B D)], .bool b] w fun e w' => e = .returned (.agg (pkt (if b then 2 else 3) i (.slice none 0 0) (if b then [2, 111, 107] else [2, 110, 111]))) ∧ Fr [] w w' := by
  have k2 := Blk.new (w.alloc (.cells #[.int .i64 c, .int .i64 i, .slice A m cap, .string (B D)] 56)) #[.int .i64 0, .int .i64 0, .slice none 0 0, .string ⟨#[]⟩] 56
  have e1 : (w.alloc (.cells #[.int .i64 c, .int .i64 i, .slice A m cap, .string (B D)] 56)).heap.size = w.heap.size + 1 := by simp
  have hF0 : Fr [] w ((w.alloc (.cells #[.int .i64 c, .int .i64 i, .slice A m cap, .string (B D)] 56)).alloc (.cells #[.int .i64 0, .int .i64 0, .slice none 0 0, .string ⟨#[]⟩] 56)) := ((Fr.refl _ _).alloc _).alloc _
  rw [e1] at k2
  have K2 := Lib.hid k2
  have HF0 := Lib.hid hF0
  clear k2 e1 hF0
  cases b with
  | false =>
    go_enter Tryz.func25, Tryz.ntmps25
    go_wp2_with (refine wpList_store_blk rfl 56 (.tmp 4) (.tmp 11) rfl (w.heap.size + 1) 56 _ (pkt 3 i (.slice none 0 0) [2, 110, 111]) K2.out rfl rfl rfl (by kernel_rfl) (pkt_one _ _ _ _ _ _) ?_; intro w2 hw2 hB2)
    refine ret_cell1 4 56 rfl (w.heap.size + 1) 56 _ _ hB2 rfl Tryz.underlying56 rfl (by kernel_rfl) rfl ⟨rfl, ?_⟩
    rw [hw2.out]
    exact HF0.out.setCells _ _ _ (Or.inl (by omega))
  | true =>
    go_enter Tryz.func25, Tryz.ntmps25
    go_wp2_with (refine wpList_store_blk rfl 56 (.tmp 4) (.tmp 8) rfl (w.heap.size + 1) 56 _ (pkt 2 i (.slice none 0 0) [2, 111, 107]) K2.out rfl rfl rfl (by kernel_rfl) (pkt_one _ _ _ _ _ _) ?_; intro w2 hw2 hB2)
    refine ret_cell1 4 56 rfl (w.heap.size + 1) 56 _ _ hB2 rfl Tryz.underlying56 rfl (by kernel_rfl) rfl ⟨rfl, ?_⟩
    rw [hw2.out]
    exact HF0.out.setCells _ _ _ (Or.inl (by omega))
end
end Go.Proofs.YtfchbppfbepelaaGreat
