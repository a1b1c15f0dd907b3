/- ChapBytes, ChapNone, walked. -/
import Derived.Test.YtgkibgglalginaaAlive14
namespace Go.Proofs.Ytgkibgglalginaa
open Go.RowKit
set_option linter.unusedVariables false

set_option maxRecDepth 100000 in
set_option maxHeartbeats 2000000 in
theorem chapBytes_walk (w : World) (v : ByteArray) (hv : v.size ≤ 140737488351232) (n : ByteArray) (hn : n.size ≤ 140737488351232) (b : ByteArray) (hb : b.size ≤ 140737488351232) :
    Calls Try.prog 3 #[.string v, .string n, .string b] w fun e w' => e = .returned (.bool true) ∧ Below w.heap.size w w' := by
  obtain ⟨v, rfl⟩ : ∃ l, v = B l := ⟨_, B_of v⟩
  obtain ⟨n, rfl⟩ : ∃ l, n = B l := ⟨_, B_of n⟩
  obtain ⟨b, rfl⟩ : ∃ l, b = B l := ⟨_, B_of b⟩
  rw [B_size] at hv hn hb
  by_cases h : 3000 < v.length + n.length + b.length
  · have h1 : (3000 : Int) < (v.length : Int) + n.length + b.length := by omega
    go_enter Try.func3, Try.ntmps3
    go_wp2_with fail
    refine (alive14 _).mono ?_
    rintro e w1 ⟨rfl, hF⟩
    go_wp2
    go_ret
    exact ⟨rfl, hF.below (Nat.le_refl _) (by simp)⟩
  · have h1 : ¬ (3000 : Int) < (v.length : Int) + n.length + b.length := by omega
    have A1 := Lib.hid fun W => putValue_any v n W (by omega) (by omega)
    have A2 := Lib.hid fun W => rputValue_any v n W (by omega) (by omega)
    have A3 := Lib.hid fun W => getValue_any b W (by omega)
    have A4 := Lib.hid fun W => rgetValue_any b W (by omega)
    obtain ⟨x3, q3⟩ : ∃ x, gvV b = x := ⟨_, rfl⟩
    obtain ⟨x4, q4⟩ : ∃ x, gvN b = x := ⟨_, rfl⟩
    obtain ⟨x5, q5⟩ : ∃ x, gvE b = x := ⟨_, rfl⟩
    rw [q3, q4, q5] at A3 A4
    by_cases hE : pvE v n = 0
    · obtain ⟨g1, g2, g3⟩ := gv_back v n hE
      have A5 := Lib.hid fun W => getValue_ok (pvL v n) W g1
      rw [g2, g3] at A5
      rw [hE] at A1 A2
      obtain ⟨x1, q1⟩ : ∃ x, pvL v n = x := ⟨_, rfl⟩
      rw [q1] at A1 A2 A5
      clear q1 q3 q4 q5 h hE g1 g2 g3
      go_enter Try.func3, Try.ntmps3
      go_wp2_with fail
      refine (A1.out _).mono ?_
      rintro e w1 ⟨rfl, hF1⟩
      go_wp2_with fail
      refine (A2.out _).mono ?_
      rintro e w2 ⟨rfl, hF2⟩
      go_wp2_with fail
      refine (A3.out _).mono ?_
      rintro e w3 ⟨rfl, hF3⟩
      go_wp2_with fail
      refine (A4.out _).mono ?_
      rintro e w4 ⟨rfl, hF4⟩
      go_wp2_with fail
      refine (A5.out _).mono ?_
      rintro e w5 ⟨rfl, hF5⟩
      go_wp2_with fail
      refine (alive14 _).mono ?_
      rintro e w6 ⟨rfl, hF6⟩
      go_wp2
      go_ret
      exact ⟨rfl, (((((hF1.trans hF2).trans hF3).trans hF4).trans hF5).trans hF6).below (Nat.le_refl _) (by simp)⟩
    · have hne : (pvE v n != 0) = true := by simpa using hE
      obtain ⟨x1, q1⟩ : ∃ x, pvL v n = x := ⟨_, rfl⟩
      obtain ⟨x2, q2⟩ : ∃ x, pvE v n = x := ⟨_, rfl⟩
      rw [q1, q2] at A1 A2
      rw [q2] at hne
      clear q1 q2 q3 q4 q5 h hE
      go_enter Try.func3, Try.ntmps3
      go_wp2_with fail
      refine (A1.out _).mono ?_
      rintro e w1 ⟨rfl, hF1⟩
      go_wp2_with fail
      refine (A2.out _).mono ?_
      rintro e w2 ⟨rfl, hF2⟩
      go_wp2_with fail
      refine (A3.out _).mono ?_
      rintro e w3 ⟨rfl, hF3⟩
      go_wp2_with fail
      refine (A4.out _).mono ?_
      rintro e w4 ⟨rfl, hF4⟩
      go_wp2_with fail
      refine (alive14 _).mono ?_
      rintro e w6 ⟨rfl, hF6⟩
      go_wp2
      go_ret
      exact ⟨rfl, ((((hF1.trans hF2).trans hF3).trans hF4).trans hF6).below (Nat.le_refl _) (by simp)⟩

/-- the packet's cells and block, the zero server's -/
def NS (w : World) (b : Nat) (c i : Int) (A : Option Addr) (n cap : Nat) (D : List UInt8) (g : Nat) (W : World) : Prop :=
  (W.cell? ⟨b, 0, none⟩ = some (.int .i64 c) ∧ W.cell? ⟨b, 1, none⟩ = some (.int .i64 i) ∧ W.cell? ⟨b, 2, none⟩ = some (.slice A n cap) ∧ W.cell? ⟨b, 3, none⟩ = some (.string (B D))) ∧
  Blk W b #[.int .i64 c, .int .i64 i, .slice A n cap, .string (B D)] 37 ∧ Blk W g (csv [] 0 0 0 [] false false 0 0 false false none 0 0) 58 ∧ Fr [] w W
section
variable {w W W' : World} {b g n cap : Nat} {c i : Int} {A : Option Addr} {D : List UInt8}
theorem NS.mk (hp : Blk W b #[.int .i64 c, .int .i64 i, .slice A n cap, .string (B D)] 37) (hz : Blk W g (csv [] 0 0 0 [] false false 0 0 false false none 0 0) 58) (hF : Fr [] w W) : NS w b c i A n cap D g W :=
  ⟨⟨hp.c 0 _ rfl, hp.c 1 _ rfl, hp.c 2 _ rfl, hp.c 3 _ rfl⟩, hp, hz, hF⟩
theorem NS.on (h : NS w b c i A n cap D g W) (hF : Fr [] W W') : NS w b c i A n cap D g W' :=
  NS.mk (hF.blk h.2.1 (by simp)) (hF.blk h.2.2.1 (by simp)) (h.2.2.2.trans hF)
theorem NS.drew (h : NS w b c i A n cap D g W) : NS w b c i A n cap D g W.drew := h.on ((Fr.refl _ _).drew)
theorem NS.z (h : NS w b c i A n cap D g W) : Blk W g (csv [] 0 0 0 [] false false 0 0 false false none 0 0) 58 := h.2.2.1
theorem zz {P Q F : Prop} {v : List UInt8} {k : Array Value} {T : Nat} (h : P ∧ Q ∧ Blk W g k T ∧ F) : Blk W g k T := h.2.2.1
theorem same_fr {e : Ending} {v : Value} {P : Prop} (h : e = .returned v ∧ w = W) : e = .returned v ∧ Fr [] w W := by
  obtain ⟨h1, rfl⟩ := h; exact ⟨h1, Fr.refl _ _⟩
end
set_option maxRecDepth 100000 in
set_option maxHeartbeats 4000000 in
theorem chapNone_walk (w : World) (c i : Int) (A : Option Addr) (n cap : Nat) (D : ByteArray) (hD : D.size ≤ 140737488351232) (v : ByteArray) (hv : v.size ≤ 140737488351232) :
    Calls Try.prog 7 #[.agg #[.int .i64 c, .int .i64 i, .slice A n cap, .string D], .string v] w fun e w' => e = .returned (.bool true) ∧ Below w.heap.size w w' := by
  obtain ⟨D, rfl⟩ : ∃ l, D = B l := ⟨_, B_of D⟩
  obtain ⟨v, rfl⟩ : ∃ l, v = B l := ⟨_, B_of v⟩
  have h0 : NS w w.heap.size c i A n cap D (w.heap.size + 1) ((w.alloc (.cells #[.int .i64 c, .int .i64 i, .slice A n cap, .string (B D)] 37)).alloc (.cells (csv [] 0 0 0 [] false false 0 0 false false none 0 0) 58)) := by
    refine NS.mk ((Blk.new w _ _).alloc _) ?_ (((Fr.refl _ _).alloc _).alloc _)
    have := Blk.new (w.alloc (.cells #[.int .i64 c, .int .i64 i, .slice A n cap, .string (B D)] 37)) (csv [] 0 0 0 [] false false 0 0 false false none 0 0) 58
    simpa using this
  go_enter Try.func7, Try.ntmps7
  go_wp2_with fail
  refine cdone_nil.mono ?_
  rintro e w1 ⟨rfl, rfl⟩
  go_wp2_with fail
  refine sdone_nil.mono ?_
  rintro e w1 ⟨rfl, rfl⟩
  go_wp2_with fail
  refine (stake_nil c i A n cap D).mono ?_
  rintro e w1 ⟨rfl, hF1⟩
  unfold clz
  have h1 := h0.on hF1
  have h1c := h1
  obtain ⟨⟨p0, p1, p2, p3⟩, _⟩ := h1c
  clear h0 hF1
  have h1a := h1.on ((Fr.refl _ _).alloc (.cells #[.string ⟨#[]⟩, .string ⟨#[]⟩, .string ⟨#[]⟩, .int .i64 0] 39))
  have h1d := h1a
  obtain ⟨⟨r0, r1, r2, r3⟩, _⟩ := h1d
  go_wp2_with fail
  refine (stake_zero c i A n cap D h1a.z).mono ?_
  rintro e w2 ⟨rfl, hF2⟩
  unfold clz
  have h2 := ((h1a.on hF2).on ((Fr.refl _ _).alloc (.cells #[.string ⟨#[]⟩, .string ⟨#[]⟩, .string ⟨#[]⟩, .int .i64 0] 39)))
  clear h1 hF2 p0 p1 p2 p3 h1a r0 r1 r2 r3
  go_wp2_with fail
  have h2d := h2.drew
  clear h2
  simp only [List.append_eq, List.cons_append, List.nil_append]
  have hw0 : IntKind.i64.wrap 0 = 0 := by decide
  go_region_held3 (fun w' => (w'.cell? ⟨w.heap.size, 0, none⟩ = some (.int .i64 c) ∧ w'.cell? ⟨w.heap.size, 1, none⟩ = some (.int .i64 i) ∧ w'.cell? ⟨w.heap.size, 2, none⟩ = some (.slice A n cap) ∧ w'.cell? ⟨w.heap.size, 3, none⟩ = some (.string (B D))) ∧
    Blk w' w.heap.size #[.int .i64 c, .int .i64 i, .slice A n cap, .string (B D)] 37 ∧ Blk w' (w.heap.size + 1) (csv [] 0 0 0 [] false false 0 0 false false none 0 0) 58 ∧ Fr [] w w')
    (first | exact h2d | assumption | exact NS.on (by assumption) (by assumption))
    (first
      | (go_at_call 8; refine (alive14 _).mono ?_; rintro e w3 ⟨rfl, hF3⟩)
      | (go_at_call 18; refine (ctake_nil c i A n cap D).mono ?_; rintro e w3 ⟨rfl, hF3⟩)
      | (go_at_call 14; ((with_reducible refine ((sstart_nil v).mono fun _ _ => same_fr (P := True)).mono ?_); rintro e w3 ⟨rfl, hF3⟩))
      | (go_at_call 14; ((with_reducible refine ((sstart_zero v (zz (v := v) (by assumption))).mono fun _ _ => same_fr (P := True)).mono ?_); rintro e w3 ⟨rfl, hF3⟩))
      | (go_at_call 25; ((with_reducible refine (stick_nil.mono fun _ _ => same_fr (P := True)).mono ?_); rintro e w3 ⟨rfl, hF3⟩))
      | (go_at_call 25; ((with_reducible refine ((stick_zero (zz (v := v) (by assumption))).mono fun _ _ => same_fr (P := True)).mono ?_); rintro e w3 ⟨rfl, hF3⟩))
      | (go_at_call 15; ((with_reducible refine ((sjudge_nil _).mono fun _ _ => same_fr (P := True)).mono ?_); rintro e w3 ⟨rfl, hF3⟩))
      | (go_at_call 15; ((with_reducible refine ((sjudge_zero _ (zz (v := v) (by assumption))).mono fun _ _ => same_fr (P := True)).mono ?_); rintro e w3 ⟨rfl, hF3⟩))
      | (go_at_call 22; ((with_reducible refine (sagain_nil c i A n cap D).mono ?_); rintro e w3 ⟨rfl, hF3⟩))
      | (go_at_call 22; ((with_reducible refine (sagain_zero c i A n cap D (zz (v := v) (by assumption))).mono ?_); rintro e w3 ⟨rfl, hF3⟩)))
  all_goals
    have hS : (w3.cell? ⟨w.heap.size, 0, none⟩ = some (.int .i64 c) ∧ w3.cell? ⟨w.heap.size, 1, none⟩ = some (.int .i64 i) ∧ w3.cell? ⟨w.heap.size, 2, none⟩ = some (.slice A n cap) ∧ w3.cell? ⟨w.heap.size, 3, none⟩ = some (.string (B D))) ∧
      Blk w3 w.heap.size #[.int .i64 c, .int .i64 i, .slice A n cap, .string (B D)] 37 ∧ Blk w3 (w.heap.size + 1) (csv [] 0 0 0 [] false false 0 0 false false none 0 0) 58 ∧ Fr [] w w3 := by assumption
    have hfin := hS.2.2.2
    clear hS h2d
    go_wp2_with fail
    go_ret
    exact ⟨rfl, hfin.below (Nat.le_refl _) (by simp)⟩
end Go.Proofs.Ytgkibgglalginaa
