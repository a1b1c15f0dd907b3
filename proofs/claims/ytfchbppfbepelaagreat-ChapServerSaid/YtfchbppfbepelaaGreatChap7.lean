/- chap's client. -/
import Derived.Test.YtfchbppfbepelaaGreatChap6
import Derived.Test.YtfchbppfbepelaaGreatChapP
namespace Go.Proofs.YtfchbppfbepelaaGreat
open Go.RowKit
set_option linter.unusedVariables false

def ccl (n s : List UInt8) (m sd : Bool) (id : Int) (x y : Bool) : Array Value := #[.string (B n), .string (B s), .bool m, .bool sd, .int .i64 id, .bool x, .bool y]
section
variable {w : World} {g : Nat} {n s : List UInt8} {m sd : Bool} {id : Int} {x y : Bool}
theorem ccl_c {T : Nat} (h : Blk w g (ccl n s m sd id x y) T) : w.cell? ⟨g, 0, none⟩ = some (.string (B n)) ∧ w.cell? ⟨g, 1, none⟩ = some (.string (B s)) ∧ w.cell? ⟨g, 2, none⟩ = some (.bool m) ∧ w.cell? ⟨g, 3, none⟩ = some (.bool sd) ∧ w.cell? ⟨g, 4, none⟩ = some (.int .i64 id) ∧ w.cell? ⟨g, 5, none⟩ = some (.bool x) ∧ w.cell? ⟨g, 6, none⟩ = some (.bool y) :=
  ⟨h.c 0 _ rfl, h.c 1 _ rfl, h.c 2 _ rfl, h.c 3 _ rfl, h.c 4 _ rfl, h.c 5 _ rfl, h.c 6 _ rfl⟩
theorem cnew_ok (hn : n.length ≤ 60) (hs : s.length ≤ 60) :
    Calls Tryz.prog 29 #[.string (B n), .string (B s)] w fun e w' => ∃ g, e = .returned (.tuple #[.pointer (some ⟨g, 0, none⟩), .int .i64 0]) ∧ w.heap.size ≤ g ∧ Blk w' g (ccl n s true false 0 false false) 246 ∧ Fr [] w w' := by
  have K1 := Lib.hid fun W => clone_any n W (by omega)
  have K2 := Lib.hid fun W => clone_any s W (by omega)
  have hn1 : ¬ (60 : Int) < n.length := by omega
  have hs1 : ¬ (60 : Int) < s.length := by omega
  go_enter Tryz.func29, Tryz.ntmps29
  go_wp2_with fail
  refine (K1.out _).mono ?_
  rintro e w1 ⟨rfl, hF1⟩
  go_wp2_with fail
  refine (K2.out _).mono ?_
  rintro e w2 ⟨rfl, hF2⟩
  have hF := hF1.trans hF2
  go_wp2
  go_ret2
  exact ⟨w2.heap.size, rfl, hF.size, Blk.new _ _ _, hF.alloc _⟩
theorem cdone_nil : Calls Tryz.prog 33 #[.pointer none] w fun e w' => e = .returned (.tuple #[.bool false, .bool false]) ∧ w = w' := by
  go_enter Tryz.func33, Tryz.ntmps33
  go_wp2
  go_ret2
  exact ⟨rfl, rfl⟩
theorem cdone_any (hB : Blk w g (ccl n s m sd id x y) 246) :
    Calls Tryz.prog 33 #[.pointer (some ⟨g, 0, none⟩)] w fun e w' => e = .returned (.tuple #[.bool x, .bool y]) ∧ Fr [] w w' := by
  obtain ⟨c0, c1, c2, c3, c4, c5, c6⟩ := ccl_c hB
  go_enter Tryz.func33, Tryz.ntmps33
  go_wp2
  go_quiet (fail)
  go_wp2
  go_ret2
  exact ⟨rfl, (Fr.refl _ _).drewN _⟩
theorem ctake_nil (c i : Int) (pA : Option Addr) (pn cap : Nat) (D : List UInt8) :
    Calls Tryz.prog 31 #[.pointer none, .agg #[.int .i64 c, .int .i64 i, .slice pA pn cap, .string (B D)]] w fun e w' => e = .returned (.slice none 0 0) ∧ Fr [] w w' := by
  go_enter Tryz.func31, Tryz.ntmps31
  go_wp2
  go_ret
  exact ⟨rfl, (Fr.refl _ _).alloc _⟩
set_option maxRecDepth 100000 in
theorem ctake_said (c i : Int) (pA : Option Addr) (pn cap : Nat) (D : List UInt8) (hc1 : (c == 1) = false) (hc : (c == 3) = true ∨ (c == 3) = false ∧ (c == 4) = true) (hi : (i == id) = true) (hB : Blk w g (ccl n s true true id x y) 246) :
    Calls Tryz.prog 31 #[.pointer (some ⟨g, 0, none⟩), .agg #[.int .i64 c, .int .i64 i, .slice pA pn cap, .string (B D)]] w fun e w' => e = .returned (.slice none 0 0) ∧ Blk w' g (ccl n s true true id true (c == 3)) 246 ∧ Fr [g] w w' := by
  have hp := Blk.new w #[.int .i64 c, .int .i64 i, .slice pA pn cap, .string (B D)] 56
  have hB1 := hB.alloc (.cells #[.int .i64 c, .int .i64 i, .slice pA pn cap, .string (B D)] 56)
  have hF1 : Fr [g] w (w.alloc (.cells #[.int .i64 c, .int .i64 i, .slice pA pn cap, .string (B D)] 56)) := (Fr.refl _ _).alloc _
  have hgl := hB.lt
  have e2 : (w.alloc (.cells #[.int .i64 c, .int .i64 i, .slice pA pn cap, .string (B D)] 56)).cell? ⟨g, 2, none⟩ = some (.bool true) := hB1.c 2 _ rfl
  have e3 : (w.alloc (.cells #[.int .i64 c, .int .i64 i, .slice pA pn cap, .string (B D)] 56)).cell? ⟨w.heap.size, 0, none⟩ = some (.int .i64 c) := hp.c 0 _ rfl
  obtain ⟨W, hW⟩ : ∃ W, w.alloc (.cells #[.int .i64 c, .int .i64 i, .slice pA pn cap, .string (B D)] 56) = W := ⟨_, rfl⟩
  rw [hW] at hp hB1 hF1
  obtain ⟨c0, c1, c2, c3, c4, c5, c6⟩ := ccl_c hB1
  have p0 : W.cell? ⟨w.heap.size, 0, none⟩ = some (.int .i64 c) := hp.c 0 _ rfl
  have p1 : W.cell? ⟨w.heap.size, 1, none⟩ = some (.int .i64 i) := hp.c 1 _ rfl
  have HW := Lib.hid hW
  have f5 := hB1.fz 5
  have f6 := hB1.fz 6
  have hB2 : ∀ N, Blk (((W.drewN N).setCell ⟨g, 5, none⟩ (.bool true)).setCell ⟨g, 6, none⟩ (.bool (c == 3))) g (ccl n s true true id true (c == 3)) 246 := fun N => by
    have := ((hB1.drewN N).set 5 (.bool true)).set 6 (.bool (c == 3))
    simpa [ccl] using this
  have HB2 := Lib.hid hB2
  have HF2 := Lib.hid fun N => ((hF1.drewN N).setCell (p := ⟨g, 5, none⟩) (by simp) (.bool true)).setCell (p := ⟨g, 6, none⟩) (by simp) (.bool (c == 3))
  clear hW hB2 hp hB
  rcases hc with hc | ⟨hc, hc4⟩
  all_goals
    rw [hc] at HB2 HF2 ⊢
    go_enter Tryz.func31, Tryz.ntmps31
    go_wp2_with fail
    rw [HW.out]
    clear e2 e3
    go_quiet (fail)
    go_wp2
    go_region
    all_goals
      go_wp2
      go_ret
      exact ⟨rfl, HB2.out _, HF2.out _⟩

theorem ctS {w w1 w3 : World} {g b : Nat} {n s : List UInt8} {m sd : Bool} {id i : Int} {x y : Bool} {pA : Option Addr} {pn cap : Nat} {D : List UInt8}
    (h : (w1.cell? ⟨b, 1, none⟩ = some (.int .i64 i) ∧ w1.cell? ⟨g, 1, none⟩ = some (.string (B s)) ∧ w1.cell? ⟨g, 0, none⟩ = some (.string (B n))) ∧ Blk w1 b #[.int .i64 1, .int .i64 i, .slice pA pn cap, .string (B D)] 56 ∧ Blk w1 g (ccl n s m sd id x y) 246 ∧ Fr [g] w w1) (hF : Fr [] w1 w3) :
    (w3.cell? ⟨b, 1, none⟩ = some (.int .i64 i) ∧ w3.cell? ⟨g, 1, none⟩ = some (.string (B s)) ∧ w3.cell? ⟨g, 0, none⟩ = some (.string (B n))) ∧ Blk w3 b #[.int .i64 1, .int .i64 i, .slice pA pn cap, .string (B D)] 56 ∧ Blk w3 g (ccl n s m sd id x y) 246 ∧ Fr [g] w w3 := by
  obtain ⟨_, hp, hB, hF1⟩ := h
  have hp3 := hF.blk hp (by simp)
  have hB3 := hF.blk hB (by simp)
  exact ⟨⟨hp3.c 1 _ rfl, hB3.c 1 _ rfl, hB3.c 0 _ rfl⟩, hp3, hB3, hF1.trans (hF.mono (by simp))⟩
/-- what a challenge's answer leaves -/
def CSay (w : World) (g : Nat) (n s : List UInt8) (i : Int) (v : List UInt8) (x y : Bool) (e : Ending) (w' : World) : Prop :=
  ∃ g', e = .returned (.slice (some ⟨g', 0, none⟩) 1 1) ∧ w.heap.size ≤ g' ∧ g' < w'.heap.size ∧ PkB w' g' 1 2 i (pvL (md5 (chapL i s v)) n) ∧ Blk w' g (ccl n s true true i x y) 246 ∧ Fr [g] w w'
set_option maxRecDepth 100000 in
set_option maxHeartbeats 2000000 in
theorem ctake_chal (i : Int) (pA : Option Addr) (pn cap : Nat) (D : List UInt8) (hD : gvE D = 0) (hDl : D.length ≤ 1000) (hn : n.length ≤ 60) (hs : s.length ≤ 60) (hB : Blk w g (ccl n s true sd id x y) 246) :
    Calls Tryz.prog 31 #[.pointer (some ⟨g, 0, none⟩), .agg #[.int .i64 1, .int .i64 i, .slice pA pn cap, .string (B D)]] w (CSay w g n s i (gvV D) x y) := by
  have hvl : (gvV D).length ≤ 1000 := by
    cases D with
    | nil => simp [gvV]
    | cons c r => simp only [gvV]; rw [if_pos hD, List.length_take]; simp at hDl; omega
  have HG := Lib.hid fun W => getValue_ok D W hD
  have HC := Lib.hid fun W => chap_any i s (gvV D) W (by omega) (by omega)
  have m16 := md5_length (chapL i s (gvV D))
  have hpv : pvE (md5 (chapL i s (gvV D))) n = 0 := by
    unfold pvE
    rw [if_neg, if_neg (by omega)]
    rintro (h | h)
    · rw [h] at m16; simp at m16
    · omega
  have HP := Lib.hid fun W => putValue_ok (md5 (chapL i s (gvV D))) n W hpv
  unfold CSay
  obtain ⟨M, hM⟩ : ∃ M, md5 (chapL i s (gvV D)) = M := ⟨_, rfl⟩
  obtain ⟨vv, hvv⟩ : ∃ v, gvV D = v := ⟨_, rfl⟩
  rw [hM] at HP
  rw [hvv] at HG HC
  rw [hvv] at hM
  rw [hM] at HC
  rw [hvv, hM]
  clear m16 hpv hM hvv hD hvl
  have hp := Blk.new w #[.int .i64 1, .int .i64 i, .slice pA pn cap, .string (B D)] 56
  have hB1 := hB.alloc (.cells #[.int .i64 1, .int .i64 i, .slice pA pn cap, .string (B D)] 56)
  have hF1 : Fr [g] w (w.alloc (.cells #[.int .i64 1, .int .i64 i, .slice pA pn cap, .string (B D)] 56)) := (Fr.refl _ _).alloc _
  have hgl := hB.lt
  have hsz1 : w.heap.size < (w.alloc (.cells #[.int .i64 1, .int .i64 i, .slice pA pn cap, .string (B D)] 56)).heap.size := by simp
  have e2 : (w.alloc (.cells #[.int .i64 1, .int .i64 i, .slice pA pn cap, .string (B D)] 56)).cell? ⟨g, 2, none⟩ = some (.bool true) := hB1.c 2 _ rfl
  have e3 : (w.alloc (.cells #[.int .i64 1, .int .i64 i, .slice pA pn cap, .string (B D)] 56)).cell? ⟨w.heap.size, 0, none⟩ = some (.int .i64 1) := hp.c 0 _ rfl
  have e4 : (w.alloc (.cells #[.int .i64 1, .int .i64 i, .slice pA pn cap, .string (B D)] 56)).cell? ⟨w.heap.size, 3, none⟩ = some (.string (B D)) := hp.c 3 _ rfl
  clear hB
  go_enter Tryz.func31, Tryz.ntmps31
  go_wp2_with fail
  refine (HG.out _).mono ?_
  rintro e w1 ⟨rfl, hF2⟩
  have hB2 := hF2.blk hB1 (by simp)
  have hp2 := hF2.blk hp (by simp)
  have hF3 := hF1.trans (hF2.mono (by simp))
  clear e2 e3 e4 hB1 hp hF1 hF2 hsz1
  go_wp2_with fail
  have hG : (w1.drew.cell? ⟨w.heap.size, 1, none⟩ = some (.int .i64 i) ∧ w1.drew.cell? ⟨g, 1, none⟩ = some (.string (B s)) ∧ w1.drew.cell? ⟨g, 0, none⟩ = some (.string (B n))) ∧ Blk w1.drew w.heap.size #[.int .i64 1, .int .i64 i, .slice pA pn cap, .string (B D)] 56 ∧ Blk w1.drew g (ccl n s true sd id x y) 246 ∧ Fr [g] w w1.drew := ⟨⟨hp2.drew.c 1 _ rfl, hB2.drew.c 1 _ rfl, hB2.drew.c 0 _ rfl⟩, hp2.drew, hB2.drew, hF3.drew⟩
  clear hB2 hp2 hF3
  go_region_held3 (fun w' => (w'.cell? ⟨w.heap.size, 1, none⟩ = some (.int .i64 i) ∧ w'.cell? ⟨g, 1, none⟩ = some (.string (B s)) ∧ w'.cell? ⟨g, 0, none⟩ = some (.string (B n))) ∧ Blk w' w.heap.size #[.int .i64 1, .int .i64 i, .slice pA pn cap, .string (B D)] 56 ∧ Blk w' g (ccl n s true sd id x y) 246 ∧ Fr [g] w w')
    (first | exact hG | assumption | exact ctS (by assumption) (by assumption))
    (first
      | (go_at_call 183; ((with_reducible refine (HC.out _).mono ?_); rintro e w3 ⟨rfl, hF3⟩))
      | (go_at_call 186; ((with_reducible refine (HP.out _).mono ?_); rintro e w3 ⟨rfl, hF3⟩)))
  all_goals
    have hS : (w3.cell? ⟨w.heap.size, 1, none⟩ = some (.int .i64 i) ∧ w3.cell? ⟨g, 1, none⟩ = some (.string (B s)) ∧ w3.cell? ⟨g, 0, none⟩ = some (.string (B n))) ∧ Blk w3 w.heap.size #[.int .i64 1, .int .i64 i, .slice pA pn cap, .string (B D)] 56 ∧ Blk w3 g (ccl n s true sd id x y) 246 ∧ Fr [g] w w3 := by assumption
    obtain ⟨_, hp4, hB4, hF4⟩ := hS
    clear hG HC HP HG
    have hl4 := hF4.size
    have p1 : w3.cell? ⟨w.heap.size, 1, none⟩ = some (.int .i64 i) := hp4.c 1 _ rfl
    have c3 : w3.cell? ⟨g, 3, none⟩ = some (.bool sd) := hB4.c 3 _ rfl
    have c4 : w3.cell? ⟨g, 4, none⟩ = some (.int .i64 id) := hB4.c 4 _ rfl
    have f3 := hB4.fz 3
    have f4 := hB4.fz 4
    have hB5 : Blk ((w3.setCell ⟨g, 3, none⟩ (.bool true)).setCell ⟨g, 4, none⟩ (.int .i64 i)) g (ccl n s true true i x y) 246 := by
      have := (hB4.set 3 (.bool true)).set 4 (.int .i64 i)
      simpa [ccl] using this
    have hF5 : Fr [g] w ((w3.setCell ⟨g, 3, none⟩ (.bool true)).setCell ⟨g, 4, none⟩ (.int .i64 i)) := (hF4.setCell (by simp) _).setCell (by simp) _
    have HB5 := Lib.hid hB5
    have HF5 := Lib.hid hF5
    clear hB5 hF5
    go_wp2_with fail
    go_region
    have hN := Blk.new ((w3.setCell ⟨g, 3, none⟩ (.bool true)).setCell ⟨g, 4, none⟩ (.int .i64 i)) (pkt 2 i (.slice none 0 0) (pvL M n)) 56
    have hz : ((w3.setCell ⟨g, 3, none⟩ (.bool true)).setCell ⟨g, 4, none⟩ (.int .i64 i)).heap.size = w3.heap.size := by simp
    rw [hz] at hN
    have HN := Lib.hid hN
    clear hN hz
    all_goals
      go_wp2
      go_ret
      exact ⟨w3.heap.size, rfl, hl4, by simp, PkB.of HN.out.drew, (HB5.out.alloc _).drew, (HF5.out.alloc _).drew⟩
end
end Go.Proofs.YtfchbppfbepelaaGreat
